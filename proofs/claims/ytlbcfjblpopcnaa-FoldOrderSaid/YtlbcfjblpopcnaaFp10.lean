import Derived.Test.YtlbcfjblpopcnaaFh
import Derived.Test.YtlbcfjblpopcnaaLz
set_option linter.unusedVariables false
set_option linter.unusedSimpArgs false
namespace Go.Proofs.Ytlbcfjblpopcnaa
open Go Go.RowKit Go.Proofs.YtlbcfjblpopcnaaL
set_option maxRecDepth 100000
set_option maxHeartbeats 4000000
/-! elasticstore/elasticstoreref32.Find: function 32 -/
theorem esref32_Find.calls {ok : Nat → Prop} {w0 : World} {x1 : fold_Store} {x5 : List UInt8} {v2 : Value} {r : fold_Object} (hf : esref32_Find x1 x5 = some r) (i0 : (vl t_fold_Store x1 v2).holds ok w0) :
    Calls Try.prog 32 #[v2, bstr x5] w0 fun e w' => ∃ v, e = .returned v ∧ ∃ y : List Value, v = .agg y.toArray ∧ St ok (bz w0) w' [vl t_fold_Object r (.agg y.toArray)] [] := by
  unfold esref32_Find at hf
  refine calls_of_W (fn := Try.f32) (N := 28) Try.func32 rfl Try.ntmps32 rfl ?_
  have hs : St ok (bz w0) w0 [vl t_fold_Store x1 v2] [] := St.init (All.cons i0 All.nil)
  clear i0
  obtain ⟨cs3, hl4, rfl⟩ := hs.aggv (n := 1) 0 rfl rfl rfl
  refine W.seqK fun K6 hK6 => ?_
  refine W.region ?_
  refine WL.box (vs := cs3) hs rfl rfl (fun g7 w hs => ?_)
  refine WL.alloc hs ZV51 (fun g8 w hs => ?_)
  refine WL.nil ?_
  refine hK6 _ _ ?_
  refine W.seqK fun K9 hK9 => ?_
  have Jk15 : ∀ (x11 : List UInt8) (x12 : List fold_Field) (a13 : Option Addr) (c14 : Nat) (ρ : Env) (w : World), ρ 1 = bstr x5 → ρ 4 = .pointer (some ⟨g8, 0, none⟩) → St ok (bz w0) w [vl (tSlice t_fold_Field) x12 (.slice a13 x12.length c14)] [blk g8 51 [bstr x11, .slice a13 x12.length c14]] → esref32_Find.j1 x5 x11 x12 = some r → K9 ρ w := by
    intro x11 x12 a13 c14 ρ w h10_1 h10_4 hs hf
    refine hK9 _ _ ?_
    unfold esref32_Find.j1 at hf
    refine W.seqK fun K16 hK16 => ?_
    refine W.region ?_
    refine WL.move (v := bstr x5) h10_1 ?_
    refine WL.build (vs := [(0, bstr x5)]) (cs := [bstr x5, .slice none 0 0]) ⟨⟨rfl, rfl⟩, trivial⟩ (bld PL51 rfl) ?_
    refine WL.storeAll (vs := [bstr x5, .slice none 0 0]) hs 0 rfl TI51 h10_4 rfl rfl rfl (ones_of rfl) rfl (fun w hs => ?_)
    refine WL.nil ?_
    refine hK16 _ _ ?_
    refine W.ret ?_
    have hr := Option.some.inj hf; subst hr
    have hs := hs.add (it := vl t_fold_Object (⟨x5, []⟩ : fold_Object) (.agg [bstr x5, .slice none 0 0].toArray)) fun ok hA => V_agg (show t_fold_Object.R ok _ _ _ from ⟨[bstr x5], [.slice none 0 0], rfl, rfl, R_nil⟩) rfl
    exact ⟨_, resOk_one rfl (res_all hs 0 rfl TI51 h10_4 rfl), [bstr x5, .slice none 0 0], rfl, (hs.mask []).pick [0]⟩
  refine W.seqK fun K17 hK17 => ?_
  refine W.region ?_
  refine WL.assign (v := .int .i64 0) rfl ?_
  refine WL.nil ?_
  refine hK17 _ _ ?_
  refine W.block ?_
  obtain ⟨bs24, hbs24, hfs24⟩ := bindE hf
  have hs := hs.add (it := vl (tSlice t_fold_Field) [] (.slice none 0 0)) fun ok hA => V_nil
  refine W.loop hbs24 (fun s ρ w => match s with | (x19, x20, x21) => ∃ (a22 : Option Addr), ∃ (c23 : Nat), ρ 1 = bstr x5 ∧ ρ 2 = .pointer (some ⟨g7, 0, none⟩) ∧ ρ 4 = .pointer (some ⟨g8, 0, none⟩) ∧ ρ 5 = .int .i64 x19 ∧ St ok (bz w0) w [vl (tSlice t_fold_Field) x21 (.slice a22 x21.length c23), vl t_fold_Store x1 (.agg cs3.toArray)] [blk g8 51 [bstr x20, .slice a22 x21.length c23], blk g7 29 cs3]) ⟨none, 0, rfl, rfl, rfl, rfl, (hs.mask [true, true]).pick [0, 1]⟩ ?_
  intro s ρ w os24 hI hf hbbs24
  obtain ⟨x19, x20, x21⟩ := s
  obtain ⟨a22, c23, h18_1, h18_2, h18_4, h18_5, hs⟩ := hI
  unfold esref32_Find.l1 at hf
  refine W.seqK fun K25 hK25 => ?_
  refine W.seqK fun K26 hK26 => ?_
  refine W.region ?_
  refine WL.move (v := .int .i64 x19) h18_5 ?_
  refine WL.fieldAddr (m := 0) h18_2 FA29_0 rfl ?_
  refine WL.loadF (z := x1.Objects) F_fold_Store_Objects hs 1 rfl 1 rfl rfl TI27 (.inr rfl) rfl rfl (fun v27 hs => ?_)
  obtain ⟨a28, c29, rfl⟩ := hs.slice 0 rfl
  refine WL.len (v := .slice a28 (x1.Objects).length c29) rfl (len_slice UN27) ?_
  refine WL.bin (v := .bool (decide (x19 < ((x1.Objects).length : Int)))) rfl rfl (ib_lss _ _ _) ?_
  refine WL.nil ?_
  refine hK26 _ _ ?_
  rcases iteE hf with ⟨hc30, hf⟩ | ⟨hc30, hf⟩
  · refine W.cond_true (bool_tr rfl hc30) ?_
    refine W.skip ?_
    refine hK25 _ _ ?_
    refine W.seqK fun K31 hK31 => ?_
    refine W.block ?_
    refine W.seqK fun K32 hK32 => ?_
    refine W.region ?_
    refine WL.fieldAddr (m := 0) h18_2 FA29_0 rfl ?_
    refine WL.loadF (z := x1.Objects) F_fold_Store_Objects hs 1 rfl 2 rfl rfl TI27 (.inr rfl) rfl rfl (fun v33 hs => ?_)
    obtain ⟨a34, c35, rfl⟩ := hs.slice 0 rfl
    refine WL.move (v := .int .i64 x19) h18_5 ?_
    obtain ⟨x36, hxx36, hf⟩ := bindE hf
    refine WL.indexAddr hs 0 rfl UN27 TI51 rfl rfl hxx36 (fun ad37 hs => ?_)
    refine WL.fieldAddrP (z := x36.Name) F_fold_Object_Name hs 0 rfl rfl FA51_0 rfl (fun ad38 hs => ?_)
    refine WL.loadP hs 0 rfl TI9 (.inr rfl) rfl (fun v39 hs => ?_)
    obtain rfl := hs.str 0 rfl
    refine WL.move (v := bstr x5) h18_1 ?_
    refine WL.binS (v := .bool (x36.Name == x5)) rfl rfl (sb_eql _ _) ?_
    refine WL.nil ?_
    refine hK32 _ _ ?_
    rcases iteE hf with ⟨hc40, hf⟩ | ⟨hc40, hf⟩
    · refine W.cond_true (bool_tr rfl hc40) ?_
      refine W.seqK fun K41 hK41 => ?_
      refine W.region ?_
      refine WL.fieldAddr (m := 0) h18_2 FA29_0 rfl ?_
      refine WL.loadF (z := x1.Objects) F_fold_Store_Objects hs 1 rfl 6 rfl rfl TI27 (.inr rfl) rfl rfl (fun v42 hs => ?_)
      obtain ⟨a43, c44, rfl⟩ := hs.slice 0 rfl
      refine WL.move (v := .int .i64 x19) h18_5 ?_
      obtain ⟨x45, hxx45, hf⟩ := bindE hf
      refine WL.indexAddr hs 0 rfl UN27 TI51 rfl rfl hxx45 (fun ad46 hs => ?_)
      refine WL.loadP hs 0 rfl TI51 (.inl rfl) rfl (fun v47 hs => ?_)
      obtain ⟨cs48, hl49, rfl⟩ := hs.aggv (n := 2) 0 rfl rfl rfl
      refine WL.storeAll (vs := cs48) hs 0 rfl TI51 h18_4 rfl rfl hl49 (hs.ones 0 rfl rfl) rfl (fun w hs => ?_)
      refine WL.nil ?_
      refine hK41 _ _ ?_
      refine W.ret ?_
      have hr := Option.some.inj hf; subst hr
      have hr := hbbs24 _ rfl; subst hr
      have hf := hfs24
      have hr := Option.some.inj hf; subst hr
      exact ⟨_, resOk_one rfl (res_all hs 0 rfl TI51 h18_4 hl49), cs48, rfl, (hs.mask []).pick [0]⟩
    · refine W.cond_false (bool_tr rfl hc40) ?_
      refine W.skip ?_
      refine hK31 _ _ ?_
      refine W.region ?_
      refine WL.move (v := .int .i64 x19) h18_5 ?_
      obtain ⟨x50, ex50, hf⟩ := letE hf
      refine WL.bin (v := .int .i64 x50) rfl rfl (ib_as ex50 (ib_add _ _ _)) ?_
      refine WL.assign (v := .int .i64 x50) rfl ?_
      refine WL.nil ?_
      exact ⟨_, (Option.some.inj hf).symm, a22, c23, h18_1, h18_2, h18_4, rfl, (hs.mask [true, true]).pick [5, 6]⟩
  · refine W.cond_false (bool_tr rfl hc30) ?_
    refine W.exit ?_
    have hr := Option.some.inj hf; subst hr
    have hr := hbbs24 _ rfl; subst hr
    have hf := hfs24
    exact Jk15 x20 x21 a22 c23 _ _ h18_1 h18_4 ((hs.mask [true]).pick [1]) hf
/-! elasticstore/elasticstoreref32.EqualStrings: function 56 -/
theorem esref32_EqualStrings.calls {ok : Nat → Prop} {w0 : World} {x1 : List (List UInt8)} {x4 : List (List UInt8)} {a2 : Option Addr} {c3 : Nat} {a5 : Option Addr} {c6 : Nat} {r : Bool} (hf : esref32_EqualStrings x1 x4 = some r) (i0 : (vl (tSlice tStr) x1 (.slice a2 x1.length c3)).holds ok w0) (i1 : (vl (tSlice tStr) x4 (.slice a5 x4.length c6)).holds ok w0) :
    Calls Try.prog 56 #[.slice a2 x1.length c3, .slice a5 x4.length c6] w0 fun e w' => ∃ v, e = .returned v ∧ ∃ y : Unit, v = .bool r ∧ St ok (bz w0) w' [] [] := by
  unfold esref32_EqualStrings at hf
  refine calls_of_W (fn := Try.f56) (N := 26) Try.func56 rfl Try.ntmps56 rfl ?_
  have hs : St ok (bz w0) w0 [vl (tSlice tStr) x1 (.slice a2 x1.length c3), vl (tSlice tStr) x4 (.slice a5 x4.length c6)] [] := St.init (All.cons i0 (All.cons i1 All.nil))
  clear i0 i1
  refine W.seqK fun K7 hK7 => ?_
  refine W.region ?_
  refine WL.assign (v := .bool false) rfl ?_
  refine WL.nil ?_
  refine hK7 _ _ ?_
  refine W.seqK fun K8 hK8 => ?_
  refine W.seqK fun K9 hK9 => ?_
  refine W.region ?_
  refine WL.move (v := .slice a2 x1.length c3) rfl ?_
  refine WL.len (v := .slice a2 x1.length c3) rfl (len_slice UN55) ?_
  refine WL.move (v := .slice a5 x4.length c6) rfl ?_
  refine WL.len (v := .slice a5 x4.length c6) rfl (len_slice UN55) ?_
  refine WL.bin (v := .bool ((x1.length : Int) != (x4.length : Int))) rfl rfl (ib_neq _ _ _) ?_
  refine WL.nil ?_
  refine hK9 _ _ ?_
  rcases iteE hf with ⟨hc10, hf⟩ | ⟨hc10, hf⟩
  · refine W.cond_true (bool_tr rfl hc10) ?_
    refine W.seqK fun K11 hK11 => ?_
    refine W.region ?_
    refine WL.assign (v := .bool false) rfl ?_
    refine WL.nil ?_
    refine hK11 _ _ ?_
    refine W.ret ?_
    have hr := Option.some.inj hf; subst hr
    exact ⟨_, resOk_one rfl rfl, (), rfl, (hs.mask []).pick []⟩
  · refine W.cond_false (bool_tr rfl hc10) ?_
    refine W.skip ?_
    refine hK8 _ _ ?_
    refine W.seqK fun K12 hK12 => ?_
    have Jk14 : ∀  (ρ : Env) (w : World), St ok (bz w0) w [] [] → esref32_EqualStrings.j1 = some r → K12 ρ w := by
      intro  ρ w  hs hf
      refine hK12 _ _ ?_
      unfold esref32_EqualStrings.j1 at hf
      refine W.seqK fun K15 hK15 => ?_
      refine W.region ?_
      refine WL.assign (v := .bool true) rfl ?_
      refine WL.nil ?_
      refine hK15 _ _ ?_
      refine W.ret ?_
      have hr := Option.some.inj hf; subst hr
      exact ⟨_, resOk_one rfl rfl, (), rfl, (hs.mask []).pick []⟩
    refine W.seqK fun K16 hK16 => ?_
    refine W.region ?_
    refine WL.assign (v := .int .i64 0) rfl ?_
    refine WL.nil ?_
    refine hK16 _ _ ?_
    refine W.block ?_
    obtain ⟨bs19, hbs19, hfs19⟩ := bindE hf
    refine W.loop hbs19 (fun s ρ w => match s with | x18 => ρ 0 = .slice a2 x1.length c3 ∧ ρ 1 = .slice a5 x4.length c6 ∧ ρ 5 = .int .i64 x18 ∧ St ok (bz w0) w [vl (tSlice tStr) x1 (.slice a2 x1.length c3), vl (tSlice tStr) x4 (.slice a5 x4.length c6)] []) ⟨rfl, rfl, rfl, (hs.mask []).pick [0, 1]⟩ ?_
    intro x18 ρ w os19 hI hf hbbs19
    obtain ⟨h17_0, h17_1, h17_5, hs⟩ := hI
    unfold esref32_EqualStrings.l1 at hf
    refine W.seqK fun K20 hK20 => ?_
    refine W.seqK fun K21 hK21 => ?_
    refine W.region ?_
    refine WL.move (v := .int .i64 x18) h17_5 ?_
    refine WL.move (v := .slice a2 x1.length c3) h17_0 ?_
    refine WL.len (v := .slice a2 x1.length c3) rfl (len_slice UN55) ?_
    refine WL.bin (v := .bool (decide (x18 < (x1.length : Int)))) rfl rfl (ib_lss _ _ _) ?_
    refine WL.nil ?_
    refine hK21 _ _ ?_
    rcases iteE hf with ⟨hc22, hf⟩ | ⟨hc22, hf⟩
    · refine W.cond_true (bool_tr rfl hc22) ?_
      refine W.skip ?_
      refine hK20 _ _ ?_
      refine W.seqK fun K23 hK23 => ?_
      refine W.block ?_
      refine W.seqK fun K24 hK24 => ?_
      obtain ⟨x25, hxx25, hf⟩ := bindE hf
      obtain ⟨x28, hxx28, hf⟩ := bindE hf
      refine W.any (by kernel_rfl) 9 0 [true, true, true, true, true, true, true, true, true] rfl rfl (poAt [pv (.slice a2 x1.length c3), pv (.int .i64 x18), pq (fun y : Addr => .pointer (some y)) (fun v => [pl tStr x25 (adOf v)]) (fun v => []), pv (bstr x25), pv (.slice a5 x4.length c6), pv (.int .i64 x18), pq (fun y : Addr => .pointer (some y)) (fun v => [pl tStr x28 (adOf v)]) (fun v => []), pv (bstr x28), pv (.bool (x25 != x28))]) (Λ := []) hs (by kernel_rfl) (by kernel_rfl) (by kernel_rfl) ⟨⟨⟨⟨⟨⟨⟨⟨⟨trivial, ?_⟩, ?_⟩, ?_⟩, ?_⟩, ?_⟩, ?_⟩, ?_⟩, ?_⟩, ?_⟩ ?_
      · intro ρ w Γx Λx hs hu hp
        refine WL.move (v := .slice a2 x1.length c3) ((hu 0 rfl).trans h17_0) ?_
        exact WL.nil ⟨rfl, _, rfl, rfl, hs.cutG 0 0⟩
      · intro ρ w Γx Λx hs hu hp
        refine WL.move (v := .int .i64 x18) ((hu 5 rfl).trans h17_5) ?_
        exact WL.nil ⟨rfl, _, rfl, rfl, hs.cutG 0 0⟩
      · intro ρ w Γx Λx hs hu hp
        have e31 : ρ 17 = .slice a2 x1.length c3 := (hp 0 rfl).1
        have e32 : ρ 18 = .int .i64 x18 := (hp 1 rfl).1
        refine WL.indexAddr hs (Γx.length + 0) (getApp rfl) UN55 TI9 e31 e32 hxx25 (fun ad26 hs => ?_)
        have hs := hs.add (it := pl tStr x25 ad26) fun ok hA => hA.get 0 rfl
        exact WL.nil ⟨rfl, _, rfl, ⟨ad26, rfl⟩, hs.cutG 1 1⟩
      · intro ρ w Γx Λx hs hu hp
        obtain ⟨⟨ad33, e34r⟩, hm35⟩ := hp 2 rfl
        have e34 : ρ 19 = .pointer (some ad33) := e34r
        rw [e34r] at hm35
        have hs := hs.memo1 (it := pl tStr x25 ad33) (List.mem_append.2 (.inl (hm35 _ (List.mem_of_getElem? (i := 0) rfl))))
        refine WL.loadP hs 0 rfl TI9 (.inr rfl) e34 (fun v27 hs => ?_)
        obtain rfl := hs.str 0 rfl
        exact WL.nil ⟨rfl, _, rfl, rfl, hs.cutG 0 2⟩
      · intro ρ w Γx Λx hs hu hp
        refine WL.move (v := .slice a5 x4.length c6) ((hu 1 rfl).trans h17_1) ?_
        exact WL.nil ⟨rfl, _, rfl, rfl, hs.cutG 0 0⟩
      · intro ρ w Γx Λx hs hu hp
        refine WL.move (v := .int .i64 x18) ((hu 5 rfl).trans h17_5) ?_
        exact WL.nil ⟨rfl, _, rfl, rfl, hs.cutG 0 0⟩
      · intro ρ w Γx Λx hs hu hp
        have e36 : ρ 21 = .slice a5 x4.length c6 := (hp 4 rfl).1
        have e37 : ρ 22 = .int .i64 x18 := (hp 5 rfl).1
        refine WL.indexAddr hs (Γx.length + 1) (getApp rfl) UN55 TI9 e36 e37 hxx28 (fun ad29 hs => ?_)
        have hs := hs.add (it := pl tStr x28 ad29) fun ok hA => hA.get 0 rfl
        exact WL.nil ⟨rfl, _, rfl, ⟨ad29, rfl⟩, hs.cutG 1 1⟩
      · intro ρ w Γx Λx hs hu hp
        obtain ⟨⟨ad38, e39r⟩, hm40⟩ := hp 6 rfl
        have e39 : ρ 23 = .pointer (some ad38) := e39r
        rw [e39r] at hm40
        have hs := hs.memo1 (it := pl tStr x28 ad38) (List.mem_append.2 (.inl (hm40 _ (List.mem_of_getElem? (i := 0) rfl))))
        refine WL.loadP hs 0 rfl TI9 (.inr rfl) e39 (fun v30 hs => ?_)
        obtain rfl := hs.str 0 rfl
        exact WL.nil ⟨rfl, _, rfl, rfl, hs.cutG 0 2⟩
      · intro ρ w Γx Λx hs hu hp
        have e41 : ρ 20 = bstr x25 := (hp 3 rfl).1
        have e42 : ρ 24 = bstr x28 := (hp 7 rfl).1
        refine WL.binS (v := .bool (x25 != x28)) e41 e42 (sb_neq _ _) ?_
        exact WL.nil ⟨rfl, _, rfl, rfl, hs.cutG 0 0⟩
      · intro ρ w hs hu43 hp
        obtain ⟨⟨⟨⟨⟨⟨⟨⟨⟨_, hp0_⟩, hp1_⟩, hp2_⟩, hp3_⟩, hp4_⟩, hp5_⟩, hp6_⟩, hp7_⟩, hp8_⟩ := hp
        have hs : St ok (bz w0) w [pl tStr x28 (adOf (ρ 23)), pl tStr x25 (adOf (ρ 19)), vl (tSlice tStr) x1 (.slice a2 x1.length c3), vl (tSlice tStr) x4 (.slice a5 x4.length c6)] [] := hs
        have e44 : ρ 25 = .bool (x25 != x28) := hp8_
        have e45 : ρ 24 = bstr x28 := hp7_
        obtain ⟨ad46, e47⟩ := hp6_
        have e47 : ρ 23 = .pointer (some ad46) := e47
        try rw [e47] at hs
        have e48 : ρ 22 = .int .i64 x18 := hp5_
        have e49 : ρ 21 = .slice a5 x4.length c6 := hp4_
        have e50 : ρ 20 = bstr x25 := hp3_
        obtain ⟨ad51, e52⟩ := hp2_
        have e52 : ρ 19 = .pointer (some ad51) := e52
        try rw [e52] at hs
        have e53 : ρ 18 = .int .i64 x18 := hp1_
        have e54 : ρ 17 = .slice a2 x1.length c3 := hp0_
        refine WA.done (by kernel_rfl) ?_
        refine hK24 _ _ ?_
        rcases iteE hf with ⟨hc55, hf⟩ | ⟨hc55, hf⟩
        · refine W.cond_true (bool_tr e44 hc55) ?_
          refine W.seqK fun K56 hK56 => ?_
          refine W.region ?_
          refine WL.assign (v := .bool false) rfl ?_
          refine WL.nil ?_
          refine hK56 _ _ ?_
          refine W.ret ?_
          have hr := Option.some.inj hf; subst hr
          have hr := hbbs19 _ rfl; subst hr
          have hf := hfs19
          have hr := Option.some.inj hf; subst hr
          exact ⟨_, resOk_one rfl rfl, (), rfl, (hs.mask []).pick []⟩
        · refine W.cond_false (bool_tr e44 hc55) ?_
          refine W.skip ?_
          refine hK23 _ _ ?_
          refine W.region ?_
          refine WL.move (v := .int .i64 x18) ((hu43 5 rfl).trans h17_5) ?_
          obtain ⟨x57, ex57, hf⟩ := letE hf
          refine WL.bin (v := .int .i64 x57) rfl rfl (ib_as ex57 (ib_add _ _ _)) ?_
          refine WL.assign (v := .int .i64 x57) rfl ?_
          refine WL.nil ?_
          exact ⟨_, (Option.some.inj hf).symm, ((hu43 0 rfl).trans h17_0), ((hu43 1 rfl).trans h17_1), rfl, (hs.mask []).pick [2, 3]⟩
    · refine W.cond_false (bool_tr rfl hc22) ?_
      refine W.exit ?_
      have hr := Option.some.inj hf; subst hr
      have hr := hbbs19 _ rfl; subst hr
      have hf := hfs19
      exact Jk14  _ _  ((hs.mask []).pick []) hf
/-! elasticstore/elasticstoreref32.EqualField: function 33 -/
theorem esref32_EqualField.calls {ok : Nat → Prop} {w0 : World} {x1 : fold_Field} {x5 : fold_Field} {v2 : Value} {v6 : Value} {r : Bool} (hf : esref32_EqualField x1 x5 = some r) (i0 : (vl t_fold_Field x1 v2).holds ok w0) (i1 : (vl t_fold_Field x5 v6).holds ok w0) :
    Calls Try.prog 33 #[v2, v6] w0 fun e w' => ∃ v, e = .returned v ∧ ∃ y : Unit, v = .bool r ∧ St ok (bz w0) w' [] [] := by
  unfold esref32_EqualField at hf
  refine calls_of_W (fn := Try.f33) (N := 52) Try.func33 rfl Try.ntmps33 rfl ?_
  have hs : St ok (bz w0) w0 [vl t_fold_Field x1 v2, vl t_fold_Field x5 v6] [] := St.init (All.cons i0 (All.cons i1 All.nil))
  clear i0 i1
  obtain ⟨cs3, hl4, rfl⟩ := hs.aggv (n := 12) 0 rfl rfl rfl
  obtain ⟨cs7, hl8, rfl⟩ := hs.aggv (n := 12) 1 rfl rfl rfl
  refine W.seqK fun K9 hK9 => ?_
  refine W.region ?_
  refine WL.box (vs := cs3) hs rfl rfl (fun g10 w hs => ?_)
  refine WL.box (vs := cs7) hs rfl rfl (fun g11 w hs => ?_)
  refine WL.assign (v := .bool false) rfl ?_
  refine WL.nil ?_
  refine hK9 _ _ ?_
  refine W.seqK fun K12 hK12 => ?_
  have Jk15 : ∀ (x14 : Bool) (ρ : Env) (w : World), ρ 4 = .bool x14 → St ok (bz w0) w [] [] → esref32_EqualField.j1 x14 = some r → K12 ρ w := by
    intro x14 ρ w h13_4 hs hf
    refine hK12 _ _ ?_
    unfold esref32_EqualField.j1 at hf
    refine W.ret ?_
    have hr := Option.some.inj hf; subst hr
    exact ⟨_, resOk_one rfl h13_4, (), rfl, (hs.mask []).pick []⟩
  refine W.region ?_
  refine WL.fieldAddr (m := 0) rfl FA57_0 rfl ?_
  refine WL.loadF (z := x1.Name) F_fold_Field_Name hs 1 rfl 0 rfl rfl TI9 (.inr rfl) rfl rfl (fun v16 hs => ?_)
  obtain rfl := hs.str 0 rfl
  refine WL.fieldAddr (m := 0) rfl FA57_0 rfl ?_
  refine WL.loadF (z := x5.Name) F_fold_Field_Name hs 0 rfl 2 rfl rfl TI9 (.inr rfl) rfl rfl (fun v17 hs => ?_)
  obtain rfl := hs.str 0 rfl
  refine WL.binS (v := .bool (x1.Name == x5.Name)) rfl rfl (sb_eql _ _) ?_
  refine WL.move (v := .bool (x1.Name == x5.Name)) rfl ?_
  rcases iteE hf with ⟨hc18, hf⟩ | ⟨hc18, hf⟩
  · refine WL.fieldAddr (m := 1) rfl FA57_1 rfl ?_ (hg := (wanted_of rfl rfl (bool_tr rfl hc18)).trans rfl)
    refine WL.loadF (z := x1.Register) F_fold_Field_Register hs 1 rfl 2 rfl rfl TI54 (.inl rfl) rfl rfl (fun v19 hs => ?_) (hg := (wanted_of rfl rfl (bool_tr rfl hc18)).trans rfl)
    obtain ⟨cs20, hl21, rfl⟩ := hs.aggv (n := 6) 0 rfl rfl rfl
    refine WL.fieldAddr (m := 1) rfl FA57_1 rfl ?_ (hg := (wanted_of rfl rfl (bool_tr rfl hc18)).trans rfl)
    refine WL.loadF (z := x5.Register) F_fold_Field_Register hs 0 rfl 4 rfl rfl TI54 (.inl rfl) rfl rfl (fun v22 hs => ?_) (hg := (wanted_of rfl rfl (bool_tr rfl hc18)).trans rfl)
    obtain ⟨cs23, hl24, rfl⟩ := hs.aggv (n := 6) 0 rfl rfl rfl
    obtain rfl := open_fold_Register hs 1 rfl
    obtain rfl := open_fold_Register hs 0 rfl
    refine WL.eqA rfl rfl EG54 (EQ54 (⟨x1.Register.Set, x1.Register.Tag, x1.Register.Client, x1.Register.Seq, x1.Register.N, x1.Register.S⟩ : fold_Register) (⟨x5.Register.Set, x5.Register.Tag, x5.Register.Client, x5.Register.Seq, x5.Register.N, x5.Register.S⟩ : fold_Register)) ?_ (hg := (wanted_of rfl rfl (bool_tr rfl hc18)).trans rfl)
    refine WL.pickT (v := .bool (decide ((⟨x1.Register.Set, x1.Register.Tag, x1.Register.Client, x1.Register.Seq, x1.Register.N, x1.Register.S⟩ : fold_Register) = (⟨x5.Register.Set, x5.Register.Tag, x5.Register.Client, x5.Register.Seq, x5.Register.N, x5.Register.S⟩ : fold_Register)))) (bool_tr rfl hc18) rfl ?_
    refine WL.move (v := .bool (decide ((⟨x1.Register.Set, x1.Register.Tag, x1.Register.Client, x1.Register.Seq, x1.Register.N, x1.Register.S⟩ : fold_Register) = (⟨x5.Register.Set, x5.Register.Tag, x5.Register.Client, x5.Register.Seq, x5.Register.N, x5.Register.S⟩ : fold_Register)))) rfl ?_
    rcases iteE hf with ⟨hc25, hf⟩ | ⟨hc25, hf⟩
    · refine WL.fieldAddr (m := 7) rfl FA57_2 rfl ?_ (hg := (wanted_of rfl rfl (bool_tr rfl hc25)).trans rfl)
      refine WL.loadF (z := x1.HasMax) F_fold_Field_HasMax hs 1 rfl 4 rfl rfl TI4 (.inr rfl) rfl rfl (fun v26 hs => ?_) (hg := (wanted_of rfl rfl (bool_tr rfl hc25)).trans rfl)
      obtain rfl := hs.bool 0 rfl
      refine WL.fieldAddr (m := 7) rfl FA57_2 rfl ?_ (hg := (wanted_of rfl rfl (bool_tr rfl hc25)).trans rfl)
      refine WL.loadF (z := x5.HasMax) F_fold_Field_HasMax hs 0 rfl 6 rfl rfl TI4 (.inr rfl) rfl rfl (fun v27 hs => ?_) (hg := (wanted_of rfl rfl (bool_tr rfl hc25)).trans rfl)
      obtain rfl := hs.bool 0 rfl
      refine WL.eqB UN4 rfl rfl ?_ (hg := (wanted_of rfl rfl (bool_tr rfl hc25)).trans rfl)
      refine WL.pickT (v := .bool (x1.HasMax == x5.HasMax)) (bool_tr rfl hc25) rfl ?_
      refine WL.move (v := .bool (x1.HasMax == x5.HasMax)) rfl ?_
      rcases iteE hf with ⟨hc28, hf⟩ | ⟨hc28, hf⟩
      · refine WL.fieldAddr (m := 8) rfl FA57_3 rfl ?_ (hg := (wanted_of rfl rfl (bool_tr rfl hc28)).trans rfl)
        refine WL.loadF (z := x1.Max) F_fold_Field_Max hs 1 rfl 6 rfl rfl TI2 (.inr rfl) rfl rfl (fun v29 hs => ?_) (hg := (wanted_of rfl rfl (bool_tr rfl hc28)).trans rfl)
        obtain rfl := hs.int 0 rfl
        refine WL.fieldAddr (m := 8) rfl FA57_3 rfl ?_ (hg := (wanted_of rfl rfl (bool_tr rfl hc28)).trans rfl)
        refine WL.loadF (z := x5.Max) F_fold_Field_Max hs 0 rfl 8 rfl rfl TI2 (.inr rfl) rfl rfl (fun v30 hs => ?_) (hg := (wanted_of rfl rfl (bool_tr rfl hc28)).trans rfl)
        obtain rfl := hs.int 0 rfl
        refine WL.bin (v := .bool (x1.Max == x5.Max)) rfl rfl (ib_eql _ _ _) ?_ (hg := (wanted_of rfl rfl (bool_tr rfl hc28)).trans rfl)
        refine WL.pickT (v := .bool (x1.Max == x5.Max)) (bool_tr rfl hc28) rfl ?_
        refine WL.move (v := .bool (x1.Max == x5.Max)) rfl ?_
        rcases iteE hf with ⟨hc31, hf⟩ | ⟨hc31, hf⟩
        · refine WL.fieldAddr (m := 9) rfl FA57_4 rfl ?_ (hg := (wanted_of rfl rfl (bool_tr rfl hc31)).trans rfl)
          refine WL.loadF (z := x1.Sum) F_fold_Field_Sum hs 1 rfl 8 rfl rfl TI2 (.inr rfl) rfl rfl (fun v32 hs => ?_) (hg := (wanted_of rfl rfl (bool_tr rfl hc31)).trans rfl)
          obtain rfl := hs.int 0 rfl
          refine WL.fieldAddr (m := 9) rfl FA57_4 rfl ?_ (hg := (wanted_of rfl rfl (bool_tr rfl hc31)).trans rfl)
          refine WL.loadF (z := x5.Sum) F_fold_Field_Sum hs 0 rfl 10 rfl rfl TI2 (.inr rfl) rfl rfl (fun v33 hs => ?_) (hg := (wanted_of rfl rfl (bool_tr rfl hc31)).trans rfl)
          obtain rfl := hs.int 0 rfl
          refine WL.bin (v := .bool (x1.Sum == x5.Sum)) rfl rfl (ib_eql _ _ _) ?_ (hg := (wanted_of rfl rfl (bool_tr rfl hc31)).trans rfl)
          refine WL.pickT (v := .bool (x1.Sum == x5.Sum)) (bool_tr rfl hc31) rfl ?_
          refine WL.move (v := .bool (x1.Sum == x5.Sum)) rfl ?_
          rcases iteE hf with ⟨hc34, hf⟩ | ⟨hc34, hf⟩
          · refine WL.fieldAddr (m := 11) rfl FA57_6 rfl ?_ (hg := (wanted_of rfl rfl (bool_tr rfl hc34)).trans rfl)
            refine WL.loadF (z := x1.Flag) F_fold_Field_Flag hs 1 rfl 10 rfl rfl TI4 (.inr rfl) rfl rfl (fun v35 hs => ?_) (hg := (wanted_of rfl rfl (bool_tr rfl hc34)).trans rfl)
            obtain rfl := hs.bool 0 rfl
            refine WL.fieldAddr (m := 11) rfl FA57_6 rfl ?_ (hg := (wanted_of rfl rfl (bool_tr rfl hc34)).trans rfl)
            refine WL.loadF (z := x5.Flag) F_fold_Field_Flag hs 0 rfl 12 rfl rfl TI4 (.inr rfl) rfl rfl (fun v36 hs => ?_) (hg := (wanted_of rfl rfl (bool_tr rfl hc34)).trans rfl)
            obtain rfl := hs.bool 0 rfl
            refine WL.eqB UN4 rfl rfl ?_ (hg := (wanted_of rfl rfl (bool_tr rfl hc34)).trans rfl)
            refine WL.pickT (v := .bool (x1.Flag == x5.Flag)) (bool_tr rfl hc34) rfl ?_
            refine WL.move (v := .bool (x1.Flag == x5.Flag)) rfl ?_
            rcases iteE hf with ⟨hc37, hf⟩ | ⟨hc37, hf⟩
            · refine WL.fieldAddr (m := 10) rfl FA57_5 rfl ?_ (hg := (wanted_of rfl rfl (bool_tr rfl hc37)).trans rfl)
              refine WL.loadF (z := x1.Elems) F_fold_Field_Elems hs 1 rfl 12 rfl rfl TI55 (.inr rfl) rfl rfl (fun v38 hs => ?_) (hg := (wanted_of rfl rfl (bool_tr rfl hc37)).trans rfl)
              obtain ⟨a39, c40, rfl⟩ := hs.slice 0 rfl
              refine WL.fieldAddr (m := 10) rfl FA57_5 rfl ?_ (hg := (wanted_of rfl rfl (bool_tr rfl hc37)).trans rfl)
              refine WL.loadF (z := x5.Elems) F_fold_Field_Elems hs 0 rfl 14 rfl rfl TI55 (.inr rfl) rfl rfl (fun v41 hs => ?_) (hg := (wanted_of rfl rfl (bool_tr rfl hc37)).trans rfl)
              obtain ⟨a42, c43, rfl⟩ := hs.slice 0 rfl
              obtain ⟨x44, hxx44, hf⟩ := bindE hf
              refine WL.call (vs := [.slice a39 (x1.Elems).length c40, .slice a42 (x5.Elems).length c43]) hs FN56 ⟨rfl, ⟨rfl, trivial⟩⟩ (fun ok hA => esref32_EqualStrings.calls (x1 := x1.Elems) (x4 := x5.Elems) hxx44 (hA.get 1 rfl) (hA.get 0 rfl)) ?_ (hg := (wanted_of rfl rfl (bool_tr rfl hc37)).trans rfl)
              rintro _ w hs
              refine WL.pickT (v := .bool x44) (bool_tr rfl hc37) rfl ?_
              refine WL.assign (v := .bool x44) rfl ?_
              refine WL.nil ?_
              exact Jk15 x44 _ _ rfl ((hs.mask []).pick []) hf
            · refine WL.pass ((wanted_of rfl rfl (bool_tr rfl hc37)).trans rfl) rfl ?_
              refine WL.pass ((wanted_of rfl rfl (bool_tr rfl hc37)).trans rfl) rfl ?_
              refine WL.pass ((wanted_of rfl rfl (bool_tr rfl hc37)).trans rfl) rfl ?_
              refine WL.pass ((wanted_of rfl rfl (bool_tr rfl hc37)).trans rfl) rfl ?_
              refine WL.pass ((wanted_of rfl rfl (bool_tr rfl hc37)).trans rfl) rfl ?_
              refine WL.pickF (v := .bool false) (bool_tr rfl hc37) rfl ?_
              refine WL.assign (v := .bool false) rfl ?_
              refine WL.nil ?_
              exact Jk15 false _ _ rfl ((hs.mask []).pick []) hf
          · refine WL.pass ((wanted_of rfl rfl (bool_tr rfl hc34)).trans rfl) rfl ?_
            refine WL.pass ((wanted_of rfl rfl (bool_tr rfl hc34)).trans rfl) rfl ?_
            refine WL.pass ((wanted_of rfl rfl (bool_tr rfl hc34)).trans rfl) rfl ?_
            refine WL.pass ((wanted_of rfl rfl (bool_tr rfl hc34)).trans rfl) rfl ?_
            refine WL.pass ((wanted_of rfl rfl (bool_tr rfl hc34)).trans rfl) rfl ?_
            refine WL.pickF (v := .bool false) (bool_tr rfl hc34) rfl ?_
            refine WL.move (v := .bool false) rfl ?_
            refine WL.pass ((wanted_of rfl rfl rfl).trans rfl) rfl ?_
            refine WL.pass ((wanted_of rfl rfl rfl).trans rfl) rfl ?_
            refine WL.pass ((wanted_of rfl rfl rfl).trans rfl) rfl ?_
            refine WL.pass ((wanted_of rfl rfl rfl).trans rfl) rfl ?_
            refine WL.pass ((wanted_of rfl rfl rfl).trans rfl) rfl ?_
            refine WL.pickF (v := .bool false) rfl rfl ?_
            refine WL.assign (v := .bool false) rfl ?_
            refine WL.nil ?_
            exact Jk15 false _ _ rfl ((hs.mask []).pick []) hf
        · refine WL.pass ((wanted_of rfl rfl (bool_tr rfl hc31)).trans rfl) rfl ?_
          refine WL.pass ((wanted_of rfl rfl (bool_tr rfl hc31)).trans rfl) rfl ?_
          refine WL.pass ((wanted_of rfl rfl (bool_tr rfl hc31)).trans rfl) rfl ?_
          refine WL.pass ((wanted_of rfl rfl (bool_tr rfl hc31)).trans rfl) rfl ?_
          refine WL.pass ((wanted_of rfl rfl (bool_tr rfl hc31)).trans rfl) rfl ?_
          refine WL.pickF (v := .bool false) (bool_tr rfl hc31) rfl ?_
          refine WL.move (v := .bool false) rfl ?_
          refine WL.pass ((wanted_of rfl rfl rfl).trans rfl) rfl ?_
          refine WL.pass ((wanted_of rfl rfl rfl).trans rfl) rfl ?_
          refine WL.pass ((wanted_of rfl rfl rfl).trans rfl) rfl ?_
          refine WL.pass ((wanted_of rfl rfl rfl).trans rfl) rfl ?_
          refine WL.pass ((wanted_of rfl rfl rfl).trans rfl) rfl ?_
          refine WL.pickF (v := .bool false) rfl rfl ?_
          refine WL.move (v := .bool false) rfl ?_
          refine WL.pass ((wanted_of rfl rfl rfl).trans rfl) rfl ?_
          refine WL.pass ((wanted_of rfl rfl rfl).trans rfl) rfl ?_
          refine WL.pass ((wanted_of rfl rfl rfl).trans rfl) rfl ?_
          refine WL.pass ((wanted_of rfl rfl rfl).trans rfl) rfl ?_
          refine WL.pass ((wanted_of rfl rfl rfl).trans rfl) rfl ?_
          refine WL.pickF (v := .bool false) rfl rfl ?_
          refine WL.assign (v := .bool false) rfl ?_
          refine WL.nil ?_
          exact Jk15 false _ _ rfl ((hs.mask []).pick []) hf
      · refine WL.pass ((wanted_of rfl rfl (bool_tr rfl hc28)).trans rfl) rfl ?_
        refine WL.pass ((wanted_of rfl rfl (bool_tr rfl hc28)).trans rfl) rfl ?_
        refine WL.pass ((wanted_of rfl rfl (bool_tr rfl hc28)).trans rfl) rfl ?_
        refine WL.pass ((wanted_of rfl rfl (bool_tr rfl hc28)).trans rfl) rfl ?_
        refine WL.pass ((wanted_of rfl rfl (bool_tr rfl hc28)).trans rfl) rfl ?_
        refine WL.pickF (v := .bool false) (bool_tr rfl hc28) rfl ?_
        refine WL.move (v := .bool false) rfl ?_
        refine WL.pass ((wanted_of rfl rfl rfl).trans rfl) rfl ?_
        refine WL.pass ((wanted_of rfl rfl rfl).trans rfl) rfl ?_
        refine WL.pass ((wanted_of rfl rfl rfl).trans rfl) rfl ?_
        refine WL.pass ((wanted_of rfl rfl rfl).trans rfl) rfl ?_
        refine WL.pass ((wanted_of rfl rfl rfl).trans rfl) rfl ?_
        refine WL.pickF (v := .bool false) rfl rfl ?_
        refine WL.move (v := .bool false) rfl ?_
        refine WL.pass ((wanted_of rfl rfl rfl).trans rfl) rfl ?_
        refine WL.pass ((wanted_of rfl rfl rfl).trans rfl) rfl ?_
        refine WL.pass ((wanted_of rfl rfl rfl).trans rfl) rfl ?_
        refine WL.pass ((wanted_of rfl rfl rfl).trans rfl) rfl ?_
        refine WL.pass ((wanted_of rfl rfl rfl).trans rfl) rfl ?_
        refine WL.pickF (v := .bool false) rfl rfl ?_
        refine WL.move (v := .bool false) rfl ?_
        refine WL.pass ((wanted_of rfl rfl rfl).trans rfl) rfl ?_
        refine WL.pass ((wanted_of rfl rfl rfl).trans rfl) rfl ?_
        refine WL.pass ((wanted_of rfl rfl rfl).trans rfl) rfl ?_
        refine WL.pass ((wanted_of rfl rfl rfl).trans rfl) rfl ?_
        refine WL.pass ((wanted_of rfl rfl rfl).trans rfl) rfl ?_
        refine WL.pickF (v := .bool false) rfl rfl ?_
        refine WL.assign (v := .bool false) rfl ?_
        refine WL.nil ?_
        exact Jk15 false _ _ rfl ((hs.mask []).pick []) hf
    · refine WL.pass ((wanted_of rfl rfl (bool_tr rfl hc25)).trans rfl) rfl ?_
      refine WL.pass ((wanted_of rfl rfl (bool_tr rfl hc25)).trans rfl) rfl ?_
      refine WL.pass ((wanted_of rfl rfl (bool_tr rfl hc25)).trans rfl) rfl ?_
      refine WL.pass ((wanted_of rfl rfl (bool_tr rfl hc25)).trans rfl) rfl ?_
      refine WL.pass ((wanted_of rfl rfl (bool_tr rfl hc25)).trans rfl) rfl ?_
      refine WL.pickF (v := .bool false) (bool_tr rfl hc25) rfl ?_
      refine WL.move (v := .bool false) rfl ?_
      refine WL.pass ((wanted_of rfl rfl rfl).trans rfl) rfl ?_
      refine WL.pass ((wanted_of rfl rfl rfl).trans rfl) rfl ?_
      refine WL.pass ((wanted_of rfl rfl rfl).trans rfl) rfl ?_
      refine WL.pass ((wanted_of rfl rfl rfl).trans rfl) rfl ?_
      refine WL.pass ((wanted_of rfl rfl rfl).trans rfl) rfl ?_
      refine WL.pickF (v := .bool false) rfl rfl ?_
      refine WL.move (v := .bool false) rfl ?_
      refine WL.pass ((wanted_of rfl rfl rfl).trans rfl) rfl ?_
      refine WL.pass ((wanted_of rfl rfl rfl).trans rfl) rfl ?_
      refine WL.pass ((wanted_of rfl rfl rfl).trans rfl) rfl ?_
      refine WL.pass ((wanted_of rfl rfl rfl).trans rfl) rfl ?_
      refine WL.pass ((wanted_of rfl rfl rfl).trans rfl) rfl ?_
      refine WL.pickF (v := .bool false) rfl rfl ?_
      refine WL.move (v := .bool false) rfl ?_
      refine WL.pass ((wanted_of rfl rfl rfl).trans rfl) rfl ?_
      refine WL.pass ((wanted_of rfl rfl rfl).trans rfl) rfl ?_
      refine WL.pass ((wanted_of rfl rfl rfl).trans rfl) rfl ?_
      refine WL.pass ((wanted_of rfl rfl rfl).trans rfl) rfl ?_
      refine WL.pass ((wanted_of rfl rfl rfl).trans rfl) rfl ?_
      refine WL.pickF (v := .bool false) rfl rfl ?_
      refine WL.move (v := .bool false) rfl ?_
      refine WL.pass ((wanted_of rfl rfl rfl).trans rfl) rfl ?_
      refine WL.pass ((wanted_of rfl rfl rfl).trans rfl) rfl ?_
      refine WL.pass ((wanted_of rfl rfl rfl).trans rfl) rfl ?_
      refine WL.pass ((wanted_of rfl rfl rfl).trans rfl) rfl ?_
      refine WL.pass ((wanted_of rfl rfl rfl).trans rfl) rfl ?_
      refine WL.pickF (v := .bool false) rfl rfl ?_
      refine WL.assign (v := .bool false) rfl ?_
      refine WL.nil ?_
      exact Jk15 false _ _ rfl ((hs.mask []).pick []) hf
  · refine WL.pass ((wanted_of rfl rfl (bool_tr rfl hc18)).trans rfl) rfl ?_
    refine WL.pass ((wanted_of rfl rfl (bool_tr rfl hc18)).trans rfl) rfl ?_
    refine WL.pass ((wanted_of rfl rfl (bool_tr rfl hc18)).trans rfl) rfl ?_
    refine WL.pass ((wanted_of rfl rfl (bool_tr rfl hc18)).trans rfl) rfl ?_
    refine WL.pass ((wanted_of rfl rfl (bool_tr rfl hc18)).trans rfl) rfl ?_
    refine WL.pickF (v := .bool false) (bool_tr rfl hc18) rfl ?_
    refine WL.move (v := .bool false) rfl ?_
    refine WL.pass ((wanted_of rfl rfl rfl).trans rfl) rfl ?_
    refine WL.pass ((wanted_of rfl rfl rfl).trans rfl) rfl ?_
    refine WL.pass ((wanted_of rfl rfl rfl).trans rfl) rfl ?_
    refine WL.pass ((wanted_of rfl rfl rfl).trans rfl) rfl ?_
    refine WL.pass ((wanted_of rfl rfl rfl).trans rfl) rfl ?_
    refine WL.pickF (v := .bool false) rfl rfl ?_
    refine WL.move (v := .bool false) rfl ?_
    refine WL.pass ((wanted_of rfl rfl rfl).trans rfl) rfl ?_
    refine WL.pass ((wanted_of rfl rfl rfl).trans rfl) rfl ?_
    refine WL.pass ((wanted_of rfl rfl rfl).trans rfl) rfl ?_
    refine WL.pass ((wanted_of rfl rfl rfl).trans rfl) rfl ?_
    refine WL.pass ((wanted_of rfl rfl rfl).trans rfl) rfl ?_
    refine WL.pickF (v := .bool false) rfl rfl ?_
    refine WL.move (v := .bool false) rfl ?_
    refine WL.pass ((wanted_of rfl rfl rfl).trans rfl) rfl ?_
    refine WL.pass ((wanted_of rfl rfl rfl).trans rfl) rfl ?_
    refine WL.pass ((wanted_of rfl rfl rfl).trans rfl) rfl ?_
    refine WL.pass ((wanted_of rfl rfl rfl).trans rfl) rfl ?_
    refine WL.pass ((wanted_of rfl rfl rfl).trans rfl) rfl ?_
    refine WL.pickF (v := .bool false) rfl rfl ?_
    refine WL.move (v := .bool false) rfl ?_
    refine WL.pass ((wanted_of rfl rfl rfl).trans rfl) rfl ?_
    refine WL.pass ((wanted_of rfl rfl rfl).trans rfl) rfl ?_
    refine WL.pass ((wanted_of rfl rfl rfl).trans rfl) rfl ?_
    refine WL.pass ((wanted_of rfl rfl rfl).trans rfl) rfl ?_
    refine WL.pass ((wanted_of rfl rfl rfl).trans rfl) rfl ?_
    refine WL.pickF (v := .bool false) rfl rfl ?_
    refine WL.move (v := .bool false) rfl ?_
    refine WL.pass ((wanted_of rfl rfl rfl).trans rfl) rfl ?_
    refine WL.pass ((wanted_of rfl rfl rfl).trans rfl) rfl ?_
    refine WL.pass ((wanted_of rfl rfl rfl).trans rfl) rfl ?_
    refine WL.pass ((wanted_of rfl rfl rfl).trans rfl) rfl ?_
    refine WL.pass ((wanted_of rfl rfl rfl).trans rfl) rfl ?_
    refine WL.pickF (v := .bool false) rfl rfl ?_
    refine WL.assign (v := .bool false) rfl ?_
    refine WL.nil ?_
    exact Jk15 false _ _ rfl ((hs.mask []).pick []) hf
/-! elasticstore/elasticstoreref32.EqualObject: function 31 -/
theorem esref32_EqualObject.calls {ok : Nat → Prop} {w0 : World} {x1 : fold_Object} {x5 : fold_Object} {v2 : Value} {v6 : Value} {r : Bool} (hf : esref32_EqualObject x1 x5 = some r) (i0 : (vl t_fold_Object x1 v2).holds ok w0) (i1 : (vl t_fold_Object x5 v6).holds ok w0) :
    Calls Try.prog 31 #[v2, v6] w0 fun e w' => ∃ v, e = .returned v ∧ ∃ y : Unit, v = .bool r ∧ St ok (bz w0) w' [] [] := by
  unfold esref32_EqualObject at hf
  refine calls_of_W (fn := Try.f31) (N := 39) Try.func31 rfl Try.ntmps31 rfl ?_
  have hs : St ok (bz w0) w0 [vl t_fold_Object x1 v2, vl t_fold_Object x5 v6] [] := St.init (All.cons i0 (All.cons i1 All.nil))
  clear i0 i1
  obtain ⟨cs3, hl4, rfl⟩ := hs.aggv (n := 2) 0 rfl rfl rfl
  obtain ⟨cs7, hl8, rfl⟩ := hs.aggv (n := 2) 1 rfl rfl rfl
  refine W.seqK fun K9 hK9 => ?_
  refine W.region ?_
  refine WL.box (vs := cs3) hs rfl rfl (fun g10 w hs => ?_)
  refine WL.box (vs := cs7) hs rfl rfl (fun g11 w hs => ?_)
  refine WL.assign (v := .bool false) rfl ?_
  refine WL.nil ?_
  refine hK9 _ _ ?_
  refine W.seqK fun K12 hK12 => ?_
  refine W.seqK fun K13 hK13 => ?_
  have Jk16 : ∀ (x15 : Bool) (ρ : Env) (w : World), ρ 2 = .pointer (some ⟨g10, 0, none⟩) → ρ 3 = .pointer (some ⟨g11, 0, none⟩) → ρ 19 = .bool x15 → St ok (bz w0) w [vl t_fold_Object x5 (.agg cs7.toArray), vl t_fold_Object x1 (.agg cs3.toArray)] [blk g11 51 cs7, blk g10 51 cs3] → esref32_EqualObject.j2 x1 x5 x15 = some r → K13 ρ w := by
    intro x15 ρ w h14_2 h14_3 h14_19 hs hf
    refine hK13 _ _ ?_
    unfold esref32_EqualObject.j2 at hf
    rcases iteE hf with ⟨hc17, hf⟩ | ⟨hc17, hf⟩
    · refine W.cond_true (bool_tr h14_19 hc17) ?_
      refine W.seqK fun K18 hK18 => ?_
      refine W.region ?_
      refine WL.assign (v := .bool false) rfl ?_
      refine WL.nil ?_
      refine hK18 _ _ ?_
      refine W.ret ?_
      have hr := Option.some.inj hf; subst hr
      exact ⟨_, resOk_one rfl rfl, (), rfl, (hs.mask []).pick []⟩
    · refine W.cond_false (bool_tr h14_19 hc17) ?_
      refine W.skip ?_
      refine hK12 _ _ ?_
      refine W.seqK fun K19 hK19 => ?_
      have Jk21 : ∀  (ρ : Env) (w : World), St ok (bz w0) w [] [] → esref32_EqualObject.j1 = some r → K19 ρ w := by
        intro  ρ w  hs hf
        refine hK19 _ _ ?_
        unfold esref32_EqualObject.j1 at hf
        refine W.seqK fun K22 hK22 => ?_
        refine W.region ?_
        refine WL.assign (v := .bool true) rfl ?_
        refine WL.nil ?_
        refine hK22 _ _ ?_
        refine W.ret ?_
        have hr := Option.some.inj hf; subst hr
        exact ⟨_, resOk_one rfl rfl, (), rfl, (hs.mask []).pick []⟩
      refine W.seqK fun K23 hK23 => ?_
      refine W.region ?_
      refine WL.assign (v := .int .i64 0) rfl ?_
      refine WL.nil ?_
      refine hK23 _ _ ?_
      refine W.block ?_
      obtain ⟨bs26, hbs26, hfs26⟩ := bindE hf
      refine W.loop hbs26 (fun s ρ w => match s with | x25 => ρ 2 = .pointer (some ⟨g10, 0, none⟩) ∧ ρ 3 = .pointer (some ⟨g11, 0, none⟩) ∧ ρ 5 = .int .i64 x25 ∧ St ok (bz w0) w [vl t_fold_Object x5 (.agg cs7.toArray), vl t_fold_Object x1 (.agg cs3.toArray)] [blk g11 51 cs7, blk g10 51 cs3]) ⟨h14_2, h14_3, rfl, (hs.mask [true, true]).pick [0, 1]⟩ ?_
      intro x25 ρ w os26 hI hf hbbs26
      obtain ⟨h24_2, h24_3, h24_5, hs⟩ := hI
      unfold esref32_EqualObject.l1 at hf
      refine W.seqK fun K27 hK27 => ?_
      refine W.seqK fun K28 hK28 => ?_
      refine W.region ?_
      refine WL.move (v := .int .i64 x25) h24_5 ?_
      refine WL.fieldAddr (m := 1) h24_2 FA51_1 rfl ?_
      refine WL.loadF (z := x1.Fields) F_fold_Object_Fields hs 1 rfl 1 rfl rfl TI49 (.inr rfl) rfl rfl (fun v29 hs => ?_)
      obtain ⟨a30, c31, rfl⟩ := hs.slice 0 rfl
      refine WL.len (v := .slice a30 (x1.Fields).length c31) rfl (len_slice UN49) ?_
      refine WL.bin (v := .bool (decide (x25 < ((x1.Fields).length : Int)))) rfl rfl (ib_lss _ _ _) ?_
      refine WL.nil ?_
      refine hK28 _ _ ?_
      rcases iteE hf with ⟨hc32, hf⟩ | ⟨hc32, hf⟩
      · refine W.cond_true (bool_tr rfl hc32) ?_
        refine W.skip ?_
        refine hK27 _ _ ?_
        refine W.seqK fun K33 hK33 => ?_
        refine W.block ?_
        refine W.seqK fun K34 hK34 => ?_
        obtain ⟨x38, hxx38, hf⟩ := bindE hf
        obtain ⟨x46, hxx46, hf⟩ := bindE hf
        obtain ⟨x51, hxx51, hf⟩ := bindE hf
        refine W.any (by kernel_rfl) 12 0 [true, true, true, true, true, true, true, true, true, true, true, true] rfl rfl (poAt [pv (.pointer (some ⟨g10, 1, none⟩)), pq (fun y : (Option Addr × Nat) => .slice y.1 (x1.Fields).length y.2) (fun v => [vl (tSlice t_fold_Field) x1.Fields v]) (fun v => []), pv (.int .i64 x25), pq (fun y : Addr => .pointer (some y)) (fun v => [pl t_fold_Field x38 (adOf v)]) (fun v => []), pq (fun y : List Value => .agg y.toArray) (fun v => [vl t_fold_Field x38 v]) (fun v => []), pv (.pointer (some ⟨g11, 1, none⟩)), pq (fun y : (Option Addr × Nat) => .slice y.1 (x5.Fields).length y.2) (fun v => [vl (tSlice t_fold_Field) x5.Fields v]) (fun v => []), pv (.int .i64 x25), pq (fun y : Addr => .pointer (some y)) (fun v => [pl t_fold_Field x46 (adOf v)]) (fun v => []), pq (fun y : List Value => .agg y.toArray) (fun v => [vl t_fold_Field x46 v]) (fun v => []), pv (.bool x51), pv (.bool (!x51))]) (Λ := [blk g11 51 cs7, blk g10 51 cs3]) hs (by kernel_rfl) (by kernel_rfl) (by kernel_rfl) ⟨⟨⟨⟨⟨⟨⟨⟨⟨⟨⟨⟨trivial, ?_⟩, ?_⟩, ?_⟩, ?_⟩, ?_⟩, ?_⟩, ?_⟩, ?_⟩, ?_⟩, ?_⟩, ?_⟩, ?_⟩ ?_
        · intro ρ w Γx Λx hs hu hp
          refine WL.fieldAddr (m := 1) ((hu 2 rfl).trans h24_2) FA51_1 rfl ?_
          exact WL.nil ⟨rfl, _, rfl, rfl, hs.cutG 0 0⟩
        · intro ρ w Γx Λx hs hu hp
          have e52 : ρ 27 = .pointer (some ⟨g10, 1, none⟩) := (hp 0 rfl).1
          refine WL.loadF (z := x1.Fields) F_fold_Object_Fields hs (Λx.length + 1) (getApp rfl) (Γx.length + 2) (getApp rfl) rfl TI49 (.inr rfl) e52 rfl (fun v35 hs => ?_)
          obtain ⟨a36, c37, rfl⟩ := hs.slice 0 rfl
          have hs := hs.add (it := vl (tSlice t_fold_Field) x1.Fields (.slice a36 (x1.Fields).length c37)) fun ok hA => hA.get 0 rfl
          exact WL.nil ⟨rfl, _, rfl, ⟨(a36, c37), rfl⟩, hs.cutG 1 1⟩
        · intro ρ w Γx Λx hs hu hp
          refine WL.move (v := .int .i64 x25) ((hu 5 rfl).trans h24_5) ?_
          exact WL.nil ⟨rfl, _, rfl, rfl, hs.cutG 0 0⟩
        · intro ρ w Γx Λx hs hu hp
          obtain ⟨⟨⟨a53, c54⟩, e55r⟩, hm56⟩ := hp 1 rfl
          have e55 : ρ 28 = .slice a53 (x1.Fields).length c54 := e55r
          rw [e55r] at hm56
          have hs := hs.memo1 (it := vl (tSlice t_fold_Field) x1.Fields (.slice a53 (x1.Fields).length c54)) (List.mem_append.2 (.inl (hm56 _ (List.mem_of_getElem? (i := 0) rfl))))
          have e57 : ρ 29 = .int .i64 x25 := (hp 2 rfl).1
          refine WL.indexAddr hs 0 rfl UN49 TI57 e55 e57 hxx38 (fun ad39 hs => ?_)
          have hs := hs.add (it := pl t_fold_Field x38 ad39) fun ok hA => hA.get 0 rfl
          exact WL.nil ⟨rfl, _, rfl, ⟨ad39, rfl⟩, hs.cutG 1 2⟩
        · intro ρ w Γx Λx hs hu hp
          obtain ⟨⟨ad58, e59r⟩, hm60⟩ := hp 3 rfl
          have e59 : ρ 30 = .pointer (some ad58) := e59r
          rw [e59r] at hm60
          have hs := hs.memo1 (it := pl t_fold_Field x38 ad58) (List.mem_append.2 (.inl (hm60 _ (List.mem_of_getElem? (i := 0) rfl))))
          refine WL.loadP hs 0 rfl TI57 (.inl rfl) e59 (fun v40 hs => ?_)
          obtain ⟨cs41, hl42, rfl⟩ := hs.aggv (n := 12) 0 rfl rfl rfl
          have hs := hs.add (it := vl t_fold_Field x38 (.agg cs41.toArray)) fun ok hA => hA.get 0 rfl
          exact WL.nil ⟨rfl, _, rfl, ⟨cs41, rfl⟩, hs.cutG 1 2⟩
        · intro ρ w Γx Λx hs hu hp
          refine WL.fieldAddr (m := 1) ((hu 3 rfl).trans h24_3) FA51_1 rfl ?_
          exact WL.nil ⟨rfl, _, rfl, rfl, hs.cutG 0 0⟩
        · intro ρ w Γx Λx hs hu hp
          have e61 : ρ 32 = .pointer (some ⟨g11, 1, none⟩) := (hp 5 rfl).1
          refine WL.loadF (z := x5.Fields) F_fold_Object_Fields hs (Λx.length + 0) (getApp rfl) (Γx.length + 1) (getApp rfl) rfl TI49 (.inr rfl) e61 rfl (fun v43 hs => ?_)
          obtain ⟨a44, c45, rfl⟩ := hs.slice 0 rfl
          have hs := hs.add (it := vl (tSlice t_fold_Field) x5.Fields (.slice a44 (x5.Fields).length c45)) fun ok hA => hA.get 0 rfl
          exact WL.nil ⟨rfl, _, rfl, ⟨(a44, c45), rfl⟩, hs.cutG 1 1⟩
        · intro ρ w Γx Λx hs hu hp
          refine WL.move (v := .int .i64 x25) ((hu 5 rfl).trans h24_5) ?_
          exact WL.nil ⟨rfl, _, rfl, rfl, hs.cutG 0 0⟩
        · intro ρ w Γx Λx hs hu hp
          obtain ⟨⟨⟨a62, c63⟩, e64r⟩, hm65⟩ := hp 6 rfl
          have e64 : ρ 33 = .slice a62 (x5.Fields).length c63 := e64r
          rw [e64r] at hm65
          have hs := hs.memo1 (it := vl (tSlice t_fold_Field) x5.Fields (.slice a62 (x5.Fields).length c63)) (List.mem_append.2 (.inl (hm65 _ (List.mem_of_getElem? (i := 0) rfl))))
          have e66 : ρ 34 = .int .i64 x25 := (hp 7 rfl).1
          refine WL.indexAddr hs 0 rfl UN49 TI57 e64 e66 hxx46 (fun ad47 hs => ?_)
          have hs := hs.add (it := pl t_fold_Field x46 ad47) fun ok hA => hA.get 0 rfl
          exact WL.nil ⟨rfl, _, rfl, ⟨ad47, rfl⟩, hs.cutG 1 2⟩
        · intro ρ w Γx Λx hs hu hp
          obtain ⟨⟨ad67, e68r⟩, hm69⟩ := hp 8 rfl
          have e68 : ρ 35 = .pointer (some ad67) := e68r
          rw [e68r] at hm69
          have hs := hs.memo1 (it := pl t_fold_Field x46 ad67) (List.mem_append.2 (.inl (hm69 _ (List.mem_of_getElem? (i := 0) rfl))))
          refine WL.loadP hs 0 rfl TI57 (.inl rfl) e68 (fun v48 hs => ?_)
          obtain ⟨cs49, hl50, rfl⟩ := hs.aggv (n := 12) 0 rfl rfl rfl
          have hs := hs.add (it := vl t_fold_Field x46 (.agg cs49.toArray)) fun ok hA => hA.get 0 rfl
          exact WL.nil ⟨rfl, _, rfl, ⟨cs49, rfl⟩, hs.cutG 1 2⟩
        · intro ρ w Γx Λx hs hu hp
          obtain ⟨⟨cs70, e72r⟩, hm73⟩ := hp 4 rfl
          have e72 : ρ 31 = .agg cs70.toArray := e72r
          rw [e72r] at hm73
          have hs := hs.memo1 (it := vl t_fold_Field x38 (.agg cs70.toArray)) (List.mem_append.2 (.inl (hm73 _ (List.mem_of_getElem? (i := 0) rfl))))
          have hl71 := hs.agglen (n := 12) 0 rfl rfl rfl
          obtain ⟨⟨cs74, e76r⟩, hm77⟩ := hp 9 rfl
          have e76 : ρ 36 = .agg cs74.toArray := e76r
          rw [e76r] at hm77
          have hs := hs.memo1 (it := vl t_fold_Field x46 (.agg cs74.toArray)) (List.mem_cons_of_mem _ (List.mem_append.2 (.inl (hm77 _ (List.mem_of_getElem? (i := 0) rfl)))))
          have hl75 := hs.agglen (n := 12) 0 rfl rfl rfl
          refine WL.call (vs := [.agg cs70.toArray, .agg cs74.toArray]) hs FN33 ⟨e72, ⟨e76, trivial⟩⟩ (fun ok hA => esref32_EqualField.calls (x1 := x38) (x5 := x46) hxx51 (hA.get 1 rfl) (hA.get 0 rfl)) ?_
          rintro _ w hs
          exact WL.nil ⟨rfl, _, rfl, rfl, hs.cutG 0 2⟩
        · intro ρ w Γx Λx hs hu hp
          have e78 : ρ 37 = .bool x51 := (hp 10 rfl).1
          refine WL.not e78 ?_
          exact WL.nil ⟨rfl, _, rfl, rfl, hs.cutG 0 0⟩
        · intro ρ w hs hu79 hp
          obtain ⟨⟨⟨⟨⟨⟨⟨⟨⟨⟨⟨⟨_, hp0_⟩, hp1_⟩, hp2_⟩, hp3_⟩, hp4_⟩, hp5_⟩, hp6_⟩, hp7_⟩, hp8_⟩, hp9_⟩, hp10_⟩, hp11_⟩ := hp
          have hs : St ok (bz w0) w [vl t_fold_Field x46 (ρ 36), pl t_fold_Field x46 (adOf (ρ 35)), vl (tSlice t_fold_Field) x5.Fields (ρ 33), vl t_fold_Field x38 (ρ 31), pl t_fold_Field x38 (adOf (ρ 30)), vl (tSlice t_fold_Field) x1.Fields (ρ 28), vl (tSlice t_fold_Field) x1.Fields (.slice a30 (x1.Fields).length c31), vl t_fold_Object x5 (.agg cs7.toArray), vl t_fold_Object x1 (.agg cs3.toArray)] [blk g11 51 cs7, blk g10 51 cs3] := hs
          have e80 : ρ 38 = .bool (!x51) := hp11_
          have e81 : ρ 37 = .bool x51 := hp10_
          obtain ⟨cs82, e84⟩ := hp9_
          have e84 : ρ 36 = .agg cs82.toArray := e84
          try rw [e84] at hs
          obtain ⟨ad85, e86⟩ := hp8_
          have e86 : ρ 35 = .pointer (some ad85) := e86
          try rw [e86] at hs
          have e87 : ρ 34 = .int .i64 x25 := hp7_
          obtain ⟨⟨a88, c89⟩, e90⟩ := hp6_
          have e90 : ρ 33 = .slice a88 (x5.Fields).length c89 := e90
          try rw [e90] at hs
          have e91 : ρ 32 = .pointer (some ⟨g11, 1, none⟩) := hp5_
          obtain ⟨cs92, e94⟩ := hp4_
          have e94 : ρ 31 = .agg cs92.toArray := e94
          try rw [e94] at hs
          obtain ⟨ad95, e96⟩ := hp3_
          have e96 : ρ 30 = .pointer (some ad95) := e96
          try rw [e96] at hs
          have e97 : ρ 29 = .int .i64 x25 := hp2_
          obtain ⟨⟨a98, c99⟩, e100⟩ := hp1_
          have e100 : ρ 28 = .slice a98 (x1.Fields).length c99 := e100
          try rw [e100] at hs
          have e101 : ρ 27 = .pointer (some ⟨g10, 1, none⟩) := hp0_
          have hl93 := hs.agglen (n := 12) 3 rfl rfl rfl
          have hl83 := hs.agglen (n := 12) 0 rfl rfl rfl
          refine WA.done (by kernel_rfl) ?_
          refine hK34 _ _ ?_
          rcases iteE hf with ⟨hc102, hf⟩ | ⟨hc102, hf⟩
          · refine W.cond_true (bool_tr e80 hc102) ?_
            refine W.seqK fun K103 hK103 => ?_
            refine W.region ?_
            refine WL.assign (v := .bool false) rfl ?_
            refine WL.nil ?_
            refine hK103 _ _ ?_
            refine W.ret ?_
            have hr := Option.some.inj hf; subst hr
            have hr := hbbs26 _ rfl; subst hr
            have hf := hfs26
            have hr := Option.some.inj hf; subst hr
            exact ⟨_, resOk_one rfl rfl, (), rfl, (hs.mask []).pick []⟩
          · refine W.cond_false (bool_tr e80 hc102) ?_
            refine W.skip ?_
            refine hK33 _ _ ?_
            refine W.region ?_
            refine WL.move (v := .int .i64 x25) ((hu79 5 rfl).trans h24_5) ?_
            obtain ⟨x104, ex104, hf⟩ := letE hf
            refine WL.bin (v := .int .i64 x104) rfl rfl (ib_as ex104 (ib_add _ _ _)) ?_
            refine WL.assign (v := .int .i64 x104) rfl ?_
            refine WL.nil ?_
            exact ⟨_, (Option.some.inj hf).symm, ((hu79 2 rfl).trans h24_2), ((hu79 3 rfl).trans h24_3), rfl, (hs.mask [true, true]).pick [7, 8]⟩
      · refine W.cond_false (bool_tr rfl hc32) ?_
        refine W.exit ?_
        have hr := Option.some.inj hf; subst hr
        have hr := hbbs26 _ rfl; subst hr
        have hf := hfs26
        exact Jk21  _ _  ((hs.mask []).pick []) hf
  refine W.region ?_
  refine WL.fieldAddr (m := 0) rfl FA51_0 rfl ?_
  refine WL.loadF (z := x1.Name) F_fold_Object_Name hs 1 rfl 0 rfl rfl TI9 (.inr rfl) rfl rfl (fun v106 hs => ?_)
  obtain rfl := hs.str 0 rfl
  refine WL.fieldAddr (m := 0) rfl FA51_0 rfl ?_
  refine WL.loadF (z := x5.Name) F_fold_Object_Name hs 0 rfl 2 rfl rfl TI9 (.inr rfl) rfl rfl (fun v107 hs => ?_)
  obtain rfl := hs.str 0 rfl
  refine WL.binS (v := .bool (x1.Name != x5.Name)) rfl rfl (sb_neq _ _) ?_
  refine WL.move (v := .bool (x1.Name != x5.Name)) rfl ?_
  rcases iteE hf with ⟨hc108, hf⟩ | ⟨hc108, hf⟩
  · refine WL.pass ((wanted_of rfl rfl (bool_tr rfl hc108)).trans rfl) rfl ?_
    refine WL.pass ((wanted_of rfl rfl (bool_tr rfl hc108)).trans rfl) rfl ?_
    refine WL.pass ((wanted_of rfl rfl (bool_tr rfl hc108)).trans rfl) rfl ?_
    refine WL.pass ((wanted_of rfl rfl (bool_tr rfl hc108)).trans rfl) rfl ?_
    refine WL.pass ((wanted_of rfl rfl (bool_tr rfl hc108)).trans rfl) rfl ?_
    refine WL.pass ((wanted_of rfl rfl (bool_tr rfl hc108)).trans rfl) rfl ?_
    refine WL.pass ((wanted_of rfl rfl (bool_tr rfl hc108)).trans rfl) rfl ?_
    refine WL.pickT (v := .bool true) (bool_tr rfl hc108) rfl ?_
    refine WL.nil ?_
    exact Jk16 true _ _ rfl rfl rfl ((hs.mask [true, true]).pick [3, 2]) hf
  · refine WL.fieldAddr (m := 1) rfl FA51_1 rfl ?_ (hg := (wanted_of rfl rfl (bool_tr rfl hc108)).trans rfl)
    refine WL.loadF (z := x1.Fields) F_fold_Object_Fields hs 1 rfl 2 rfl rfl TI49 (.inr rfl) rfl rfl (fun v109 hs => ?_) (hg := (wanted_of rfl rfl (bool_tr rfl hc108)).trans rfl)
    obtain ⟨a110, c111, rfl⟩ := hs.slice 0 rfl
    refine WL.len (v := .slice a110 (x1.Fields).length c111) rfl (len_slice UN49) ?_ (hg := (wanted_of rfl rfl (bool_tr rfl hc108)).trans rfl)
    refine WL.fieldAddr (m := 1) rfl FA51_1 rfl ?_ (hg := (wanted_of rfl rfl (bool_tr rfl hc108)).trans rfl)
    refine WL.loadF (z := x5.Fields) F_fold_Object_Fields hs 0 rfl 4 rfl rfl TI49 (.inr rfl) rfl rfl (fun v112 hs => ?_) (hg := (wanted_of rfl rfl (bool_tr rfl hc108)).trans rfl)
    obtain ⟨a113, c114, rfl⟩ := hs.slice 0 rfl
    refine WL.len (v := .slice a113 (x5.Fields).length c114) rfl (len_slice UN49) ?_ (hg := (wanted_of rfl rfl (bool_tr rfl hc108)).trans rfl)
    refine WL.bin (v := .bool (((x1.Fields).length : Int) != ((x5.Fields).length : Int))) rfl rfl (ib_neq _ _ _) ?_ (hg := (wanted_of rfl rfl (bool_tr rfl hc108)).trans rfl)
    refine WL.pickF (v := .bool (((x1.Fields).length : Int) != ((x5.Fields).length : Int))) (bool_tr rfl hc108) rfl ?_
    refine WL.nil ?_
    exact Jk16 (((x1.Fields).length : Int) != ((x5.Fields).length : Int)) _ _ rfl rfl rfl ((hs.mask [true, true]).pick [5, 4]) hf
end Go.Proofs.Ytlbcfjblpopcnaa
