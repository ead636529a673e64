import Derived.Test.YtlbcfjblpopcnaaFh
import Derived.Test.YtlbcfjblpopcnaaLz
import Derived.Test.YtlbcfjblpopcnaaFp10
set_option linter.unusedVariables false
set_option linter.unusedSimpArgs false
namespace Go.Proofs.Ytlbcfjblpopcnaa
open Go Go.RowKit Go.Proofs.YtlbcfjblpopcnaaL
set_option maxRecDepth 100000
set_option maxHeartbeats 4000000
/-! elasticstore/elasticstoreref32.Equal: function 14 -/
theorem esref32_Equal.calls {ok : Nat → Prop} {w0 : World} {x1 : fold_Store} {x5 : fold_Store} {v2 : Value} {v6 : Value} {r : Bool} (hf : esref32_Equal x1 x5 = some r) (i0 : (vl t_fold_Store x1 v2).holds ok w0) (i1 : (vl t_fold_Store x5 v6).holds ok w0) :
    Calls Try.prog 14 #[v2, v6] w0 fun e w' => ∃ v, e = .returned v ∧ ∃ y : Unit, v = .bool r ∧ St ok (bz w0) w' [] [] := by
  unfold esref32_Equal at hf
  refine calls_of_W (fn := Try.f14) (N := 32) Try.func14 rfl Try.ntmps14 rfl ?_
  have hs : St ok (bz w0) w0 [vl t_fold_Store x1 v2, vl t_fold_Store x5 v6] [] := St.init (All.cons i0 (All.cons i1 All.nil))
  clear i0 i1
  obtain ⟨cs3, hl4, rfl⟩ := hs.aggv (n := 1) 0 rfl rfl rfl
  obtain ⟨cs7, hl8, rfl⟩ := hs.aggv (n := 1) 1 rfl rfl rfl
  refine W.seqK fun K9 hK9 => ?_
  refine W.region ?_
  refine WL.box (vs := cs3) hs rfl rfl (fun g10 w hs => ?_)
  refine WL.box (vs := cs7) hs rfl rfl (fun g11 w hs => ?_)
  refine WL.assign (v := .bool false) rfl ?_
  refine WL.nil ?_
  refine hK9 _ _ ?_
  refine W.seqK fun K12 hK12 => ?_
  refine W.seqK fun K13 hK13 => ?_
  refine W.region ?_
  refine WL.fieldAddr (m := 0) rfl FA29_0 rfl ?_
  refine WL.loadF (z := x1.Objects) F_fold_Store_Objects hs 1 rfl 0 rfl rfl TI27 (.inr rfl) rfl rfl (fun v14 hs => ?_)
  obtain ⟨a15, c16, rfl⟩ := hs.slice 0 rfl
  refine WL.len (v := .slice a15 (x1.Objects).length c16) rfl (len_slice UN27) ?_
  refine WL.fieldAddr (m := 0) rfl FA29_0 rfl ?_
  refine WL.loadF (z := x5.Objects) F_fold_Store_Objects hs 0 rfl 2 rfl rfl TI27 (.inr rfl) rfl rfl (fun v17 hs => ?_)
  obtain ⟨a18, c19, rfl⟩ := hs.slice 0 rfl
  refine WL.len (v := .slice a18 (x5.Objects).length c19) rfl (len_slice UN27) ?_
  refine WL.bin (v := .bool (((x1.Objects).length : Int) != ((x5.Objects).length : Int))) rfl rfl (ib_neq _ _ _) ?_
  refine WL.nil ?_
  refine hK13 _ _ ?_
  rcases iteE hf with ⟨hc20, hf⟩ | ⟨hc20, hf⟩
  · refine W.cond_true (bool_tr rfl hc20) ?_
    refine W.seqK fun K21 hK21 => ?_
    refine W.region ?_
    refine WL.assign (v := .bool false) rfl ?_
    refine WL.nil ?_
    refine hK21 _ _ ?_
    refine W.ret ?_
    have hr := Option.some.inj hf; subst hr
    exact ⟨_, resOk_one rfl rfl, (), rfl, (hs.mask []).pick []⟩
  · refine W.cond_false (bool_tr rfl hc20) ?_
    refine W.skip ?_
    refine hK12 _ _ ?_
    refine W.seqK fun K22 hK22 => ?_
    have Jk24 : ∀  (ρ : Env) (w : World), St ok (bz w0) w [] [] → esref32_Equal.j1 = some r → K22 ρ w := by
      intro  ρ w  hs hf
      refine hK22 _ _ ?_
      unfold esref32_Equal.j1 at hf
      refine W.seqK fun K25 hK25 => ?_
      refine W.region ?_
      refine WL.assign (v := .bool true) rfl ?_
      refine WL.nil ?_
      refine hK25 _ _ ?_
      refine W.ret ?_
      have hr := Option.some.inj hf; subst hr
      exact ⟨_, resOk_one rfl rfl, (), rfl, (hs.mask []).pick []⟩
    refine W.seqK fun K26 hK26 => ?_
    refine W.region ?_
    refine WL.assign (v := .int .i64 0) rfl ?_
    refine WL.nil ?_
    refine hK26 _ _ ?_
    refine W.block ?_
    obtain ⟨bs29, hbs29, hfs29⟩ := bindE hf
    refine W.loop hbs29 (fun s ρ w => match s with | x28 => ρ 2 = .pointer (some ⟨g10, 0, none⟩) ∧ ρ 3 = .pointer (some ⟨g11, 0, none⟩) ∧ ρ 5 = .int .i64 x28 ∧ St ok (bz w0) w [vl t_fold_Store x5 (.agg cs7.toArray), vl t_fold_Store x1 (.agg cs3.toArray)] [blk g11 29 cs7, blk g10 29 cs3]) ⟨rfl, rfl, rfl, (hs.mask [true, true]).pick [3, 2]⟩ ?_
    intro x28 ρ w os29 hI hf hbbs29
    obtain ⟨h27_2, h27_3, h27_5, hs⟩ := hI
    unfold esref32_Equal.l1 at hf
    refine W.seqK fun K30 hK30 => ?_
    refine W.seqK fun K31 hK31 => ?_
    refine W.region ?_
    refine WL.move (v := .int .i64 x28) h27_5 ?_
    refine WL.fieldAddr (m := 0) h27_2 FA29_0 rfl ?_
    refine WL.loadF (z := x1.Objects) F_fold_Store_Objects hs 1 rfl 1 rfl rfl TI27 (.inr rfl) rfl rfl (fun v32 hs => ?_)
    obtain ⟨a33, c34, rfl⟩ := hs.slice 0 rfl
    refine WL.len (v := .slice a33 (x1.Objects).length c34) rfl (len_slice UN27) ?_
    refine WL.bin (v := .bool (decide (x28 < ((x1.Objects).length : Int)))) rfl rfl (ib_lss _ _ _) ?_
    refine WL.nil ?_
    refine hK31 _ _ ?_
    rcases iteE hf with ⟨hc35, hf⟩ | ⟨hc35, hf⟩
    · refine W.cond_true (bool_tr rfl hc35) ?_
      refine W.skip ?_
      refine hK30 _ _ ?_
      refine W.seqK fun K36 hK36 => ?_
      refine W.block ?_
      refine W.seqK fun K37 hK37 => ?_
      obtain ⟨x41, hxx41, hf⟩ := bindE hf
      obtain ⟨x49, hxx49, hf⟩ := bindE hf
      obtain ⟨x54, hxx54, hf⟩ := bindE hf
      refine W.any (by kernel_rfl) 12 0 [true, true, true, true, true, true, true, true, true, true, true, true] rfl rfl (poAt [pv (.pointer (some ⟨g10, 0, none⟩)), pq (fun y : (Option Addr × Nat) => .slice y.1 (x1.Objects).length y.2) (fun v => [vl (tSlice t_fold_Object) x1.Objects v]) (fun v => []), pv (.int .i64 x28), pq (fun y : Addr => .pointer (some y)) (fun v => [pl t_fold_Object x41 (adOf v)]) (fun v => []), pq (fun y : List Value => .agg y.toArray) (fun v => [vl t_fold_Object x41 v]) (fun v => []), pv (.pointer (some ⟨g11, 0, none⟩)), pq (fun y : (Option Addr × Nat) => .slice y.1 (x5.Objects).length y.2) (fun v => [vl (tSlice t_fold_Object) x5.Objects v]) (fun v => []), pv (.int .i64 x28), pq (fun y : Addr => .pointer (some y)) (fun v => [pl t_fold_Object x49 (adOf v)]) (fun v => []), pq (fun y : List Value => .agg y.toArray) (fun v => [vl t_fold_Object x49 v]) (fun v => []), pv (.bool x54), pv (.bool (!x54))]) (Λ := [blk g11 29 cs7, blk g10 29 cs3]) hs (by kernel_rfl) (by kernel_rfl) (by kernel_rfl) ⟨⟨⟨⟨⟨⟨⟨⟨⟨⟨⟨⟨trivial, ?_⟩, ?_⟩, ?_⟩, ?_⟩, ?_⟩, ?_⟩, ?_⟩, ?_⟩, ?_⟩, ?_⟩, ?_⟩, ?_⟩ ?_
      · intro ρ w Γx Λx hs hu hp
        refine WL.fieldAddr (m := 0) ((hu 2 rfl).trans h27_2) FA29_0 rfl ?_
        exact WL.nil ⟨rfl, _, rfl, rfl, hs.cutG 0 0⟩
      · intro ρ w Γx Λx hs hu hp
        have e55 : ρ 20 = .pointer (some ⟨g10, 0, none⟩) := (hp 0 rfl).1
        refine WL.loadF (z := x1.Objects) F_fold_Store_Objects hs (Λx.length + 1) (getApp rfl) (Γx.length + 2) (getApp rfl) rfl TI27 (.inr rfl) e55 rfl (fun v38 hs => ?_)
        obtain ⟨a39, c40, rfl⟩ := hs.slice 0 rfl
        have hs := hs.add (it := vl (tSlice t_fold_Object) x1.Objects (.slice a39 (x1.Objects).length c40)) fun ok hA => hA.get 0 rfl
        exact WL.nil ⟨rfl, _, rfl, ⟨(a39, c40), rfl⟩, hs.cutG 1 1⟩
      · intro ρ w Γx Λx hs hu hp
        refine WL.move (v := .int .i64 x28) ((hu 5 rfl).trans h27_5) ?_
        exact WL.nil ⟨rfl, _, rfl, rfl, hs.cutG 0 0⟩
      · intro ρ w Γx Λx hs hu hp
        obtain ⟨⟨⟨a56, c57⟩, e58r⟩, hm59⟩ := hp 1 rfl
        have e58 : ρ 21 = .slice a56 (x1.Objects).length c57 := e58r
        rw [e58r] at hm59
        have hs := hs.memo1 (it := vl (tSlice t_fold_Object) x1.Objects (.slice a56 (x1.Objects).length c57)) (List.mem_append.2 (.inl (hm59 _ (List.mem_of_getElem? (i := 0) rfl))))
        have e60 : ρ 22 = .int .i64 x28 := (hp 2 rfl).1
        refine WL.indexAddr hs 0 rfl UN27 TI51 e58 e60 hxx41 (fun ad42 hs => ?_)
        have hs := hs.add (it := pl t_fold_Object x41 ad42) fun ok hA => hA.get 0 rfl
        exact WL.nil ⟨rfl, _, rfl, ⟨ad42, rfl⟩, hs.cutG 1 2⟩
      · intro ρ w Γx Λx hs hu hp
        obtain ⟨⟨ad61, e62r⟩, hm63⟩ := hp 3 rfl
        have e62 : ρ 23 = .pointer (some ad61) := e62r
        rw [e62r] at hm63
        have hs := hs.memo1 (it := pl t_fold_Object x41 ad61) (List.mem_append.2 (.inl (hm63 _ (List.mem_of_getElem? (i := 0) rfl))))
        refine WL.loadP hs 0 rfl TI51 (.inl rfl) e62 (fun v43 hs => ?_)
        obtain ⟨cs44, hl45, rfl⟩ := hs.aggv (n := 2) 0 rfl rfl rfl
        have hs := hs.add (it := vl t_fold_Object x41 (.agg cs44.toArray)) fun ok hA => hA.get 0 rfl
        exact WL.nil ⟨rfl, _, rfl, ⟨cs44, rfl⟩, hs.cutG 1 2⟩
      · intro ρ w Γx Λx hs hu hp
        refine WL.fieldAddr (m := 0) ((hu 3 rfl).trans h27_3) FA29_0 rfl ?_
        exact WL.nil ⟨rfl, _, rfl, rfl, hs.cutG 0 0⟩
      · intro ρ w Γx Λx hs hu hp
        have e64 : ρ 25 = .pointer (some ⟨g11, 0, none⟩) := (hp 5 rfl).1
        refine WL.loadF (z := x5.Objects) F_fold_Store_Objects hs (Λx.length + 0) (getApp rfl) (Γx.length + 1) (getApp rfl) rfl TI27 (.inr rfl) e64 rfl (fun v46 hs => ?_)
        obtain ⟨a47, c48, rfl⟩ := hs.slice 0 rfl
        have hs := hs.add (it := vl (tSlice t_fold_Object) x5.Objects (.slice a47 (x5.Objects).length c48)) fun ok hA => hA.get 0 rfl
        exact WL.nil ⟨rfl, _, rfl, ⟨(a47, c48), rfl⟩, hs.cutG 1 1⟩
      · intro ρ w Γx Λx hs hu hp
        refine WL.move (v := .int .i64 x28) ((hu 5 rfl).trans h27_5) ?_
        exact WL.nil ⟨rfl, _, rfl, rfl, hs.cutG 0 0⟩
      · intro ρ w Γx Λx hs hu hp
        obtain ⟨⟨⟨a65, c66⟩, e67r⟩, hm68⟩ := hp 6 rfl
        have e67 : ρ 26 = .slice a65 (x5.Objects).length c66 := e67r
        rw [e67r] at hm68
        have hs := hs.memo1 (it := vl (tSlice t_fold_Object) x5.Objects (.slice a65 (x5.Objects).length c66)) (List.mem_append.2 (.inl (hm68 _ (List.mem_of_getElem? (i := 0) rfl))))
        have e69 : ρ 27 = .int .i64 x28 := (hp 7 rfl).1
        refine WL.indexAddr hs 0 rfl UN27 TI51 e67 e69 hxx49 (fun ad50 hs => ?_)
        have hs := hs.add (it := pl t_fold_Object x49 ad50) fun ok hA => hA.get 0 rfl
        exact WL.nil ⟨rfl, _, rfl, ⟨ad50, rfl⟩, hs.cutG 1 2⟩
      · intro ρ w Γx Λx hs hu hp
        obtain ⟨⟨ad70, e71r⟩, hm72⟩ := hp 8 rfl
        have e71 : ρ 28 = .pointer (some ad70) := e71r
        rw [e71r] at hm72
        have hs := hs.memo1 (it := pl t_fold_Object x49 ad70) (List.mem_append.2 (.inl (hm72 _ (List.mem_of_getElem? (i := 0) rfl))))
        refine WL.loadP hs 0 rfl TI51 (.inl rfl) e71 (fun v51 hs => ?_)
        obtain ⟨cs52, hl53, rfl⟩ := hs.aggv (n := 2) 0 rfl rfl rfl
        have hs := hs.add (it := vl t_fold_Object x49 (.agg cs52.toArray)) fun ok hA => hA.get 0 rfl
        exact WL.nil ⟨rfl, _, rfl, ⟨cs52, rfl⟩, hs.cutG 1 2⟩
      · intro ρ w Γx Λx hs hu hp
        obtain ⟨⟨cs73, e75r⟩, hm76⟩ := hp 4 rfl
        have e75 : ρ 24 = .agg cs73.toArray := e75r
        rw [e75r] at hm76
        have hs := hs.memo1 (it := vl t_fold_Object x41 (.agg cs73.toArray)) (List.mem_append.2 (.inl (hm76 _ (List.mem_of_getElem? (i := 0) rfl))))
        have hl74 := hs.agglen (n := 2) 0 rfl rfl rfl
        obtain ⟨⟨cs77, e79r⟩, hm80⟩ := hp 9 rfl
        have e79 : ρ 29 = .agg cs77.toArray := e79r
        rw [e79r] at hm80
        have hs := hs.memo1 (it := vl t_fold_Object x49 (.agg cs77.toArray)) (List.mem_cons_of_mem _ (List.mem_append.2 (.inl (hm80 _ (List.mem_of_getElem? (i := 0) rfl)))))
        have hl78 := hs.agglen (n := 2) 0 rfl rfl rfl
        refine WL.call (vs := [.agg cs73.toArray, .agg cs77.toArray]) hs FN31 ⟨e75, ⟨e79, trivial⟩⟩ (fun ok hA => esref32_EqualObject.calls (x1 := x41) (x5 := x49) hxx54 (hA.get 1 rfl) (hA.get 0 rfl)) ?_
        rintro _ w hs
        exact WL.nil ⟨rfl, _, rfl, rfl, hs.cutG 0 2⟩
      · intro ρ w Γx Λx hs hu hp
        have e81 : ρ 30 = .bool x54 := (hp 10 rfl).1
        refine WL.not e81 ?_
        exact WL.nil ⟨rfl, _, rfl, rfl, hs.cutG 0 0⟩
      · intro ρ w hs hu82 hp
        obtain ⟨⟨⟨⟨⟨⟨⟨⟨⟨⟨⟨⟨_, hp0_⟩, hp1_⟩, hp2_⟩, hp3_⟩, hp4_⟩, hp5_⟩, hp6_⟩, hp7_⟩, hp8_⟩, hp9_⟩, hp10_⟩, hp11_⟩ := hp
        have hs : St ok (bz w0) w [vl t_fold_Object x49 (ρ 29), pl t_fold_Object x49 (adOf (ρ 28)), vl (tSlice t_fold_Object) x5.Objects (ρ 26), vl t_fold_Object x41 (ρ 24), pl t_fold_Object x41 (adOf (ρ 23)), vl (tSlice t_fold_Object) x1.Objects (ρ 21), vl (tSlice t_fold_Object) x1.Objects (.slice a33 (x1.Objects).length c34), vl t_fold_Store x5 (.agg cs7.toArray), vl t_fold_Store x1 (.agg cs3.toArray)] [blk g11 29 cs7, blk g10 29 cs3] := hs
        have e83 : ρ 31 = .bool (!x54) := hp11_
        have e84 : ρ 30 = .bool x54 := hp10_
        obtain ⟨cs85, e87⟩ := hp9_
        have e87 : ρ 29 = .agg cs85.toArray := e87
        try rw [e87] at hs
        obtain ⟨ad88, e89⟩ := hp8_
        have e89 : ρ 28 = .pointer (some ad88) := e89
        try rw [e89] at hs
        have e90 : ρ 27 = .int .i64 x28 := hp7_
        obtain ⟨⟨a91, c92⟩, e93⟩ := hp6_
        have e93 : ρ 26 = .slice a91 (x5.Objects).length c92 := e93
        try rw [e93] at hs
        have e94 : ρ 25 = .pointer (some ⟨g11, 0, none⟩) := hp5_
        obtain ⟨cs95, e97⟩ := hp4_
        have e97 : ρ 24 = .agg cs95.toArray := e97
        try rw [e97] at hs
        obtain ⟨ad98, e99⟩ := hp3_
        have e99 : ρ 23 = .pointer (some ad98) := e99
        try rw [e99] at hs
        have e100 : ρ 22 = .int .i64 x28 := hp2_
        obtain ⟨⟨a101, c102⟩, e103⟩ := hp1_
        have e103 : ρ 21 = .slice a101 (x1.Objects).length c102 := e103
        try rw [e103] at hs
        have e104 : ρ 20 = .pointer (some ⟨g10, 0, none⟩) := hp0_
        have hl96 := hs.agglen (n := 2) 3 rfl rfl rfl
        have hl86 := hs.agglen (n := 2) 0 rfl rfl rfl
        refine WA.done (by kernel_rfl) ?_
        refine hK37 _ _ ?_
        rcases iteE hf with ⟨hc105, hf⟩ | ⟨hc105, hf⟩
        · refine W.cond_true (bool_tr e83 hc105) ?_
          refine W.seqK fun K106 hK106 => ?_
          refine W.region ?_
          refine WL.assign (v := .bool false) rfl ?_
          refine WL.nil ?_
          refine hK106 _ _ ?_
          refine W.ret ?_
          have hr := Option.some.inj hf; subst hr
          have hr := hbbs29 _ rfl; subst hr
          have hf := hfs29
          have hr := Option.some.inj hf; subst hr
          exact ⟨_, resOk_one rfl rfl, (), rfl, (hs.mask []).pick []⟩
        · refine W.cond_false (bool_tr e83 hc105) ?_
          refine W.skip ?_
          refine hK36 _ _ ?_
          refine W.region ?_
          refine WL.move (v := .int .i64 x28) ((hu82 5 rfl).trans h27_5) ?_
          obtain ⟨x107, ex107, hf⟩ := letE hf
          refine WL.bin (v := .int .i64 x107) rfl rfl (ib_as ex107 (ib_add _ _ _)) ?_
          refine WL.assign (v := .int .i64 x107) rfl ?_
          refine WL.nil ?_
          exact ⟨_, (Option.some.inj hf).symm, ((hu82 2 rfl).trans h27_2), ((hu82 3 rfl).trans h27_3), rfl, (hs.mask [true, true]).pick [7, 8]⟩
    · refine W.cond_false (bool_tr rfl hc35) ?_
      refine W.exit ?_
      have hr := Option.some.inj hf; subst hr
      have hr := hbbs29 _ rfl; subst hr
      have hf := hfs29
      exact Jk24  _ _  ((hs.mask []).pick []) hf
end Go.Proofs.Ytlbcfjblpopcnaa
