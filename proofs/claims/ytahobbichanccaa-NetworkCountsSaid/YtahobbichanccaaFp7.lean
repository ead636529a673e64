import Derived.Test.YtahobbichanccaaFh
import Derived.Test.YtahobbichanccaaFp0
import Derived.Test.YtahobbichanccaaFp1
import Derived.Test.YtahobbichanccaaFp3
import Derived.Test.YtahobbichanccaaFp4
import Derived.Test.YtahobbichanccaaFp6
set_option linter.unusedVariables false
set_option linter.unusedSimpArgs false
namespace Go.Proofs.Ytahobbichanccaa
open Go Go.RowKit Go.Proofs.YtahobbichanccaaL
set_option maxRecDepth 100000
set_option maxHeartbeats 400000
/-! elasticstore/elasticstoreref03.EqualVector: function 45 -/
theorem esref03_EqualVector.calls {ok : Nat → Prop} {w0 : World} {x1 : List api_Entry} {x4 : List api_Entry} {a2 : Option Addr} {c3 : Nat} {a5 : Option Addr} {c6 : Nat} {r : Bool} (hf : esref03_EqualVector x1 x4 = some r) (i0 : (vl (tSlice t_api_Entry) x1 (.slice a2 x1.length c3)).holds ok w0) (i1 : (vl (tSlice t_api_Entry) x4 (.slice a5 x4.length c6)).holds ok w0) :
    Calls Try.prog 45 #[.slice a2 x1.length c3, .slice a5 x4.length c6] w0 fun e w' => ∃ v, e = .returned v ∧ ∃ y : Unit, v = .bool r ∧ St ok (bz w0) w' [] [] := by
  unfold esref03_EqualVector at hf
  refine calls_of_W (fn := Try.f45) (N := 26) Try.func45 rfl Try.ntmps45 rfl ?_
  have hs : St ok (bz w0) w0 [vl (tSlice t_api_Entry) x1 (.slice a2 x1.length c3), vl (tSlice t_api_Entry) x4 (.slice a5 x4.length c6)] [] := St.init (All.cons i0 (All.cons i1 All.nil))
  clear i0 i1
  refine W.seqK fun K7 hK7 => ?_
  refine W.region ?_
  refine WL.assign (v := .bool false) rfl ?_
  refine WL.nil ?_
  refine hK7 _ _ ?_
  refine W.seqK fun K8 hK8 => ?_
  refine W.seqK fun K9 hK9 => ?_
  refine W.region ?_
  refine WL.move (v := .slice a2 x1.length c3) rfl ?_
  refine WL.len (v := .slice a2 x1.length c3) rfl (len_slice UN47) ?_
  refine WL.move (v := .slice a5 x4.length c6) rfl ?_
  refine WL.len (v := .slice a5 x4.length c6) rfl (len_slice UN47) ?_
  refine WL.bin (v := .bool ((x1.length : Int) != (x4.length : Int))) rfl rfl (ib_neq _ _ _) ?_
  refine WL.nil ?_
  refine hK9 _ _ ?_
  rcases iteE hf with ⟨hc10, hf⟩ | ⟨hc10, hf⟩
  · refine W.cond_true (bool_tr rfl hc10) ?_
    refine W.seqK fun K11 hK11 => ?_
    refine W.region ?_
    refine WL.assign (v := .bool false) rfl ?_
    refine WL.nil ?_
    refine hK11 _ _ ?_
    refine W.ret ?_
    have hr := Option.some.inj hf; subst hr
    exact ⟨_, resOk_one rfl rfl, (), rfl, (hs.mask []).pick []⟩
  · refine W.cond_false (bool_tr rfl hc10) ?_
    refine W.skip ?_
    refine hK8 _ _ ?_
    refine W.seqK fun K12 hK12 => ?_
    have Jk14 : ∀  (ρ : Env) (w : World), St ok (bz w0) w [] [] → esref03_EqualVector.j1 = some r → K12 ρ w := by
      intro  ρ w  hs hf
      refine hK12 _ _ ?_
      unfold esref03_EqualVector.j1 at hf
      refine W.seqK fun K15 hK15 => ?_
      refine W.region ?_
      refine WL.assign (v := .bool true) rfl ?_
      refine WL.nil ?_
      refine hK15 _ _ ?_
      refine W.ret ?_
      have hr := Option.some.inj hf; subst hr
      exact ⟨_, resOk_one rfl rfl, (), rfl, (hs.mask []).pick []⟩
    refine W.seqK fun K16 hK16 => ?_
    refine W.region ?_
    refine WL.assign (v := .int .i64 0) rfl ?_
    refine WL.nil ?_
    refine hK16 _ _ ?_
    refine W.block ?_
    obtain ⟨bs19, hbs19, hfs19⟩ := bindE hf
    refine W.loop hbs19 (fun s ρ w => match s with | x18 => ρ 0 = .slice a2 x1.length c3 ∧ ρ 1 = .slice a5 x4.length c6 ∧ ρ 5 = .int .i64 x18 ∧ St ok (bz w0) w [vl (tSlice t_api_Entry) x1 (.slice a2 x1.length c3), vl (tSlice t_api_Entry) x4 (.slice a5 x4.length c6)] []) ⟨rfl, rfl, rfl, (hs.mask []).pick [0, 1]⟩ ?_
    intro x18 ρ w os19 hI hf hbbs19
    obtain ⟨h17_0, h17_1, h17_5, hs⟩ := hI
    unfold esref03_EqualVector.l1 at hf
    refine W.seqK fun K20 hK20 => ?_
    refine W.seqK fun K21 hK21 => ?_
    refine W.region ?_
    refine WL.move (v := .int .i64 x18) h17_5 ?_
    refine WL.move (v := .slice a2 x1.length c3) h17_0 ?_
    refine WL.len (v := .slice a2 x1.length c3) rfl (len_slice UN47) ?_
    refine WL.bin (v := .bool (decide (x18 < (x1.length : Int)))) rfl rfl (ib_lss _ _ _) ?_
    refine WL.nil ?_
    refine hK21 _ _ ?_
    rcases iteE hf with ⟨hc22, hf⟩ | ⟨hc22, hf⟩
    · refine W.cond_true (bool_tr rfl hc22) ?_
      refine W.skip ?_
      refine hK20 _ _ ?_
      refine W.seqK fun K23 hK23 => ?_
      refine W.block ?_
      refine W.seqK fun K24 hK24 => ?_
      obtain ⟨x25, hxx25, hf⟩ := bindE hf
      obtain ⟨x30, hxx30, hf⟩ := bindE hf
      refine W.any (by kernel_rfl) 9 0 [true, true, true, true, true, true, true, true, true] rfl rfl (poAt [pv (.slice a2 x1.length c3), pv (.int .i64 x18), pq (fun y : Addr => .pointer (some y)) (fun v => [pl t_api_Entry x25 (adOf v)]) (fun v => []), pq (fun y : List Value => .agg y.toArray) (fun v => [vl t_api_Entry x25 v]) (fun v => []), pv (.slice a5 x4.length c6), pv (.int .i64 x18), pq (fun y : Addr => .pointer (some y)) (fun v => [pl t_api_Entry x30 (adOf v)]) (fun v => []), pq (fun y : List Value => .agg y.toArray) (fun v => [vl t_api_Entry x30 v]) (fun v => []), pv (.bool (!decide ((⟨x25.Author, x25.Count⟩ : api_Entry) = (⟨x30.Author, x30.Count⟩ : api_Entry))))]) (Λ := []) hs (by kernel_rfl) (by kernel_rfl) (by kernel_rfl) ⟨⟨⟨⟨⟨⟨⟨⟨⟨trivial, ?_⟩, ?_⟩, ?_⟩, ?_⟩, ?_⟩, ?_⟩, ?_⟩, ?_⟩, ?_⟩ ?_
      · intro ρ w Γx Λx hs hu hp
        refine WL.move (v := .slice a2 x1.length c3) ((hu 0 rfl).trans h17_0) ?_
        exact WL.nil ⟨rfl, _, rfl, rfl, hs.cutG 0 0⟩
      · intro ρ w Γx Λx hs hu hp
        refine WL.move (v := .int .i64 x18) ((hu 5 rfl).trans h17_5) ?_
        exact WL.nil ⟨rfl, _, rfl, rfl, hs.cutG 0 0⟩
      · intro ρ w Γx Λx hs hu hp
        have e35 : ρ 17 = .slice a2 x1.length c3 := (hp 0 rfl).1
        have e36 : ρ 18 = .int .i64 x18 := (hp 1 rfl).1
        refine WL.indexAddr hs (Γx.length + 0) (getApp rfl) UN47 TI104 e35 e36 hxx25 (fun ad26 hs => ?_)
        have hs := hs.add (it := pl t_api_Entry x25 ad26) fun ok hA => hA.get 0 rfl
        exact WL.nil ⟨rfl, _, rfl, ⟨ad26, rfl⟩, hs.cutG 1 1⟩
      · intro ρ w Γx Λx hs hu hp
        obtain ⟨⟨ad37, e38r⟩, hm39⟩ := hp 2 rfl
        have e38 : ρ 19 = .pointer (some ad37) := e38r
        rw [e38r] at hm39
        have hs := hs.memo1 (it := pl t_api_Entry x25 ad37) (List.mem_append.2 (.inl (hm39 _ (List.mem_of_getElem? (i := 0) rfl))))
        refine WL.loadP hs 0 rfl TI104 (.inl rfl) e38 (fun v27 hs => ?_)
        obtain ⟨cs28, hl29, rfl⟩ := hs.aggv (n := 2) 0 rfl rfl rfl
        have hs := hs.add (it := vl t_api_Entry x25 (.agg cs28.toArray)) fun ok hA => hA.get 0 rfl
        exact WL.nil ⟨rfl, _, rfl, ⟨cs28, rfl⟩, hs.cutG 1 2⟩
      · intro ρ w Γx Λx hs hu hp
        refine WL.move (v := .slice a5 x4.length c6) ((hu 1 rfl).trans h17_1) ?_
        exact WL.nil ⟨rfl, _, rfl, rfl, hs.cutG 0 0⟩
      · intro ρ w Γx Λx hs hu hp
        refine WL.move (v := .int .i64 x18) ((hu 5 rfl).trans h17_5) ?_
        exact WL.nil ⟨rfl, _, rfl, rfl, hs.cutG 0 0⟩
      · intro ρ w Γx Λx hs hu hp
        have e40 : ρ 21 = .slice a5 x4.length c6 := (hp 4 rfl).1
        have e41 : ρ 22 = .int .i64 x18 := (hp 5 rfl).1
        refine WL.indexAddr hs (Γx.length + 1) (getApp rfl) UN47 TI104 e40 e41 hxx30 (fun ad31 hs => ?_)
        have hs := hs.add (it := pl t_api_Entry x30 ad31) fun ok hA => hA.get 0 rfl
        exact WL.nil ⟨rfl, _, rfl, ⟨ad31, rfl⟩, hs.cutG 1 1⟩
      · intro ρ w Γx Λx hs hu hp
        obtain ⟨⟨ad42, e43r⟩, hm44⟩ := hp 6 rfl
        have e43 : ρ 23 = .pointer (some ad42) := e43r
        rw [e43r] at hm44
        have hs := hs.memo1 (it := pl t_api_Entry x30 ad42) (List.mem_append.2 (.inl (hm44 _ (List.mem_of_getElem? (i := 0) rfl))))
        refine WL.loadP hs 0 rfl TI104 (.inl rfl) e43 (fun v32 hs => ?_)
        obtain ⟨cs33, hl34, rfl⟩ := hs.aggv (n := 2) 0 rfl rfl rfl
        have hs := hs.add (it := vl t_api_Entry x30 (.agg cs33.toArray)) fun ok hA => hA.get 0 rfl
        exact WL.nil ⟨rfl, _, rfl, ⟨cs33, rfl⟩, hs.cutG 1 2⟩
      · intro ρ w Γx Λx hs hu hp
        obtain ⟨⟨cs45, e47r⟩, hm48⟩ := hp 3 rfl
        have e47 : ρ 20 = .agg cs45.toArray := e47r
        rw [e47r] at hm48
        have hs := hs.memo1 (it := vl t_api_Entry x25 (.agg cs45.toArray)) (List.mem_append.2 (.inl (hm48 _ (List.mem_of_getElem? (i := 0) rfl))))
        have hl46 := hs.agglen (n := 2) 0 rfl rfl rfl
        obtain ⟨⟨cs49, e51r⟩, hm52⟩ := hp 7 rfl
        have e51 : ρ 24 = .agg cs49.toArray := e51r
        rw [e51r] at hm52
        have hs := hs.memo1 (it := vl t_api_Entry x30 (.agg cs49.toArray)) (List.mem_cons_of_mem _ (List.mem_append.2 (.inl (hm52 _ (List.mem_of_getElem? (i := 0) rfl)))))
        have hl50 := hs.agglen (n := 2) 0 rfl rfl rfl
        obtain rfl := open_api_Entry hs 1 rfl
        obtain rfl := open_api_Entry hs 0 rfl
        refine WL.eqA e47 e51 EG104 (NQ104 (⟨x25.Author, x25.Count⟩ : api_Entry) (⟨x30.Author, x30.Count⟩ : api_Entry)) ?_
        exact WL.nil ⟨rfl, _, rfl, rfl, hs.cutG 0 2⟩
      · intro ρ w hs hu53 hp
        obtain ⟨⟨⟨⟨⟨⟨⟨⟨⟨_, hp0_⟩, hp1_⟩, hp2_⟩, hp3_⟩, hp4_⟩, hp5_⟩, hp6_⟩, hp7_⟩, hp8_⟩ := hp
        have hs : St ok (bz w0) w [vl t_api_Entry x30 (ρ 24), pl t_api_Entry x30 (adOf (ρ 23)), vl t_api_Entry x25 (ρ 20), pl t_api_Entry x25 (adOf (ρ 19)), vl (tSlice t_api_Entry) x1 (.slice a2 x1.length c3), vl (tSlice t_api_Entry) x4 (.slice a5 x4.length c6)] [] := hs
        have e54 : ρ 25 = .bool (!decide ((⟨x25.Author, x25.Count⟩ : api_Entry) = (⟨x30.Author, x30.Count⟩ : api_Entry))) := hp8_
        obtain ⟨cs55, e57⟩ := hp7_
        have e57 : ρ 24 = .agg cs55.toArray := e57
        try rw [e57] at hs
        obtain ⟨ad58, e59⟩ := hp6_
        have e59 : ρ 23 = .pointer (some ad58) := e59
        try rw [e59] at hs
        have e60 : ρ 22 = .int .i64 x18 := hp5_
        have e61 : ρ 21 = .slice a5 x4.length c6 := hp4_
        obtain ⟨cs62, e64⟩ := hp3_
        have e64 : ρ 20 = .agg cs62.toArray := e64
        try rw [e64] at hs
        obtain ⟨ad65, e66⟩ := hp2_
        have e66 : ρ 19 = .pointer (some ad65) := e66
        try rw [e66] at hs
        have e67 : ρ 18 = .int .i64 x18 := hp1_
        have e68 : ρ 17 = .slice a2 x1.length c3 := hp0_
        have hl63 := hs.agglen (n := 2) 2 rfl rfl rfl
        have hl56 := hs.agglen (n := 2) 0 rfl rfl rfl
        refine WA.done (by kernel_rfl) ?_
        refine hK24 _ _ ?_
        rcases iteE hf with ⟨hc69, hf⟩ | ⟨hc69, hf⟩
        · refine W.cond_true (bool_tr e54 hc69) ?_
          refine W.seqK fun K70 hK70 => ?_
          refine W.region ?_
          refine WL.assign (v := .bool false) rfl ?_
          refine WL.nil ?_
          refine hK70 _ _ ?_
          refine W.ret ?_
          have hr := Option.some.inj hf; subst hr
          have hr := hbbs19 _ rfl; subst hr
          have hf := hfs19
          have hr := Option.some.inj hf; subst hr
          exact ⟨_, resOk_one rfl rfl, (), rfl, (hs.mask []).pick []⟩
        · refine W.cond_false (bool_tr e54 hc69) ?_
          refine W.skip ?_
          refine hK23 _ _ ?_
          refine W.region ?_
          refine WL.move (v := .int .i64 x18) ((hu53 5 rfl).trans h17_5) ?_
          obtain ⟨x71, ex71, hf⟩ := letE hf
          refine WL.bin (v := .int .i64 x71) rfl rfl (ib_as ex71 (ib_add _ _ _)) ?_
          refine WL.assign (v := .int .i64 x71) rfl ?_
          refine WL.nil ?_
          exact ⟨_, (Option.some.inj hf).symm, ((hu53 0 rfl).trans h17_0), ((hu53 1 rfl).trans h17_1), rfl, (hs.mask []).pick [4, 5]⟩
    · refine W.cond_false (bool_tr rfl hc22) ?_
      refine W.exit ?_
      have hr := Option.some.inj hf; subst hr
      have hr := hbbs19 _ rfl; subst hr
      have hf := hfs19
      exact Jk14  _ _  ((hs.mask []).pick []) hf
/-! elasticstore/elasticstoreref14.EqualMessage: function 24 -/
theorem esref14_EqualMessage.calls {ok : Nat → Prop} {w0 : World} {x1 : api_Message} {x5 : api_Message} {v2 : Value} {v6 : Value} {r : Bool} (hf : esref14_EqualMessage x1 x5 = some r) (i0 : (vl t_api_Message x1 v2).holds ok w0) (i1 : (vl t_api_Message x5 v6).holds ok w0) :
    Calls Try.prog 24 #[v2, v6] w0 fun e w' => ∃ v, e = .returned v ∧ ∃ y : Unit, v = .bool r ∧ St ok (bz w0) w' [] [] := by
  unfold esref14_EqualMessage at hf
  refine calls_of_W (fn := Try.f24) (N := 99) Try.func24 rfl Try.ntmps24 rfl ?_
  have hs : St ok (bz w0) w0 [vl t_api_Message x1 v2, vl t_api_Message x5 v6] [] := St.init (All.cons i0 (All.cons i1 All.nil))
  clear i0 i1
  obtain ⟨cs3, hl4, rfl⟩ := hs.aggv (n := 18) 0 rfl rfl rfl
  obtain ⟨cs7, hl8, rfl⟩ := hs.aggv (n := 18) 1 rfl rfl rfl
  refine W.seqK fun K9 hK9 => ?_
  refine W.region ?_
  refine WL.box (vs := cs3) hs rfl rfl (fun g10 w hs => ?_)
  refine WL.box (vs := cs7) hs rfl rfl (fun g11 w hs => ?_)
  refine WL.assign (v := .bool false) rfl ?_
  refine WL.nil ?_
  refine hK9 _ _ ?_
  refine W.seqK fun K12 hK12 => ?_
  refine W.seqK fun K13 hK13 => ?_
  have Jk16 : ∀ (x15 : Bool) (ρ : Env) (w : World), ρ 2 = .pointer (some ⟨g10, 0, none⟩) → ρ 3 = .pointer (some ⟨g11, 0, none⟩) → ρ 58 = .bool x15 → St ok (bz w0) w [vl t_api_Message x5 (.agg cs7.toArray), vl t_api_Message x1 (.agg cs3.toArray)] [blk g11 49 cs7, blk g10 49 cs3] → esref14_EqualMessage.j2 x1 x5 x15 = some r → K13 ρ w := by
    intro x15 ρ w h14_2 h14_3 h14_58 hs hf
    refine hK13 _ _ ?_
    unfold esref14_EqualMessage.j2 at hf
    rcases iteE hf with ⟨hc17, hf⟩ | ⟨hc17, hf⟩
    · refine W.cond_true (bool_tr h14_58 hc17) ?_
      refine W.seqK fun K18 hK18 => ?_
      refine W.region ?_
      refine WL.assign (v := .bool false) rfl ?_
      refine WL.nil ?_
      refine hK18 _ _ ?_
      refine W.ret ?_
      have hr := Option.some.inj hf; subst hr
      exact ⟨_, resOk_one rfl rfl, (), rfl, (hs.mask []).pick []⟩
    · refine W.cond_false (bool_tr h14_58 hc17) ?_
      refine W.skip ?_
      refine hK12 _ _ ?_
      refine W.seqK fun K19 hK19 => ?_
      have Jk22 : ∀ (x21 : Bool) (ρ : Env) (w : World), ρ 4 = .bool x21 → St ok (bz w0) w [] [] → esref14_EqualMessage.j1 x21 = some r → K19 ρ w := by
        intro x21 ρ w h20_4 hs hf
        refine hK19 _ _ ?_
        unfold esref14_EqualMessage.j1 at hf
        refine W.ret ?_
        have hr := Option.some.inj hf; subst hr
        exact ⟨_, resOk_one rfl h20_4, (), rfl, (hs.mask []).pick []⟩
      refine W.region ?_
      refine WL.fieldAddr (m := 7) h14_2 FA49_6 rfl ?_
      refine WL.loadF (z := x1.Cert) F_api_Message_Cert hs 1 rfl 1 rfl rfl TI43 (.inl rfl) rfl rfl (fun v23 hs => ?_)
      obtain ⟨cs24, hl25, rfl⟩ := hs.aggv (n := 2) 0 rfl rfl rfl
      refine WL.fieldAddr (m := 7) h14_3 FA49_6 rfl ?_
      refine WL.loadF (z := x5.Cert) F_api_Message_Cert hs 0 rfl 1 rfl rfl TI43 (.inl rfl) rfl rfl (fun v26 hs => ?_)
      obtain ⟨cs27, hl28, rfl⟩ := hs.aggv (n := 2) 0 rfl rfl rfl
      obtain ⟨x29, hxx29, hf⟩ := bindE hf
      refine WL.call (vs := [.agg cs24.toArray, .agg cs27.toArray]) hs FN42 ⟨rfl, ⟨rfl, trivial⟩⟩ (fun ok hA => esref14_EqualCert.calls (x1 := x1.Cert) (x5 := x5.Cert) hxx29 (hA.get 1 rfl) (hA.get 0 rfl)) ?_
      rintro _ w hs
      refine WL.move (v := .bool x29) rfl ?_
      rcases iteE hf with ⟨hc30, hf⟩ | ⟨hc30, hf⟩
      · refine WL.fieldAddr (m := 9) h14_2 FA49_7 rfl ?_ (hg := (wanted_of rfl rfl (bool_tr rfl hc30)).trans rfl)
        refine WL.loadF (z := x1.Base) F_api_Message_Base hs 1 rfl 3 rfl rfl TI43 (.inl rfl) rfl rfl (fun v31 hs => ?_) (hg := (wanted_of rfl rfl (bool_tr rfl hc30)).trans rfl)
        obtain ⟨cs32, hl33, rfl⟩ := hs.aggv (n := 2) 0 rfl rfl rfl
        refine WL.fieldAddr (m := 9) h14_3 FA49_7 rfl ?_ (hg := (wanted_of rfl rfl (bool_tr rfl hc30)).trans rfl)
        refine WL.loadF (z := x5.Base) F_api_Message_Base hs 0 rfl 3 rfl rfl TI43 (.inl rfl) rfl rfl (fun v34 hs => ?_) (hg := (wanted_of rfl rfl (bool_tr rfl hc30)).trans rfl)
        obtain ⟨cs35, hl36, rfl⟩ := hs.aggv (n := 2) 0 rfl rfl rfl
        obtain ⟨x37, hxx37, hf⟩ := bindE hf
        refine WL.call (vs := [.agg cs32.toArray, .agg cs35.toArray]) hs FN42 ⟨rfl, ⟨rfl, trivial⟩⟩ (fun ok hA => esref14_EqualCert.calls (x1 := x1.Base) (x5 := x5.Base) hxx37 (hA.get 1 rfl) (hA.get 0 rfl)) ?_ (hg := (wanted_of rfl rfl (bool_tr rfl hc30)).trans rfl)
        rintro _ w hs
        refine WL.pickT (v := .bool x37) (bool_tr rfl hc30) rfl ?_
        refine WL.move (v := .bool x37) rfl ?_
        rcases iteE hf with ⟨hc38, hf⟩ | ⟨hc38, hf⟩
        · refine WL.fieldAddr (m := 12) h14_2 FA49_9 rfl ?_ (hg := (wanted_of rfl rfl (bool_tr rfl hc38)).trans rfl)
          refine WL.loadF (z := x1.Established) F_api_Message_Established hs 1 rfl 5 rfl rfl TI43 (.inl rfl) rfl rfl (fun v39 hs => ?_) (hg := (wanted_of rfl rfl (bool_tr rfl hc38)).trans rfl)
          obtain ⟨cs40, hl41, rfl⟩ := hs.aggv (n := 2) 0 rfl rfl rfl
          refine WL.fieldAddr (m := 12) h14_3 FA49_9 rfl ?_ (hg := (wanted_of rfl rfl (bool_tr rfl hc38)).trans rfl)
          refine WL.loadF (z := x5.Established) F_api_Message_Established hs 0 rfl 5 rfl rfl TI43 (.inl rfl) rfl rfl (fun v42 hs => ?_) (hg := (wanted_of rfl rfl (bool_tr rfl hc38)).trans rfl)
          obtain ⟨cs43, hl44, rfl⟩ := hs.aggv (n := 2) 0 rfl rfl rfl
          obtain ⟨x45, hxx45, hf⟩ := bindE hf
          refine WL.call (vs := [.agg cs40.toArray, .agg cs43.toArray]) hs FN42 ⟨rfl, ⟨rfl, trivial⟩⟩ (fun ok hA => esref14_EqualCert.calls (x1 := x1.Established) (x5 := x5.Established) hxx45 (hA.get 1 rfl) (hA.get 0 rfl)) ?_ (hg := (wanted_of rfl rfl (bool_tr rfl hc38)).trans rfl)
          rintro _ w hs
          refine WL.pickT (v := .bool x45) (bool_tr rfl hc38) rfl ?_
          refine WL.move (v := .bool x45) rfl ?_
          rcases iteE hf with ⟨hc46, hf⟩ | ⟨hc46, hf⟩
          · refine WL.fieldAddr (m := 14) h14_2 FA49_10 rfl ?_ (hg := (wanted_of rfl rfl (bool_tr rfl hc46)).trans rfl)
            refine WL.loadF (z := x1.Config) F_api_Message_Config hs 1 rfl 7 rfl rfl TI41 (.inr rfl) rfl rfl (fun v47 hs => ?_) (hg := (wanted_of rfl rfl (bool_tr rfl hc46)).trans rfl)
            obtain ⟨a48, c49, rfl⟩ := hs.slice 0 rfl
            refine WL.fieldAddr (m := 14) h14_3 FA49_10 rfl ?_ (hg := (wanted_of rfl rfl (bool_tr rfl hc46)).trans rfl)
            refine WL.loadF (z := x5.Config) F_api_Message_Config hs 0 rfl 7 rfl rfl TI41 (.inr rfl) rfl rfl (fun v50 hs => ?_) (hg := (wanted_of rfl rfl (bool_tr rfl hc46)).trans rfl)
            obtain ⟨a51, c52, rfl⟩ := hs.slice 0 rfl
            obtain ⟨x53, hxx53, hf⟩ := bindE hf
            refine WL.call (vs := [.slice a48 (x1.Config).length c49, .slice a51 (x5.Config).length c52]) hs FN43 ⟨rfl, ⟨rfl, trivial⟩⟩ (fun ok hA => esref06_EqualConfig.calls (x1 := x1.Config) (x4 := x5.Config) hxx53 (hA.get 1 rfl) (hA.get 0 rfl)) ?_ (hg := (wanted_of rfl rfl (bool_tr rfl hc46)).trans rfl)
            rintro _ w hs
            refine WL.pickT (v := .bool x53) (bool_tr rfl hc46) rfl ?_
            refine WL.move (v := .bool x53) rfl ?_
            rcases iteE hf with ⟨hc54, hf⟩ | ⟨hc54, hf⟩
            · refine WL.fieldAddr (m := 15) h14_2 FA49_11 rfl ?_ (hg := (wanted_of rfl rfl (bool_tr rfl hc54)).trans rfl)
              refine WL.loadF (z := x1.State) F_api_Message_State hs 1 rfl 9 rfl rfl TI45 (.inr rfl) rfl rfl (fun v55 hs => ?_) (hg := (wanted_of rfl rfl (bool_tr rfl hc54)).trans rfl)
              obtain ⟨a56, c57, rfl⟩ := hs.slice 0 rfl
              refine WL.fieldAddr (m := 15) h14_3 FA49_11 rfl ?_ (hg := (wanted_of rfl rfl (bool_tr rfl hc54)).trans rfl)
              refine WL.loadF (z := x5.State) F_api_Message_State hs 0 rfl 9 rfl rfl TI45 (.inr rfl) rfl rfl (fun v58 hs => ?_) (hg := (wanted_of rfl rfl (bool_tr rfl hc54)).trans rfl)
              obtain ⟨a59, c60, rfl⟩ := hs.slice 0 rfl
              obtain ⟨x61, hxx61, hf⟩ := bindE hf
              refine WL.call (vs := [.slice a56 (x1.State).length c57, .slice a59 (x5.State).length c60]) hs FN44 ⟨rfl, ⟨rfl, trivial⟩⟩ (fun ok hA => esref14_EqualState.calls (x1 := x1.State) (x4 := x5.State) hxx61 (hA.get 1 rfl) (hA.get 0 rfl)) ?_ (hg := (wanted_of rfl rfl (bool_tr rfl hc54)).trans rfl)
              rintro _ w hs
              refine WL.pickT (v := .bool x61) (bool_tr rfl hc54) rfl ?_
              refine WL.move (v := .bool x61) rfl ?_
              rcases iteE hf with ⟨hc62, hf⟩ | ⟨hc62, hf⟩
              · refine WL.fieldAddr (m := 16) h14_2 FA49_12 rfl ?_ (hg := (wanted_of rfl rfl (bool_tr rfl hc62)).trans rfl)
                refine WL.loadF (z := x1.Have) F_api_Message_Have hs 1 rfl 11 rfl rfl TI47 (.inr rfl) rfl rfl (fun v63 hs => ?_) (hg := (wanted_of rfl rfl (bool_tr rfl hc62)).trans rfl)
                obtain ⟨a64, c65, rfl⟩ := hs.slice 0 rfl
                refine WL.fieldAddr (m := 16) h14_3 FA49_12 rfl ?_ (hg := (wanted_of rfl rfl (bool_tr rfl hc62)).trans rfl)
                refine WL.loadF (z := x5.Have) F_api_Message_Have hs 0 rfl 11 rfl rfl TI47 (.inr rfl) rfl rfl (fun v66 hs => ?_) (hg := (wanted_of rfl rfl (bool_tr rfl hc62)).trans rfl)
                obtain ⟨a67, c68, rfl⟩ := hs.slice 0 rfl
                obtain ⟨x69, hxx69, hf⟩ := bindE hf
                refine WL.call (vs := [.slice a64 (x1.Have).length c65, .slice a67 (x5.Have).length c68]) hs FN45 ⟨rfl, ⟨rfl, trivial⟩⟩ (fun ok hA => esref03_EqualVector.calls (x1 := x1.Have) (x4 := x5.Have) hxx69 (hA.get 1 rfl) (hA.get 0 rfl)) ?_ (hg := (wanted_of rfl rfl (bool_tr rfl hc62)).trans rfl)
                rintro _ w hs
                refine WL.pickT (v := .bool x69) (bool_tr rfl hc62) rfl ?_
                refine WL.assign (v := .bool x69) rfl ?_
                refine WL.nil ?_
                exact Jk22 x69 _ _ rfl ((hs.mask []).pick []) hf
              · refine WL.pass ((wanted_of rfl rfl (bool_tr rfl hc62)).trans rfl) rfl ?_
                refine WL.pass ((wanted_of rfl rfl (bool_tr rfl hc62)).trans rfl) rfl ?_
                refine WL.pass ((wanted_of rfl rfl (bool_tr rfl hc62)).trans rfl) rfl ?_
                refine WL.pass ((wanted_of rfl rfl (bool_tr rfl hc62)).trans rfl) rfl ?_
                refine WL.pass ((wanted_of rfl rfl (bool_tr rfl hc62)).trans rfl) rfl ?_
                refine WL.pickF (v := .bool false) (bool_tr rfl hc62) rfl ?_
                refine WL.assign (v := .bool false) rfl ?_
                refine WL.nil ?_
                exact Jk22 false _ _ rfl ((hs.mask []).pick []) hf
            · refine WL.pass ((wanted_of rfl rfl (bool_tr rfl hc54)).trans rfl) rfl ?_
              refine WL.pass ((wanted_of rfl rfl (bool_tr rfl hc54)).trans rfl) rfl ?_
              refine WL.pass ((wanted_of rfl rfl (bool_tr rfl hc54)).trans rfl) rfl ?_
              refine WL.pass ((wanted_of rfl rfl (bool_tr rfl hc54)).trans rfl) rfl ?_
              refine WL.pass ((wanted_of rfl rfl (bool_tr rfl hc54)).trans rfl) rfl ?_
              refine WL.pickF (v := .bool false) (bool_tr rfl hc54) rfl ?_
              refine WL.move (v := .bool false) rfl ?_
              refine WL.pass ((wanted_of rfl rfl rfl).trans rfl) rfl ?_
              refine WL.pass ((wanted_of rfl rfl rfl).trans rfl) rfl ?_
              refine WL.pass ((wanted_of rfl rfl rfl).trans rfl) rfl ?_
              refine WL.pass ((wanted_of rfl rfl rfl).trans rfl) rfl ?_
              refine WL.pass ((wanted_of rfl rfl rfl).trans rfl) rfl ?_
              refine WL.pickF (v := .bool false) rfl rfl ?_
              refine WL.assign (v := .bool false) rfl ?_
              refine WL.nil ?_
              exact Jk22 false _ _ rfl ((hs.mask []).pick []) hf
          · refine WL.pass ((wanted_of rfl rfl (bool_tr rfl hc46)).trans rfl) rfl ?_
            refine WL.pass ((wanted_of rfl rfl (bool_tr rfl hc46)).trans rfl) rfl ?_
            refine WL.pass ((wanted_of rfl rfl (bool_tr rfl hc46)).trans rfl) rfl ?_
            refine WL.pass ((wanted_of rfl rfl (bool_tr rfl hc46)).trans rfl) rfl ?_
            refine WL.pass ((wanted_of rfl rfl (bool_tr rfl hc46)).trans rfl) rfl ?_
            refine WL.pickF (v := .bool false) (bool_tr rfl hc46) rfl ?_
            refine WL.move (v := .bool false) rfl ?_
            refine WL.pass ((wanted_of rfl rfl rfl).trans rfl) rfl ?_
            refine WL.pass ((wanted_of rfl rfl rfl).trans rfl) rfl ?_
            refine WL.pass ((wanted_of rfl rfl rfl).trans rfl) rfl ?_
            refine WL.pass ((wanted_of rfl rfl rfl).trans rfl) rfl ?_
            refine WL.pass ((wanted_of rfl rfl rfl).trans rfl) rfl ?_
            refine WL.pickF (v := .bool false) rfl rfl ?_
            refine WL.move (v := .bool false) rfl ?_
            refine WL.pass ((wanted_of rfl rfl rfl).trans rfl) rfl ?_
            refine WL.pass ((wanted_of rfl rfl rfl).trans rfl) rfl ?_
            refine WL.pass ((wanted_of rfl rfl rfl).trans rfl) rfl ?_
            refine WL.pass ((wanted_of rfl rfl rfl).trans rfl) rfl ?_
            refine WL.pass ((wanted_of rfl rfl rfl).trans rfl) rfl ?_
            refine WL.pickF (v := .bool false) rfl rfl ?_
            refine WL.assign (v := .bool false) rfl ?_
            refine WL.nil ?_
            exact Jk22 false _ _ rfl ((hs.mask []).pick []) hf
        · refine WL.pass ((wanted_of rfl rfl (bool_tr rfl hc38)).trans rfl) rfl ?_
          refine WL.pass ((wanted_of rfl rfl (bool_tr rfl hc38)).trans rfl) rfl ?_
          refine WL.pass ((wanted_of rfl rfl (bool_tr rfl hc38)).trans rfl) rfl ?_
          refine WL.pass ((wanted_of rfl rfl (bool_tr rfl hc38)).trans rfl) rfl ?_
          refine WL.pass ((wanted_of rfl rfl (bool_tr rfl hc38)).trans rfl) rfl ?_
          refine WL.pickF (v := .bool false) (bool_tr rfl hc38) rfl ?_
          refine WL.move (v := .bool false) rfl ?_
          refine WL.pass ((wanted_of rfl rfl rfl).trans rfl) rfl ?_
          refine WL.pass ((wanted_of rfl rfl rfl).trans rfl) rfl ?_
          refine WL.pass ((wanted_of rfl rfl rfl).trans rfl) rfl ?_
          refine WL.pass ((wanted_of rfl rfl rfl).trans rfl) rfl ?_
          refine WL.pass ((wanted_of rfl rfl rfl).trans rfl) rfl ?_
          refine WL.pickF (v := .bool false) rfl rfl ?_
          refine WL.move (v := .bool false) rfl ?_
          refine WL.pass ((wanted_of rfl rfl rfl).trans rfl) rfl ?_
          refine WL.pass ((wanted_of rfl rfl rfl).trans rfl) rfl ?_
          refine WL.pass ((wanted_of rfl rfl rfl).trans rfl) rfl ?_
          refine WL.pass ((wanted_of rfl rfl rfl).trans rfl) rfl ?_
          refine WL.pass ((wanted_of rfl rfl rfl).trans rfl) rfl ?_
          refine WL.pickF (v := .bool false) rfl rfl ?_
          refine WL.move (v := .bool false) rfl ?_
          refine WL.pass ((wanted_of rfl rfl rfl).trans rfl) rfl ?_
          refine WL.pass ((wanted_of rfl rfl rfl).trans rfl) rfl ?_
          refine WL.pass ((wanted_of rfl rfl rfl).trans rfl) rfl ?_
          refine WL.pass ((wanted_of rfl rfl rfl).trans rfl) rfl ?_
          refine WL.pass ((wanted_of rfl rfl rfl).trans rfl) rfl ?_
          refine WL.pickF (v := .bool false) rfl rfl ?_
          refine WL.assign (v := .bool false) rfl ?_
          refine WL.nil ?_
          exact Jk22 false _ _ rfl ((hs.mask []).pick []) hf
      · refine WL.pass ((wanted_of rfl rfl (bool_tr rfl hc30)).trans rfl) rfl ?_
        refine WL.pass ((wanted_of rfl rfl (bool_tr rfl hc30)).trans rfl) rfl ?_
        refine WL.pass ((wanted_of rfl rfl (bool_tr rfl hc30)).trans rfl) rfl ?_
        refine WL.pass ((wanted_of rfl rfl (bool_tr rfl hc30)).trans rfl) rfl ?_
        refine WL.pass ((wanted_of rfl rfl (bool_tr rfl hc30)).trans rfl) rfl ?_
        refine WL.pickF (v := .bool false) (bool_tr rfl hc30) rfl ?_
        refine WL.move (v := .bool false) rfl ?_
        refine WL.pass ((wanted_of rfl rfl rfl).trans rfl) rfl ?_
        refine WL.pass ((wanted_of rfl rfl rfl).trans rfl) rfl ?_
        refine WL.pass ((wanted_of rfl rfl rfl).trans rfl) rfl ?_
        refine WL.pass ((wanted_of rfl rfl rfl).trans rfl) rfl ?_
        refine WL.pass ((wanted_of rfl rfl rfl).trans rfl) rfl ?_
        refine WL.pickF (v := .bool false) rfl rfl ?_
        refine WL.move (v := .bool false) rfl ?_
        refine WL.pass ((wanted_of rfl rfl rfl).trans rfl) rfl ?_
        refine WL.pass ((wanted_of rfl rfl rfl).trans rfl) rfl ?_
        refine WL.pass ((wanted_of rfl rfl rfl).trans rfl) rfl ?_
        refine WL.pass ((wanted_of rfl rfl rfl).trans rfl) rfl ?_
        refine WL.pass ((wanted_of rfl rfl rfl).trans rfl) rfl ?_
        refine WL.pickF (v := .bool false) rfl rfl ?_
        refine WL.move (v := .bool false) rfl ?_
        refine WL.pass ((wanted_of rfl rfl rfl).trans rfl) rfl ?_
        refine WL.pass ((wanted_of rfl rfl rfl).trans rfl) rfl ?_
        refine WL.pass ((wanted_of rfl rfl rfl).trans rfl) rfl ?_
        refine WL.pass ((wanted_of rfl rfl rfl).trans rfl) rfl ?_
        refine WL.pass ((wanted_of rfl rfl rfl).trans rfl) rfl ?_
        refine WL.pickF (v := .bool false) rfl rfl ?_
        refine WL.move (v := .bool false) rfl ?_
        refine WL.pass ((wanted_of rfl rfl rfl).trans rfl) rfl ?_
        refine WL.pass ((wanted_of rfl rfl rfl).trans rfl) rfl ?_
        refine WL.pass ((wanted_of rfl rfl rfl).trans rfl) rfl ?_
        refine WL.pass ((wanted_of rfl rfl rfl).trans rfl) rfl ?_
        refine WL.pass ((wanted_of rfl rfl rfl).trans rfl) rfl ?_
        refine WL.pickF (v := .bool false) rfl rfl ?_
        refine WL.assign (v := .bool false) rfl ?_
        refine WL.nil ?_
        exact Jk22 false _ _ rfl ((hs.mask []).pick []) hf
  refine W.region ?_
  refine WL.fieldAddr (m := 0) rfl FA49_0 rfl ?_
  refine WL.loadF (z := x1.Kind) F_api_Message_Kind hs 1 rfl 0 rfl rfl TI3 (.inr rfl) rfl rfl (fun v70 hs => ?_)
  obtain rfl := hs.int 0 rfl
  refine WL.fieldAddr (m := 0) rfl FA49_0 rfl ?_
  refine WL.loadF (z := x5.Kind) F_api_Message_Kind hs 0 rfl 2 rfl rfl TI3 (.inr rfl) rfl rfl (fun v71 hs => ?_)
  obtain rfl := hs.int 0 rfl
  refine WL.bin (v := .bool (x1.Kind != x5.Kind)) rfl rfl (ib_neq _ _ _) ?_
  refine WL.move (v := .bool (x1.Kind != x5.Kind)) rfl ?_
  rcases iteE hf with ⟨hc72, hf⟩ | ⟨hc72, hf⟩
  · refine WL.pass ((wanted_of rfl rfl (bool_tr rfl hc72)).trans rfl) rfl ?_
    refine WL.pass ((wanted_of rfl rfl (bool_tr rfl hc72)).trans rfl) rfl ?_
    refine WL.pass ((wanted_of rfl rfl (bool_tr rfl hc72)).trans rfl) rfl ?_
    refine WL.pass ((wanted_of rfl rfl (bool_tr rfl hc72)).trans rfl) rfl ?_
    refine WL.pass ((wanted_of rfl rfl (bool_tr rfl hc72)).trans rfl) rfl ?_
    refine WL.pickT (v := .bool true) (bool_tr rfl hc72) rfl ?_
    refine WL.move (v := .bool true) rfl ?_
    refine WL.pass ((wanted_of rfl rfl rfl).trans rfl) rfl ?_
    refine WL.pass ((wanted_of rfl rfl rfl).trans rfl) rfl ?_
    refine WL.pass ((wanted_of rfl rfl rfl).trans rfl) rfl ?_
    refine WL.pass ((wanted_of rfl rfl rfl).trans rfl) rfl ?_
    refine WL.pass ((wanted_of rfl rfl rfl).trans rfl) rfl ?_
    refine WL.pickT (v := .bool true) rfl rfl ?_
    refine WL.move (v := .bool true) rfl ?_
    refine WL.pass ((wanted_of rfl rfl rfl).trans rfl) rfl ?_
    refine WL.pass ((wanted_of rfl rfl rfl).trans rfl) rfl ?_
    refine WL.pass ((wanted_of rfl rfl rfl).trans rfl) rfl ?_
    refine WL.pass ((wanted_of rfl rfl rfl).trans rfl) rfl ?_
    refine WL.pass ((wanted_of rfl rfl rfl).trans rfl) rfl ?_
    refine WL.pickT (v := .bool true) rfl rfl ?_
    refine WL.move (v := .bool true) rfl ?_
    refine WL.pass ((wanted_of rfl rfl rfl).trans rfl) rfl ?_
    refine WL.pass ((wanted_of rfl rfl rfl).trans rfl) rfl ?_
    refine WL.pass ((wanted_of rfl rfl rfl).trans rfl) rfl ?_
    refine WL.pass ((wanted_of rfl rfl rfl).trans rfl) rfl ?_
    refine WL.pass ((wanted_of rfl rfl rfl).trans rfl) rfl ?_
    refine WL.pickT (v := .bool true) rfl rfl ?_
    refine WL.move (v := .bool true) rfl ?_
    refine WL.pass ((wanted_of rfl rfl rfl).trans rfl) rfl ?_
    refine WL.pass ((wanted_of rfl rfl rfl).trans rfl) rfl ?_
    refine WL.pass ((wanted_of rfl rfl rfl).trans rfl) rfl ?_
    refine WL.pass ((wanted_of rfl rfl rfl).trans rfl) rfl ?_
    refine WL.pass ((wanted_of rfl rfl rfl).trans rfl) rfl ?_
    refine WL.pickT (v := .bool true) rfl rfl ?_
    refine WL.move (v := .bool true) rfl ?_
    refine WL.pass ((wanted_of rfl rfl rfl).trans rfl) rfl ?_
    refine WL.pass ((wanted_of rfl rfl rfl).trans rfl) rfl ?_
    refine WL.pass ((wanted_of rfl rfl rfl).trans rfl) rfl ?_
    refine WL.pass ((wanted_of rfl rfl rfl).trans rfl) rfl ?_
    refine WL.pass ((wanted_of rfl rfl rfl).trans rfl) rfl ?_
    refine WL.pickT (v := .bool true) rfl rfl ?_
    refine WL.move (v := .bool true) rfl ?_
    refine WL.pass ((wanted_of rfl rfl rfl).trans rfl) rfl ?_
    refine WL.pass ((wanted_of rfl rfl rfl).trans rfl) rfl ?_
    refine WL.pass ((wanted_of rfl rfl rfl).trans rfl) rfl ?_
    refine WL.pass ((wanted_of rfl rfl rfl).trans rfl) rfl ?_
    refine WL.pass ((wanted_of rfl rfl rfl).trans rfl) rfl ?_
    refine WL.pickT (v := .bool true) rfl rfl ?_
    refine WL.nil ?_
    exact Jk16 true _ _ rfl rfl rfl ((hs.mask [true, true]).pick [3, 2]) hf
  · refine WL.fieldAddr (m := 1) rfl FA49_1 rfl ?_ (hg := (wanted_of rfl rfl (bool_tr rfl hc72)).trans rfl)
    refine WL.loadF (z := x1.From) F_api_Message_From hs 1 rfl 2 rfl rfl TI3 (.inr rfl) rfl rfl (fun v73 hs => ?_) (hg := (wanted_of rfl rfl (bool_tr rfl hc72)).trans rfl)
    obtain rfl := hs.int 0 rfl
    refine WL.fieldAddr (m := 1) rfl FA49_1 rfl ?_ (hg := (wanted_of rfl rfl (bool_tr rfl hc72)).trans rfl)
    refine WL.loadF (z := x5.From) F_api_Message_From hs 0 rfl 4 rfl rfl TI3 (.inr rfl) rfl rfl (fun v74 hs => ?_) (hg := (wanted_of rfl rfl (bool_tr rfl hc72)).trans rfl)
    obtain rfl := hs.int 0 rfl
    refine WL.bin (v := .bool (x1.From != x5.From)) rfl rfl (ib_neq _ _ _) ?_ (hg := (wanted_of rfl rfl (bool_tr rfl hc72)).trans rfl)
    refine WL.pickF (v := .bool (x1.From != x5.From)) (bool_tr rfl hc72) rfl ?_
    refine WL.move (v := .bool (x1.From != x5.From)) rfl ?_
    rcases iteE hf with ⟨hc75, hf⟩ | ⟨hc75, hf⟩
    · refine WL.pass ((wanted_of rfl rfl (bool_tr rfl hc75)).trans rfl) rfl ?_
      refine WL.pass ((wanted_of rfl rfl (bool_tr rfl hc75)).trans rfl) rfl ?_
      refine WL.pass ((wanted_of rfl rfl (bool_tr rfl hc75)).trans rfl) rfl ?_
      refine WL.pass ((wanted_of rfl rfl (bool_tr rfl hc75)).trans rfl) rfl ?_
      refine WL.pass ((wanted_of rfl rfl (bool_tr rfl hc75)).trans rfl) rfl ?_
      refine WL.pickT (v := .bool true) (bool_tr rfl hc75) rfl ?_
      refine WL.move (v := .bool true) rfl ?_
      refine WL.pass ((wanted_of rfl rfl rfl).trans rfl) rfl ?_
      refine WL.pass ((wanted_of rfl rfl rfl).trans rfl) rfl ?_
      refine WL.pass ((wanted_of rfl rfl rfl).trans rfl) rfl ?_
      refine WL.pass ((wanted_of rfl rfl rfl).trans rfl) rfl ?_
      refine WL.pass ((wanted_of rfl rfl rfl).trans rfl) rfl ?_
      refine WL.pickT (v := .bool true) rfl rfl ?_
      refine WL.move (v := .bool true) rfl ?_
      refine WL.pass ((wanted_of rfl rfl rfl).trans rfl) rfl ?_
      refine WL.pass ((wanted_of rfl rfl rfl).trans rfl) rfl ?_
      refine WL.pass ((wanted_of rfl rfl rfl).trans rfl) rfl ?_
      refine WL.pass ((wanted_of rfl rfl rfl).trans rfl) rfl ?_
      refine WL.pass ((wanted_of rfl rfl rfl).trans rfl) rfl ?_
      refine WL.pickT (v := .bool true) rfl rfl ?_
      refine WL.move (v := .bool true) rfl ?_
      refine WL.pass ((wanted_of rfl rfl rfl).trans rfl) rfl ?_
      refine WL.pass ((wanted_of rfl rfl rfl).trans rfl) rfl ?_
      refine WL.pass ((wanted_of rfl rfl rfl).trans rfl) rfl ?_
      refine WL.pass ((wanted_of rfl rfl rfl).trans rfl) rfl ?_
      refine WL.pass ((wanted_of rfl rfl rfl).trans rfl) rfl ?_
      refine WL.pickT (v := .bool true) rfl rfl ?_
      refine WL.move (v := .bool true) rfl ?_
      refine WL.pass ((wanted_of rfl rfl rfl).trans rfl) rfl ?_
      refine WL.pass ((wanted_of rfl rfl rfl).trans rfl) rfl ?_
      refine WL.pass ((wanted_of rfl rfl rfl).trans rfl) rfl ?_
      refine WL.pass ((wanted_of rfl rfl rfl).trans rfl) rfl ?_
      refine WL.pass ((wanted_of rfl rfl rfl).trans rfl) rfl ?_
      refine WL.pickT (v := .bool true) rfl rfl ?_
      refine WL.move (v := .bool true) rfl ?_
      refine WL.pass ((wanted_of rfl rfl rfl).trans rfl) rfl ?_
      refine WL.pass ((wanted_of rfl rfl rfl).trans rfl) rfl ?_
      refine WL.pass ((wanted_of rfl rfl rfl).trans rfl) rfl ?_
      refine WL.pass ((wanted_of rfl rfl rfl).trans rfl) rfl ?_
      refine WL.pass ((wanted_of rfl rfl rfl).trans rfl) rfl ?_
      refine WL.pickT (v := .bool true) rfl rfl ?_
      refine WL.nil ?_
      exact Jk16 true _ _ rfl rfl rfl ((hs.mask [true, true]).pick [5, 4]) hf
    · refine WL.fieldAddr (m := 2) rfl FA49_2 rfl ?_ (hg := (wanted_of rfl rfl (bool_tr rfl hc75)).trans rfl)
      refine WL.loadF (z := x1.To) F_api_Message_To hs 1 rfl 4 rfl rfl TI3 (.inr rfl) rfl rfl (fun v76 hs => ?_) (hg := (wanted_of rfl rfl (bool_tr rfl hc75)).trans rfl)
      obtain rfl := hs.int 0 rfl
      refine WL.fieldAddr (m := 2) rfl FA49_2 rfl ?_ (hg := (wanted_of rfl rfl (bool_tr rfl hc75)).trans rfl)
      refine WL.loadF (z := x5.To) F_api_Message_To hs 0 rfl 6 rfl rfl TI3 (.inr rfl) rfl rfl (fun v77 hs => ?_) (hg := (wanted_of rfl rfl (bool_tr rfl hc75)).trans rfl)
      obtain rfl := hs.int 0 rfl
      refine WL.bin (v := .bool (x1.To != x5.To)) rfl rfl (ib_neq _ _ _) ?_ (hg := (wanted_of rfl rfl (bool_tr rfl hc75)).trans rfl)
      refine WL.pickF (v := .bool (x1.To != x5.To)) (bool_tr rfl hc75) rfl ?_
      refine WL.move (v := .bool (x1.To != x5.To)) rfl ?_
      rcases iteE hf with ⟨hc78, hf⟩ | ⟨hc78, hf⟩
      · refine WL.pass ((wanted_of rfl rfl (bool_tr rfl hc78)).trans rfl) rfl ?_
        refine WL.pass ((wanted_of rfl rfl (bool_tr rfl hc78)).trans rfl) rfl ?_
        refine WL.pass ((wanted_of rfl rfl (bool_tr rfl hc78)).trans rfl) rfl ?_
        refine WL.pass ((wanted_of rfl rfl (bool_tr rfl hc78)).trans rfl) rfl ?_
        refine WL.pass ((wanted_of rfl rfl (bool_tr rfl hc78)).trans rfl) rfl ?_
        refine WL.pickT (v := .bool true) (bool_tr rfl hc78) rfl ?_
        refine WL.move (v := .bool true) rfl ?_
        refine WL.pass ((wanted_of rfl rfl rfl).trans rfl) rfl ?_
        refine WL.pass ((wanted_of rfl rfl rfl).trans rfl) rfl ?_
        refine WL.pass ((wanted_of rfl rfl rfl).trans rfl) rfl ?_
        refine WL.pass ((wanted_of rfl rfl rfl).trans rfl) rfl ?_
        refine WL.pass ((wanted_of rfl rfl rfl).trans rfl) rfl ?_
        refine WL.pickT (v := .bool true) rfl rfl ?_
        refine WL.move (v := .bool true) rfl ?_
        refine WL.pass ((wanted_of rfl rfl rfl).trans rfl) rfl ?_
        refine WL.pass ((wanted_of rfl rfl rfl).trans rfl) rfl ?_
        refine WL.pass ((wanted_of rfl rfl rfl).trans rfl) rfl ?_
        refine WL.pass ((wanted_of rfl rfl rfl).trans rfl) rfl ?_
        refine WL.pass ((wanted_of rfl rfl rfl).trans rfl) rfl ?_
        refine WL.pickT (v := .bool true) rfl rfl ?_
        refine WL.move (v := .bool true) rfl ?_
        refine WL.pass ((wanted_of rfl rfl rfl).trans rfl) rfl ?_
        refine WL.pass ((wanted_of rfl rfl rfl).trans rfl) rfl ?_
        refine WL.pass ((wanted_of rfl rfl rfl).trans rfl) rfl ?_
        refine WL.pass ((wanted_of rfl rfl rfl).trans rfl) rfl ?_
        refine WL.pass ((wanted_of rfl rfl rfl).trans rfl) rfl ?_
        refine WL.pickT (v := .bool true) rfl rfl ?_
        refine WL.move (v := .bool true) rfl ?_
        refine WL.pass ((wanted_of rfl rfl rfl).trans rfl) rfl ?_
        refine WL.pass ((wanted_of rfl rfl rfl).trans rfl) rfl ?_
        refine WL.pass ((wanted_of rfl rfl rfl).trans rfl) rfl ?_
        refine WL.pass ((wanted_of rfl rfl rfl).trans rfl) rfl ?_
        refine WL.pass ((wanted_of rfl rfl rfl).trans rfl) rfl ?_
        refine WL.pickT (v := .bool true) rfl rfl ?_
        refine WL.nil ?_
        exact Jk16 true _ _ rfl rfl rfl ((hs.mask [true, true]).pick [7, 6]) hf
      · refine WL.fieldAddr (m := 3) rfl FA49_3 rfl ?_ (hg := (wanted_of rfl rfl (bool_tr rfl hc78)).trans rfl)
        refine WL.loadF (z := x1.Access) F_api_Message_Access hs 1 rfl 6 rfl rfl TI39 (.inl rfl) rfl rfl (fun v79 hs => ?_) (hg := (wanted_of rfl rfl (bool_tr rfl hc78)).trans rfl)
        obtain ⟨cs80, hl81, rfl⟩ := hs.aggv (n := 2) 0 rfl rfl rfl
        refine WL.fieldAddr (m := 3) rfl FA49_3 rfl ?_ (hg := (wanted_of rfl rfl (bool_tr rfl hc78)).trans rfl)
        refine WL.loadF (z := x5.Access) F_api_Message_Access hs 0 rfl 8 rfl rfl TI39 (.inl rfl) rfl rfl (fun v82 hs => ?_) (hg := (wanted_of rfl rfl (bool_tr rfl hc78)).trans rfl)
        obtain ⟨cs83, hl84, rfl⟩ := hs.aggv (n := 2) 0 rfl rfl rfl
        obtain rfl := open_api_AccessID hs 1 rfl
        obtain rfl := open_api_AccessID hs 0 rfl
        refine WL.eqA rfl rfl EG39 (NQ39 (⟨x1.Access.Process, x1.Access.Number⟩ : api_AccessID) (⟨x5.Access.Process, x5.Access.Number⟩ : api_AccessID)) ?_ (hg := (wanted_of rfl rfl (bool_tr rfl hc78)).trans rfl)
        refine WL.pickF (v := .bool (!decide ((⟨x1.Access.Process, x1.Access.Number⟩ : api_AccessID) = (⟨x5.Access.Process, x5.Access.Number⟩ : api_AccessID)))) (bool_tr rfl hc78) rfl ?_
        refine WL.move (v := .bool (!decide ((⟨x1.Access.Process, x1.Access.Number⟩ : api_AccessID) = (⟨x5.Access.Process, x5.Access.Number⟩ : api_AccessID)))) rfl ?_
        rcases iteE hf with ⟨hc85, hf⟩ | ⟨hc85, hf⟩
        · refine WL.pass ((wanted_of rfl rfl (bool_tr rfl hc85)).trans rfl) rfl ?_
          refine WL.pass ((wanted_of rfl rfl (bool_tr rfl hc85)).trans rfl) rfl ?_
          refine WL.pass ((wanted_of rfl rfl (bool_tr rfl hc85)).trans rfl) rfl ?_
          refine WL.pass ((wanted_of rfl rfl (bool_tr rfl hc85)).trans rfl) rfl ?_
          refine WL.pass ((wanted_of rfl rfl (bool_tr rfl hc85)).trans rfl) rfl ?_
          refine WL.pickT (v := .bool true) (bool_tr rfl hc85) rfl ?_
          refine WL.move (v := .bool true) rfl ?_
          refine WL.pass ((wanted_of rfl rfl rfl).trans rfl) rfl ?_
          refine WL.pass ((wanted_of rfl rfl rfl).trans rfl) rfl ?_
          refine WL.pass ((wanted_of rfl rfl rfl).trans rfl) rfl ?_
          refine WL.pass ((wanted_of rfl rfl rfl).trans rfl) rfl ?_
          refine WL.pass ((wanted_of rfl rfl rfl).trans rfl) rfl ?_
          refine WL.pickT (v := .bool true) rfl rfl ?_
          refine WL.move (v := .bool true) rfl ?_
          refine WL.pass ((wanted_of rfl rfl rfl).trans rfl) rfl ?_
          refine WL.pass ((wanted_of rfl rfl rfl).trans rfl) rfl ?_
          refine WL.pass ((wanted_of rfl rfl rfl).trans rfl) rfl ?_
          refine WL.pass ((wanted_of rfl rfl rfl).trans rfl) rfl ?_
          refine WL.pass ((wanted_of rfl rfl rfl).trans rfl) rfl ?_
          refine WL.pickT (v := .bool true) rfl rfl ?_
          refine WL.move (v := .bool true) rfl ?_
          refine WL.pass ((wanted_of rfl rfl rfl).trans rfl) rfl ?_
          refine WL.pass ((wanted_of rfl rfl rfl).trans rfl) rfl ?_
          refine WL.pass ((wanted_of rfl rfl rfl).trans rfl) rfl ?_
          refine WL.pass ((wanted_of rfl rfl rfl).trans rfl) rfl ?_
          refine WL.pass ((wanted_of rfl rfl rfl).trans rfl) rfl ?_
          refine WL.pickT (v := .bool true) rfl rfl ?_
          refine WL.nil ?_
          exact Jk16 true _ _ rfl rfl rfl ((hs.mask [true, true]).pick [9, 8]) hf
        · refine WL.fieldAddr (m := 5) rfl FA49_4 rfl ?_ (hg := (wanted_of rfl rfl (bool_tr rfl hc85)).trans rfl)
          refine WL.loadF (z := x1.Round) F_api_Message_Round hs 1 rfl 8 rfl rfl TI3 (.inr rfl) rfl rfl (fun v86 hs => ?_) (hg := (wanted_of rfl rfl (bool_tr rfl hc85)).trans rfl)
          obtain rfl := hs.int 0 rfl
          refine WL.fieldAddr (m := 5) rfl FA49_4 rfl ?_ (hg := (wanted_of rfl rfl (bool_tr rfl hc85)).trans rfl)
          refine WL.loadF (z := x5.Round) F_api_Message_Round hs 0 rfl 10 rfl rfl TI3 (.inr rfl) rfl rfl (fun v87 hs => ?_) (hg := (wanted_of rfl rfl (bool_tr rfl hc85)).trans rfl)
          obtain rfl := hs.int 0 rfl
          refine WL.bin (v := .bool (x1.Round != x5.Round)) rfl rfl (ib_neq _ _ _) ?_ (hg := (wanted_of rfl rfl (bool_tr rfl hc85)).trans rfl)
          refine WL.pickF (v := .bool (x1.Round != x5.Round)) (bool_tr rfl hc85) rfl ?_
          refine WL.move (v := .bool (x1.Round != x5.Round)) rfl ?_
          rcases iteE hf with ⟨hc88, hf⟩ | ⟨hc88, hf⟩
          · refine WL.pass ((wanted_of rfl rfl (bool_tr rfl hc88)).trans rfl) rfl ?_
            refine WL.pass ((wanted_of rfl rfl (bool_tr rfl hc88)).trans rfl) rfl ?_
            refine WL.pass ((wanted_of rfl rfl (bool_tr rfl hc88)).trans rfl) rfl ?_
            refine WL.pass ((wanted_of rfl rfl (bool_tr rfl hc88)).trans rfl) rfl ?_
            refine WL.pass ((wanted_of rfl rfl (bool_tr rfl hc88)).trans rfl) rfl ?_
            refine WL.pickT (v := .bool true) (bool_tr rfl hc88) rfl ?_
            refine WL.move (v := .bool true) rfl ?_
            refine WL.pass ((wanted_of rfl rfl rfl).trans rfl) rfl ?_
            refine WL.pass ((wanted_of rfl rfl rfl).trans rfl) rfl ?_
            refine WL.pass ((wanted_of rfl rfl rfl).trans rfl) rfl ?_
            refine WL.pass ((wanted_of rfl rfl rfl).trans rfl) rfl ?_
            refine WL.pass ((wanted_of rfl rfl rfl).trans rfl) rfl ?_
            refine WL.pickT (v := .bool true) rfl rfl ?_
            refine WL.move (v := .bool true) rfl ?_
            refine WL.pass ((wanted_of rfl rfl rfl).trans rfl) rfl ?_
            refine WL.pass ((wanted_of rfl rfl rfl).trans rfl) rfl ?_
            refine WL.pass ((wanted_of rfl rfl rfl).trans rfl) rfl ?_
            refine WL.pass ((wanted_of rfl rfl rfl).trans rfl) rfl ?_
            refine WL.pass ((wanted_of rfl rfl rfl).trans rfl) rfl ?_
            refine WL.pickT (v := .bool true) rfl rfl ?_
            refine WL.nil ?_
            exact Jk16 true _ _ rfl rfl rfl ((hs.mask [true, true]).pick [11, 10]) hf
          · refine WL.fieldAddr (m := 6) rfl FA49_5 rfl ?_ (hg := (wanted_of rfl rfl (bool_tr rfl hc88)).trans rfl)
            refine WL.loadF (z := x1.Mode) F_api_Message_Mode hs 1 rfl 10 rfl rfl TI3 (.inr rfl) rfl rfl (fun v89 hs => ?_) (hg := (wanted_of rfl rfl (bool_tr rfl hc88)).trans rfl)
            obtain rfl := hs.int 0 rfl
            refine WL.fieldAddr (m := 6) rfl FA49_5 rfl ?_ (hg := (wanted_of rfl rfl (bool_tr rfl hc88)).trans rfl)
            refine WL.loadF (z := x5.Mode) F_api_Message_Mode hs 0 rfl 12 rfl rfl TI3 (.inr rfl) rfl rfl (fun v90 hs => ?_) (hg := (wanted_of rfl rfl (bool_tr rfl hc88)).trans rfl)
            obtain rfl := hs.int 0 rfl
            refine WL.bin (v := .bool (x1.Mode != x5.Mode)) rfl rfl (ib_neq _ _ _) ?_ (hg := (wanted_of rfl rfl (bool_tr rfl hc88)).trans rfl)
            refine WL.pickF (v := .bool (x1.Mode != x5.Mode)) (bool_tr rfl hc88) rfl ?_
            refine WL.move (v := .bool (x1.Mode != x5.Mode)) rfl ?_
            rcases iteE hf with ⟨hc91, hf⟩ | ⟨hc91, hf⟩
            · refine WL.pass ((wanted_of rfl rfl (bool_tr rfl hc91)).trans rfl) rfl ?_
              refine WL.pass ((wanted_of rfl rfl (bool_tr rfl hc91)).trans rfl) rfl ?_
              refine WL.pass ((wanted_of rfl rfl (bool_tr rfl hc91)).trans rfl) rfl ?_
              refine WL.pass ((wanted_of rfl rfl (bool_tr rfl hc91)).trans rfl) rfl ?_
              refine WL.pass ((wanted_of rfl rfl (bool_tr rfl hc91)).trans rfl) rfl ?_
              refine WL.pickT (v := .bool true) (bool_tr rfl hc91) rfl ?_
              refine WL.move (v := .bool true) rfl ?_
              refine WL.pass ((wanted_of rfl rfl rfl).trans rfl) rfl ?_
              refine WL.pass ((wanted_of rfl rfl rfl).trans rfl) rfl ?_
              refine WL.pass ((wanted_of rfl rfl rfl).trans rfl) rfl ?_
              refine WL.pass ((wanted_of rfl rfl rfl).trans rfl) rfl ?_
              refine WL.pass ((wanted_of rfl rfl rfl).trans rfl) rfl ?_
              refine WL.pickT (v := .bool true) rfl rfl ?_
              refine WL.nil ?_
              exact Jk16 true _ _ rfl rfl rfl ((hs.mask [true, true]).pick [13, 12]) hf
            · refine WL.fieldAddr (m := 11) rfl FA49_8 rfl ?_ (hg := (wanted_of rfl rfl (bool_tr rfl hc91)).trans rfl)
              refine WL.loadF (z := x1.HasBase) F_api_Message_HasBase hs 1 rfl 12 rfl rfl TI4 (.inr rfl) rfl rfl (fun v92 hs => ?_) (hg := (wanted_of rfl rfl (bool_tr rfl hc91)).trans rfl)
              obtain rfl := hs.bool 0 rfl
              refine WL.fieldAddr (m := 11) rfl FA49_8 rfl ?_ (hg := (wanted_of rfl rfl (bool_tr rfl hc91)).trans rfl)
              refine WL.loadF (z := x5.HasBase) F_api_Message_HasBase hs 0 rfl 14 rfl rfl TI4 (.inr rfl) rfl rfl (fun v93 hs => ?_) (hg := (wanted_of rfl rfl (bool_tr rfl hc91)).trans rfl)
              obtain rfl := hs.bool 0 rfl
              refine WL.neB UN4 rfl rfl ?_ (hg := (wanted_of rfl rfl (bool_tr rfl hc91)).trans rfl)
              refine WL.pickF (v := .bool (x1.HasBase != x5.HasBase)) (bool_tr rfl hc91) rfl ?_
              refine WL.move (v := .bool (x1.HasBase != x5.HasBase)) rfl ?_
              rcases iteE hf with ⟨hc94, hf⟩ | ⟨hc94, hf⟩
              · refine WL.pass ((wanted_of rfl rfl (bool_tr rfl hc94)).trans rfl) rfl ?_
                refine WL.pass ((wanted_of rfl rfl (bool_tr rfl hc94)).trans rfl) rfl ?_
                refine WL.pass ((wanted_of rfl rfl (bool_tr rfl hc94)).trans rfl) rfl ?_
                refine WL.pass ((wanted_of rfl rfl (bool_tr rfl hc94)).trans rfl) rfl ?_
                refine WL.pass ((wanted_of rfl rfl (bool_tr rfl hc94)).trans rfl) rfl ?_
                refine WL.pickT (v := .bool true) (bool_tr rfl hc94) rfl ?_
                refine WL.nil ?_
                exact Jk16 true _ _ rfl rfl rfl ((hs.mask [true, true]).pick [15, 14]) hf
              · refine WL.fieldAddr (m := 17) rfl FA49_13 rfl ?_ (hg := (wanted_of rfl rfl (bool_tr rfl hc94)).trans rfl)
                refine WL.loadF (z := x1.More) F_api_Message_More hs 1 rfl 14 rfl rfl TI4 (.inr rfl) rfl rfl (fun v95 hs => ?_) (hg := (wanted_of rfl rfl (bool_tr rfl hc94)).trans rfl)
                obtain rfl := hs.bool 0 rfl
                refine WL.fieldAddr (m := 17) rfl FA49_13 rfl ?_ (hg := (wanted_of rfl rfl (bool_tr rfl hc94)).trans rfl)
                refine WL.loadF (z := x5.More) F_api_Message_More hs 0 rfl 16 rfl rfl TI4 (.inr rfl) rfl rfl (fun v96 hs => ?_) (hg := (wanted_of rfl rfl (bool_tr rfl hc94)).trans rfl)
                obtain rfl := hs.bool 0 rfl
                refine WL.neB UN4 rfl rfl ?_ (hg := (wanted_of rfl rfl (bool_tr rfl hc94)).trans rfl)
                refine WL.pickF (v := .bool (x1.More != x5.More)) (bool_tr rfl hc94) rfl ?_
                refine WL.nil ?_
                exact Jk16 (x1.More != x5.More) _ _ rfl rfl rfl ((hs.mask [true, true]).pick [17, 16]) hf
/-! elasticstore/network.Drop: function 33 -/
theorem network_Drop.calls {ok : Nat → Prop} {w0 : World} {x1 : network_Network} {x5 : Int} {v2 : Value} {r : network_Network × Bool} (hf : network_Drop x1 x5 = some r) (i0 : (vl t_network_Network x1 v2).holds ok w0) :
    Calls Try.prog 33 #[v2, .int .i64 x5] w0 fun e w' => ∃ v, e = .returned v ∧ ∃ y : List Value, v = .tuple #[.agg y.toArray, .bool r.2] ∧ St ok (bz w0) w' [vl t_network_Network r.1 (.agg y.toArray)] [] := by
  unfold network_Drop at hf
  refine calls_of_W (fn := Try.f33) (N := 21) Try.func33 rfl Try.ntmps33 rfl ?_
  have hs : St ok (bz w0) w0 [vl t_network_Network x1 v2] [] := St.init (All.cons i0 All.nil)
  clear i0
  obtain ⟨cs3, hl4, rfl⟩ := hs.aggv (n := 3) 0 rfl rfl rfl
  refine W.seqK fun K6 hK6 => ?_
  refine W.region ?_
  refine WL.box (vs := cs3) hs rfl rfl (fun g7 w hs => ?_)
  refine WL.alloc hs ZV27 (fun g8 w hs => ?_)
  refine WL.assign (v := .bool false) rfl ?_
  refine WL.nil ?_
  refine hK6 _ _ ?_
  refine W.seqK fun K9 hK9 => ?_
  refine W.region ?_
  refine WL.loadAll hs 1 rfl TI27 rfl hl4 ?_
  refine WL.move (v := .int .i64 x5) rfl ?_
  obtain ⟨⟨x10, x11⟩, hxx10, hf⟩ := bindE hf
  refine WL.call (vs := [.agg cs3.toArray, .int .i64 x5]) hs FN40 ⟨rfl, ⟨rfl, trivial⟩⟩ (fun ok hA => network_position.calls (x1 := x1) (x5 := x5) hxx10 (hA.get 0 rfl)) ?_
  rintro _ w hs
  refine WL.move (v := .tuple #[.int .i64 x10, .bool x11]) rfl ?_
  refine WL.extract (v := .int .i64 x10) rfl rfl ?_
  refine WL.extract (v := .bool x11) rfl rfl ?_
  refine WL.assign (v := .int .i64 x10) rfl ?_
  refine WL.assign (v := .bool x11) rfl ?_
  refine WL.nil ?_
  refine hK9 _ _ ?_
  refine W.seqK fun K12 hK12 => ?_
  refine W.seqK fun K13 hK13 => ?_
  refine W.region ?_
  refine WL.move (v := .bool x11) rfl ?_
  refine WL.not rfl ?_
  refine WL.nil ?_
  refine hK13 _ _ ?_
  rcases iteE hf with ⟨hc14, hf⟩ | ⟨hc14, hf⟩
  · refine W.cond_true (bool_tr rfl hc14) ?_
    refine W.seqK fun K15 hK15 => ?_
    refine W.region ?_
    refine WL.loadAll hs 1 rfl TI27 rfl hl4 ?_
    obtain ⟨x16, hxx16, hf⟩ := bindE hf
    refine WL.call (vs := [.agg cs3.toArray]) hs FN27 ⟨rfl, trivial⟩ (fun ok hA => network_clone.calls (x1 := x1) hxx16 (hA.get 0 rfl)) ?_
    rintro ⟨⟨a17, n18, c19⟩, ⟨a20, n21, c22⟩⟩ w hs
    refine WL.storeAll (vs := [.int .i64 x16.Next, .slice a17 n18 c19, .slice a20 n21 c22]) hs 2 rfl TI27 rfl rfl rfl rfl (ones_of rfl) rfl (fun w hs => ?_)
    refine WL.assign (v := .bool false) rfl ?_
    refine WL.nil ?_
    refine hK15 _ _ ?_
    refine W.ret ?_
    have hr := Option.some.inj hf; subst hr
    obtain rfl := hs.ownLen 0 rfl
    have hs := hs.freezeOwn 0 rfl
    obtain rfl := hs.ownLen 0 rfl
    have hs := hs.freezeOwn 0 rfl
    have hs := hs.add (it := vl t_network_Network (⟨x16.Next, x16.Packets, x16.Sides⟩ : network_Network) (.agg [.int .i64 x16.Next, .slice a17 (x16.Packets).length c19, .slice a20 (x16.Sides).length c22].toArray)) fun ok hA => V_agg (show t_network_Network.R ok _ _ _ from ⟨[.int .i64 x16.Next], [.slice a17 (x16.Packets).length c19, .slice a20 (x16.Sides).length c22], rfl, rfl, ⟨[.slice a17 (x16.Packets).length c19], [.slice a20 (x16.Sides).length c22], rfl, (R_one (hA.get 1 rfl)), (R_one (hA.get 0 rfl))⟩⟩) rfl
    exact ⟨_, resOk_two rfl (res_all hs 0 rfl TI27 rfl rfl) rfl, [.int .i64 x16.Next, .slice a17 (x16.Packets).length c19, .slice a20 (x16.Sides).length c22], rfl, (hs.mask []).pick [0]⟩
  · refine W.cond_false (bool_tr rfl hc14) ?_
    refine W.skip ?_
    refine hK12 _ _ ?_
    refine W.seqK fun K23 hK23 => ?_
    refine W.region ?_
    refine WL.loadAll hs 1 rfl TI27 rfl hl4 ?_
    refine WL.move (v := .int .i64 x10) rfl ?_
    obtain ⟨x24, hxx24, hf⟩ := bindE hf
    refine WL.call (vs := [.agg cs3.toArray, .int .i64 x10]) hs FN47 ⟨rfl, ⟨rfl, trivial⟩⟩ (fun ok hA => network_remove.calls (x1 := x1) (x5 := x10) hxx24 (hA.get 0 rfl)) ?_
    rintro cs25 w hs
    have hl26 := hs.agglen (n := 3) 0 rfl rfl rfl
    refine WL.storeAll (vs := cs25) hs 0 rfl TI27 rfl rfl rfl hl26 (hs.ones 0 rfl rfl) rfl (fun w hs => ?_)
    refine WL.assign (v := .bool true) rfl ?_
    refine WL.nil ?_
    refine hK23 _ _ ?_
    refine W.ret ?_
    have hr := Option.some.inj hf; subst hr
    exact ⟨_, resOk_two rfl (res_all hs 0 rfl TI27 rfl hl26) rfl, cs25, rfl, (hs.mask []).pick [0]⟩
/-! elasticstore/elasticstoreref36.Drop: function 34 -/
theorem esref36_Drop.calls {ok : Nat → Prop} {w0 : World} {x1 : network_Network} {x5 : Int} {v2 : Value} {r : network_Network × Bool} (hf : esref36_Drop x1 x5 = some r) (i0 : (vl t_network_Network x1 v2).holds ok w0) :
    Calls Try.prog 34 #[v2, .int .i64 x5] w0 fun e w' => ∃ v, e = .returned v ∧ ∃ y : List Value, v = .tuple #[.agg y.toArray, .bool r.2] ∧ St ok (bz w0) w' [vl t_network_Network r.1 (.agg y.toArray)] [] := by
  unfold esref36_Drop at hf
  refine calls_of_W (fn := Try.f34) (N := 16) Try.func34 rfl Try.ntmps34 rfl ?_
  have hs : St ok (bz w0) w0 [vl t_network_Network x1 v2] [] := St.init (All.cons i0 All.nil)
  clear i0
  obtain ⟨cs3, hl4, rfl⟩ := hs.aggv (n := 3) 0 rfl rfl rfl
  refine W.seqK fun K6 hK6 => ?_
  refine W.region ?_
  refine WL.box (vs := cs3) hs rfl rfl (fun g7 w hs => ?_)
  refine WL.alloc hs ZV27 (fun g8 w hs => ?_)
  refine WL.assign (v := .bool false) rfl ?_
  refine WL.nil ?_
  refine hK6 _ _ ?_
  refine W.seqK fun K9 hK9 => ?_
  refine W.region ?_
  refine WL.loadAll hs 1 rfl TI27 rfl hl4 ?_
  refine WL.move (v := .int .i64 x5) rfl ?_
  obtain ⟨x10, hxx10, hf⟩ := bindE hf
  refine WL.call (vs := [.agg cs3.toArray, .int .i64 x5]) hs FN41 ⟨rfl, ⟨rfl, trivial⟩⟩ (fun ok hA => esref36_find.calls (x1 := x1) (x5 := x5) hxx10 (hA.get 0 rfl)) ?_
  rintro _ w hs
  refine WL.assign (v := .int .i64 x10) rfl ?_
  refine WL.nil ?_
  refine hK9 _ _ ?_
  refine W.seqK fun K11 hK11 => ?_
  refine W.seqK fun K12 hK12 => ?_
  refine W.region ?_
  refine WL.move (v := .int .i64 x10) rfl ?_
  refine WL.bin (v := .bool (decide (x10 < 0))) rfl rfl (ib_lss _ _ _) ?_
  refine WL.nil ?_
  refine hK12 _ _ ?_
  rcases iteE hf with ⟨hc13, hf⟩ | ⟨hc13, hf⟩
  · refine W.cond_true (bool_tr rfl hc13) ?_
    refine W.seqK fun K14 hK14 => ?_
    refine W.region ?_
    refine WL.loadAll hs 1 rfl TI27 rfl hl4 ?_
    refine WL.storeAll (vs := cs3) hs 0 rfl TI27 rfl rfl rfl hl4 (hs.ones 0 rfl rfl) rfl (fun w hs => ?_)
    refine WL.assign (v := .bool false) rfl ?_
    refine WL.nil ?_
    refine hK14 _ _ ?_
    refine W.ret ?_
    have hr := Option.some.inj hf; subst hr
    exact ⟨_, resOk_two rfl (res_all hs 0 rfl TI27 rfl hl4) rfl, cs3, rfl, (hs.mask []).pick [0]⟩
  · refine W.cond_false (bool_tr rfl hc13) ?_
    refine W.skip ?_
    refine hK11 _ _ ?_
    refine W.seqK fun K15 hK15 => ?_
    refine W.region ?_
    refine WL.loadAll hs 1 rfl TI27 rfl hl4 ?_
    refine WL.move (v := .int .i64 x10) rfl ?_
    obtain ⟨x16, hxx16, hf⟩ := bindE hf
    refine WL.call (vs := [.agg cs3.toArray, .int .i64 x10]) hs FN53 ⟨rfl, ⟨rfl, trivial⟩⟩ (fun ok hA => esref36_without.calls (x1 := x1) (x5 := x10) hxx16 (hA.get 0 rfl)) ?_
    rintro ⟨⟨a17, n18, c19⟩, ⟨a20, n21, c22⟩⟩ w hs
    refine WL.storeAll (vs := [.int .i64 x16.Next, .slice a17 n18 c19, .slice a20 n21 c22]) hs 2 rfl TI27 rfl rfl rfl rfl (ones_of rfl) rfl (fun w hs => ?_)
    refine WL.assign (v := .bool true) rfl ?_
    refine WL.nil ?_
    refine hK15 _ _ ?_
    refine W.ret ?_
    have hr := Option.some.inj hf; subst hr
    obtain rfl := hs.ownLen 0 rfl
    have hs := hs.freezeOwn 0 rfl
    obtain rfl := hs.ownLen 0 rfl
    have hs := hs.freezeOwn 0 rfl
    have hs := hs.add (it := vl t_network_Network (⟨x16.Next, x16.Packets, x16.Sides⟩ : network_Network) (.agg [.int .i64 x16.Next, .slice a17 (x16.Packets).length c19, .slice a20 (x16.Sides).length c22].toArray)) fun ok hA => V_agg (show t_network_Network.R ok _ _ _ from ⟨[.int .i64 x16.Next], [.slice a17 (x16.Packets).length c19, .slice a20 (x16.Sides).length c22], rfl, rfl, ⟨[.slice a17 (x16.Packets).length c19], [.slice a20 (x16.Sides).length c22], rfl, (R_one (hA.get 1 rfl)), (R_one (hA.get 0 rfl))⟩⟩) rfl
    exact ⟨_, resOk_two rfl (res_all hs 0 rfl TI27 rfl rfl) rfl, [.int .i64 x16.Next, .slice a17 (x16.Packets).length c19, .slice a20 (x16.Sides).length c22], rfl, (hs.mask []).pick [0]⟩
end Go.Proofs.Ytahobbichanccaa
