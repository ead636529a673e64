import Derived.Test.YtahobbichanccaaFh
import Derived.Test.YtahobbichanccaaFp5
set_option linter.unusedVariables false
set_option linter.unusedSimpArgs false
namespace Go.Proofs.Ytahobbichanccaa
open Go Go.RowKit Go.Proofs.YtahobbichanccaaL
set_option maxRecDepth 100000
set_option maxHeartbeats 400000
/-! elasticstore/elasticstoreref06.EqualConfig: function 43 -/
theorem esref06_EqualConfig.calls {ok : Nat → Prop} {w0 : World} {x1 : List api_Proposal} {x4 : List api_Proposal} {a2 : Option Addr} {c3 : Nat} {a5 : Option Addr} {c6 : Nat} {r : Bool} (hf : esref06_EqualConfig x1 x4 = some r) (i0 : (vl (tSlice t_api_Proposal) x1 (.slice a2 x1.length c3)).holds ok w0) (i1 : (vl (tSlice t_api_Proposal) x4 (.slice a5 x4.length c6)).holds ok w0) :
    Calls Try.prog 43 #[.slice a2 x1.length c3, .slice a5 x4.length c6] w0 fun e w' => ∃ v, e = .returned v ∧ ∃ y : Unit, v = .bool r ∧ St ok (bz w0) w' [] [] := by
  unfold esref06_EqualConfig at hf
  refine calls_of_W (fn := Try.f43) (N := 27) Try.func43 rfl Try.ntmps43 rfl ?_
  have hs : St ok (bz w0) w0 [vl (tSlice t_api_Proposal) x1 (.slice a2 x1.length c3), vl (tSlice t_api_Proposal) x4 (.slice a5 x4.length c6)] [] := St.init (All.cons i0 (All.cons i1 All.nil))
  clear i0 i1
  refine W.seqK fun K7 hK7 => ?_
  refine W.region ?_
  refine WL.assign (v := .bool false) rfl ?_
  refine WL.nil ?_
  refine hK7 _ _ ?_
  refine W.seqK fun K8 hK8 => ?_
  refine W.seqK fun K9 hK9 => ?_
  refine W.region ?_
  refine WL.move (v := .slice a2 x1.length c3) rfl ?_
  refine WL.len (v := .slice a2 x1.length c3) rfl (len_slice UN41) ?_
  refine WL.move (v := .slice a5 x4.length c6) rfl ?_
  refine WL.len (v := .slice a5 x4.length c6) rfl (len_slice UN41) ?_
  refine WL.bin (v := .bool ((x1.length : Int) != (x4.length : Int))) rfl rfl (ib_neq _ _ _) ?_
  refine WL.nil ?_
  refine hK9 _ _ ?_
  rcases iteE hf with ⟨hc10, hf⟩ | ⟨hc10, hf⟩
  · refine W.cond_true (bool_tr rfl hc10) ?_
    refine W.seqK fun K11 hK11 => ?_
    refine W.region ?_
    refine WL.assign (v := .bool false) rfl ?_
    refine WL.nil ?_
    refine hK11 _ _ ?_
    refine W.ret ?_
    have hr := Option.some.inj hf; subst hr
    exact ⟨_, resOk_one rfl rfl, (), rfl, (hs.mask []).pick []⟩
  · refine W.cond_false (bool_tr rfl hc10) ?_
    refine W.skip ?_
    refine hK8 _ _ ?_
    refine W.seqK fun K12 hK12 => ?_
    have Jk14 : ∀  (ρ : Env) (w : World), St ok (bz w0) w [] [] → esref06_EqualConfig.j1 = some r → K12 ρ w := by
      intro  ρ w  hs hf
      refine hK12 _ _ ?_
      unfold esref06_EqualConfig.j1 at hf
      refine W.seqK fun K15 hK15 => ?_
      refine W.region ?_
      refine WL.assign (v := .bool true) rfl ?_
      refine WL.nil ?_
      refine hK15 _ _ ?_
      refine W.ret ?_
      have hr := Option.some.inj hf; subst hr
      exact ⟨_, resOk_one rfl rfl, (), rfl, (hs.mask []).pick []⟩
    refine W.seqK fun K16 hK16 => ?_
    refine W.region ?_
    refine WL.assign (v := .int .i64 0) rfl ?_
    refine WL.nil ?_
    refine hK16 _ _ ?_
    refine W.block ?_
    obtain ⟨bs19, hbs19, hfs19⟩ := bindE hf
    refine W.loop hbs19 (fun s ρ w => match s with | x18 => ρ 0 = .slice a2 x1.length c3 ∧ ρ 1 = .slice a5 x4.length c6 ∧ ρ 5 = .int .i64 x18 ∧ St ok (bz w0) w [vl (tSlice t_api_Proposal) x1 (.slice a2 x1.length c3), vl (tSlice t_api_Proposal) x4 (.slice a5 x4.length c6)] []) ⟨rfl, rfl, rfl, (hs.mask []).pick [0, 1]⟩ ?_
    intro x18 ρ w os19 hI hf hbbs19
    obtain ⟨h17_0, h17_1, h17_5, hs⟩ := hI
    unfold esref06_EqualConfig.l1 at hf
    refine W.seqK fun K20 hK20 => ?_
    refine W.seqK fun K21 hK21 => ?_
    refine W.region ?_
    refine WL.move (v := .int .i64 x18) h17_5 ?_
    refine WL.move (v := .slice a2 x1.length c3) h17_0 ?_
    refine WL.len (v := .slice a2 x1.length c3) rfl (len_slice UN41) ?_
    refine WL.bin (v := .bool (decide (x18 < (x1.length : Int)))) rfl rfl (ib_lss _ _ _) ?_
    refine WL.nil ?_
    refine hK21 _ _ ?_
    rcases iteE hf with ⟨hc22, hf⟩ | ⟨hc22, hf⟩
    · refine W.cond_true (bool_tr rfl hc22) ?_
      refine W.skip ?_
      refine hK20 _ _ ?_
      refine W.seqK fun K23 hK23 => ?_
      refine W.block ?_
      refine W.seqK fun K24 hK24 => ?_
      obtain ⟨x25, hxx25, hf⟩ := bindE hf
      obtain ⟨x30, hxx30, hf⟩ := bindE hf
      obtain ⟨x35, hxx35, hf⟩ := bindE hf
      refine W.any (by kernel_rfl) 10 0 [true, true, true, true, true, true, true, true, true, true] rfl rfl (poAt [pv (.slice a2 x1.length c3), pv (.int .i64 x18), pq (fun y : Addr => .pointer (some y)) (fun v => [pl t_api_Proposal x25 (adOf v)]) (fun v => []), pq (fun y : List Value => .agg y.toArray) (fun v => [vl t_api_Proposal x25 v]) (fun v => []), pv (.slice a5 x4.length c6), pv (.int .i64 x18), pq (fun y : Addr => .pointer (some y)) (fun v => [pl t_api_Proposal x30 (adOf v)]) (fun v => []), pq (fun y : List Value => .agg y.toArray) (fun v => [vl t_api_Proposal x30 v]) (fun v => []), pv (.bool x35), pv (.bool (!x35))]) (Λ := []) hs (by kernel_rfl) (by kernel_rfl) (by kernel_rfl) ⟨⟨⟨⟨⟨⟨⟨⟨⟨⟨trivial, ?_⟩, ?_⟩, ?_⟩, ?_⟩, ?_⟩, ?_⟩, ?_⟩, ?_⟩, ?_⟩, ?_⟩ ?_
      · intro ρ w Γx Λx hs hu hp
        refine WL.move (v := .slice a2 x1.length c3) ((hu 0 rfl).trans h17_0) ?_
        exact WL.nil ⟨rfl, _, rfl, rfl, hs.cutG 0 0⟩
      · intro ρ w Γx Λx hs hu hp
        refine WL.move (v := .int .i64 x18) ((hu 5 rfl).trans h17_5) ?_
        exact WL.nil ⟨rfl, _, rfl, rfl, hs.cutG 0 0⟩
      · intro ρ w Γx Λx hs hu hp
        have e36 : ρ 17 = .slice a2 x1.length c3 := (hp 0 rfl).1
        have e37 : ρ 18 = .int .i64 x18 := (hp 1 rfl).1
        refine WL.indexAddr hs (Γx.length + 0) (getApp rfl) UN41 TI98 e36 e37 hxx25 (fun ad26 hs => ?_)
        have hs := hs.add (it := pl t_api_Proposal x25 ad26) fun ok hA => hA.get 0 rfl
        exact WL.nil ⟨rfl, _, rfl, ⟨ad26, rfl⟩, hs.cutG 1 1⟩
      · intro ρ w Γx Λx hs hu hp
        obtain ⟨⟨ad38, e39r⟩, hm40⟩ := hp 2 rfl
        have e39 : ρ 19 = .pointer (some ad38) := e39r
        rw [e39r] at hm40
        have hs := hs.memo1 (it := pl t_api_Proposal x25 ad38) (List.mem_append.2 (.inl (hm40 _ (List.mem_of_getElem? (i := 0) rfl))))
        refine WL.loadP hs 0 rfl TI98 (.inl rfl) e39 (fun v27 hs => ?_)
        obtain ⟨cs28, hl29, rfl⟩ := hs.aggv (n := 3) 0 rfl rfl rfl
        have hs := hs.add (it := vl t_api_Proposal x25 (.agg cs28.toArray)) fun ok hA => hA.get 0 rfl
        exact WL.nil ⟨rfl, _, rfl, ⟨cs28, rfl⟩, hs.cutG 1 2⟩
      · intro ρ w Γx Λx hs hu hp
        refine WL.move (v := .slice a5 x4.length c6) ((hu 1 rfl).trans h17_1) ?_
        exact WL.nil ⟨rfl, _, rfl, rfl, hs.cutG 0 0⟩
      · intro ρ w Γx Λx hs hu hp
        refine WL.move (v := .int .i64 x18) ((hu 5 rfl).trans h17_5) ?_
        exact WL.nil ⟨rfl, _, rfl, rfl, hs.cutG 0 0⟩
      · intro ρ w Γx Λx hs hu hp
        have e41 : ρ 21 = .slice a5 x4.length c6 := (hp 4 rfl).1
        have e42 : ρ 22 = .int .i64 x18 := (hp 5 rfl).1
        refine WL.indexAddr hs (Γx.length + 1) (getApp rfl) UN41 TI98 e41 e42 hxx30 (fun ad31 hs => ?_)
        have hs := hs.add (it := pl t_api_Proposal x30 ad31) fun ok hA => hA.get 0 rfl
        exact WL.nil ⟨rfl, _, rfl, ⟨ad31, rfl⟩, hs.cutG 1 1⟩
      · intro ρ w Γx Λx hs hu hp
        obtain ⟨⟨ad43, e44r⟩, hm45⟩ := hp 6 rfl
        have e44 : ρ 23 = .pointer (some ad43) := e44r
        rw [e44r] at hm45
        have hs := hs.memo1 (it := pl t_api_Proposal x30 ad43) (List.mem_append.2 (.inl (hm45 _ (List.mem_of_getElem? (i := 0) rfl))))
        refine WL.loadP hs 0 rfl TI98 (.inl rfl) e44 (fun v32 hs => ?_)
        obtain ⟨cs33, hl34, rfl⟩ := hs.aggv (n := 3) 0 rfl rfl rfl
        have hs := hs.add (it := vl t_api_Proposal x30 (.agg cs33.toArray)) fun ok hA => hA.get 0 rfl
        exact WL.nil ⟨rfl, _, rfl, ⟨cs33, rfl⟩, hs.cutG 1 2⟩
      · intro ρ w Γx Λx hs hu hp
        obtain ⟨⟨cs46, e48r⟩, hm49⟩ := hp 3 rfl
        have e48 : ρ 20 = .agg cs46.toArray := e48r
        rw [e48r] at hm49
        have hs := hs.memo1 (it := vl t_api_Proposal x25 (.agg cs46.toArray)) (List.mem_append.2 (.inl (hm49 _ (List.mem_of_getElem? (i := 0) rfl))))
        have hl47 := hs.agglen (n := 3) 0 rfl rfl rfl
        obtain ⟨⟨cs50, e52r⟩, hm53⟩ := hp 7 rfl
        have e52 : ρ 24 = .agg cs50.toArray := e52r
        rw [e52r] at hm53
        have hs := hs.memo1 (it := vl t_api_Proposal x30 (.agg cs50.toArray)) (List.mem_cons_of_mem _ (List.mem_append.2 (.inl (hm53 _ (List.mem_of_getElem? (i := 0) rfl)))))
        have hl51 := hs.agglen (n := 3) 0 rfl rfl rfl
        refine WL.call (vs := [.agg cs46.toArray, .agg cs50.toArray]) hs FN58 ⟨e48, ⟨e52, trivial⟩⟩ (fun ok hA => esref06_EqualProposal.calls (x1 := x25) (x5 := x30) hxx35 (hA.get 1 rfl) (hA.get 0 rfl)) ?_
        rintro _ w hs
        exact WL.nil ⟨rfl, _, rfl, rfl, hs.cutG 0 2⟩
      · intro ρ w Γx Λx hs hu hp
        have e54 : ρ 25 = .bool x35 := (hp 8 rfl).1
        refine WL.not e54 ?_
        exact WL.nil ⟨rfl, _, rfl, rfl, hs.cutG 0 0⟩
      · intro ρ w hs hu55 hp
        obtain ⟨⟨⟨⟨⟨⟨⟨⟨⟨⟨_, hp0_⟩, hp1_⟩, hp2_⟩, hp3_⟩, hp4_⟩, hp5_⟩, hp6_⟩, hp7_⟩, hp8_⟩, hp9_⟩ := hp
        have hs : St ok (bz w0) w [vl t_api_Proposal x30 (ρ 24), pl t_api_Proposal x30 (adOf (ρ 23)), vl t_api_Proposal x25 (ρ 20), pl t_api_Proposal x25 (adOf (ρ 19)), vl (tSlice t_api_Proposal) x1 (.slice a2 x1.length c3), vl (tSlice t_api_Proposal) x4 (.slice a5 x4.length c6)] [] := hs
        have e56 : ρ 26 = .bool (!x35) := hp9_
        have e57 : ρ 25 = .bool x35 := hp8_
        obtain ⟨cs58, e60⟩ := hp7_
        have e60 : ρ 24 = .agg cs58.toArray := e60
        try rw [e60] at hs
        obtain ⟨ad61, e62⟩ := hp6_
        have e62 : ρ 23 = .pointer (some ad61) := e62
        try rw [e62] at hs
        have e63 : ρ 22 = .int .i64 x18 := hp5_
        have e64 : ρ 21 = .slice a5 x4.length c6 := hp4_
        obtain ⟨cs65, e67⟩ := hp3_
        have e67 : ρ 20 = .agg cs65.toArray := e67
        try rw [e67] at hs
        obtain ⟨ad68, e69⟩ := hp2_
        have e69 : ρ 19 = .pointer (some ad68) := e69
        try rw [e69] at hs
        have e70 : ρ 18 = .int .i64 x18 := hp1_
        have e71 : ρ 17 = .slice a2 x1.length c3 := hp0_
        have hl66 := hs.agglen (n := 3) 2 rfl rfl rfl
        have hl59 := hs.agglen (n := 3) 0 rfl rfl rfl
        refine WA.done (by kernel_rfl) ?_
        refine hK24 _ _ ?_
        rcases iteE hf with ⟨hc72, hf⟩ | ⟨hc72, hf⟩
        · refine W.cond_true (bool_tr e56 hc72) ?_
          refine W.seqK fun K73 hK73 => ?_
          refine W.region ?_
          refine WL.assign (v := .bool false) rfl ?_
          refine WL.nil ?_
          refine hK73 _ _ ?_
          refine W.ret ?_
          have hr := Option.some.inj hf; subst hr
          have hr := hbbs19 _ rfl; subst hr
          have hf := hfs19
          have hr := Option.some.inj hf; subst hr
          exact ⟨_, resOk_one rfl rfl, (), rfl, (hs.mask []).pick []⟩
        · refine W.cond_false (bool_tr e56 hc72) ?_
          refine W.skip ?_
          refine hK23 _ _ ?_
          refine W.region ?_
          refine WL.move (v := .int .i64 x18) ((hu55 5 rfl).trans h17_5) ?_
          obtain ⟨x74, ex74, hf⟩ := letE hf
          refine WL.bin (v := .int .i64 x74) rfl rfl (ib_as ex74 (ib_add _ _ _)) ?_
          refine WL.assign (v := .int .i64 x74) rfl ?_
          refine WL.nil ?_
          exact ⟨_, (Option.some.inj hf).symm, ((hu55 0 rfl).trans h17_0), ((hu55 1 rfl).trans h17_1), rfl, (hs.mask []).pick [4, 5]⟩
    · refine W.cond_false (bool_tr rfl hc22) ?_
      refine W.exit ?_
      have hr := Option.some.inj hf; subst hr
      have hr := hbbs19 _ rfl; subst hr
      have hf := hfs19
      exact Jk14  _ _  ((hs.mask []).pick []) hf
/-! elasticstore/elasticstoreref14.EqualCert: function 42 -/
theorem esref14_EqualCert.calls {ok : Nat → Prop} {w0 : World} {x1 : api_Certificate} {x5 : api_Certificate} {v2 : Value} {v6 : Value} {r : Bool} (hf : esref14_EqualCert x1 x5 = some r) (i0 : (vl t_api_Certificate x1 v2).holds ok w0) (i1 : (vl t_api_Certificate x5 v6).holds ok w0) :
    Calls Try.prog 42 #[v2, v6] w0 fun e w' => ∃ v, e = .returned v ∧ ∃ y : Unit, v = .bool r ∧ St ok (bz w0) w' [] [] := by
  unfold esref14_EqualCert at hf
  refine calls_of_W (fn := Try.f42) (N := 17) Try.func42 rfl Try.ntmps42 rfl ?_
  have hs : St ok (bz w0) w0 [vl t_api_Certificate x1 v2, vl t_api_Certificate x5 v6] [] := St.init (All.cons i0 (All.cons i1 All.nil))
  clear i0 i1
  obtain ⟨cs3, hl4, rfl⟩ := hs.aggv (n := 2) 0 rfl rfl rfl
  obtain ⟨cs7, hl8, rfl⟩ := hs.aggv (n := 2) 1 rfl rfl rfl
  refine W.seqK fun K9 hK9 => ?_
  refine W.region ?_
  refine WL.box (vs := cs3) hs rfl rfl (fun g10 w hs => ?_)
  refine WL.box (vs := cs7) hs rfl rfl (fun g11 w hs => ?_)
  refine WL.assign (v := .bool false) rfl ?_
  refine WL.nil ?_
  refine hK9 _ _ ?_
  refine W.seqK fun K12 hK12 => ?_
  have Jk15 : ∀ (x14 : Bool) (ρ : Env) (w : World), ρ 4 = .bool x14 → St ok (bz w0) w [] [] → esref14_EqualCert.j1 x14 = some r → K12 ρ w := by
    intro x14 ρ w h13_4 hs hf
    refine hK12 _ _ ?_
    unfold esref14_EqualCert.j1 at hf
    refine W.ret ?_
    have hr := Option.some.inj hf; subst hr
    exact ⟨_, resOk_one rfl h13_4, (), rfl, (hs.mask []).pick []⟩
  refine W.region ?_
  refine WL.fieldAddr (m := 0) rfl FA43_0 rfl ?_
  refine WL.loadF (z := x1.From) F_api_Certificate_From hs 1 rfl 0 rfl rfl TI41 (.inr rfl) rfl rfl (fun v16 hs => ?_)
  obtain ⟨a17, c18, rfl⟩ := hs.slice 0 rfl
  refine WL.fieldAddr (m := 0) rfl FA43_0 rfl ?_
  refine WL.loadF (z := x5.From) F_api_Certificate_From hs 0 rfl 2 rfl rfl TI41 (.inr rfl) rfl rfl (fun v19 hs => ?_)
  obtain ⟨a20, c21, rfl⟩ := hs.slice 0 rfl
  obtain ⟨x22, hxx22, hf⟩ := bindE hf
  refine WL.call (vs := [.slice a17 (x1.From).length c18, .slice a20 (x5.From).length c21]) hs FN43 ⟨rfl, ⟨rfl, trivial⟩⟩ (fun ok hA => esref06_EqualConfig.calls (x1 := x1.From) (x4 := x5.From) hxx22 (hA.get 1 rfl) (hA.get 0 rfl)) ?_
  rintro _ w hs
  refine WL.move (v := .bool x22) rfl ?_
  rcases iteE hf with ⟨hc23, hf⟩ | ⟨hc23, hf⟩
  · refine WL.fieldAddr (m := 1) rfl FA43_1 rfl ?_ (hg := (wanted_of rfl rfl (bool_tr rfl hc23)).trans rfl)
    refine WL.loadF (z := x1.To) F_api_Certificate_To hs 1 rfl 2 rfl rfl TI41 (.inr rfl) rfl rfl (fun v24 hs => ?_) (hg := (wanted_of rfl rfl (bool_tr rfl hc23)).trans rfl)
    obtain ⟨a25, c26, rfl⟩ := hs.slice 0 rfl
    refine WL.fieldAddr (m := 1) rfl FA43_1 rfl ?_ (hg := (wanted_of rfl rfl (bool_tr rfl hc23)).trans rfl)
    refine WL.loadF (z := x5.To) F_api_Certificate_To hs 0 rfl 4 rfl rfl TI41 (.inr rfl) rfl rfl (fun v27 hs => ?_) (hg := (wanted_of rfl rfl (bool_tr rfl hc23)).trans rfl)
    obtain ⟨a28, c29, rfl⟩ := hs.slice 0 rfl
    obtain ⟨x30, hxx30, hf⟩ := bindE hf
    refine WL.call (vs := [.slice a25 (x1.To).length c26, .slice a28 (x5.To).length c29]) hs FN43 ⟨rfl, ⟨rfl, trivial⟩⟩ (fun ok hA => esref06_EqualConfig.calls (x1 := x1.To) (x4 := x5.To) hxx30 (hA.get 1 rfl) (hA.get 0 rfl)) ?_ (hg := (wanted_of rfl rfl (bool_tr rfl hc23)).trans rfl)
    rintro _ w hs
    refine WL.pickT (v := .bool x30) (bool_tr rfl hc23) rfl ?_
    refine WL.assign (v := .bool x30) rfl ?_
    refine WL.nil ?_
    exact Jk15 x30 _ _ rfl ((hs.mask []).pick []) hf
  · refine WL.pass ((wanted_of rfl rfl (bool_tr rfl hc23)).trans rfl) rfl ?_
    refine WL.pass ((wanted_of rfl rfl (bool_tr rfl hc23)).trans rfl) rfl ?_
    refine WL.pass ((wanted_of rfl rfl (bool_tr rfl hc23)).trans rfl) rfl ?_
    refine WL.pass ((wanted_of rfl rfl (bool_tr rfl hc23)).trans rfl) rfl ?_
    refine WL.pass ((wanted_of rfl rfl (bool_tr rfl hc23)).trans rfl) rfl ?_
    refine WL.pickF (v := .bool false) (bool_tr rfl hc23) rfl ?_
    refine WL.assign (v := .bool false) rfl ?_
    refine WL.nil ?_
    exact Jk15 false _ _ rfl ((hs.mask []).pick []) hf
/-! elasticstore/elasticstoreref14.EqualUpdate: function 59 -/
theorem esref14_EqualUpdate.calls {ok : Nat → Prop} {w0 : World} {x1 : api_Update} {x5 : api_Update} {v2 : Value} {v6 : Value} {r : Bool} (hf : esref14_EqualUpdate x1 x5 = some r) (i0 : (vl t_api_Update x1 v2).holds ok w0) (i1 : (vl t_api_Update x5 v6).holds ok w0) :
    Calls Try.prog 59 #[v2, v6] w0 fun e w' => ∃ v, e = .returned v ∧ ∃ y : Unit, v = .bool r ∧ St ok (bz w0) w' [] [] := by
  unfold esref14_EqualUpdate at hf
  refine calls_of_W (fn := Try.f59) (N := 52) Try.func59 rfl Try.ntmps59 rfl ?_
  have hs : St ok (bz w0) w0 [vl t_api_Update x1 v2, vl t_api_Update x5 v6] [] := St.init (All.cons i0 (All.cons i1 All.nil))
  clear i0 i1
  obtain ⟨cs3, hl4, rfl⟩ := hs.aggv (n := 4) 0 rfl rfl rfl
  obtain ⟨cs7, hl8, rfl⟩ := hs.aggv (n := 4) 1 rfl rfl rfl
  refine W.seqK fun K9 hK9 => ?_
  refine W.region ?_
  refine WL.box (vs := cs3) hs rfl rfl (fun g10 w hs => ?_)
  refine WL.box (vs := cs7) hs rfl rfl (fun g11 w hs => ?_)
  refine WL.assign (v := .bool false) rfl ?_
  refine WL.nil ?_
  refine hK9 _ _ ?_
  refine W.seqK fun K12 hK12 => ?_
  refine W.seqK fun K13 hK13 => ?_
  have Jk16 : ∀ (x15 : Bool) (ρ : Env) (w : World), ρ 2 = .pointer (some ⟨g10, 0, none⟩) → ρ 3 = .pointer (some ⟨g11, 0, none⟩) → ρ 33 = .bool x15 → St ok (bz w0) w [vl t_api_Update x5 (.agg cs7.toArray), vl t_api_Update x1 (.agg cs3.toArray)] [blk g11 102 cs7, blk g10 102 cs3] → esref14_EqualUpdate.j2 x1 x5 x15 = some r → K13 ρ w := by
    intro x15 ρ w h14_2 h14_3 h14_33 hs hf
    refine hK13 _ _ ?_
    unfold esref14_EqualUpdate.j2 at hf
    rcases iteE hf with ⟨hc17, hf⟩ | ⟨hc17, hf⟩
    · refine W.cond_true (bool_tr h14_33 hc17) ?_
      refine W.seqK fun K18 hK18 => ?_
      refine W.region ?_
      refine WL.assign (v := .bool false) rfl ?_
      refine WL.nil ?_
      refine hK18 _ _ ?_
      refine W.ret ?_
      have hr := Option.some.inj hf; subst hr
      exact ⟨_, resOk_one rfl rfl, (), rfl, (hs.mask []).pick []⟩
    · refine W.cond_false (bool_tr h14_33 hc17) ?_
      refine W.skip ?_
      refine hK12 _ _ ?_
      refine W.seqK fun K19 hK19 => ?_
      have Jk21 : ∀  (ρ : Env) (w : World), St ok (bz w0) w [] [] → esref14_EqualUpdate.j1 = some r → K19 ρ w := by
        intro  ρ w  hs hf
        refine hK19 _ _ ?_
        unfold esref14_EqualUpdate.j1 at hf
        refine W.seqK fun K22 hK22 => ?_
        refine W.region ?_
        refine WL.assign (v := .bool true) rfl ?_
        refine WL.nil ?_
        refine hK22 _ _ ?_
        refine W.ret ?_
        have hr := Option.some.inj hf; subst hr
        exact ⟨_, resOk_one rfl rfl, (), rfl, (hs.mask []).pick []⟩
      refine W.seqK fun K23 hK23 => ?_
      refine W.region ?_
      refine WL.assign (v := .int .i64 0) rfl ?_
      refine WL.nil ?_
      refine hK23 _ _ ?_
      refine W.block ?_
      obtain ⟨bs26, hbs26, hfs26⟩ := bindE hf
      refine W.loop hbs26 (fun s ρ w => match s with | x25 => ρ 2 = .pointer (some ⟨g10, 0, none⟩) ∧ ρ 3 = .pointer (some ⟨g11, 0, none⟩) ∧ ρ 5 = .int .i64 x25 ∧ St ok (bz w0) w [vl t_api_Update x5 (.agg cs7.toArray), vl t_api_Update x1 (.agg cs3.toArray)] [blk g11 102 cs7, blk g10 102 cs3]) ⟨h14_2, h14_3, rfl, (hs.mask [true, true]).pick [0, 1]⟩ ?_
      intro x25 ρ w os26 hI hf hbbs26
      obtain ⟨h24_2, h24_3, h24_5, hs⟩ := hI
      unfold esref14_EqualUpdate.l1 at hf
      refine W.seqK fun K27 hK27 => ?_
      refine W.seqK fun K28 hK28 => ?_
      refine W.region ?_
      refine WL.move (v := .int .i64 x25) h24_5 ?_
      refine WL.fieldAddr (m := 3) h24_2 FA102_3 rfl ?_
      refine WL.loadF (z := x1.Effects) F_api_Update_Effects hs 1 rfl 1 rfl rfl TI100 (.inr rfl) rfl rfl (fun v29 hs => ?_)
      obtain ⟨a30, c31, rfl⟩ := hs.slice 0 rfl
      refine WL.len (v := .slice a30 (x1.Effects).length c31) rfl (len_slice UN100) ?_
      refine WL.bin (v := .bool (decide (x25 < ((x1.Effects).length : Int)))) rfl rfl (ib_lss _ _ _) ?_
      refine WL.nil ?_
      refine hK28 _ _ ?_
      rcases iteE hf with ⟨hc32, hf⟩ | ⟨hc32, hf⟩
      · refine W.cond_true (bool_tr rfl hc32) ?_
        refine W.skip ?_
        refine hK27 _ _ ?_
        refine W.seqK fun K33 hK33 => ?_
        refine W.block ?_
        refine W.seqK fun K34 hK34 => ?_
        obtain ⟨x38, hxx38, hf⟩ := bindE hf
        obtain ⟨x46, hxx46, hf⟩ := bindE hf
        refine W.any (by kernel_rfl) 11 0 [true, true, true, true, true, true, true, true, true, true, true] rfl rfl (poAt [pv (.pointer (some ⟨g10, 3, none⟩)), pq (fun y : (Option Addr × Nat) => .slice y.1 (x1.Effects).length y.2) (fun v => [vl (tSlice t_api_Effect) x1.Effects v]) (fun v => []), pv (.int .i64 x25), pq (fun y : Addr => .pointer (some y)) (fun v => [pl t_api_Effect x38 (adOf v)]) (fun v => []), pq (fun y : List Value => .agg y.toArray) (fun v => [vl t_api_Effect x38 v]) (fun v => []), pv (.pointer (some ⟨g11, 3, none⟩)), pq (fun y : (Option Addr × Nat) => .slice y.1 (x5.Effects).length y.2) (fun v => [vl (tSlice t_api_Effect) x5.Effects v]) (fun v => []), pv (.int .i64 x25), pq (fun y : Addr => .pointer (some y)) (fun v => [pl t_api_Effect x46 (adOf v)]) (fun v => []), pq (fun y : List Value => .agg y.toArray) (fun v => [vl t_api_Effect x46 v]) (fun v => []), pv (.bool (!decide ((⟨x38.Kind, x38.Object, x38.Field, x38.N, x38.S⟩ : api_Effect) = (⟨x46.Kind, x46.Object, x46.Field, x46.N, x46.S⟩ : api_Effect))))]) (Λ := [blk g11 102 cs7, blk g10 102 cs3]) hs (by kernel_rfl) (by kernel_rfl) (by kernel_rfl) ⟨⟨⟨⟨⟨⟨⟨⟨⟨⟨⟨trivial, ?_⟩, ?_⟩, ?_⟩, ?_⟩, ?_⟩, ?_⟩, ?_⟩, ?_⟩, ?_⟩, ?_⟩, ?_⟩ ?_
        · intro ρ w Γx Λx hs hu hp
          refine WL.fieldAddr (m := 3) ((hu 2 rfl).trans h24_2) FA102_3 rfl ?_
          exact WL.nil ⟨rfl, _, rfl, rfl, hs.cutG 0 0⟩
        · intro ρ w Γx Λx hs hu hp
          have e51 : ρ 41 = .pointer (some ⟨g10, 3, none⟩) := (hp 0 rfl).1
          refine WL.loadF (z := x1.Effects) F_api_Update_Effects hs (Λx.length + 1) (getApp rfl) (Γx.length + 2) (getApp rfl) rfl TI100 (.inr rfl) e51 rfl (fun v35 hs => ?_)
          obtain ⟨a36, c37, rfl⟩ := hs.slice 0 rfl
          have hs := hs.add (it := vl (tSlice t_api_Effect) x1.Effects (.slice a36 (x1.Effects).length c37)) fun ok hA => hA.get 0 rfl
          exact WL.nil ⟨rfl, _, rfl, ⟨(a36, c37), rfl⟩, hs.cutG 1 1⟩
        · intro ρ w Γx Λx hs hu hp
          refine WL.move (v := .int .i64 x25) ((hu 5 rfl).trans h24_5) ?_
          exact WL.nil ⟨rfl, _, rfl, rfl, hs.cutG 0 0⟩
        · intro ρ w Γx Λx hs hu hp
          obtain ⟨⟨⟨a52, c53⟩, e54r⟩, hm55⟩ := hp 1 rfl
          have e54 : ρ 42 = .slice a52 (x1.Effects).length c53 := e54r
          rw [e54r] at hm55
          have hs := hs.memo1 (it := vl (tSlice t_api_Effect) x1.Effects (.slice a52 (x1.Effects).length c53)) (List.mem_append.2 (.inl (hm55 _ (List.mem_of_getElem? (i := 0) rfl))))
          have e56 : ρ 43 = .int .i64 x25 := (hp 2 rfl).1
          refine WL.indexAddr hs 0 rfl UN100 TI122 e54 e56 hxx38 (fun ad39 hs => ?_)
          have hs := hs.add (it := pl t_api_Effect x38 ad39) fun ok hA => hA.get 0 rfl
          exact WL.nil ⟨rfl, _, rfl, ⟨ad39, rfl⟩, hs.cutG 1 2⟩
        · intro ρ w Γx Λx hs hu hp
          obtain ⟨⟨ad57, e58r⟩, hm59⟩ := hp 3 rfl
          have e58 : ρ 44 = .pointer (some ad57) := e58r
          rw [e58r] at hm59
          have hs := hs.memo1 (it := pl t_api_Effect x38 ad57) (List.mem_append.2 (.inl (hm59 _ (List.mem_of_getElem? (i := 0) rfl))))
          refine WL.loadP hs 0 rfl TI122 (.inl rfl) e58 (fun v40 hs => ?_)
          obtain ⟨cs41, hl42, rfl⟩ := hs.aggv (n := 5) 0 rfl rfl rfl
          have hs := hs.add (it := vl t_api_Effect x38 (.agg cs41.toArray)) fun ok hA => hA.get 0 rfl
          exact WL.nil ⟨rfl, _, rfl, ⟨cs41, rfl⟩, hs.cutG 1 2⟩
        · intro ρ w Γx Λx hs hu hp
          refine WL.fieldAddr (m := 3) ((hu 3 rfl).trans h24_3) FA102_3 rfl ?_
          exact WL.nil ⟨rfl, _, rfl, rfl, hs.cutG 0 0⟩
        · intro ρ w Γx Λx hs hu hp
          have e60 : ρ 46 = .pointer (some ⟨g11, 3, none⟩) := (hp 5 rfl).1
          refine WL.loadF (z := x5.Effects) F_api_Update_Effects hs (Λx.length + 0) (getApp rfl) (Γx.length + 1) (getApp rfl) rfl TI100 (.inr rfl) e60 rfl (fun v43 hs => ?_)
          obtain ⟨a44, c45, rfl⟩ := hs.slice 0 rfl
          have hs := hs.add (it := vl (tSlice t_api_Effect) x5.Effects (.slice a44 (x5.Effects).length c45)) fun ok hA => hA.get 0 rfl
          exact WL.nil ⟨rfl, _, rfl, ⟨(a44, c45), rfl⟩, hs.cutG 1 1⟩
        · intro ρ w Γx Λx hs hu hp
          refine WL.move (v := .int .i64 x25) ((hu 5 rfl).trans h24_5) ?_
          exact WL.nil ⟨rfl, _, rfl, rfl, hs.cutG 0 0⟩
        · intro ρ w Γx Λx hs hu hp
          obtain ⟨⟨⟨a61, c62⟩, e63r⟩, hm64⟩ := hp 6 rfl
          have e63 : ρ 47 = .slice a61 (x5.Effects).length c62 := e63r
          rw [e63r] at hm64
          have hs := hs.memo1 (it := vl (tSlice t_api_Effect) x5.Effects (.slice a61 (x5.Effects).length c62)) (List.mem_append.2 (.inl (hm64 _ (List.mem_of_getElem? (i := 0) rfl))))
          have e65 : ρ 48 = .int .i64 x25 := (hp 7 rfl).1
          refine WL.indexAddr hs 0 rfl UN100 TI122 e63 e65 hxx46 (fun ad47 hs => ?_)
          have hs := hs.add (it := pl t_api_Effect x46 ad47) fun ok hA => hA.get 0 rfl
          exact WL.nil ⟨rfl, _, rfl, ⟨ad47, rfl⟩, hs.cutG 1 2⟩
        · intro ρ w Γx Λx hs hu hp
          obtain ⟨⟨ad66, e67r⟩, hm68⟩ := hp 8 rfl
          have e67 : ρ 49 = .pointer (some ad66) := e67r
          rw [e67r] at hm68
          have hs := hs.memo1 (it := pl t_api_Effect x46 ad66) (List.mem_append.2 (.inl (hm68 _ (List.mem_of_getElem? (i := 0) rfl))))
          refine WL.loadP hs 0 rfl TI122 (.inl rfl) e67 (fun v48 hs => ?_)
          obtain ⟨cs49, hl50, rfl⟩ := hs.aggv (n := 5) 0 rfl rfl rfl
          have hs := hs.add (it := vl t_api_Effect x46 (.agg cs49.toArray)) fun ok hA => hA.get 0 rfl
          exact WL.nil ⟨rfl, _, rfl, ⟨cs49, rfl⟩, hs.cutG 1 2⟩
        · intro ρ w Γx Λx hs hu hp
          obtain ⟨⟨cs69, e71r⟩, hm72⟩ := hp 4 rfl
          have e71 : ρ 45 = .agg cs69.toArray := e71r
          rw [e71r] at hm72
          have hs := hs.memo1 (it := vl t_api_Effect x38 (.agg cs69.toArray)) (List.mem_append.2 (.inl (hm72 _ (List.mem_of_getElem? (i := 0) rfl))))
          have hl70 := hs.agglen (n := 5) 0 rfl rfl rfl
          obtain ⟨⟨cs73, e75r⟩, hm76⟩ := hp 9 rfl
          have e75 : ρ 50 = .agg cs73.toArray := e75r
          rw [e75r] at hm76
          have hs := hs.memo1 (it := vl t_api_Effect x46 (.agg cs73.toArray)) (List.mem_cons_of_mem _ (List.mem_append.2 (.inl (hm76 _ (List.mem_of_getElem? (i := 0) rfl)))))
          have hl74 := hs.agglen (n := 5) 0 rfl rfl rfl
          obtain rfl := open_api_Effect hs 1 rfl
          obtain rfl := open_api_Effect hs 0 rfl
          refine WL.eqA e71 e75 EG122 (NQ122 (⟨x38.Kind, x38.Object, x38.Field, x38.N, x38.S⟩ : api_Effect) (⟨x46.Kind, x46.Object, x46.Field, x46.N, x46.S⟩ : api_Effect)) ?_
          exact WL.nil ⟨rfl, _, rfl, rfl, hs.cutG 0 2⟩
        · intro ρ w hs hu77 hp
          obtain ⟨⟨⟨⟨⟨⟨⟨⟨⟨⟨⟨_, hp0_⟩, hp1_⟩, hp2_⟩, hp3_⟩, hp4_⟩, hp5_⟩, hp6_⟩, hp7_⟩, hp8_⟩, hp9_⟩, hp10_⟩ := hp
          have hs : St ok (bz w0) w [vl t_api_Effect x46 (ρ 50), pl t_api_Effect x46 (adOf (ρ 49)), vl (tSlice t_api_Effect) x5.Effects (ρ 47), vl t_api_Effect x38 (ρ 45), pl t_api_Effect x38 (adOf (ρ 44)), vl (tSlice t_api_Effect) x1.Effects (ρ 42), vl (tSlice t_api_Effect) x1.Effects (.slice a30 (x1.Effects).length c31), vl t_api_Update x5 (.agg cs7.toArray), vl t_api_Update x1 (.agg cs3.toArray)] [blk g11 102 cs7, blk g10 102 cs3] := hs
          have e78 : ρ 51 = .bool (!decide ((⟨x38.Kind, x38.Object, x38.Field, x38.N, x38.S⟩ : api_Effect) = (⟨x46.Kind, x46.Object, x46.Field, x46.N, x46.S⟩ : api_Effect))) := hp10_
          obtain ⟨cs79, e81⟩ := hp9_
          have e81 : ρ 50 = .agg cs79.toArray := e81
          try rw [e81] at hs
          obtain ⟨ad82, e83⟩ := hp8_
          have e83 : ρ 49 = .pointer (some ad82) := e83
          try rw [e83] at hs
          have e84 : ρ 48 = .int .i64 x25 := hp7_
          obtain ⟨⟨a85, c86⟩, e87⟩ := hp6_
          have e87 : ρ 47 = .slice a85 (x5.Effects).length c86 := e87
          try rw [e87] at hs
          have e88 : ρ 46 = .pointer (some ⟨g11, 3, none⟩) := hp5_
          obtain ⟨cs89, e91⟩ := hp4_
          have e91 : ρ 45 = .agg cs89.toArray := e91
          try rw [e91] at hs
          obtain ⟨ad92, e93⟩ := hp3_
          have e93 : ρ 44 = .pointer (some ad92) := e93
          try rw [e93] at hs
          have e94 : ρ 43 = .int .i64 x25 := hp2_
          obtain ⟨⟨a95, c96⟩, e97⟩ := hp1_
          have e97 : ρ 42 = .slice a95 (x1.Effects).length c96 := e97
          try rw [e97] at hs
          have e98 : ρ 41 = .pointer (some ⟨g10, 3, none⟩) := hp0_
          have hl90 := hs.agglen (n := 5) 3 rfl rfl rfl
          have hl80 := hs.agglen (n := 5) 0 rfl rfl rfl
          refine WA.done (by kernel_rfl) ?_
          refine hK34 _ _ ?_
          rcases iteE hf with ⟨hc99, hf⟩ | ⟨hc99, hf⟩
          · refine W.cond_true (bool_tr e78 hc99) ?_
            refine W.seqK fun K100 hK100 => ?_
            refine W.region ?_
            refine WL.assign (v := .bool false) rfl ?_
            refine WL.nil ?_
            refine hK100 _ _ ?_
            refine W.ret ?_
            have hr := Option.some.inj hf; subst hr
            have hr := hbbs26 _ rfl; subst hr
            have hf := hfs26
            have hr := Option.some.inj hf; subst hr
            exact ⟨_, resOk_one rfl rfl, (), rfl, (hs.mask []).pick []⟩
          · refine W.cond_false (bool_tr e78 hc99) ?_
            refine W.skip ?_
            refine hK33 _ _ ?_
            refine W.region ?_
            refine WL.move (v := .int .i64 x25) ((hu77 5 rfl).trans h24_5) ?_
            obtain ⟨x101, ex101, hf⟩ := letE hf
            refine WL.bin (v := .int .i64 x101) rfl rfl (ib_as ex101 (ib_add _ _ _)) ?_
            refine WL.assign (v := .int .i64 x101) rfl ?_
            refine WL.nil ?_
            exact ⟨_, (Option.some.inj hf).symm, ((hu77 2 rfl).trans h24_2), ((hu77 3 rfl).trans h24_3), rfl, (hs.mask [true, true]).pick [7, 8]⟩
      · refine W.cond_false (bool_tr rfl hc32) ?_
        refine W.exit ?_
        have hr := Option.some.inj hf; subst hr
        have hr := hbbs26 _ rfl; subst hr
        have hf := hfs26
        exact Jk21  _ _  ((hs.mask []).pick []) hf
  refine W.region ?_
  refine WL.fieldAddr (m := 0) rfl FA102_0 rfl ?_
  refine WL.loadF (z := x1.Client) F_api_Update_Client hs 1 rfl 0 rfl rfl TI3 (.inr rfl) rfl rfl (fun v103 hs => ?_)
  obtain rfl := hs.int 0 rfl
  refine WL.fieldAddr (m := 0) rfl FA102_0 rfl ?_
  refine WL.loadF (z := x5.Client) F_api_Update_Client hs 0 rfl 2 rfl rfl TI3 (.inr rfl) rfl rfl (fun v104 hs => ?_)
  obtain rfl := hs.int 0 rfl
  refine WL.bin (v := .bool (x1.Client != x5.Client)) rfl rfl (ib_neq _ _ _) ?_
  refine WL.move (v := .bool (x1.Client != x5.Client)) rfl ?_
  rcases iteE hf with ⟨hc105, hf⟩ | ⟨hc105, hf⟩
  · refine WL.pass ((wanted_of rfl rfl (bool_tr rfl hc105)).trans rfl) rfl ?_
    refine WL.pass ((wanted_of rfl rfl (bool_tr rfl hc105)).trans rfl) rfl ?_
    refine WL.pass ((wanted_of rfl rfl (bool_tr rfl hc105)).trans rfl) rfl ?_
    refine WL.pass ((wanted_of rfl rfl (bool_tr rfl hc105)).trans rfl) rfl ?_
    refine WL.pass ((wanted_of rfl rfl (bool_tr rfl hc105)).trans rfl) rfl ?_
    refine WL.pickT (v := .bool true) (bool_tr rfl hc105) rfl ?_
    refine WL.move (v := .bool true) rfl ?_
    refine WL.pass ((wanted_of rfl rfl rfl).trans rfl) rfl ?_
    refine WL.pass ((wanted_of rfl rfl rfl).trans rfl) rfl ?_
    refine WL.pass ((wanted_of rfl rfl rfl).trans rfl) rfl ?_
    refine WL.pass ((wanted_of rfl rfl rfl).trans rfl) rfl ?_
    refine WL.pass ((wanted_of rfl rfl rfl).trans rfl) rfl ?_
    refine WL.pickT (v := .bool true) rfl rfl ?_
    refine WL.move (v := .bool true) rfl ?_
    refine WL.pass ((wanted_of rfl rfl rfl).trans rfl) rfl ?_
    refine WL.pass ((wanted_of rfl rfl rfl).trans rfl) rfl ?_
    refine WL.pass ((wanted_of rfl rfl rfl).trans rfl) rfl ?_
    refine WL.pass ((wanted_of rfl rfl rfl).trans rfl) rfl ?_
    refine WL.pass ((wanted_of rfl rfl rfl).trans rfl) rfl ?_
    refine WL.pass ((wanted_of rfl rfl rfl).trans rfl) rfl ?_
    refine WL.pass ((wanted_of rfl rfl rfl).trans rfl) rfl ?_
    refine WL.pickT (v := .bool true) rfl rfl ?_
    refine WL.nil ?_
    exact Jk16 true _ _ rfl rfl rfl ((hs.mask [true, true]).pick [3, 2]) hf
  · refine WL.fieldAddr (m := 1) rfl FA102_1 rfl ?_ (hg := (wanted_of rfl rfl (bool_tr rfl hc105)).trans rfl)
    refine WL.loadF (z := x1.Seq) F_api_Update_Seq hs 1 rfl 2 rfl rfl TI3 (.inr rfl) rfl rfl (fun v106 hs => ?_) (hg := (wanted_of rfl rfl (bool_tr rfl hc105)).trans rfl)
    obtain rfl := hs.int 0 rfl
    refine WL.fieldAddr (m := 1) rfl FA102_1 rfl ?_ (hg := (wanted_of rfl rfl (bool_tr rfl hc105)).trans rfl)
    refine WL.loadF (z := x5.Seq) F_api_Update_Seq hs 0 rfl 4 rfl rfl TI3 (.inr rfl) rfl rfl (fun v107 hs => ?_) (hg := (wanted_of rfl rfl (bool_tr rfl hc105)).trans rfl)
    obtain rfl := hs.int 0 rfl
    refine WL.bin (v := .bool (x1.Seq != x5.Seq)) rfl rfl (ib_neq _ _ _) ?_ (hg := (wanted_of rfl rfl (bool_tr rfl hc105)).trans rfl)
    refine WL.pickF (v := .bool (x1.Seq != x5.Seq)) (bool_tr rfl hc105) rfl ?_
    refine WL.move (v := .bool (x1.Seq != x5.Seq)) rfl ?_
    rcases iteE hf with ⟨hc108, hf⟩ | ⟨hc108, hf⟩
    · refine WL.pass ((wanted_of rfl rfl (bool_tr rfl hc108)).trans rfl) rfl ?_
      refine WL.pass ((wanted_of rfl rfl (bool_tr rfl hc108)).trans rfl) rfl ?_
      refine WL.pass ((wanted_of rfl rfl (bool_tr rfl hc108)).trans rfl) rfl ?_
      refine WL.pass ((wanted_of rfl rfl (bool_tr rfl hc108)).trans rfl) rfl ?_
      refine WL.pass ((wanted_of rfl rfl (bool_tr rfl hc108)).trans rfl) rfl ?_
      refine WL.pickT (v := .bool true) (bool_tr rfl hc108) rfl ?_
      refine WL.move (v := .bool true) rfl ?_
      refine WL.pass ((wanted_of rfl rfl rfl).trans rfl) rfl ?_
      refine WL.pass ((wanted_of rfl rfl rfl).trans rfl) rfl ?_
      refine WL.pass ((wanted_of rfl rfl rfl).trans rfl) rfl ?_
      refine WL.pass ((wanted_of rfl rfl rfl).trans rfl) rfl ?_
      refine WL.pass ((wanted_of rfl rfl rfl).trans rfl) rfl ?_
      refine WL.pass ((wanted_of rfl rfl rfl).trans rfl) rfl ?_
      refine WL.pass ((wanted_of rfl rfl rfl).trans rfl) rfl ?_
      refine WL.pickT (v := .bool true) rfl rfl ?_
      refine WL.nil ?_
      exact Jk16 true _ _ rfl rfl rfl ((hs.mask [true, true]).pick [5, 4]) hf
    · refine WL.fieldAddr (m := 2) rfl FA102_2 rfl ?_ (hg := (wanted_of rfl rfl (bool_tr rfl hc108)).trans rfl)
      refine WL.loadF (z := x1.Tag) F_api_Update_Tag hs 1 rfl 4 rfl rfl TI3 (.inr rfl) rfl rfl (fun v109 hs => ?_) (hg := (wanted_of rfl rfl (bool_tr rfl hc108)).trans rfl)
      obtain rfl := hs.int 0 rfl
      refine WL.fieldAddr (m := 2) rfl FA102_2 rfl ?_ (hg := (wanted_of rfl rfl (bool_tr rfl hc108)).trans rfl)
      refine WL.loadF (z := x5.Tag) F_api_Update_Tag hs 0 rfl 6 rfl rfl TI3 (.inr rfl) rfl rfl (fun v110 hs => ?_) (hg := (wanted_of rfl rfl (bool_tr rfl hc108)).trans rfl)
      obtain rfl := hs.int 0 rfl
      refine WL.bin (v := .bool (x1.Tag != x5.Tag)) rfl rfl (ib_neq _ _ _) ?_ (hg := (wanted_of rfl rfl (bool_tr rfl hc108)).trans rfl)
      refine WL.pickF (v := .bool (x1.Tag != x5.Tag)) (bool_tr rfl hc108) rfl ?_
      refine WL.move (v := .bool (x1.Tag != x5.Tag)) rfl ?_
      rcases iteE hf with ⟨hc111, hf⟩ | ⟨hc111, hf⟩
      · refine WL.pass ((wanted_of rfl rfl (bool_tr rfl hc111)).trans rfl) rfl ?_
        refine WL.pass ((wanted_of rfl rfl (bool_tr rfl hc111)).trans rfl) rfl ?_
        refine WL.pass ((wanted_of rfl rfl (bool_tr rfl hc111)).trans rfl) rfl ?_
        refine WL.pass ((wanted_of rfl rfl (bool_tr rfl hc111)).trans rfl) rfl ?_
        refine WL.pass ((wanted_of rfl rfl (bool_tr rfl hc111)).trans rfl) rfl ?_
        refine WL.pass ((wanted_of rfl rfl (bool_tr rfl hc111)).trans rfl) rfl ?_
        refine WL.pass ((wanted_of rfl rfl (bool_tr rfl hc111)).trans rfl) rfl ?_
        refine WL.pickT (v := .bool true) (bool_tr rfl hc111) rfl ?_
        refine WL.nil ?_
        exact Jk16 true _ _ rfl rfl rfl ((hs.mask [true, true]).pick [7, 6]) hf
      · refine WL.fieldAddr (m := 3) rfl FA102_3 rfl ?_ (hg := (wanted_of rfl rfl (bool_tr rfl hc111)).trans rfl)
        refine WL.loadF (z := x1.Effects) F_api_Update_Effects hs 1 rfl 6 rfl rfl TI100 (.inr rfl) rfl rfl (fun v112 hs => ?_) (hg := (wanted_of rfl rfl (bool_tr rfl hc111)).trans rfl)
        obtain ⟨a113, c114, rfl⟩ := hs.slice 0 rfl
        refine WL.len (v := .slice a113 (x1.Effects).length c114) rfl (len_slice UN100) ?_ (hg := (wanted_of rfl rfl (bool_tr rfl hc111)).trans rfl)
        refine WL.fieldAddr (m := 3) rfl FA102_3 rfl ?_ (hg := (wanted_of rfl rfl (bool_tr rfl hc111)).trans rfl)
        refine WL.loadF (z := x5.Effects) F_api_Update_Effects hs 0 rfl 8 rfl rfl TI100 (.inr rfl) rfl rfl (fun v115 hs => ?_) (hg := (wanted_of rfl rfl (bool_tr rfl hc111)).trans rfl)
        obtain ⟨a116, c117, rfl⟩ := hs.slice 0 rfl
        refine WL.len (v := .slice a116 (x5.Effects).length c117) rfl (len_slice UN100) ?_ (hg := (wanted_of rfl rfl (bool_tr rfl hc111)).trans rfl)
        refine WL.bin (v := .bool (((x1.Effects).length : Int) != ((x5.Effects).length : Int))) rfl rfl (ib_neq _ _ _) ?_ (hg := (wanted_of rfl rfl (bool_tr rfl hc111)).trans rfl)
        refine WL.pickF (v := .bool (((x1.Effects).length : Int) != ((x5.Effects).length : Int))) (bool_tr rfl hc111) rfl ?_
        refine WL.nil ?_
        exact Jk16 (((x1.Effects).length : Int) != ((x5.Effects).length : Int)) _ _ rfl rfl rfl ((hs.mask [true, true]).pick [9, 8]) hf
/-! elasticstore/elasticstoreref14.EqualState: function 44 -/
theorem esref14_EqualState.calls {ok : Nat → Prop} {w0 : World} {x1 : List api_Update} {x4 : List api_Update} {a2 : Option Addr} {c3 : Nat} {a5 : Option Addr} {c6 : Nat} {r : Bool} (hf : esref14_EqualState x1 x4 = some r) (i0 : (vl (tSlice t_api_Update) x1 (.slice a2 x1.length c3)).holds ok w0) (i1 : (vl (tSlice t_api_Update) x4 (.slice a5 x4.length c6)).holds ok w0) :
    Calls Try.prog 44 #[.slice a2 x1.length c3, .slice a5 x4.length c6] w0 fun e w' => ∃ v, e = .returned v ∧ ∃ y : Unit, v = .bool r ∧ St ok (bz w0) w' [] [] := by
  unfold esref14_EqualState at hf
  refine calls_of_W (fn := Try.f44) (N := 27) Try.func44 rfl Try.ntmps44 rfl ?_
  have hs : St ok (bz w0) w0 [vl (tSlice t_api_Update) x1 (.slice a2 x1.length c3), vl (tSlice t_api_Update) x4 (.slice a5 x4.length c6)] [] := St.init (All.cons i0 (All.cons i1 All.nil))
  clear i0 i1
  refine W.seqK fun K7 hK7 => ?_
  refine W.region ?_
  refine WL.assign (v := .bool false) rfl ?_
  refine WL.nil ?_
  refine hK7 _ _ ?_
  refine W.seqK fun K8 hK8 => ?_
  refine W.seqK fun K9 hK9 => ?_
  refine W.region ?_
  refine WL.move (v := .slice a2 x1.length c3) rfl ?_
  refine WL.len (v := .slice a2 x1.length c3) rfl (len_slice UN45) ?_
  refine WL.move (v := .slice a5 x4.length c6) rfl ?_
  refine WL.len (v := .slice a5 x4.length c6) rfl (len_slice UN45) ?_
  refine WL.bin (v := .bool ((x1.length : Int) != (x4.length : Int))) rfl rfl (ib_neq _ _ _) ?_
  refine WL.nil ?_
  refine hK9 _ _ ?_
  rcases iteE hf with ⟨hc10, hf⟩ | ⟨hc10, hf⟩
  · refine W.cond_true (bool_tr rfl hc10) ?_
    refine W.seqK fun K11 hK11 => ?_
    refine W.region ?_
    refine WL.assign (v := .bool false) rfl ?_
    refine WL.nil ?_
    refine hK11 _ _ ?_
    refine W.ret ?_
    have hr := Option.some.inj hf; subst hr
    exact ⟨_, resOk_one rfl rfl, (), rfl, (hs.mask []).pick []⟩
  · refine W.cond_false (bool_tr rfl hc10) ?_
    refine W.skip ?_
    refine hK8 _ _ ?_
    refine W.seqK fun K12 hK12 => ?_
    have Jk14 : ∀  (ρ : Env) (w : World), St ok (bz w0) w [] [] → esref14_EqualState.j1 = some r → K12 ρ w := by
      intro  ρ w  hs hf
      refine hK12 _ _ ?_
      unfold esref14_EqualState.j1 at hf
      refine W.seqK fun K15 hK15 => ?_
      refine W.region ?_
      refine WL.assign (v := .bool true) rfl ?_
      refine WL.nil ?_
      refine hK15 _ _ ?_
      refine W.ret ?_
      have hr := Option.some.inj hf; subst hr
      exact ⟨_, resOk_one rfl rfl, (), rfl, (hs.mask []).pick []⟩
    refine W.seqK fun K16 hK16 => ?_
    refine W.region ?_
    refine WL.assign (v := .int .i64 0) rfl ?_
    refine WL.nil ?_
    refine hK16 _ _ ?_
    refine W.block ?_
    obtain ⟨bs19, hbs19, hfs19⟩ := bindE hf
    refine W.loop hbs19 (fun s ρ w => match s with | x18 => ρ 0 = .slice a2 x1.length c3 ∧ ρ 1 = .slice a5 x4.length c6 ∧ ρ 5 = .int .i64 x18 ∧ St ok (bz w0) w [vl (tSlice t_api_Update) x1 (.slice a2 x1.length c3), vl (tSlice t_api_Update) x4 (.slice a5 x4.length c6)] []) ⟨rfl, rfl, rfl, (hs.mask []).pick [0, 1]⟩ ?_
    intro x18 ρ w os19 hI hf hbbs19
    obtain ⟨h17_0, h17_1, h17_5, hs⟩ := hI
    unfold esref14_EqualState.l1 at hf
    refine W.seqK fun K20 hK20 => ?_
    refine W.seqK fun K21 hK21 => ?_
    refine W.region ?_
    refine WL.move (v := .int .i64 x18) h17_5 ?_
    refine WL.move (v := .slice a2 x1.length c3) h17_0 ?_
    refine WL.len (v := .slice a2 x1.length c3) rfl (len_slice UN45) ?_
    refine WL.bin (v := .bool (decide (x18 < (x1.length : Int)))) rfl rfl (ib_lss _ _ _) ?_
    refine WL.nil ?_
    refine hK21 _ _ ?_
    rcases iteE hf with ⟨hc22, hf⟩ | ⟨hc22, hf⟩
    · refine W.cond_true (bool_tr rfl hc22) ?_
      refine W.skip ?_
      refine hK20 _ _ ?_
      refine W.seqK fun K23 hK23 => ?_
      refine W.block ?_
      refine W.seqK fun K24 hK24 => ?_
      obtain ⟨x25, hxx25, hf⟩ := bindE hf
      obtain ⟨x30, hxx30, hf⟩ := bindE hf
      obtain ⟨x35, hxx35, hf⟩ := bindE hf
      refine W.any (by kernel_rfl) 10 0 [true, true, true, true, true, true, true, true, true, true] rfl rfl (poAt [pv (.slice a2 x1.length c3), pv (.int .i64 x18), pq (fun y : Addr => .pointer (some y)) (fun v => [pl t_api_Update x25 (adOf v)]) (fun v => []), pq (fun y : List Value => .agg y.toArray) (fun v => [vl t_api_Update x25 v]) (fun v => []), pv (.slice a5 x4.length c6), pv (.int .i64 x18), pq (fun y : Addr => .pointer (some y)) (fun v => [pl t_api_Update x30 (adOf v)]) (fun v => []), pq (fun y : List Value => .agg y.toArray) (fun v => [vl t_api_Update x30 v]) (fun v => []), pv (.bool x35), pv (.bool (!x35))]) (Λ := []) hs (by kernel_rfl) (by kernel_rfl) (by kernel_rfl) ⟨⟨⟨⟨⟨⟨⟨⟨⟨⟨trivial, ?_⟩, ?_⟩, ?_⟩, ?_⟩, ?_⟩, ?_⟩, ?_⟩, ?_⟩, ?_⟩, ?_⟩ ?_
      · intro ρ w Γx Λx hs hu hp
        refine WL.move (v := .slice a2 x1.length c3) ((hu 0 rfl).trans h17_0) ?_
        exact WL.nil ⟨rfl, _, rfl, rfl, hs.cutG 0 0⟩
      · intro ρ w Γx Λx hs hu hp
        refine WL.move (v := .int .i64 x18) ((hu 5 rfl).trans h17_5) ?_
        exact WL.nil ⟨rfl, _, rfl, rfl, hs.cutG 0 0⟩
      · intro ρ w Γx Λx hs hu hp
        have e36 : ρ 17 = .slice a2 x1.length c3 := (hp 0 rfl).1
        have e37 : ρ 18 = .int .i64 x18 := (hp 1 rfl).1
        refine WL.indexAddr hs (Γx.length + 0) (getApp rfl) UN45 TI102 e36 e37 hxx25 (fun ad26 hs => ?_)
        have hs := hs.add (it := pl t_api_Update x25 ad26) fun ok hA => hA.get 0 rfl
        exact WL.nil ⟨rfl, _, rfl, ⟨ad26, rfl⟩, hs.cutG 1 1⟩
      · intro ρ w Γx Λx hs hu hp
        obtain ⟨⟨ad38, e39r⟩, hm40⟩ := hp 2 rfl
        have e39 : ρ 19 = .pointer (some ad38) := e39r
        rw [e39r] at hm40
        have hs := hs.memo1 (it := pl t_api_Update x25 ad38) (List.mem_append.2 (.inl (hm40 _ (List.mem_of_getElem? (i := 0) rfl))))
        refine WL.loadP hs 0 rfl TI102 (.inl rfl) e39 (fun v27 hs => ?_)
        obtain ⟨cs28, hl29, rfl⟩ := hs.aggv (n := 4) 0 rfl rfl rfl
        have hs := hs.add (it := vl t_api_Update x25 (.agg cs28.toArray)) fun ok hA => hA.get 0 rfl
        exact WL.nil ⟨rfl, _, rfl, ⟨cs28, rfl⟩, hs.cutG 1 2⟩
      · intro ρ w Γx Λx hs hu hp
        refine WL.move (v := .slice a5 x4.length c6) ((hu 1 rfl).trans h17_1) ?_
        exact WL.nil ⟨rfl, _, rfl, rfl, hs.cutG 0 0⟩
      · intro ρ w Γx Λx hs hu hp
        refine WL.move (v := .int .i64 x18) ((hu 5 rfl).trans h17_5) ?_
        exact WL.nil ⟨rfl, _, rfl, rfl, hs.cutG 0 0⟩
      · intro ρ w Γx Λx hs hu hp
        have e41 : ρ 21 = .slice a5 x4.length c6 := (hp 4 rfl).1
        have e42 : ρ 22 = .int .i64 x18 := (hp 5 rfl).1
        refine WL.indexAddr hs (Γx.length + 1) (getApp rfl) UN45 TI102 e41 e42 hxx30 (fun ad31 hs => ?_)
        have hs := hs.add (it := pl t_api_Update x30 ad31) fun ok hA => hA.get 0 rfl
        exact WL.nil ⟨rfl, _, rfl, ⟨ad31, rfl⟩, hs.cutG 1 1⟩
      · intro ρ w Γx Λx hs hu hp
        obtain ⟨⟨ad43, e44r⟩, hm45⟩ := hp 6 rfl
        have e44 : ρ 23 = .pointer (some ad43) := e44r
        rw [e44r] at hm45
        have hs := hs.memo1 (it := pl t_api_Update x30 ad43) (List.mem_append.2 (.inl (hm45 _ (List.mem_of_getElem? (i := 0) rfl))))
        refine WL.loadP hs 0 rfl TI102 (.inl rfl) e44 (fun v32 hs => ?_)
        obtain ⟨cs33, hl34, rfl⟩ := hs.aggv (n := 4) 0 rfl rfl rfl
        have hs := hs.add (it := vl t_api_Update x30 (.agg cs33.toArray)) fun ok hA => hA.get 0 rfl
        exact WL.nil ⟨rfl, _, rfl, ⟨cs33, rfl⟩, hs.cutG 1 2⟩
      · intro ρ w Γx Λx hs hu hp
        obtain ⟨⟨cs46, e48r⟩, hm49⟩ := hp 3 rfl
        have e48 : ρ 20 = .agg cs46.toArray := e48r
        rw [e48r] at hm49
        have hs := hs.memo1 (it := vl t_api_Update x25 (.agg cs46.toArray)) (List.mem_append.2 (.inl (hm49 _ (List.mem_of_getElem? (i := 0) rfl))))
        have hl47 := hs.agglen (n := 4) 0 rfl rfl rfl
        obtain ⟨⟨cs50, e52r⟩, hm53⟩ := hp 7 rfl
        have e52 : ρ 24 = .agg cs50.toArray := e52r
        rw [e52r] at hm53
        have hs := hs.memo1 (it := vl t_api_Update x30 (.agg cs50.toArray)) (List.mem_cons_of_mem _ (List.mem_append.2 (.inl (hm53 _ (List.mem_of_getElem? (i := 0) rfl)))))
        have hl51 := hs.agglen (n := 4) 0 rfl rfl rfl
        refine WL.call (vs := [.agg cs46.toArray, .agg cs50.toArray]) hs FN59 ⟨e48, ⟨e52, trivial⟩⟩ (fun ok hA => esref14_EqualUpdate.calls (x1 := x25) (x5 := x30) hxx35 (hA.get 1 rfl) (hA.get 0 rfl)) ?_
        rintro _ w hs
        exact WL.nil ⟨rfl, _, rfl, rfl, hs.cutG 0 2⟩
      · intro ρ w Γx Λx hs hu hp
        have e54 : ρ 25 = .bool x35 := (hp 8 rfl).1
        refine WL.not e54 ?_
        exact WL.nil ⟨rfl, _, rfl, rfl, hs.cutG 0 0⟩
      · intro ρ w hs hu55 hp
        obtain ⟨⟨⟨⟨⟨⟨⟨⟨⟨⟨_, hp0_⟩, hp1_⟩, hp2_⟩, hp3_⟩, hp4_⟩, hp5_⟩, hp6_⟩, hp7_⟩, hp8_⟩, hp9_⟩ := hp
        have hs : St ok (bz w0) w [vl t_api_Update x30 (ρ 24), pl t_api_Update x30 (adOf (ρ 23)), vl t_api_Update x25 (ρ 20), pl t_api_Update x25 (adOf (ρ 19)), vl (tSlice t_api_Update) x1 (.slice a2 x1.length c3), vl (tSlice t_api_Update) x4 (.slice a5 x4.length c6)] [] := hs
        have e56 : ρ 26 = .bool (!x35) := hp9_
        have e57 : ρ 25 = .bool x35 := hp8_
        obtain ⟨cs58, e60⟩ := hp7_
        have e60 : ρ 24 = .agg cs58.toArray := e60
        try rw [e60] at hs
        obtain ⟨ad61, e62⟩ := hp6_
        have e62 : ρ 23 = .pointer (some ad61) := e62
        try rw [e62] at hs
        have e63 : ρ 22 = .int .i64 x18 := hp5_
        have e64 : ρ 21 = .slice a5 x4.length c6 := hp4_
        obtain ⟨cs65, e67⟩ := hp3_
        have e67 : ρ 20 = .agg cs65.toArray := e67
        try rw [e67] at hs
        obtain ⟨ad68, e69⟩ := hp2_
        have e69 : ρ 19 = .pointer (some ad68) := e69
        try rw [e69] at hs
        have e70 : ρ 18 = .int .i64 x18 := hp1_
        have e71 : ρ 17 = .slice a2 x1.length c3 := hp0_
        have hl66 := hs.agglen (n := 4) 2 rfl rfl rfl
        have hl59 := hs.agglen (n := 4) 0 rfl rfl rfl
        refine WA.done (by kernel_rfl) ?_
        refine hK24 _ _ ?_
        rcases iteE hf with ⟨hc72, hf⟩ | ⟨hc72, hf⟩
        · refine W.cond_true (bool_tr e56 hc72) ?_
          refine W.seqK fun K73 hK73 => ?_
          refine W.region ?_
          refine WL.assign (v := .bool false) rfl ?_
          refine WL.nil ?_
          refine hK73 _ _ ?_
          refine W.ret ?_
          have hr := Option.some.inj hf; subst hr
          have hr := hbbs19 _ rfl; subst hr
          have hf := hfs19
          have hr := Option.some.inj hf; subst hr
          exact ⟨_, resOk_one rfl rfl, (), rfl, (hs.mask []).pick []⟩
        · refine W.cond_false (bool_tr e56 hc72) ?_
          refine W.skip ?_
          refine hK23 _ _ ?_
          refine W.region ?_
          refine WL.move (v := .int .i64 x18) ((hu55 5 rfl).trans h17_5) ?_
          obtain ⟨x74, ex74, hf⟩ := letE hf
          refine WL.bin (v := .int .i64 x74) rfl rfl (ib_as ex74 (ib_add _ _ _)) ?_
          refine WL.assign (v := .int .i64 x74) rfl ?_
          refine WL.nil ?_
          exact ⟨_, (Option.some.inj hf).symm, ((hu55 0 rfl).trans h17_0), ((hu55 1 rfl).trans h17_1), rfl, (hs.mask []).pick [4, 5]⟩
    · refine W.cond_false (bool_tr rfl hc22) ?_
      refine W.exit ?_
      have hr := Option.some.inj hf; subst hr
      have hr := hbbs19 _ rfl; subst hr
      have hf := hfs19
      exact Jk14  _ _  ((hs.mask []).pick []) hf
end Go.Proofs.Ytahobbichanccaa
