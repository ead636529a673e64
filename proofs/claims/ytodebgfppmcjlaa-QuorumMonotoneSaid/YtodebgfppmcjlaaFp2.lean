import Derived.Test.YtodebgfppmcjlaaFh
import Derived.Test.YtodebgfppmcjlaaFp0
import Derived.Test.YtodebgfppmcjlaaFp1
set_option linter.unusedVariables false
set_option linter.unusedSimpArgs false
namespace Go.Proofs.Ytodebgfppmcjlaa
open Go Go.RowKit Go.Proofs.YtodebgfppmcjlaaL
set_option maxRecDepth 100000
set_option maxHeartbeats 4000000
/-! elasticstore/quorum.ValidateView: function 14 -/
theorem quorum_ValidateView.calls {ok : Nat → Prop} {w0 : World} {x1 : api_View} {v2 : Value} {r : Int} (hf : quorum_ValidateView x1 = some r) (i0 : (vl t_api_View x1 v2).holds ok w0) :
    Calls Try.prog 14 #[v2] w0 fun e w' => ∃ v, e = .returned v ∧ ∃ y : Unit, v = .int .i64 r ∧ St ok (bz w0) w' [] [] := by
  unfold quorum_ValidateView at hf
  refine calls_of_W (fn := Try.f14) (N := 53) Try.func14 rfl Try.ntmps14 rfl ?_
  have hs : St ok (bz w0) w0 [vl t_api_View x1 v2] [] := St.init (All.cons i0 All.nil)
  clear i0
  obtain ⟨cs3, hl4, rfl⟩ := hs.aggv (n := 4) 0 rfl rfl rfl
  refine W.seqK fun K5 hK5 => ?_
  refine W.region ?_
  refine WL.box (vs := cs3) hs rfl rfl (fun g6 w hs => ?_)
  refine WL.assign (v := .int .i64 0) rfl ?_
  refine WL.nil ?_
  refine hK5 _ _ ?_
  refine W.seqK fun K7 hK7 => ?_
  refine W.seqK fun K8 hK8 => ?_
  refine W.region ?_
  refine WL.fieldAddr (m := 1) rfl FA26_1 rfl ?_
  refine WL.loadF (z := x1.Rule) F_api_View_Rule hs 0 rfl 0 rfl rfl TI23 (.inl rfl) rfl rfl (fun v9 hs => ?_)
  obtain ⟨cs10, hl11, rfl⟩ := hs.aggv (n := 3) 0 rfl rfl rfl
  obtain ⟨x12, hxx12, hf⟩ := bindE hf
  refine WL.call (vs := [.agg cs10.toArray]) hs FN12 ⟨rfl, trivial⟩ (fun ok hA => quorum_ValidateRule.calls (x1 := x1.Rule) hxx12 (hA.get 0 rfl)) ?_
  rintro _ w hs
  refine WL.assign (v := .int .i64 x12) rfl ?_
  refine WL.nil ?_
  refine hK8 _ _ ?_
  refine W.seqK fun K13 hK13 => ?_
  refine W.region ?_
  refine WL.move (v := .int .i64 x12) rfl ?_
  refine WL.bin (v := .bool (x12 != 0)) rfl rfl (ib_neq _ _ _) ?_
  refine WL.nil ?_
  refine hK13 _ _ ?_
  rcases iteE hf with ⟨hc14, hf⟩ | ⟨hc14, hf⟩
  · refine W.cond_true (bool_tr rfl hc14) ?_
    refine W.seqK fun K15 hK15 => ?_
    refine W.region ?_
    refine WL.move (v := .int .i64 x12) rfl ?_
    refine WL.assign (v := .int .i64 x12) rfl ?_
    refine WL.nil ?_
    refine hK15 _ _ ?_
    refine W.ret ?_
    have hr := Option.some.inj hf; subst hr
    exact ⟨_, resOk_one rfl rfl, (), rfl, (hs.mask []).pick []⟩
  · refine W.cond_false (bool_tr rfl hc14) ?_
    refine W.skip ?_
    refine hK7 _ _ ?_
    refine W.seqK fun K16 hK16 => ?_
    have Jk18 : ∀  (ρ : Env) (w : World), St ok (bz w0) w [] [] → quorum_ValidateView.j1 = some r → K16 ρ w := by
      intro  ρ w  hs hf
      refine hK16 _ _ ?_
      unfold quorum_ValidateView.j1 at hf
      refine W.seqK fun K19 hK19 => ?_
      refine W.region ?_
      refine WL.assign (v := .int .i64 0) rfl ?_
      refine WL.nil ?_
      refine hK19 _ _ ?_
      refine W.ret ?_
      have hr := Option.some.inj hf; subst hr
      exact ⟨_, resOk_one rfl rfl, (), rfl, (hs.mask []).pick []⟩
    refine W.seqK fun K20 hK20 => ?_
    refine W.region ?_
    refine WL.fieldAddr (m := 0) rfl FA26_0 rfl ?_
    refine WL.loadF (z := x1.Members) F_api_View_Members hs 0 rfl 1 rfl rfl TI24 (.inr rfl) rfl rfl (fun v21 hs => ?_)
    obtain ⟨a22, c23, rfl⟩ := hs.slice 0 rfl
    refine WL.len (v := .slice a22 (x1.Members).length c23) rfl (len_slice UN24) ?_
    refine WL.move (v := .int .i64 0) rfl ?_
    refine WL.nil ?_
    refine hK20 _ _ ?_
    refine W.block ?_
    obtain ⟨bs26, hbs26, hfs26⟩ := bindE hf
    refine W.loop hbs26 (fun s ρ w => match s with | x25 => ρ 1 = .pointer (some ⟨g6, 0, none⟩) ∧ ρ 13 = .slice a22 (x1.Members).length c23 ∧ ρ 14 = .int .i64 ((x1.Members).length : Int) ∧ ρ 15 = .int .i64 x25 ∧ St ok (bz w0) w [vl (tSlice t_api_Member) x1.Members (.slice a22 (x1.Members).length c23), vl t_api_View x1 (.agg cs3.toArray)] [blk g6 26 cs3]) ⟨rfl, rfl, rfl, rfl, (hs.mask [true]).pick [0, 2]⟩ ?_
    intro x25 ρ w os26 hI hf hbbs26
    obtain ⟨h24_1, h24_13, h24_14, h24_15, hs⟩ := hI
    unfold quorum_ValidateView.l1 at hf
    refine W.seqK fun K27 hK27 => ?_
    refine W.region ?_
    refine WL.bin (v := .bool (decide (x25 < ((x1.Members).length : Int)))) h24_15 h24_14 (ib_lss _ _ _) ?_
    refine WL.nil ?_
    refine hK27 _ _ ?_
    refine W.seqK fun K28 hK28 => ?_
    rcases iteE hf with ⟨hc29, hf⟩ | ⟨hc29, hf⟩
    · refine W.cond_true (bool_tr rfl hc29) ?_
      refine W.skip ?_
      refine hK28 _ _ ?_
      refine W.seqK fun K30 hK30 => ?_
      refine W.block ?_
      refine W.seqK fun K31 hK31 => ?_
      refine W.region ?_
      refine WL.move (v := .int .i64 x25) h24_15 ?_
      obtain ⟨x32, hxx32, hf⟩ := bindE hf
      refine WL.indexAddr hs 0 rfl UN24 TI44 h24_13 h24_15 hxx32 (fun ad33 hs => ?_)
      refine WL.loadP hs 0 rfl TI44 (.inl rfl) rfl (fun v34 hs => ?_)
      obtain ⟨cs35, hl36, rfl⟩ := hs.aggv (n := 2) 0 rfl rfl rfl
      refine WL.alloc hs ZV44 (fun g37 w hs => ?_)
      refine WL.assign (v := .int .i64 x25) rfl ?_
      refine WL.storeAll (vs := cs35) hs 0 rfl TI44 rfl rfl rfl hl36 (hs.ones 0 rfl rfl) rfl (fun w hs => ?_)
      refine WL.nil ?_
      refine hK31 _ _ ?_
      refine W.seqK fun K38 hK38 => ?_
      refine W.seqK fun K39 hK39 => ?_
      have Jk42 : ∀ (x41 : Bool) (ρ : Env) (w : World), ρ 1 = .pointer (some ⟨g6, 0, none⟩) → ρ 4 = .int .i64 x25 → ρ 5 = .pointer (some ⟨g37, 0, none⟩) → ρ 13 = .slice a22 (x1.Members).length c23 → ρ 14 = .int .i64 ((x1.Members).length : Int) → ρ 15 = .int .i64 x25 → ρ 37 = .bool x41 → St ok (bz w0) w [vl (tSlice t_api_Member) x1.Members (.slice a22 (x1.Members).length c23), vl t_api_Member x32 (.agg cs35.toArray), vl t_api_View x1 (.agg cs3.toArray)] [blk g37 44 cs35, blk g6 26 cs3] → quorum_ValidateView.j3 x1 x25 x32 x41 = some os26 → K39 ρ w := by
        intro x41 ρ w h40_1 h40_4 h40_5 h40_13 h40_14 h40_15 h40_37 hs hf
        refine hK39 _ _ ?_
        unfold quorum_ValidateView.j3 at hf
        rcases iteE hf with ⟨hc43, hf⟩ | ⟨hc43, hf⟩
        · refine W.cond_true (bool_tr h40_37 hc43) ?_
          refine W.seqK fun K44 hK44 => ?_
          refine W.region ?_
          refine WL.assign (v := .int .i64 9) rfl ?_
          refine WL.nil ?_
          refine hK44 _ _ ?_
          refine W.ret ?_
          have hr := Option.some.inj hf; subst hr
          have hr := hbbs26 _ rfl; subst hr
          have hf := hfs26
          have hr := Option.some.inj hf; subst hr
          exact ⟨_, resOk_one rfl rfl, (), rfl, (hs.mask []).pick []⟩
        · refine W.cond_false (bool_tr h40_37 hc43) ?_
          refine W.skip ?_
          refine hK38 _ _ ?_
          refine W.seqK fun K45 hK45 => ?_
          have Jk48 : ∀ (x47 : Bool) (ρ : Env) (w : World), ρ 1 = .pointer (some ⟨g6, 0, none⟩) → ρ 13 = .slice a22 (x1.Members).length c23 → ρ 14 = .int .i64 ((x1.Members).length : Int) → ρ 15 = .int .i64 x25 → ρ 51 = .bool x47 → St ok (bz w0) w [vl (tSlice t_api_Member) x1.Members (.slice a22 (x1.Members).length c23), vl t_api_View x1 (.agg cs3.toArray)] [blk g6 26 cs3] → quorum_ValidateView.j2 x25 x47 = some os26 → K45 ρ w := by
            intro x47 ρ w h46_1 h46_13 h46_14 h46_15 h46_51 hs hf
            refine hK45 _ _ ?_
            unfold quorum_ValidateView.j2 at hf
            rcases iteE hf with ⟨hc49, hf⟩ | ⟨hc49, hf⟩
            · refine W.cond_true (bool_tr h46_51 hc49) ?_
              refine W.seqK fun K50 hK50 => ?_
              refine W.region ?_
              refine WL.assign (v := .int .i64 7) rfl ?_
              refine WL.nil ?_
              refine hK50 _ _ ?_
              refine W.ret ?_
              have hr := Option.some.inj hf; subst hr
              have hr := hbbs26 _ rfl; subst hr
              have hf := hfs26
              have hr := Option.some.inj hf; subst hr
              exact ⟨_, resOk_one rfl rfl, (), rfl, (hs.mask []).pick []⟩
            · refine W.cond_false (bool_tr h46_51 hc49) ?_
              refine W.skip ?_
              refine hK30 _ _ ?_
              refine W.region ?_
              obtain ⟨x51, ex51, hf⟩ := letE hf
              refine WL.bin (v := .int .i64 x51) h46_15 rfl (ib_as ex51 (ib_add _ _ _)) ?_
              refine WL.move (v := .int .i64 x51) rfl ?_
              refine WL.nil ?_
              exact ⟨_, (Option.some.inj hf).symm, h46_1, h46_13, h46_14, rfl, (hs.mask [true]).pick [0, 1]⟩
          rcases iteE hf with ⟨hc52, hf⟩ | ⟨hc52, hf⟩
          · obtain ⟨x57, ex57, hf⟩ := letE hf
            obtain ⟨x58, hxx58, hf⟩ := bindE hf
            refine W.any (by kernel_rfl) 14 0 [true, true, true, true, true, true, true, true, true, true, true, true, true, true] rfl rfl (poAt [pv (.int .i64 x25), pv (.bool (decide (0 < x25))), pv (.bool (decide (0 < x25))), pv (.pointer (some ⟨g37, 0, none⟩)), pv (.int .i64 x32.Server), pv (.pointer (some ⟨g6, 0, none⟩)), pq (fun y : (Option Addr × Nat) => .slice y.1 (x1.Members).length y.2) (fun v => [vl (tSlice t_api_Member) x1.Members v]) (fun v => []), pv (.int .i64 x25), pv (.int .i64 x57), pq (fun y : Addr => .pointer (some y)) (fun v => [pl t_api_Member x58 (adOf v)]) (fun v => []), pq (fun y : Addr => .pointer (some y)) (fun v => [pl (tInt .i64) x58.Server (adOf v)]) (fun v => []), pv (.int .i64 x58.Server), pv (.bool (decide (x32.Server ≤ x58.Server))), pv (.bool (decide (x32.Server ≤ x58.Server)))]) (Λ := [blk g37 44 cs35, blk g6 26 cs3]) hs (by kernel_rfl) (by kernel_rfl) (by kernel_rfl) ⟨⟨⟨⟨⟨⟨⟨⟨⟨⟨⟨⟨⟨⟨trivial, ?_⟩, ?_⟩, ?_⟩, ?_⟩, ?_⟩, ?_⟩, ?_⟩, ?_⟩, ?_⟩, ?_⟩, ?_⟩, ?_⟩, ?_⟩, ?_⟩ ?_
            · intro ρ w Γx Λx hs hu hp
              refine WL.move (v := .int .i64 x25) ((hu 4 rfl).trans h40_4) ?_
              exact WL.nil ⟨rfl, _, rfl, rfl, hs.cutG 0 0⟩
            · intro ρ w Γx Λx hs hu hp
              have e62 : ρ 38 = .int .i64 x25 := (hp 0 rfl).1
              refine WL.bin (v := .bool (decide (0 < x25))) e62 rfl (ib_gtr _ _ _) ?_
              exact WL.nil ⟨rfl, _, rfl, rfl, hs.cutG 0 0⟩
            · intro ρ w Γx Λx hs hu hp
              have e63 : ρ 39 = .bool (decide (0 < x25)) := (hp 1 rfl).1
              refine WL.move (v := .bool (decide (0 < x25))) e63 ?_
              exact WL.nil ⟨rfl, _, rfl, rfl, hs.cutG 0 0⟩
            · intro ρ w Γx Λx hs hu hp
              have e64 : ρ 40 = .bool (decide (0 < x25)) := (hp 2 rfl).1
              refine WL.fieldAddr (m := 0) ((hu 5 rfl).trans h40_5) FA44_0 rfl ?_ (hg := (wanted_of rfl rfl (bool_tr e64 hc52)).trans rfl)
              exact WL.nil ⟨rfl, _, rfl, rfl, hs.cutG 0 0⟩
            · intro ρ w Γx Λx hs hu hp
              have e65 : ρ 41 = .pointer (some ⟨g37, 0, none⟩) := (hp 3 rfl).1
              have e66 : ρ 40 = .bool (decide (0 < x25)) := (hp 2 rfl).1
              refine WL.loadF (z := x32.Server) F_api_Member_Server hs (Λx.length + 0) (getApp rfl) (Γx.length + 1) (getApp rfl) rfl TI3 (.inr rfl) e65 rfl (fun v53 hs => ?_) (hg := (wanted_of rfl rfl (bool_tr e66 hc52)).trans rfl)
              obtain rfl := hs.int 0 rfl
              exact WL.nil ⟨rfl, _, rfl, rfl, hs.cutG 0 1⟩
            · intro ρ w Γx Λx hs hu hp
              have e67 : ρ 40 = .bool (decide (0 < x25)) := (hp 2 rfl).1
              refine WL.fieldAddr (m := 0) ((hu 1 rfl).trans h40_1) FA26_0 rfl ?_ (hg := (wanted_of rfl rfl (bool_tr e67 hc52)).trans rfl)
              exact WL.nil ⟨rfl, _, rfl, rfl, hs.cutG 0 0⟩
            · intro ρ w Γx Λx hs hu hp
              have e68 : ρ 43 = .pointer (some ⟨g6, 0, none⟩) := (hp 5 rfl).1
              have e69 : ρ 40 = .bool (decide (0 < x25)) := (hp 2 rfl).1
              refine WL.loadF (z := x1.Members) F_api_View_Members hs (Λx.length + 1) (getApp rfl) (Γx.length + 2) (getApp rfl) rfl TI24 (.inr rfl) e68 rfl (fun v54 hs => ?_) (hg := (wanted_of rfl rfl (bool_tr e69 hc52)).trans rfl)
              obtain ⟨a55, c56, rfl⟩ := hs.slice 0 rfl
              have hs := hs.add (it := vl (tSlice t_api_Member) x1.Members (.slice a55 (x1.Members).length c56)) fun ok hA => hA.get 0 rfl
              exact WL.nil ⟨rfl, _, rfl, ⟨(a55, c56), rfl⟩, hs.cutG 1 1⟩
            · intro ρ w Γx Λx hs hu hp
              have e70 : ρ 40 = .bool (decide (0 < x25)) := (hp 2 rfl).1
              refine WL.move (v := .int .i64 x25) ((hu 4 rfl).trans h40_4) ?_ (hg := (wanted_of rfl rfl (bool_tr e70 hc52)).trans rfl)
              exact WL.nil ⟨rfl, _, rfl, rfl, hs.cutG 0 0⟩
            · intro ρ w Γx Λx hs hu hp
              have e71 : ρ 45 = .int .i64 x25 := (hp 7 rfl).1
              have e72 : ρ 40 = .bool (decide (0 < x25)) := (hp 2 rfl).1
              refine WL.bin (v := .int .i64 x57) e71 rfl (ib_as ex57 (ib_sub _ _ _)) ?_ (hg := (wanted_of rfl rfl (bool_tr e72 hc52)).trans rfl)
              exact WL.nil ⟨rfl, _, rfl, rfl, hs.cutG 0 0⟩
            · intro ρ w Γx Λx hs hu hp
              obtain ⟨⟨⟨a73, c74⟩, e75r⟩, hm76⟩ := hp 6 rfl
              have e75 : ρ 44 = .slice a73 (x1.Members).length c74 := e75r
              rw [e75r] at hm76
              have hs := hs.memo1 (it := vl (tSlice t_api_Member) x1.Members (.slice a73 (x1.Members).length c74)) (List.mem_append.2 (.inl (hm76 _ (List.mem_of_getElem? (i := 0) rfl))))
              have e77 : ρ 46 = .int .i64 x57 := (hp 8 rfl).1
              have e78 : ρ 40 = .bool (decide (0 < x25)) := (hp 2 rfl).1
              refine WL.indexAddr hs 0 rfl UN24 TI44 e75 e77 hxx58 (fun ad59 hs => ?_) (hg := (wanted_of rfl rfl (bool_tr e78 hc52)).trans rfl)
              have hs := hs.add (it := pl t_api_Member x58 ad59) fun ok hA => hA.get 0 rfl
              exact WL.nil ⟨rfl, _, rfl, ⟨ad59, rfl⟩, hs.cutG 1 2⟩
            · intro ρ w Γx Λx hs hu hp
              obtain ⟨⟨ad79, e80r⟩, hm81⟩ := hp 9 rfl
              have e80 : ρ 47 = .pointer (some ad79) := e80r
              rw [e80r] at hm81
              have hs := hs.memo1 (it := pl t_api_Member x58 ad79) (List.mem_append.2 (.inl (hm81 _ (List.mem_of_getElem? (i := 0) rfl))))
              have e82 : ρ 40 = .bool (decide (0 < x25)) := (hp 2 rfl).1
              refine WL.fieldAddrP (z := x58.Server) F_api_Member_Server hs 0 rfl e80 FA44_0 rfl (fun ad60 hs => ?_) (hg := (wanted_of rfl rfl (bool_tr e82 hc52)).trans rfl)
              have hs := hs.add (it := pl (tInt .i64) x58.Server ad60) fun ok hA => hA.get 0 rfl
              exact WL.nil ⟨rfl, _, rfl, ⟨ad60, rfl⟩, hs.cutG 1 2⟩
            · intro ρ w Γx Λx hs hu hp
              obtain ⟨⟨ad83, e84r⟩, hm85⟩ := hp 10 rfl
              have e84 : ρ 48 = .pointer (some ad83) := e84r
              rw [e84r] at hm85
              have hs := hs.memo1 (it := pl (tInt .i64) x58.Server ad83) (List.mem_append.2 (.inl (hm85 _ (List.mem_of_getElem? (i := 0) rfl))))
              have e86 : ρ 40 = .bool (decide (0 < x25)) := (hp 2 rfl).1
              refine WL.loadP hs 0 rfl TI3 (.inr rfl) e84 (fun v61 hs => ?_) (hg := (wanted_of rfl rfl (bool_tr e86 hc52)).trans rfl)
              obtain rfl := hs.int 0 rfl
              exact WL.nil ⟨rfl, _, rfl, rfl, hs.cutG 0 2⟩
            · intro ρ w Γx Λx hs hu hp
              have e87 : ρ 42 = .int .i64 x32.Server := (hp 4 rfl).1
              have e88 : ρ 49 = .int .i64 x58.Server := (hp 11 rfl).1
              have e89 : ρ 40 = .bool (decide (0 < x25)) := (hp 2 rfl).1
              refine WL.bin (v := .bool (decide (x32.Server ≤ x58.Server))) e87 e88 (ib_leq _ _ _) ?_ (hg := (wanted_of rfl rfl (bool_tr e89 hc52)).trans rfl)
              exact WL.nil ⟨rfl, _, rfl, rfl, hs.cutG 0 0⟩
            · intro ρ w Γx Λx hs hu hp
              have e90 : ρ 40 = .bool (decide (0 < x25)) := (hp 2 rfl).1
              have e91 : ρ 50 = .bool (decide (x32.Server ≤ x58.Server)) := (hp 12 rfl).1
              refine WL.pickT (v := .bool (decide (x32.Server ≤ x58.Server))) (bool_tr e90 hc52) e91 ?_
              exact WL.nil ⟨rfl, _, rfl, rfl, hs.cutG 0 0⟩
            · intro ρ w hs hu92 hp
              obtain ⟨⟨⟨⟨⟨⟨⟨⟨⟨⟨⟨⟨⟨⟨_, hp0_⟩, hp1_⟩, hp2_⟩, hp3_⟩, hp4_⟩, hp5_⟩, hp6_⟩, hp7_⟩, hp8_⟩, hp9_⟩, hp10_⟩, hp11_⟩, hp12_⟩, hp13_⟩ := hp
              have hs : St ok (bz w0) w [pl (tInt .i64) x58.Server (adOf (ρ 48)), pl t_api_Member x58 (adOf (ρ 47)), vl (tSlice t_api_Member) x1.Members (ρ 44), vl (tSlice t_api_Member) x1.Members (.slice a22 (x1.Members).length c23), vl t_api_Member x32 (.agg cs35.toArray), vl t_api_View x1 (.agg cs3.toArray)] [blk g37 44 cs35, blk g6 26 cs3] := hs
              have e93 : ρ 51 = .bool (decide (x32.Server ≤ x58.Server)) := hp13_
              have e94 : ρ 50 = .bool (decide (x32.Server ≤ x58.Server)) := hp12_
              have e95 : ρ 49 = .int .i64 x58.Server := hp11_
              obtain ⟨ad96, e97⟩ := hp10_
              have e97 : ρ 48 = .pointer (some ad96) := e97
              try rw [e97] at hs
              obtain ⟨ad98, e99⟩ := hp9_
              have e99 : ρ 47 = .pointer (some ad98) := e99
              try rw [e99] at hs
              have e100 : ρ 46 = .int .i64 x57 := hp8_
              have e101 : ρ 45 = .int .i64 x25 := hp7_
              obtain ⟨⟨a102, c103⟩, e104⟩ := hp6_
              have e104 : ρ 44 = .slice a102 (x1.Members).length c103 := e104
              try rw [e104] at hs
              have e105 : ρ 43 = .pointer (some ⟨g6, 0, none⟩) := hp5_
              have e106 : ρ 42 = .int .i64 x32.Server := hp4_
              have e107 : ρ 41 = .pointer (some ⟨g37, 0, none⟩) := hp3_
              have e108 : ρ 40 = .bool (decide (0 < x25)) := hp2_
              have e109 : ρ 39 = .bool (decide (0 < x25)) := hp1_
              have e110 : ρ 38 = .int .i64 x25 := hp0_
              refine WA.done (by kernel_rfl) ?_
              exact Jk48 (decide (x32.Server ≤ x58.Server)) _ _ ((hu92 1 rfl).trans h40_1) ((hu92 13 rfl).trans h40_13) ((hu92 14 rfl).trans h40_14) ((hu92 15 rfl).trans h40_15) e93 ((hs.mask [false, true]).pick [3, 5]) hf
          · refine W.any (by kernel_rfl) 14 0 [true, true, true, true, true, true, true, true, true, true, true, true, true, true] rfl rfl (poAt [pv (.int .i64 x25), pv (.bool (decide (0 < x25))), pv (.bool (decide (0 < x25))), pv (undef), pv (undef), pv (undef), pv (undef), pv (undef), pv (undef), pv (undef), pv (undef), pv (undef), pv (undef), pv (.bool false)]) (Λ := [blk g37 44 cs35, blk g6 26 cs3]) hs (by kernel_rfl) (by kernel_rfl) (by kernel_rfl) ⟨⟨⟨⟨⟨⟨⟨⟨⟨⟨⟨⟨⟨⟨trivial, ?_⟩, ?_⟩, ?_⟩, ?_⟩, ?_⟩, ?_⟩, ?_⟩, ?_⟩, ?_⟩, ?_⟩, ?_⟩, ?_⟩, ?_⟩, ?_⟩ ?_
            · intro ρ w Γx Λx hs hu hp
              refine WL.move (v := .int .i64 x25) ((hu 4 rfl).trans h40_4) ?_
              exact WL.nil ⟨rfl, _, rfl, rfl, hs.cutG 0 0⟩
            · intro ρ w Γx Λx hs hu hp
              have e111 : ρ 38 = .int .i64 x25 := (hp 0 rfl).1
              refine WL.bin (v := .bool (decide (0 < x25))) e111 rfl (ib_gtr _ _ _) ?_
              exact WL.nil ⟨rfl, _, rfl, rfl, hs.cutG 0 0⟩
            · intro ρ w Γx Λx hs hu hp
              have e112 : ρ 39 = .bool (decide (0 < x25)) := (hp 1 rfl).1
              refine WL.move (v := .bool (decide (0 < x25))) e112 ?_
              exact WL.nil ⟨rfl, _, rfl, rfl, hs.cutG 0 0⟩
            · intro ρ w Γx Λx hs hu hp
              have e113 : ρ 40 = .bool (decide (0 < x25)) := (hp 2 rfl).1
              refine WL.pass ((wanted_of rfl rfl (bool_tr e113 hc52)).trans rfl) rfl ?_
              exact WL.nil ⟨rfl, _, rfl, rfl, hs.cutG 0 0⟩
            · intro ρ w Γx Λx hs hu hp
              have e114 : ρ 41 = undef := (hp 3 rfl).1
              have e115 : ρ 40 = .bool (decide (0 < x25)) := (hp 2 rfl).1
              refine WL.pass ((wanted_of rfl rfl (bool_tr e115 hc52)).trans rfl) rfl ?_
              exact WL.nil ⟨rfl, _, rfl, rfl, hs.cutG 0 0⟩
            · intro ρ w Γx Λx hs hu hp
              have e116 : ρ 40 = .bool (decide (0 < x25)) := (hp 2 rfl).1
              refine WL.pass ((wanted_of rfl rfl (bool_tr e116 hc52)).trans rfl) rfl ?_
              exact WL.nil ⟨rfl, _, rfl, rfl, hs.cutG 0 0⟩
            · intro ρ w Γx Λx hs hu hp
              have e117 : ρ 43 = undef := (hp 5 rfl).1
              have e118 : ρ 40 = .bool (decide (0 < x25)) := (hp 2 rfl).1
              refine WL.pass ((wanted_of rfl rfl (bool_tr e118 hc52)).trans rfl) rfl ?_
              exact WL.nil ⟨rfl, _, rfl, rfl, hs.cutG 0 0⟩
            · intro ρ w Γx Λx hs hu hp
              have e119 : ρ 40 = .bool (decide (0 < x25)) := (hp 2 rfl).1
              refine WL.pass ((wanted_of rfl rfl (bool_tr e119 hc52)).trans rfl) rfl ?_
              exact WL.nil ⟨rfl, _, rfl, rfl, hs.cutG 0 0⟩
            · intro ρ w Γx Λx hs hu hp
              have e120 : ρ 45 = undef := (hp 7 rfl).1
              have e121 : ρ 40 = .bool (decide (0 < x25)) := (hp 2 rfl).1
              refine WL.pass ((wanted_of rfl rfl (bool_tr e121 hc52)).trans rfl) rfl ?_
              exact WL.nil ⟨rfl, _, rfl, rfl, hs.cutG 0 0⟩
            · intro ρ w Γx Λx hs hu hp
              have e122 : ρ 44 = undef := (hp 6 rfl).1
              have e123 : ρ 46 = undef := (hp 8 rfl).1
              have e124 : ρ 40 = .bool (decide (0 < x25)) := (hp 2 rfl).1
              refine WL.pass ((wanted_of rfl rfl (bool_tr e124 hc52)).trans rfl) rfl ?_
              exact WL.nil ⟨rfl, _, rfl, rfl, hs.cutG 0 0⟩
            · intro ρ w Γx Λx hs hu hp
              have e125 : ρ 47 = undef := (hp 9 rfl).1
              have e126 : ρ 40 = .bool (decide (0 < x25)) := (hp 2 rfl).1
              refine WL.pass ((wanted_of rfl rfl (bool_tr e126 hc52)).trans rfl) rfl ?_
              exact WL.nil ⟨rfl, _, rfl, rfl, hs.cutG 0 0⟩
            · intro ρ w Γx Λx hs hu hp
              have e127 : ρ 48 = undef := (hp 10 rfl).1
              have e128 : ρ 40 = .bool (decide (0 < x25)) := (hp 2 rfl).1
              refine WL.pass ((wanted_of rfl rfl (bool_tr e128 hc52)).trans rfl) rfl ?_
              exact WL.nil ⟨rfl, _, rfl, rfl, hs.cutG 0 0⟩
            · intro ρ w Γx Λx hs hu hp
              have e129 : ρ 42 = undef := (hp 4 rfl).1
              have e130 : ρ 49 = undef := (hp 11 rfl).1
              have e131 : ρ 40 = .bool (decide (0 < x25)) := (hp 2 rfl).1
              refine WL.pass ((wanted_of rfl rfl (bool_tr e131 hc52)).trans rfl) rfl ?_
              exact WL.nil ⟨rfl, _, rfl, rfl, hs.cutG 0 0⟩
            · intro ρ w Γx Λx hs hu hp
              have e132 : ρ 40 = .bool (decide (0 < x25)) := (hp 2 rfl).1
              have e133 : ρ 50 = undef := (hp 12 rfl).1
              refine WL.pickF (v := .bool false) (bool_tr e132 hc52) rfl ?_
              exact WL.nil ⟨rfl, _, rfl, rfl, hs.cutG 0 0⟩
            · intro ρ w hs hu134 hp
              obtain ⟨⟨⟨⟨⟨⟨⟨⟨⟨⟨⟨⟨⟨⟨_, hp0_⟩, hp1_⟩, hp2_⟩, hp3_⟩, hp4_⟩, hp5_⟩, hp6_⟩, hp7_⟩, hp8_⟩, hp9_⟩, hp10_⟩, hp11_⟩, hp12_⟩, hp13_⟩ := hp
              have hs : St ok (bz w0) w [vl (tSlice t_api_Member) x1.Members (.slice a22 (x1.Members).length c23), vl t_api_Member x32 (.agg cs35.toArray), vl t_api_View x1 (.agg cs3.toArray)] [blk g37 44 cs35, blk g6 26 cs3] := hs
              have e135 : ρ 51 = .bool false := hp13_
              have e136 : ρ 50 = undef := hp12_
              have e137 : ρ 49 = undef := hp11_
              have e138 : ρ 48 = undef := hp10_
              have e139 : ρ 47 = undef := hp9_
              have e140 : ρ 46 = undef := hp8_
              have e141 : ρ 45 = undef := hp7_
              have e142 : ρ 44 = undef := hp6_
              have e143 : ρ 43 = undef := hp5_
              have e144 : ρ 42 = undef := hp4_
              have e145 : ρ 41 = undef := hp3_
              have e146 : ρ 40 = .bool (decide (0 < x25)) := hp2_
              have e147 : ρ 39 = .bool (decide (0 < x25)) := hp1_
              have e148 : ρ 38 = .int .i64 x25 := hp0_
              refine WA.done (by kernel_rfl) ?_
              exact Jk48 false _ _ ((hu134 1 rfl).trans h40_1) ((hu134 13 rfl).trans h40_13) ((hu134 14 rfl).trans h40_14) ((hu134 15 rfl).trans h40_15) e135 ((hs.mask [false, true]).pick [0, 2]) hf
      refine W.region ?_
      refine WL.fieldAddr (m := 0) rfl FA44_0 rfl ?_
      refine WL.loadF (z := x32.Server) F_api_Member_Server hs 0 rfl 0 rfl rfl TI3 (.inr rfl) rfl rfl (fun v149 hs => ?_)
      obtain rfl := hs.int 0 rfl
      refine WL.bin (v := .bool (decide (x32.Server < 1))) rfl rfl (ib_lss _ _ _) ?_
      refine WL.move (v := .bool (decide (x32.Server < 1))) rfl ?_
      rcases iteE hf with ⟨hc150, hf⟩ | ⟨hc150, hf⟩
      · refine WL.pass ((wanted_of rfl rfl (bool_tr rfl hc150)).trans rfl) rfl ?_
        refine WL.pass ((wanted_of rfl rfl (bool_tr rfl hc150)).trans rfl) rfl ?_
        refine WL.pass ((wanted_of rfl rfl (bool_tr rfl hc150)).trans rfl) rfl ?_
        refine WL.pickT (v := .bool true) (bool_tr rfl hc150) rfl ?_
        refine WL.move (v := .bool true) rfl ?_
        refine WL.pass ((wanted_of rfl rfl rfl).trans rfl) rfl ?_
        refine WL.pass ((wanted_of rfl rfl rfl).trans rfl) rfl ?_
        refine WL.pass ((wanted_of rfl rfl rfl).trans rfl) rfl ?_
        refine WL.pickT (v := .bool true) rfl rfl ?_
        refine WL.move (v := .bool true) rfl ?_
        refine WL.pass ((wanted_of rfl rfl rfl).trans rfl) rfl ?_
        refine WL.pass ((wanted_of rfl rfl rfl).trans rfl) rfl ?_
        refine WL.pass ((wanted_of rfl rfl rfl).trans rfl) rfl ?_
        refine WL.pickT (v := .bool true) rfl rfl ?_
        refine WL.nil ?_
        exact Jk42 true _ _ h24_1 rfl rfl h24_13 h24_14 h24_15 rfl ((hs.mask [true, true]).pick [3, 1, 4]) hf
      · refine WL.fieldAddr (m := 0) rfl FA44_0 rfl ?_ (hg := (wanted_of rfl rfl (bool_tr rfl hc150)).trans rfl)
        refine WL.loadF (z := x32.Server) F_api_Member_Server hs 0 rfl 1 rfl rfl TI3 (.inr rfl) rfl rfl (fun v151 hs => ?_) (hg := (wanted_of rfl rfl (bool_tr rfl hc150)).trans rfl)
        obtain rfl := hs.int 0 rfl
        refine WL.bin (v := .bool (decide (12 < x32.Server))) rfl rfl (ib_gtr _ _ _) ?_ (hg := (wanted_of rfl rfl (bool_tr rfl hc150)).trans rfl)
        refine WL.pickF (v := .bool (decide (12 < x32.Server))) (bool_tr rfl hc150) rfl ?_
        refine WL.move (v := .bool (decide (12 < x32.Server))) rfl ?_
        rcases iteE hf with ⟨hc152, hf⟩ | ⟨hc152, hf⟩
        · refine WL.pass ((wanted_of rfl rfl (bool_tr rfl hc152)).trans rfl) rfl ?_
          refine WL.pass ((wanted_of rfl rfl (bool_tr rfl hc152)).trans rfl) rfl ?_
          refine WL.pass ((wanted_of rfl rfl (bool_tr rfl hc152)).trans rfl) rfl ?_
          refine WL.pickT (v := .bool true) (bool_tr rfl hc152) rfl ?_
          refine WL.move (v := .bool true) rfl ?_
          refine WL.pass ((wanted_of rfl rfl rfl).trans rfl) rfl ?_
          refine WL.pass ((wanted_of rfl rfl rfl).trans rfl) rfl ?_
          refine WL.pass ((wanted_of rfl rfl rfl).trans rfl) rfl ?_
          refine WL.pickT (v := .bool true) rfl rfl ?_
          refine WL.nil ?_
          exact Jk42 true _ _ h24_1 rfl rfl h24_13 h24_14 h24_15 rfl ((hs.mask [true, true]).pick [4, 2, 5]) hf
        · refine WL.fieldAddr (m := 1) rfl FA44_1 rfl ?_ (hg := (wanted_of rfl rfl (bool_tr rfl hc152)).trans rfl)
          refine WL.loadF (z := x32.Weight) F_api_Member_Weight hs 0 rfl 2 rfl rfl TI3 (.inr rfl) rfl rfl (fun v153 hs => ?_) (hg := (wanted_of rfl rfl (bool_tr rfl hc152)).trans rfl)
          obtain rfl := hs.int 0 rfl
          refine WL.bin (v := .bool (decide (x32.Weight < 1))) rfl rfl (ib_lss _ _ _) ?_ (hg := (wanted_of rfl rfl (bool_tr rfl hc152)).trans rfl)
          refine WL.pickF (v := .bool (decide (x32.Weight < 1))) (bool_tr rfl hc152) rfl ?_
          refine WL.move (v := .bool (decide (x32.Weight < 1))) rfl ?_
          rcases iteE hf with ⟨hc154, hf⟩ | ⟨hc154, hf⟩
          · refine WL.pass ((wanted_of rfl rfl (bool_tr rfl hc154)).trans rfl) rfl ?_
            refine WL.pass ((wanted_of rfl rfl (bool_tr rfl hc154)).trans rfl) rfl ?_
            refine WL.pass ((wanted_of rfl rfl (bool_tr rfl hc154)).trans rfl) rfl ?_
            refine WL.pickT (v := .bool true) (bool_tr rfl hc154) rfl ?_
            refine WL.nil ?_
            exact Jk42 true _ _ h24_1 rfl rfl h24_13 h24_14 h24_15 rfl ((hs.mask [true, true]).pick [5, 3, 6]) hf
          · refine WL.fieldAddr (m := 1) rfl FA44_1 rfl ?_ (hg := (wanted_of rfl rfl (bool_tr rfl hc154)).trans rfl)
            refine WL.loadF (z := x32.Weight) F_api_Member_Weight hs 0 rfl 3 rfl rfl TI3 (.inr rfl) rfl rfl (fun v155 hs => ?_) (hg := (wanted_of rfl rfl (bool_tr rfl hc154)).trans rfl)
            obtain rfl := hs.int 0 rfl
            refine WL.bin (v := .bool (decide (9 < x32.Weight))) rfl rfl (ib_gtr _ _ _) ?_ (hg := (wanted_of rfl rfl (bool_tr rfl hc154)).trans rfl)
            refine WL.pickF (v := .bool (decide (9 < x32.Weight))) (bool_tr rfl hc154) rfl ?_
            refine WL.nil ?_
            exact Jk42 (decide (9 < x32.Weight)) _ _ h24_1 rfl rfl h24_13 h24_14 h24_15 rfl ((hs.mask [true, true]).pick [6, 4, 7]) hf
    · refine W.cond_false (bool_tr rfl hc29) ?_
      refine W.exit ?_
      have hr := Option.some.inj hf; subst hr
      have hr := hbbs26 _ rfl; subst hr
      have hf := hfs26
      exact Jk18  _ _  ((hs.mask []).pick []) hf
/-! elasticstore/quorum.full: function 43 -/
theorem quorum_full.calls {ok : Nat → Prop} {w0 : World} {x1 : api_View} {v2 : Value} {r : Int} (hf : quorum_full x1 = some r) (i0 : (vl t_api_View x1 v2).holds ok w0) :
    Calls Try.prog 43 #[v2] w0 fun e w' => ∃ v, e = .returned v ∧ ∃ y : Unit, v = .int .u64 r ∧ St ok (bz w0) w' [] [] := by
  unfold quorum_full at hf
  refine calls_of_W (fn := Try.f43) (N := 11) Try.func43 rfl Try.ntmps43 rfl ?_
  have hs : St ok (bz w0) w0 [vl t_api_View x1 v2] [] := St.init (All.cons i0 All.nil)
  clear i0
  obtain ⟨cs3, hl4, rfl⟩ := hs.aggv (n := 4) 0 rfl rfl rfl
  refine W.seqK fun K5 hK5 => ?_
  refine W.region ?_
  refine WL.box (vs := cs3) hs rfl rfl (fun g6 w hs => ?_)
  refine WL.assign (v := .int .u64 0) rfl ?_
  refine WL.nil ?_
  refine hK5 _ _ ?_
  refine W.seqK fun K7 hK7 => ?_
  refine W.seqK fun K8 hK8 => ?_
  refine W.region ?_
  refine WL.loadAll hs 0 rfl TI26 rfl hl4 ?_
  obtain ⟨x9, hxx9, hf⟩ := bindE hf
  refine WL.call (vs := [.agg cs3.toArray]) hs FN14 ⟨rfl, trivial⟩ (fun ok hA => quorum_ValidateView.calls (x1 := x1) hxx9 (hA.get 0 rfl)) ?_
  rintro _ w hs
  refine WL.bin (v := .bool (x9 != 0)) rfl rfl (ib_neq _ _ _) ?_
  refine WL.nil ?_
  refine hK8 _ _ ?_
  rcases iteE hf with ⟨hc10, hf⟩ | ⟨hc10, hf⟩
  · refine W.cond_true (bool_tr rfl hc10) ?_
    refine W.seqK fun K11 hK11 => ?_
    refine W.region ?_
    refine WL.assign (v := .int .u64 0) rfl ?_
    refine WL.nil ?_
    refine hK11 _ _ ?_
    refine W.ret ?_
    have hr := Option.some.inj hf; subst hr
    exact ⟨_, resOk_one rfl rfl, (), rfl, (hs.mask []).pick []⟩
  · refine W.cond_false (bool_tr rfl hc10) ?_
    refine W.skip ?_
    refine hK7 _ _ ?_
    refine W.seqK fun K12 hK12 => ?_
    refine W.region ?_
    refine WL.fieldAddr (m := 0) rfl FA26_0 rfl ?_
    refine WL.loadF (z := x1.Members) F_api_View_Members hs 0 rfl 0 rfl rfl TI24 (.inr rfl) rfl rfl (fun v13 hs => ?_)
    obtain ⟨a14, c15, rfl⟩ := hs.slice 0 rfl
    refine WL.len (v := .slice a14 (x1.Members).length c15) rfl (len_slice UN24) ?_
    obtain ⟨hn16, hf⟩ := guardE hf
    obtain ⟨x17, ex17, hf⟩ := letE hf
    refine WL.shl_ (e := x17) rfl rfl hn16 ex17 ?_
    obtain ⟨x18, ex18, hf⟩ := letE hf
    refine WL.bin (v := .int .u64 x18) rfl rfl (ib_as ex18 (ib_sub _ _ _)) ?_
    refine WL.assign (v := .int .u64 x18) rfl ?_
    refine WL.nil ?_
    refine hK12 _ _ ?_
    refine W.ret ?_
    have hr := Option.some.inj hf; subst hr
    exact ⟨_, resOk_one rfl rfl, (), rfl, (hs.mask []).pick []⟩
/-! elasticstore/quorum.holds: function 44 -/
theorem quorum_holds.calls {ok : Nat → Prop} {w0 : World} {x1 : api_View} {x5 : Int} {v2 : Value} {r : Bool} (hf : quorum_holds x1 x5 = some r) (i0 : (vl t_api_View x1 v2).holds ok w0) :
    Calls Try.prog 44 #[v2, .int .u64 x5] w0 fun e w' => ∃ v, e = .returned v ∧ ∃ y : Unit, v = .bool r ∧ St ok (bz w0) w' [] [] := by
  unfold quorum_holds at hf
  refine calls_of_W (fn := Try.f44) (N := 28) Try.func44 rfl Try.ntmps44 rfl ?_
  have hs : St ok (bz w0) w0 [vl t_api_View x1 v2] [] := St.init (All.cons i0 All.nil)
  clear i0
  obtain ⟨cs3, hl4, rfl⟩ := hs.aggv (n := 4) 0 rfl rfl rfl
  refine W.seqK fun K6 hK6 => ?_
  refine W.region ?_
  refine WL.box (vs := cs3) hs rfl rfl (fun g7 w hs => ?_)
  refine WL.assign (v := .bool false) rfl ?_
  refine WL.nil ?_
  refine hK6 _ _ ?_
  refine W.seqK fun K8 hK8 => ?_
  refine W.region ?_
  refine WL.fieldAddr (m := 0) rfl FA26_0 rfl ?_
  refine WL.loadF (z := x1.Members) F_api_View_Members hs 0 rfl 0 rfl rfl TI24 (.inr rfl) rfl rfl (fun v9 hs => ?_)
  obtain ⟨a10, c11, rfl⟩ := hs.slice 0 rfl
  refine WL.len (v := .slice a10 (x1.Members).length c11) rfl (len_slice UN24) ?_
  obtain ⟨x15, hxx15, hf⟩ := bindE hf
  refine WL.makeSlice (z := false) (A := tBool) hs UN52 EI4 rfl rfl (fun ok => rfl) hxx15 (by decide) (fun v12 w hs => ?_)
  obtain ⟨a13, n16, c14, rfl⟩ := hs.ownv3 0 rfl
  refine WL.assign (v := .slice a13 n16 c14) rfl ?_
  refine WL.nil ?_
  refine hK8 _ _ ?_
  refine W.seqK fun K17 hK17 => ?_
  have Jk20 : ∀ (x18 : List Bool) (ρ : Env) (w : World), ρ 2 = .pointer (some ⟨g7, 0, none⟩) → ρ 5 = .slice a13 n16 c14 → St ok (bz w0) w [vl t_api_View x1 (.agg cs3.toArray)] [own tBool 4 (.slice a13 n16 c14) x18, blk g7 26 cs3] → quorum_holds.j1 x1 x18 = some r → K17 ρ w := by
    intro x18 ρ w h19_2 h19_5 hs hf
    refine hK17 _ _ ?_
    unfold quorum_holds.j1 at hf
    refine W.seqK fun K21 hK21 => ?_
    refine W.region ?_
    refine WL.loadAll hs 1 rfl TI26 h19_2 hl4 ?_
    refine WL.move (v := .slice a13 n16 c14) h19_5 ?_
    obtain ⟨x22, hxx22, hf⟩ := bindE hf
    refine WL.callL (vs := [.agg cs3.toArray, .slice a13 x18.length c14]) hs FN33 ⟨rfl, ⟨(Eq.trans rfl (sl_len (hs.ownLen 0 rfl))), trivial⟩⟩ (quorum_contains.calls (x1 := x1) (x5 := x18) hxx22 (hs.allT.get 0 rfl) (hs.ownN 0 rfl)) ?_
    rintro _ w hs
    refine WL.assign (v := .bool x22) rfl ?_
    refine WL.nil ?_
    refine hK21 _ _ ?_
    refine W.ret ?_
    have hr := Option.some.inj hf; subst hr
    exact ⟨_, resOk_one rfl rfl, (), rfl, (hs.mask []).pick []⟩
  refine W.seqK fun K23 hK23 => ?_
  refine W.region ?_
  refine WL.move (v := .slice a13 n16 c14) rfl ?_
  refine WL.len (v := .slice a13 n16 c14) rfl (len_own hs 0 rfl UN52) ?_
  refine WL.move (v := .int .i64 0) rfl ?_
  refine WL.nil ?_
  refine hK23 _ _ ?_
  refine W.block ?_
  obtain ⟨bs27, hbs27, hfs27⟩ := bindE hf
  refine W.loop hbs27 (fun s ρ w => match s with | (x24, x26) => ρ 1 = .int .u64 x5 ∧ ρ 2 = .pointer (some ⟨g7, 0, none⟩) ∧ ρ 5 = .slice a13 n16 c14 ∧ ρ 12 = .int .i64 (x15.length : Int) ∧ ρ 13 = .int .i64 x26 ∧ St ok (bz w0) w [vl t_api_View x1 (.agg cs3.toArray)] [own tBool 4 (.slice a13 n16 c14) x24, blk g7 26 cs3]) ⟨rfl, rfl, rfl, rfl, rfl, (hs.mask [true, true]).pick [1]⟩ ?_
  intro s ρ w os27 hI hf hbbs27
  obtain ⟨x24, x26⟩ := s
  obtain ⟨h25_1, h25_2, h25_5, h25_12, h25_13, hs⟩ := hI
  unfold quorum_holds.l1 at hf
  refine W.seqK fun K28 hK28 => ?_
  refine W.region ?_
  refine WL.bin (v := .bool (decide (x26 < (x15.length : Int)))) h25_13 h25_12 (ib_lss _ _ _) ?_
  refine WL.nil ?_
  refine hK28 _ _ ?_
  refine W.seqK fun K29 hK29 => ?_
  rcases iteE hf with ⟨hc30, hf⟩ | ⟨hc30, hf⟩
  · refine W.cond_true (bool_tr rfl hc30) ?_
    refine W.skip ?_
    refine hK29 _ _ ?_
    refine W.seqK fun K31 hK31 => ?_
    refine W.block ?_
    refine W.seqK fun K32 hK32 => ?_
    refine W.region ?_
    refine WL.move (v := .int .i64 x26) h25_13 ?_
    refine WL.assign (v := .int .i64 x26) rfl ?_
    refine WL.nil ?_
    refine hK32 _ _ ?_
    refine W.region ?_
    refine WL.move (v := .slice a13 n16 c14) h25_5 ?_
    refine WL.move (v := .int .i64 x26) rfl ?_
    refine WL.move (v := .int .u64 x5) h25_1 ?_
    refine WL.move (v := .int .i64 x26) rfl ?_
    obtain ⟨hn33, hf⟩ := guardE hf
    refine WL.shr rfl rfl hn33 ?_
    obtain ⟨x34, ex34, hf⟩ := letE hf
    refine WL.bin (v := .int .u64 x34) rfl rfl (ib_as ex34 (ib_and _ _ _)) ?_
    refine WL.bin (v := .bool (x34 == 1)) rfl rfl (ib_eql _ _ _) ?_
    obtain ⟨x35, hxx35, hf⟩ := bindE hf
    refine WL.indexAddrO hs 0 rfl UN52 TI4 rfl rfl hxx35 (fun ad36 hatad36 => ?_)
    obtain ⟨x37, exx37, hf⟩ := letE hf
    refine WL.storeO (y := (x34 == 1)) (vs := [.bool (x34 == 1)]) (zs := x37) hs 0 rfl TI4 hatad36 hxx35 rfl rfl rfl (fun ok hA => rfl) exx37 (fun w hs => ?_)
    refine WL.nil ?_
    refine hK31 _ _ ?_
    refine W.region ?_
    obtain ⟨x38, ex38, hf⟩ := letE hf
    refine WL.bin (v := .int .i64 x38) h25_13 rfl (ib_as ex38 (ib_add _ _ _)) ?_
    refine WL.move (v := .int .i64 x38) rfl ?_
    refine WL.nil ?_
    exact ⟨_, (Option.some.inj hf).symm, h25_1, h25_2, h25_5, h25_12, rfl, (hs.mask [true, true]).pick [0]⟩
  · refine W.cond_false (bool_tr rfl hc30) ?_
    refine W.exit ?_
    have hr := Option.some.inj hf; subst hr
    have hr := hbbs27 _ rfl; subst hr
    have hf := hfs27
    exact Jk20 x24 _ _ h25_2 h25_5 ((hs.mask [true, true]).pick [0]) hf
/-! elasticstore/quorum.minimal: function 35 -/
theorem quorum_minimal.calls {ok : Nat → Prop} {w0 : World} {x1 : api_View} {v2 : Value} {r : List Int} (hf : quorum_minimal x1 = some r) (i0 : (vl t_api_View x1 v2).holds ok w0) :
    Calls Try.prog 35 #[v2] w0 fun e w' => ∃ v, e = .returned v ∧ ∃ y : (Option Addr × Nat × Nat), v = .slice y.1 y.2.1 y.2.2 ∧ St ok (bz w0) w' [] [own (tInt .u64) 57 (.slice y.1 y.2.1 y.2.2) r] := by
  unfold quorum_minimal at hf
  refine calls_of_W (fn := Try.f35) (N := 76) Try.func35 rfl Try.ntmps35 rfl ?_
  have hs : St ok (bz w0) w0 [vl t_api_View x1 v2] [] := St.init (All.cons i0 All.nil)
  clear i0
  obtain ⟨cs3, hl4, rfl⟩ := hs.aggv (n := 4) 0 rfl rfl rfl
  refine W.seqK fun K5 hK5 => ?_
  refine W.region ?_
  refine WL.box (vs := cs3) hs rfl rfl (fun g6 w hs => ?_)
  refine WL.assign (v := .slice none 0 0) rfl ?_
  refine WL.nil ?_
  refine hK5 _ _ ?_
  refine W.seqK fun K7 hK7 => ?_
  refine W.region ?_
  refine WL.loadAll hs 0 rfl TI26 rfl hl4 ?_
  obtain ⟨x8, hxx8, hf⟩ := bindE hf
  refine WL.call (vs := [.agg cs3.toArray]) hs FN43 ⟨rfl, trivial⟩ (fun ok hA => quorum_full.calls (x1 := x1) hxx8 (hA.get 0 rfl)) ?_
  rintro _ w hs
  refine WL.assign (v := .int .u64 x8) rfl ?_
  refine WL.nil ?_
  refine hK7 _ _ ?_
  refine W.seqK fun K9 hK9 => ?_
  refine W.seqK fun K10 hK10 => ?_
  have Jk13 : ∀ (x12 : Bool) (ρ : Env) (w : World), ρ 1 = .pointer (some ⟨g6, 0, none⟩) → ρ 3 = .int .u64 x8 → ρ 20 = .bool x12 → St ok (bz w0) w [vl t_api_View x1 (.agg cs3.toArray)] [blk g6 26 cs3] → quorum_minimal.j5 x1 x8 x12 = some r → K10 ρ w := by
    intro x12 ρ w h11_1 h11_3 h11_20 hs hf
    refine hK10 _ _ ?_
    unfold quorum_minimal.j5 at hf
    rcases iteE hf with ⟨hc14, hf⟩ | ⟨hc14, hf⟩
    · refine W.cond_true (bool_tr h11_20 hc14) ?_
      refine W.seqK fun K15 hK15 => ?_
      refine W.region ?_
      refine WL.assign (v := .slice none 0 0) rfl ?_
      refine WL.nil ?_
      refine hK15 _ _ ?_
      refine W.ret ?_
      have hr := Option.some.inj hf; subst hr
      have hs := hs.ownNil (tInt .u64) 57
      exact ⟨_, resOk_one rfl rfl, (none, 0, 0), rfl, (hs.mask [true]).pick []⟩
    · refine W.cond_false (bool_tr h11_20 hc14) ?_
      refine W.skip ?_
      refine hK9 _ _ ?_
      refine W.seqK fun K16 hK16 => ?_
      refine W.region ?_
      refine WL.assign (v := .slice none 0 0) rfl ?_
      refine WL.nil ?_
      refine hK16 _ _ ?_
      refine W.seqK fun K17 hK17 => ?_
      refine W.region ?_
      refine WL.makeMap (fun a : Int => .int .u64 a) tBool hs (fun g18 w hs => ?_)
      refine WL.move (v := .int .u64 x8) h11_3 ?_
      obtain ⟨x19, exx19, hf⟩ := letE hf
      refine WL.insert (a := x8) (y := true) (v := .bool true) hs 0 rfl (kkInt UN57) UN72 rfl rfl rfl (fun ok hA => tBool_V.2 rfl) exx19 (fun w hs => ?_)
      refine WL.move (v := .map (some g18)) rfl ?_
      refine WL.assign (v := .map (some g18)) rfl ?_
      refine WL.nil ?_
      refine hK17 _ _ ?_
      refine W.seqK fun K20 hK20 => ?_
      have hs := hs.ownNil (tInt .u64) 57
      have Jk27 : ∀ (x21 : List (Int × Bool)) (x23 : List Int) (a24 : Option Addr) (c25 : Nat) (n26 : Nat) (ρ : Env) (w : World), ρ 4 = .slice a24 n26 c25 → St ok (bz w0) w [] [own (tInt .u64) 57 (.slice a24 n26 c25) x23] → quorum_minimal.j1 x21 x23 = some r → K20 ρ w := by
        intro x21 x23 a24 c25 n26 ρ w h22_4 hs hf
        refine hK20 _ _ ?_
        unfold quorum_minimal.j1 at hf
        refine W.seqK fun K28 hK28 => ?_
        refine W.region ?_
        refine WL.move (v := .slice a24 n26 c25) h22_4 ?_
        refine WL.assign (v := .slice a24 n26 c25) rfl ?_
        refine WL.nil ?_
        refine hK28 _ _ ?_
        refine W.ret ?_
        have hr := Option.some.inj hf; subst hr
        exact ⟨_, resOk_one rfl rfl, (a24, n26, c25), rfl, (hs.mask [true]).pick []⟩
      refine W.seqK fun K29 hK29 => ?_
      refine W.region ?_
      refine WL.move (v := .int .u64 x8) h11_3 ?_
      refine WL.buildSlice (n := 1) (vs := [(0, .int .u64 x8)]) (cs := [.int .u64 x8]) hs ⟨⟨rfl, rfl⟩, trivial⟩ (bls PS54 (by decide) rfl) (fun g30 w hs => ?_)
      refine WL.assign (v := .slice (some ⟨g30, 0, none⟩) ([x8]).length 1) rfl ?_
      refine WL.nil ?_
      refine hK29 _ _ ?_
      refine W.block ?_
      have hs := hs.ownLit (A := tInt .u64) (xs := [x8]) 0 rfl (fun ok hA => (Cells.one (T := tInt .u64) rfl)) (Nat.le_of_ble_eq_true rfl)
      obtain ⟨bs41, hbs41, hfs41⟩ := bindE hf
      refine W.loop hbs41 (fun s ρ w => match s with | (x31, x33, x37) => ∃ (a34 : Option Addr), ∃ (c35 : Nat), ∃ (n36 : Nat), ∃ (a38 : Option Addr), ∃ (c39 : Nat), ∃ (n40 : Nat), ρ 1 = .pointer (some ⟨g6, 0, none⟩) ∧ ρ 4 = .slice a34 n36 c35 ∧ ρ 5 = .map (some g18) ∧ ρ 6 = .slice a38 n40 c39 ∧ St ok (bz w0) w [vl t_api_View x1 (.agg cs3.toArray)] [own (tInt .u64) 57 (.slice a38 n40 c39) x37, own (tInt .u64) 57 (.slice a34 n36 c35) x33, mapo (fun a : Int => .int .u64 a) tBool g18 x31, blk g6 26 cs3]) ⟨none, 0, 0, (some ⟨g30, 0, none⟩), 1, ([x8]).length, h11_1, rfl, rfl, rfl, (hs.mask [true, true, true, true]).pick [0]⟩ ?_
      intro s ρ w os41 hI hf hbbs41
      obtain ⟨x31, x33, x37⟩ := s
      obtain ⟨a34, c35, n36, a38, c39, n40, h32_1, h32_4, h32_5, h32_6, hs⟩ := hI
      unfold quorum_minimal.l2 at hf
      refine W.seqK fun K42 hK42 => ?_
      refine W.seqK fun K43 hK43 => ?_
      refine W.region ?_
      refine WL.move (v := .slice a38 n40 c39) h32_6 ?_
      refine WL.len (v := .slice a38 n40 c39) rfl (len_own hs 0 rfl UN54) ?_
      refine WL.bin (v := .bool (decide (0 < (x37.length : Int)))) rfl rfl (ib_gtr _ _ _) ?_
      refine WL.nil ?_
      refine hK43 _ _ ?_
      rcases iteE hf with ⟨hc44, hf⟩ | ⟨hc44, hf⟩
      · refine W.cond_true (bool_tr rfl hc44) ?_
        refine W.skip ?_
        refine hK42 _ _ ?_
        refine W.block ?_
        refine W.seqK fun K45 hK45 => ?_
        refine W.region ?_
        refine WL.move (v := .slice a38 n40 c39) h32_6 ?_
        refine WL.move (v := .slice a38 n40 c39) h32_6 ?_
        refine WL.len (v := .slice a38 n40 c39) rfl (len_own hs 0 rfl UN54) ?_
        obtain ⟨x46, ex46, hf⟩ := letE hf
        refine WL.bin (v := .int .i64 x46) rfl rfl (ib_as ex46 (ib_sub _ _ _)) ?_
        obtain ⟨x47, hxx47, hf⟩ := bindE hf
        refine WL.indexAddrO hs 0 rfl UN54 TI57 rfl rfl hxx47 (fun ad48 hatad48 => ?_)
        refine WL.loadO hs 0 rfl TI57 (.inr rfl) hatad48 hxx47 rfl (fun v49 hs => ?_)
        obtain rfl := hs.int 0 rfl
        refine WL.assign (v := .int .u64 x47) rfl ?_
        refine WL.nil ?_
        refine hK45 _ _ ?_
        refine W.seqK fun K50 hK50 => ?_
        refine W.region ?_
        refine WL.move (v := .slice a38 n40 c39) h32_6 ?_
        refine WL.move (v := .slice a38 n40 c39) h32_6 ?_
        refine WL.len (v := .slice a38 n40 c39) rfl (len_own hs 0 rfl UN54) ?_
        obtain ⟨x51, ex51, hf⟩ := letE hf
        refine WL.bin (v := .int .i64 x51) rfl rfl (ib_as ex51 (ib_sub _ _ _)) ?_
        obtain ⟨x52, hxx52, hf⟩ := bindE hf
        refine WL.sliceO_h hs 0 rfl UN54 TI57 rfl rfl hxx52 (fun hs => ?_)
        refine WL.assign (v := .slice a38 x52.length c39) rfl ?_
        refine WL.nil ?_
        refine hK50 _ _ ?_
        refine W.seqK fun K53 hK53 => ?_
        refine W.region ?_
        refine WL.assign (v := .bool true) rfl ?_
        refine WL.nil ?_
        refine hK53 _ _ ?_
        refine W.seqK fun K54 hK54 => ?_
        have Jk62 : ∀ (x55 : List (Int × Bool)) (x57 : List Int) (x61 : Bool) (a58 : Option Addr) (c59 : Nat) (n60 : Nat) (ρ : Env) (w : World), ρ 1 = .pointer (some ⟨g6, 0, none⟩) → ρ 4 = .slice a34 n36 c35 → ρ 5 = .map (some g18) → ρ 6 = .slice a58 n60 c59 → ρ 7 = .int .u64 x47 → ρ 8 = .bool x61 → St ok (bz w0) w [vl t_api_View x1 (.agg cs3.toArray)] [own (tInt .u64) 57 (.slice a58 n60 c59) x57, own (tInt .u64) 57 (.slice a34 n36 c35) x33, mapo (fun a : Int => .int .u64 a) tBool g18 x55, blk g6 26 cs3] → quorum_minimal.j2 x33 x47 x55 x57 x61 = some os41 → K54 ρ w := by
          intro x55 x57 x61 a58 c59 n60 ρ w h56_1 h56_4 h56_5 h56_6 h56_7 h56_8 hs hf
          refine hK54 _ _ ?_
          unfold quorum_minimal.j2 at hf
          refine W.seqK fun K63 hK63 => ?_
          refine W.region ?_
          refine WL.move (v := .bool x61) h56_8 ?_
          refine WL.nil ?_
          refine hK63 _ _ ?_
          rcases iteE hf with ⟨hc64, hf⟩ | ⟨hc64, hf⟩
          · refine W.cond_true (bool_tr rfl hc64) ?_
            refine W.region ?_
            refine WL.move (v := .slice a34 n36 c35) h56_4 ?_
            refine WL.move (v := .int .u64 x47) h56_7 ?_
            refine WL.buildSlice (n := 1) (vs := [(0, .int .u64 x47)]) (cs := [.int .u64 x47]) hs ⟨⟨rfl, rfl⟩, trivial⟩ (bls PS54 (by decide) rfl) (fun g65 w hs => ?_)
            obtain ⟨x66, hxx66, hf⟩ := bindE hf
            obtain ⟨hbx66, hex66⟩ := appE hxx66
            refine WL.append (ys := [x47]) (zs := x66) hs 2 rfl 0 rfl UN54 EI57 rfl rfl (fun ok hA => (Cells.one (T := tInt .u64) rfl)) hbx66 (by omega) hex66 (fun v67 w hs => ?_)
            obtain ⟨a68, n70, c69, rfl⟩ := hs.ownv3 2 rfl
            refine WL.assign (v := .slice a68 n70 c69) rfl ?_
            refine WL.nil ?_
            exact ⟨_, (Option.some.inj hf).symm, a68, c69, n70, a58, c59, n60, h56_1, rfl, h56_5, h56_6, (hs.mask [false, true, true, true, true]).pick [0]⟩
          · refine W.cond_false (bool_tr rfl hc64) ?_
            refine W.skip ?_
            exact ⟨_, (Option.some.inj hf).symm, a34, c35, n36, a58, c59, n60, h56_1, h56_4, h56_5, h56_6, (hs.mask [true, true, true, true]).pick [0]⟩
        refine W.seqK fun K71 hK71 => ?_
        refine W.region ?_
        refine WL.fieldAddr (m := 0) h32_1 FA26_0 rfl ?_
        refine WL.loadF (z := x1.Members) F_api_View_Members hs 3 rfl 1 rfl rfl TI24 (.inr rfl) rfl rfl (fun v72 hs => ?_)
        obtain ⟨a73, c74, rfl⟩ := hs.slice 0 rfl
        refine WL.len (v := .slice a73 (x1.Members).length c74) rfl (len_slice UN24) ?_
        refine WL.move (v := .int .i64 0) rfl ?_
        refine WL.nil ?_
        refine hK71 _ _ ?_
        refine W.block ?_
        obtain ⟨bs83, hbs83, hfs83⟩ := bindE hf
        refine W.loop hbs83 (fun s ρ w => match s with | (x75, x77, x81, x82) => ∃ (a78 : Option Addr), ∃ (c79 : Nat), ∃ (n80 : Nat), ρ 1 = .pointer (some ⟨g6, 0, none⟩) ∧ ρ 4 = .slice a34 n36 c35 ∧ ρ 5 = .map (some g18) ∧ ρ 6 = .slice a78 n80 c79 ∧ ρ 7 = .int .u64 x47 ∧ ρ 8 = .bool x81 ∧ ρ 42 = .int .i64 ((x1.Members).length : Int) ∧ ρ 43 = .int .i64 x82 ∧ St ok (bz w0) w [vl t_api_View x1 (.agg cs3.toArray)] [own (tInt .u64) 57 (.slice a78 n80 c79) x77, own (tInt .u64) 57 (.slice a34 n36 c35) x33, mapo (fun a : Int => .int .u64 a) tBool g18 x75, blk g6 26 cs3]) ⟨a38, c39, x52.length, h32_1, h32_4, h32_5, rfl, rfl, rfl, rfl, rfl, (hs.mask [true, true, true, true]).pick [2]⟩ ?_
        intro s ρ w os83 hI hf hbbs83
        obtain ⟨x75, x77, x81, x82⟩ := s
        obtain ⟨a78, c79, n80, h76_1, h76_4, h76_5, h76_6, h76_7, h76_8, h76_42, h76_43, hs⟩ := hI
        unfold quorum_minimal.l1 at hf
        refine W.seqK fun K84 hK84 => ?_
        refine W.region ?_
        refine WL.bin (v := .bool (decide (x82 < ((x1.Members).length : Int)))) h76_43 h76_42 (ib_lss _ _ _) ?_
        refine WL.nil ?_
        refine hK84 _ _ ?_
        refine W.seqK fun K85 hK85 => ?_
        rcases iteE hf with ⟨hc86, hf⟩ | ⟨hc86, hf⟩
        · refine W.cond_true (bool_tr rfl hc86) ?_
          refine W.skip ?_
          refine hK85 _ _ ?_
          refine W.seqK fun K87 hK87 => ?_
          have Jk95 : ∀ (x88 : List (Int × Bool)) (x90 : List Int) (x94 : Bool) (a91 : Option Addr) (c92 : Nat) (n93 : Nat) (ρ : Env) (w : World), ρ 1 = .pointer (some ⟨g6, 0, none⟩) → ρ 4 = .slice a34 n36 c35 → ρ 5 = .map (some g18) → ρ 6 = .slice a91 n93 c92 → ρ 7 = .int .u64 x47 → ρ 8 = .bool x94 → ρ 42 = .int .i64 ((x1.Members).length : Int) → ρ 43 = .int .i64 x82 → St ok (bz w0) w [vl t_api_View x1 (.agg cs3.toArray)] [own (tInt .u64) 57 (.slice a91 n93 c92) x90, own (tInt .u64) 57 (.slice a34 n36 c35) x33, mapo (fun a : Int => .int .u64 a) tBool g18 x88, blk g6 26 cs3] → quorum_minimal.j3 x82 x88 x90 x94 = some os83 → K87 ρ w := by
            intro x88 x90 x94 a91 c92 n93 ρ w h89_1 h89_4 h89_5 h89_6 h89_7 h89_8 h89_42 h89_43 hs hf
            refine hK87 _ _ ?_
            unfold quorum_minimal.j3 at hf
            refine W.region ?_
            obtain ⟨x96, ex96, hf⟩ := letE hf
            refine WL.bin (v := .int .i64 x96) h89_43 rfl (ib_as ex96 (ib_add _ _ _)) ?_
            refine WL.move (v := .int .i64 x96) rfl ?_
            refine WL.nil ?_
            exact ⟨_, (Option.some.inj hf).symm, a91, c92, n93, h89_1, h89_4, h89_5, h89_6, h89_7, h89_8, h89_42, rfl, (hs.mask [true, true, true, true]).pick [0]⟩
          refine W.block ?_
          refine W.seqK fun K97 hK97 => ?_
          refine W.region ?_
          refine WL.move (v := .int .i64 x82) h76_43 ?_
          refine WL.assign (v := .int .i64 x82) rfl ?_
          refine WL.nil ?_
          refine hK97 _ _ ?_
          refine W.seqK fun K98 hK98 => ?_
          refine W.region ?_
          refine WL.move (v := .int .u64 x47) h76_7 ?_
          refine WL.move (v := .int .i64 x82) rfl ?_
          obtain ⟨hn99, hf⟩ := guardE hf
          refine WL.shl rfl rfl hn99 ?_
          obtain ⟨x100, ex100, hf⟩ := letE hf
          refine WL.bin (v := .int .u64 x100) rfl rfl (ib_as ex100 (ib_andNot _ _ _)) ?_
          refine WL.assign (v := .int .u64 x100) rfl ?_
          refine WL.nil ?_
          refine hK98 _ _ ?_
          refine W.seqK fun K101 hK101 => ?_
          refine W.seqK fun K102 hK102 => ?_
          have Jk105 : ∀ (x104 : Bool) (ρ : Env) (w : World), ρ 1 = .pointer (some ⟨g6, 0, none⟩) → ρ 4 = .slice a34 n36 c35 → ρ 5 = .map (some g18) → ρ 6 = .slice a78 n80 c79 → ρ 7 = .int .u64 x47 → ρ 8 = .bool x81 → ρ 10 = .int .u64 x100 → ρ 42 = .int .i64 ((x1.Members).length : Int) → ρ 43 = .int .i64 x82 → ρ 58 = .bool x104 → St ok (bz w0) w [vl t_api_View x1 (.agg cs3.toArray)] [own (tInt .u64) 57 (.slice a78 n80 c79) x77, own (tInt .u64) 57 (.slice a34 n36 c35) x33, mapo (fun a : Int => .int .u64 a) tBool g18 x75, blk g6 26 cs3] → quorum_minimal.j4 x75 x77 x81 x82 x100 x104 = some os83 → K102 ρ w := by
            intro x104 ρ w h103_1 h103_4 h103_5 h103_6 h103_7 h103_8 h103_10 h103_42 h103_43 h103_58 hs hf
            refine hK102 _ _ ?_
            unfold quorum_minimal.j4 at hf
            rcases iteE hf with ⟨hc106, hf⟩ | ⟨hc106, hf⟩
            · refine W.cond_true (bool_tr h103_58 hc106) ?_
              refine W.exit ?_
              exact Jk95 x75 x77 x81 a78 c79 n80 _ _ h103_1 h103_4 h103_5 h103_6 h103_7 h103_8 h103_42 h103_43 ((hs.mask [true, true, true, true]).pick [0]) hf
            · refine W.cond_false (bool_tr h103_58 hc106) ?_
              refine W.skip ?_
              refine hK101 _ _ ?_
              refine W.seqK fun K107 hK107 => ?_
              refine W.region ?_
              refine WL.assign (v := .bool false) rfl ?_
              refine WL.nil ?_
              refine hK107 _ _ ?_
              refine W.seqK fun K108 hK108 => ?_
              refine W.region ?_
              refine WL.move (v := .map (some g18)) h103_5 ?_
              refine WL.move (v := .int .u64 x100) h103_10 ?_
              obtain ⟨x109, exx109, hf⟩ := letE hf
              refine WL.lookup (a := x100) (z0 := false) hs 2 rfl (kkInt UN57) UN72 rfl rfl ZR4 (fun _ _ => ⟨[.bool false], rfl, rfl⟩) exx109 (fun v110 hs => ?_)
              obtain rfl := hs.bool 0 rfl
              refine WL.not rfl ?_
              refine WL.nil ?_
              refine hK108 _ _ ?_
              rcases iteE hf with ⟨hc111, hf⟩ | ⟨hc111, hf⟩
              · refine W.cond_true (bool_tr rfl hc111) ?_
                refine W.seqK fun K112 hK112 => ?_
                refine W.region ?_
                refine WL.move (v := .map (some g18)) h103_5 ?_
                refine WL.move (v := .int .u64 x100) h103_10 ?_
                obtain ⟨x113, exx113, hf⟩ := letE hf
                refine WL.mapUpdate (a := x100) (y := true) (v := .bool true) hs 2 rfl (kkInt UN57) UN72 rfl rfl rfl (fun ok hA => tBool_V.2 rfl) exx113 (fun w hs => ?_)
                refine WL.nil ?_
                refine hK112 _ _ ?_
                refine W.region ?_
                refine WL.move (v := .slice a78 n80 c79) h103_6 ?_
                refine WL.move (v := .int .u64 x100) h103_10 ?_
                refine WL.buildSlice (n := 1) (vs := [(0, .int .u64 x100)]) (cs := [.int .u64 x100]) hs ⟨⟨rfl, rfl⟩, trivial⟩ (bls PS54 (by decide) rfl) (fun g114 w hs => ?_)
                obtain ⟨x115, hxx115, hf⟩ := bindE hf
                obtain ⟨hbx115, hex115⟩ := appE hxx115
                refine WL.append (ys := [x100]) (zs := x115) hs 1 rfl 0 rfl UN54 EI57 rfl rfl (fun ok hA => (Cells.one (T := tInt .u64) rfl)) hbx115 (by omega) hex115 (fun v116 w hs => ?_)
                obtain ⟨a117, n119, c118, rfl⟩ := hs.ownv3 1 rfl
                refine WL.assign (v := .slice a117 n119 c118) rfl ?_
                refine WL.nil ?_
                exact Jk95 x113 x115 false a117 c118 n119 _ _ h103_1 h103_4 h103_5 rfl h103_7 rfl h103_42 h103_43 ((hs.mask [false, true, true, true, true]).pick [1]) hf
              · refine W.cond_false (bool_tr rfl hc111) ?_
                refine W.skip ?_
                exact Jk95 x75 x77 false a78 c79 n80 _ _ h103_1 h103_4 h103_5 h103_6 h103_7 rfl h103_42 h103_43 ((hs.mask [true, true, true, true]).pick [1]) hf
          refine W.region ?_
          refine WL.move (v := .int .u64 x100) rfl ?_
          refine WL.move (v := .int .u64 x47) h76_7 ?_
          refine WL.bin (v := .bool (x100 == x47)) rfl rfl (ib_eql _ _ _) ?_
          refine WL.move (v := .bool (x100 == x47)) rfl ?_
          rcases iteE hf with ⟨hc120, hf⟩ | ⟨hc120, hf⟩
          · refine WL.pass ((wanted_of rfl rfl (bool_tr rfl hc120)).trans rfl) rfl ?_
            refine WL.pass ((wanted_of rfl rfl (bool_tr rfl hc120)).trans rfl) rfl ?_
            refine WL.pass ((wanted_of rfl rfl (bool_tr rfl hc120)).trans rfl) rfl ?_
            refine WL.pass ((wanted_of rfl rfl (bool_tr rfl hc120)).trans rfl) rfl ?_
            refine WL.pickT (v := .bool true) (bool_tr rfl hc120) rfl ?_
            refine WL.nil ?_
            exact Jk105 true _ _ h76_1 h76_4 h76_5 h76_6 h76_7 h76_8 rfl h76_42 h76_43 rfl ((hs.mask [true, true, true, true]).pick [0]) hf
          · refine WL.loadAll hs 3 rfl TI26 h76_1 hl4 ?_ (hg := (wanted_of rfl rfl (bool_tr rfl hc120)).trans rfl)
            refine WL.move (v := .int .u64 x100) rfl ?_ (hg := (wanted_of rfl rfl (bool_tr rfl hc120)).trans rfl)
            obtain ⟨x121, hxx121, hf⟩ := bindE hf
            refine WL.call (vs := [.agg cs3.toArray, .int .u64 x100]) hs FN44 ⟨rfl, ⟨rfl, trivial⟩⟩ (fun ok hA => quorum_holds.calls (x1 := x1) (x5 := x100) hxx121 (hA.get 0 rfl)) ?_ (hg := (wanted_of rfl rfl (bool_tr rfl hc120)).trans rfl)
            rintro _ w hs
            refine WL.not rfl ?_ (hg := (wanted_of rfl rfl (bool_tr rfl hc120)).trans rfl)
            refine WL.pickF (v := .bool (!x121)) (bool_tr rfl hc120) rfl ?_
            refine WL.nil ?_
            exact Jk105 (!x121) _ _ h76_1 h76_4 h76_5 h76_6 h76_7 h76_8 rfl h76_42 h76_43 rfl ((hs.mask [true, true, true, true]).pick [0]) hf
        · refine W.cond_false (bool_tr rfl hc86) ?_
          refine W.exit ?_
          have hr := Option.some.inj hf; subst hr
          have hr := hbbs83 _ rfl; subst hr
          have hf := hfs83
          exact Jk62 x75 x77 x81 a78 c79 n80 _ _ h76_1 h76_4 h76_5 h76_6 h76_7 h76_8 ((hs.mask [true, true, true, true]).pick [0]) hf
      · refine W.cond_false (bool_tr rfl hc44) ?_
        refine W.exit ?_
        have hr := Option.some.inj hf; subst hr
        have hr := hbbs41 _ rfl; subst hr
        have hf := hfs41
        exact Jk27 x31 x33 a34 c35 n36 _ _ h32_4 ((hs.mask [false, true]).pick []) hf
  refine W.region ?_
  refine WL.move (v := .int .u64 x8) rfl ?_
  refine WL.bin (v := .bool (x8 == 0)) rfl rfl (ib_eql _ _ _) ?_
  refine WL.move (v := .bool (x8 == 0)) rfl ?_
  rcases iteE hf with ⟨hc127, hf⟩ | ⟨hc127, hf⟩
  · refine WL.pass ((wanted_of rfl rfl (bool_tr rfl hc127)).trans rfl) rfl ?_
    refine WL.pass ((wanted_of rfl rfl (bool_tr rfl hc127)).trans rfl) rfl ?_
    refine WL.pass ((wanted_of rfl rfl (bool_tr rfl hc127)).trans rfl) rfl ?_
    refine WL.pass ((wanted_of rfl rfl (bool_tr rfl hc127)).trans rfl) rfl ?_
    refine WL.pickT (v := .bool true) (bool_tr rfl hc127) rfl ?_
    refine WL.nil ?_
    exact Jk13 true _ _ rfl rfl rfl ((hs.mask [true]).pick [0]) hf
  · refine WL.loadAll hs 0 rfl TI26 rfl hl4 ?_ (hg := (wanted_of rfl rfl (bool_tr rfl hc127)).trans rfl)
    refine WL.move (v := .int .u64 x8) rfl ?_ (hg := (wanted_of rfl rfl (bool_tr rfl hc127)).trans rfl)
    obtain ⟨x128, hxx128, hf⟩ := bindE hf
    refine WL.call (vs := [.agg cs3.toArray, .int .u64 x8]) hs FN44 ⟨rfl, ⟨rfl, trivial⟩⟩ (fun ok hA => quorum_holds.calls (x1 := x1) (x5 := x8) hxx128 (hA.get 0 rfl)) ?_ (hg := (wanted_of rfl rfl (bool_tr rfl hc127)).trans rfl)
    rintro _ w hs
    refine WL.not rfl ?_ (hg := (wanted_of rfl rfl (bool_tr rfl hc127)).trans rfl)
    refine WL.pickF (v := .bool (!x128)) (bool_tr rfl hc127) rfl ?_
    refine WL.nil ?_
    exact Jk13 (!x128) _ _ rfl rfl rfl ((hs.mask [true]).pick [0]) hf
theorem quorum_minimal.callc {ok : Nat → Prop} {w0 : World} {x1 : api_View} {v2 : Value} {r : List Int} (hf : quorum_minimal x1 = some r) (i0 : (vl t_api_View x1 v2).holds ok w0) :
    Calls Try.prog 35 #[v2] w0 fun e w' => ∃ v, e = .returned v ∧ ∃ y : (Option Addr × Nat), v = .slice y.1 r.length y.2 ∧ St ok (bz w0) w' [vl (tSlice (tInt .u64)) r (.slice y.1 r.length y.2)] [] := by
  refine (quorum_minimal.calls (ok := ok) (w0 := w0) (x1 := x1) hf i0).mono ?_
  rintro e w' ⟨v, rfl, ⟨a129, n130, c131⟩, rfl, hs⟩
  obtain rfl := hs.ownLen 0 rfl
  have hs := hs.freezeOwn 0 rfl
  exact ⟨_, rfl, (a129, c131), rfl, hs.pick [0]⟩
end Go.Proofs.Ytodebgfppmcjlaa
