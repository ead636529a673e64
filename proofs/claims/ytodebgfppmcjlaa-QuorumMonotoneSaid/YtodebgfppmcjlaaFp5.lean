import Derived.Test.YtodebgfppmcjlaaFh
import Derived.Test.YtodebgfppmcjlaaFp4
set_option linter.unusedVariables false
set_option linter.unusedSimpArgs false
namespace Go.Proofs.Ytodebgfppmcjlaa
open Go Go.RowKit Go.Proofs.YtodebgfppmcjlaaL
set_option maxRecDepth 100000
set_option maxHeartbeats 4000000
/-! elasticstore/elasticstoreref06.ValidateView: function 15 -/
theorem esref06_ValidateView.calls {ok : Nat → Prop} {w0 : World} {x1 : api_View} {v2 : Value} {r : Int} (hf : esref06_ValidateView x1 = some r) (i0 : (vl t_api_View x1 v2).holds ok w0) :
    Calls Try.prog 15 #[v2] w0 fun e w' => ∃ v, e = .returned v ∧ ∃ y : Unit, v = .int .i64 r ∧ St ok (bz w0) w' [] [] := by
  unfold esref06_ValidateView at hf
  refine calls_of_W (fn := Try.f15) (N := 52) Try.func15 rfl Try.ntmps15 rfl ?_
  have hs : St ok (bz w0) w0 [vl t_api_View x1 v2] [] := St.init (All.cons i0 All.nil)
  clear i0
  obtain ⟨cs3, hl4, rfl⟩ := hs.aggv (n := 4) 0 rfl rfl rfl
  refine W.seqK fun K5 hK5 => ?_
  refine W.region ?_
  refine WL.box (vs := cs3) hs rfl rfl (fun g6 w hs => ?_)
  refine WL.assign (v := .int .i64 0) rfl ?_
  refine WL.nil ?_
  refine hK5 _ _ ?_
  refine W.seqK fun K7 hK7 => ?_
  refine W.seqK fun K8 hK8 => ?_
  refine W.region ?_
  refine WL.fieldAddr (m := 1) rfl FA26_1 rfl ?_
  refine WL.loadF (z := x1.Rule) F_api_View_Rule hs 0 rfl 0 rfl rfl TI23 (.inl rfl) rfl rfl (fun v9 hs => ?_)
  obtain ⟨cs10, hl11, rfl⟩ := hs.aggv (n := 3) 0 rfl rfl rfl
  obtain ⟨x12, hxx12, hf⟩ := bindE hf
  refine WL.call (vs := [.agg cs10.toArray]) hs FN13 ⟨rfl, trivial⟩ (fun ok hA => esref06_ValidateRule.calls (x1 := x1.Rule) hxx12 (hA.get 0 rfl)) ?_
  rintro _ w hs
  refine WL.assign (v := .int .i64 x12) rfl ?_
  refine WL.nil ?_
  refine hK8 _ _ ?_
  refine W.seqK fun K13 hK13 => ?_
  refine W.region ?_
  refine WL.move (v := .int .i64 x12) rfl ?_
  refine WL.bin (v := .bool (x12 != 0)) rfl rfl (ib_neq _ _ _) ?_
  refine WL.nil ?_
  refine hK13 _ _ ?_
  rcases iteE hf with ⟨hc14, hf⟩ | ⟨hc14, hf⟩
  · refine W.cond_true (bool_tr rfl hc14) ?_
    refine W.seqK fun K15 hK15 => ?_
    refine W.region ?_
    refine WL.move (v := .int .i64 x12) rfl ?_
    refine WL.assign (v := .int .i64 x12) rfl ?_
    refine WL.nil ?_
    refine hK15 _ _ ?_
    refine W.ret ?_
    have hr := Option.some.inj hf; subst hr
    exact ⟨_, resOk_one rfl rfl, (), rfl, (hs.mask []).pick []⟩
  · refine W.cond_false (bool_tr rfl hc14) ?_
    refine W.skip ?_
    refine hK7 _ _ ?_
    refine W.seqK fun K16 hK16 => ?_
    have Jk18 : ∀  (ρ : Env) (w : World), St ok (bz w0) w [] [] → esref06_ValidateView.j1 = some r → K16 ρ w := by
      intro  ρ w  hs hf
      refine hK16 _ _ ?_
      unfold esref06_ValidateView.j1 at hf
      refine W.seqK fun K19 hK19 => ?_
      refine W.region ?_
      refine WL.assign (v := .int .i64 0) rfl ?_
      refine WL.nil ?_
      refine hK19 _ _ ?_
      refine W.ret ?_
      have hr := Option.some.inj hf; subst hr
      exact ⟨_, resOk_one rfl rfl, (), rfl, (hs.mask []).pick []⟩
    refine W.seqK fun K20 hK20 => ?_
    refine W.region ?_
    refine WL.assign (v := .int .i64 0) rfl ?_
    refine WL.nil ?_
    refine hK20 _ _ ?_
    refine W.block ?_
    obtain ⟨bs23, hbs23, hfs23⟩ := bindE hf
    refine W.loop hbs23 (fun s ρ w => match s with | x22 => ρ 1 = .pointer (some ⟨g6, 0, none⟩) ∧ ρ 4 = .int .i64 x22 ∧ St ok (bz w0) w [vl t_api_View x1 (.agg cs3.toArray)] [blk g6 26 cs3]) ⟨rfl, rfl, (hs.mask [true]).pick [1]⟩ ?_
    intro x22 ρ w os23 hI hf hbbs23
    obtain ⟨h21_1, h21_4, hs⟩ := hI
    unfold esref06_ValidateView.l1 at hf
    refine W.seqK fun K24 hK24 => ?_
    refine W.seqK fun K25 hK25 => ?_
    refine W.region ?_
    refine WL.move (v := .int .i64 x22) h21_4 ?_
    refine WL.fieldAddr (m := 0) h21_1 FA26_0 rfl ?_
    refine WL.loadF (z := x1.Members) F_api_View_Members hs 0 rfl 0 rfl rfl TI24 (.inr rfl) rfl rfl (fun v26 hs => ?_)
    obtain ⟨a27, c28, rfl⟩ := hs.slice 0 rfl
    refine WL.len (v := .slice a27 (x1.Members).length c28) rfl (len_slice UN24) ?_
    refine WL.bin (v := .bool (decide (x22 < ((x1.Members).length : Int)))) rfl rfl (ib_lss _ _ _) ?_
    refine WL.nil ?_
    refine hK25 _ _ ?_
    rcases iteE hf with ⟨hc29, hf⟩ | ⟨hc29, hf⟩
    · refine W.cond_true (bool_tr rfl hc29) ?_
      refine W.skip ?_
      refine hK24 _ _ ?_
      refine W.seqK fun K30 hK30 => ?_
      refine W.block ?_
      refine W.seqK fun K31 hK31 => ?_
      refine W.region ?_
      refine WL.fieldAddr (m := 0) h21_1 FA26_0 rfl ?_
      refine WL.loadF (z := x1.Members) F_api_View_Members hs 0 rfl 1 rfl rfl TI24 (.inr rfl) rfl rfl (fun v32 hs => ?_)
      obtain ⟨a33, c34, rfl⟩ := hs.slice 0 rfl
      refine WL.move (v := .int .i64 x22) h21_4 ?_
      obtain ⟨x35, hxx35, hf⟩ := bindE hf
      refine WL.indexAddr hs 0 rfl UN24 TI44 rfl rfl hxx35 (fun ad36 hs => ?_)
      refine WL.loadP hs 0 rfl TI44 (.inl rfl) rfl (fun v37 hs => ?_)
      obtain ⟨cs38, hl39, rfl⟩ := hs.aggv (n := 2) 0 rfl rfl rfl
      refine WL.alloc hs ZV44 (fun g40 w hs => ?_)
      refine WL.storeAll (vs := cs38) hs 0 rfl TI44 rfl rfl rfl hl39 (hs.ones 0 rfl rfl) rfl (fun w hs => ?_)
      refine WL.nil ?_
      refine hK31 _ _ ?_
      refine W.seqK fun K41 hK41 => ?_
      refine W.seqK fun K42 hK42 => ?_
      have Jk45 : ∀ (x44 : Bool) (ρ : Env) (w : World), ρ 1 = .pointer (some ⟨g6, 0, none⟩) → ρ 4 = .int .i64 x22 → ρ 5 = .pointer (some ⟨g40, 0, none⟩) → ρ 37 = .bool x44 → St ok (bz w0) w [vl t_api_Member x35 (.agg cs38.toArray), vl t_api_View x1 (.agg cs3.toArray)] [blk g40 44 cs38, blk g6 26 cs3] → esref06_ValidateView.j3 x1 x22 x35 x44 = some os23 → K42 ρ w := by
        intro x44 ρ w h43_1 h43_4 h43_5 h43_37 hs hf
        refine hK42 _ _ ?_
        unfold esref06_ValidateView.j3 at hf
        rcases iteE hf with ⟨hc46, hf⟩ | ⟨hc46, hf⟩
        · refine W.cond_true (bool_tr h43_37 hc46) ?_
          refine W.seqK fun K47 hK47 => ?_
          refine W.region ?_
          refine WL.assign (v := .int .i64 9) rfl ?_
          refine WL.nil ?_
          refine hK47 _ _ ?_
          refine W.ret ?_
          have hr := Option.some.inj hf; subst hr
          have hr := hbbs23 _ rfl; subst hr
          have hf := hfs23
          have hr := Option.some.inj hf; subst hr
          exact ⟨_, resOk_one rfl rfl, (), rfl, (hs.mask []).pick []⟩
        · refine W.cond_false (bool_tr h43_37 hc46) ?_
          refine W.skip ?_
          refine hK41 _ _ ?_
          refine W.seqK fun K48 hK48 => ?_
          have Jk51 : ∀ (x50 : Bool) (ρ : Env) (w : World), ρ 1 = .pointer (some ⟨g6, 0, none⟩) → ρ 4 = .int .i64 x22 → ρ 51 = .bool x50 → St ok (bz w0) w [vl t_api_View x1 (.agg cs3.toArray)] [blk g6 26 cs3] → esref06_ValidateView.j2 x22 x50 = some os23 → K48 ρ w := by
            intro x50 ρ w h49_1 h49_4 h49_51 hs hf
            refine hK48 _ _ ?_
            unfold esref06_ValidateView.j2 at hf
            rcases iteE hf with ⟨hc52, hf⟩ | ⟨hc52, hf⟩
            · refine W.cond_true (bool_tr h49_51 hc52) ?_
              refine W.seqK fun K53 hK53 => ?_
              refine W.region ?_
              refine WL.assign (v := .int .i64 7) rfl ?_
              refine WL.nil ?_
              refine hK53 _ _ ?_
              refine W.ret ?_
              have hr := Option.some.inj hf; subst hr
              have hr := hbbs23 _ rfl; subst hr
              have hf := hfs23
              have hr := Option.some.inj hf; subst hr
              exact ⟨_, resOk_one rfl rfl, (), rfl, (hs.mask []).pick []⟩
            · refine W.cond_false (bool_tr h49_51 hc52) ?_
              refine W.skip ?_
              refine hK30 _ _ ?_
              refine W.region ?_
              refine WL.move (v := .int .i64 x22) h49_4 ?_
              obtain ⟨x54, ex54, hf⟩ := letE hf
              refine WL.bin (v := .int .i64 x54) rfl rfl (ib_as ex54 (ib_add _ _ _)) ?_
              refine WL.assign (v := .int .i64 x54) rfl ?_
              refine WL.nil ?_
              exact ⟨_, (Option.some.inj hf).symm, h49_1, rfl, (hs.mask [true]).pick [0]⟩
          rcases iteE hf with ⟨hc55, hf⟩ | ⟨hc55, hf⟩
          · obtain ⟨x59, ex59, hf⟩ := letE hf
            obtain ⟨x60, hxx60, hf⟩ := bindE hf
            refine W.any (by kernel_rfl) 14 0 [true, true, true, true, true, true, true, true, true, true, true, true, true, true] rfl rfl (poAt [pv (.int .i64 x22), pv (.bool (decide (0 < x22))), pv (.bool (decide (0 < x22))), pv (.pointer (some ⟨g6, 0, none⟩)), pq (fun y : (Option Addr × Nat) => .slice y.1 (x1.Members).length y.2) (fun v => [vl (tSlice t_api_Member) x1.Members v]) (fun v => []), pv (.int .i64 x22), pv (.int .i64 x59), pq (fun y : Addr => .pointer (some y)) (fun v => [pl t_api_Member x60 (adOf v)]) (fun v => []), pq (fun y : Addr => .pointer (some y)) (fun v => [pl (tInt .i64) x60.Server (adOf v)]) (fun v => []), pv (.int .i64 x60.Server), pv (.pointer (some ⟨g40, 0, none⟩)), pv (.int .i64 x35.Server), pv (.bool (decide (x35.Server ≤ x60.Server))), pv (.bool (decide (x35.Server ≤ x60.Server)))]) (Λ := [blk g40 44 cs38, blk g6 26 cs3]) hs (by kernel_rfl) (by kernel_rfl) (by kernel_rfl) ⟨⟨⟨⟨⟨⟨⟨⟨⟨⟨⟨⟨⟨⟨trivial, ?_⟩, ?_⟩, ?_⟩, ?_⟩, ?_⟩, ?_⟩, ?_⟩, ?_⟩, ?_⟩, ?_⟩, ?_⟩, ?_⟩, ?_⟩, ?_⟩ ?_
            · intro ρ w Γx Λx hs hu hp
              refine WL.move (v := .int .i64 x22) ((hu 4 rfl).trans h43_4) ?_
              exact WL.nil ⟨rfl, _, rfl, rfl, hs.cutG 0 0⟩
            · intro ρ w Γx Λx hs hu hp
              have e65 : ρ 38 = .int .i64 x22 := (hp 0 rfl).1
              refine WL.bin (v := .bool (decide (0 < x22))) e65 rfl (ib_gtr _ _ _) ?_
              exact WL.nil ⟨rfl, _, rfl, rfl, hs.cutG 0 0⟩
            · intro ρ w Γx Λx hs hu hp
              have e66 : ρ 39 = .bool (decide (0 < x22)) := (hp 1 rfl).1
              refine WL.move (v := .bool (decide (0 < x22))) e66 ?_
              exact WL.nil ⟨rfl, _, rfl, rfl, hs.cutG 0 0⟩
            · intro ρ w Γx Λx hs hu hp
              have e67 : ρ 40 = .bool (decide (0 < x22)) := (hp 2 rfl).1
              refine WL.fieldAddr (m := 0) ((hu 1 rfl).trans h43_1) FA26_0 rfl ?_ (hg := (wanted_of rfl rfl (bool_tr e67 hc55)).trans rfl)
              exact WL.nil ⟨rfl, _, rfl, rfl, hs.cutG 0 0⟩
            · intro ρ w Γx Λx hs hu hp
              have e68 : ρ 41 = .pointer (some ⟨g6, 0, none⟩) := (hp 3 rfl).1
              have e69 : ρ 40 = .bool (decide (0 < x22)) := (hp 2 rfl).1
              refine WL.loadF (z := x1.Members) F_api_View_Members hs (Λx.length + 1) (getApp rfl) (Γx.length + 1) (getApp rfl) rfl TI24 (.inr rfl) e68 rfl (fun v56 hs => ?_) (hg := (wanted_of rfl rfl (bool_tr e69 hc55)).trans rfl)
              obtain ⟨a57, c58, rfl⟩ := hs.slice 0 rfl
              have hs := hs.add (it := vl (tSlice t_api_Member) x1.Members (.slice a57 (x1.Members).length c58)) fun ok hA => hA.get 0 rfl
              exact WL.nil ⟨rfl, _, rfl, ⟨(a57, c58), rfl⟩, hs.cutG 1 1⟩
            · intro ρ w Γx Λx hs hu hp
              have e70 : ρ 40 = .bool (decide (0 < x22)) := (hp 2 rfl).1
              refine WL.move (v := .int .i64 x22) ((hu 4 rfl).trans h43_4) ?_ (hg := (wanted_of rfl rfl (bool_tr e70 hc55)).trans rfl)
              exact WL.nil ⟨rfl, _, rfl, rfl, hs.cutG 0 0⟩
            · intro ρ w Γx Λx hs hu hp
              have e71 : ρ 43 = .int .i64 x22 := (hp 5 rfl).1
              have e72 : ρ 40 = .bool (decide (0 < x22)) := (hp 2 rfl).1
              refine WL.bin (v := .int .i64 x59) e71 rfl (ib_as ex59 (ib_sub _ _ _)) ?_ (hg := (wanted_of rfl rfl (bool_tr e72 hc55)).trans rfl)
              exact WL.nil ⟨rfl, _, rfl, rfl, hs.cutG 0 0⟩
            · intro ρ w Γx Λx hs hu hp
              obtain ⟨⟨⟨a73, c74⟩, e75r⟩, hm76⟩ := hp 4 rfl
              have e75 : ρ 42 = .slice a73 (x1.Members).length c74 := e75r
              rw [e75r] at hm76
              have hs := hs.memo1 (it := vl (tSlice t_api_Member) x1.Members (.slice a73 (x1.Members).length c74)) (List.mem_append.2 (.inl (hm76 _ (List.mem_of_getElem? (i := 0) rfl))))
              have e77 : ρ 44 = .int .i64 x59 := (hp 6 rfl).1
              have e78 : ρ 40 = .bool (decide (0 < x22)) := (hp 2 rfl).1
              refine WL.indexAddr hs 0 rfl UN24 TI44 e75 e77 hxx60 (fun ad61 hs => ?_) (hg := (wanted_of rfl rfl (bool_tr e78 hc55)).trans rfl)
              have hs := hs.add (it := pl t_api_Member x60 ad61) fun ok hA => hA.get 0 rfl
              exact WL.nil ⟨rfl, _, rfl, ⟨ad61, rfl⟩, hs.cutG 1 2⟩
            · intro ρ w Γx Λx hs hu hp
              obtain ⟨⟨ad79, e80r⟩, hm81⟩ := hp 7 rfl
              have e80 : ρ 45 = .pointer (some ad79) := e80r
              rw [e80r] at hm81
              have hs := hs.memo1 (it := pl t_api_Member x60 ad79) (List.mem_append.2 (.inl (hm81 _ (List.mem_of_getElem? (i := 0) rfl))))
              have e82 : ρ 40 = .bool (decide (0 < x22)) := (hp 2 rfl).1
              refine WL.fieldAddrP (z := x60.Server) F_api_Member_Server hs 0 rfl e80 FA44_0 rfl (fun ad62 hs => ?_) (hg := (wanted_of rfl rfl (bool_tr e82 hc55)).trans rfl)
              have hs := hs.add (it := pl (tInt .i64) x60.Server ad62) fun ok hA => hA.get 0 rfl
              exact WL.nil ⟨rfl, _, rfl, ⟨ad62, rfl⟩, hs.cutG 1 2⟩
            · intro ρ w Γx Λx hs hu hp
              obtain ⟨⟨ad83, e84r⟩, hm85⟩ := hp 8 rfl
              have e84 : ρ 46 = .pointer (some ad83) := e84r
              rw [e84r] at hm85
              have hs := hs.memo1 (it := pl (tInt .i64) x60.Server ad83) (List.mem_append.2 (.inl (hm85 _ (List.mem_of_getElem? (i := 0) rfl))))
              have e86 : ρ 40 = .bool (decide (0 < x22)) := (hp 2 rfl).1
              refine WL.loadP hs 0 rfl TI3 (.inr rfl) e84 (fun v63 hs => ?_) (hg := (wanted_of rfl rfl (bool_tr e86 hc55)).trans rfl)
              obtain rfl := hs.int 0 rfl
              exact WL.nil ⟨rfl, _, rfl, rfl, hs.cutG 0 2⟩
            · intro ρ w Γx Λx hs hu hp
              have e87 : ρ 40 = .bool (decide (0 < x22)) := (hp 2 rfl).1
              refine WL.fieldAddr (m := 0) ((hu 5 rfl).trans h43_5) FA44_0 rfl ?_ (hg := (wanted_of rfl rfl (bool_tr e87 hc55)).trans rfl)
              exact WL.nil ⟨rfl, _, rfl, rfl, hs.cutG 0 0⟩
            · intro ρ w Γx Λx hs hu hp
              have e88 : ρ 48 = .pointer (some ⟨g40, 0, none⟩) := (hp 10 rfl).1
              have e89 : ρ 40 = .bool (decide (0 < x22)) := (hp 2 rfl).1
              refine WL.loadF (z := x35.Server) F_api_Member_Server hs (Λx.length + 0) (getApp rfl) (Γx.length + 0) (getApp rfl) rfl TI3 (.inr rfl) e88 rfl (fun v64 hs => ?_) (hg := (wanted_of rfl rfl (bool_tr e89 hc55)).trans rfl)
              obtain rfl := hs.int 0 rfl
              exact WL.nil ⟨rfl, _, rfl, rfl, hs.cutG 0 1⟩
            · intro ρ w Γx Λx hs hu hp
              have e90 : ρ 47 = .int .i64 x60.Server := (hp 9 rfl).1
              have e91 : ρ 49 = .int .i64 x35.Server := (hp 11 rfl).1
              have e92 : ρ 40 = .bool (decide (0 < x22)) := (hp 2 rfl).1
              refine WL.bin (v := .bool (decide (x35.Server ≤ x60.Server))) e90 e91 (ib_geq _ _ _) ?_ (hg := (wanted_of rfl rfl (bool_tr e92 hc55)).trans rfl)
              exact WL.nil ⟨rfl, _, rfl, rfl, hs.cutG 0 0⟩
            · intro ρ w Γx Λx hs hu hp
              have e93 : ρ 40 = .bool (decide (0 < x22)) := (hp 2 rfl).1
              have e94 : ρ 50 = .bool (decide (x35.Server ≤ x60.Server)) := (hp 12 rfl).1
              refine WL.pickT (v := .bool (decide (x35.Server ≤ x60.Server))) (bool_tr e93 hc55) e94 ?_
              exact WL.nil ⟨rfl, _, rfl, rfl, hs.cutG 0 0⟩
            · intro ρ w hs hu95 hp
              obtain ⟨⟨⟨⟨⟨⟨⟨⟨⟨⟨⟨⟨⟨⟨_, hp0_⟩, hp1_⟩, hp2_⟩, hp3_⟩, hp4_⟩, hp5_⟩, hp6_⟩, hp7_⟩, hp8_⟩, hp9_⟩, hp10_⟩, hp11_⟩, hp12_⟩, hp13_⟩ := hp
              have hs : St ok (bz w0) w [pl (tInt .i64) x60.Server (adOf (ρ 46)), pl t_api_Member x60 (adOf (ρ 45)), vl (tSlice t_api_Member) x1.Members (ρ 42), vl t_api_Member x35 (.agg cs38.toArray), vl t_api_View x1 (.agg cs3.toArray)] [blk g40 44 cs38, blk g6 26 cs3] := hs
              have e96 : ρ 51 = .bool (decide (x35.Server ≤ x60.Server)) := hp13_
              have e97 : ρ 50 = .bool (decide (x35.Server ≤ x60.Server)) := hp12_
              have e98 : ρ 49 = .int .i64 x35.Server := hp11_
              have e99 : ρ 48 = .pointer (some ⟨g40, 0, none⟩) := hp10_
              have e100 : ρ 47 = .int .i64 x60.Server := hp9_
              obtain ⟨ad101, e102⟩ := hp8_
              have e102 : ρ 46 = .pointer (some ad101) := e102
              try rw [e102] at hs
              obtain ⟨ad103, e104⟩ := hp7_
              have e104 : ρ 45 = .pointer (some ad103) := e104
              try rw [e104] at hs
              have e105 : ρ 44 = .int .i64 x59 := hp6_
              have e106 : ρ 43 = .int .i64 x22 := hp5_
              obtain ⟨⟨a107, c108⟩, e109⟩ := hp4_
              have e109 : ρ 42 = .slice a107 (x1.Members).length c108 := e109
              try rw [e109] at hs
              have e110 : ρ 41 = .pointer (some ⟨g6, 0, none⟩) := hp3_
              have e111 : ρ 40 = .bool (decide (0 < x22)) := hp2_
              have e112 : ρ 39 = .bool (decide (0 < x22)) := hp1_
              have e113 : ρ 38 = .int .i64 x22 := hp0_
              refine WA.done (by kernel_rfl) ?_
              exact Jk51 (decide (x35.Server ≤ x60.Server)) _ _ ((hu95 1 rfl).trans h43_1) ((hu95 4 rfl).trans h43_4) e96 ((hs.mask [false, true]).pick [4]) hf
          · refine W.any (by kernel_rfl) 14 0 [true, true, true, true, true, true, true, true, true, true, true, true, true, true] rfl rfl (poAt [pv (.int .i64 x22), pv (.bool (decide (0 < x22))), pv (.bool (decide (0 < x22))), pv (undef), pv (undef), pv (undef), pv (undef), pv (undef), pv (undef), pv (undef), pv (undef), pv (undef), pv (undef), pv (.bool false)]) (Λ := [blk g40 44 cs38, blk g6 26 cs3]) hs (by kernel_rfl) (by kernel_rfl) (by kernel_rfl) ⟨⟨⟨⟨⟨⟨⟨⟨⟨⟨⟨⟨⟨⟨trivial, ?_⟩, ?_⟩, ?_⟩, ?_⟩, ?_⟩, ?_⟩, ?_⟩, ?_⟩, ?_⟩, ?_⟩, ?_⟩, ?_⟩, ?_⟩, ?_⟩ ?_
            · intro ρ w Γx Λx hs hu hp
              refine WL.move (v := .int .i64 x22) ((hu 4 rfl).trans h43_4) ?_
              exact WL.nil ⟨rfl, _, rfl, rfl, hs.cutG 0 0⟩
            · intro ρ w Γx Λx hs hu hp
              have e114 : ρ 38 = .int .i64 x22 := (hp 0 rfl).1
              refine WL.bin (v := .bool (decide (0 < x22))) e114 rfl (ib_gtr _ _ _) ?_
              exact WL.nil ⟨rfl, _, rfl, rfl, hs.cutG 0 0⟩
            · intro ρ w Γx Λx hs hu hp
              have e115 : ρ 39 = .bool (decide (0 < x22)) := (hp 1 rfl).1
              refine WL.move (v := .bool (decide (0 < x22))) e115 ?_
              exact WL.nil ⟨rfl, _, rfl, rfl, hs.cutG 0 0⟩
            · intro ρ w Γx Λx hs hu hp
              have e116 : ρ 40 = .bool (decide (0 < x22)) := (hp 2 rfl).1
              refine WL.pass ((wanted_of rfl rfl (bool_tr e116 hc55)).trans rfl) rfl ?_
              exact WL.nil ⟨rfl, _, rfl, rfl, hs.cutG 0 0⟩
            · intro ρ w Γx Λx hs hu hp
              have e117 : ρ 41 = undef := (hp 3 rfl).1
              have e118 : ρ 40 = .bool (decide (0 < x22)) := (hp 2 rfl).1
              refine WL.pass ((wanted_of rfl rfl (bool_tr e118 hc55)).trans rfl) rfl ?_
              exact WL.nil ⟨rfl, _, rfl, rfl, hs.cutG 0 0⟩
            · intro ρ w Γx Λx hs hu hp
              have e119 : ρ 40 = .bool (decide (0 < x22)) := (hp 2 rfl).1
              refine WL.pass ((wanted_of rfl rfl (bool_tr e119 hc55)).trans rfl) rfl ?_
              exact WL.nil ⟨rfl, _, rfl, rfl, hs.cutG 0 0⟩
            · intro ρ w Γx Λx hs hu hp
              have e120 : ρ 43 = undef := (hp 5 rfl).1
              have e121 : ρ 40 = .bool (decide (0 < x22)) := (hp 2 rfl).1
              refine WL.pass ((wanted_of rfl rfl (bool_tr e121 hc55)).trans rfl) rfl ?_
              exact WL.nil ⟨rfl, _, rfl, rfl, hs.cutG 0 0⟩
            · intro ρ w Γx Λx hs hu hp
              have e122 : ρ 42 = undef := (hp 4 rfl).1
              have e123 : ρ 44 = undef := (hp 6 rfl).1
              have e124 : ρ 40 = .bool (decide (0 < x22)) := (hp 2 rfl).1
              refine WL.pass ((wanted_of rfl rfl (bool_tr e124 hc55)).trans rfl) rfl ?_
              exact WL.nil ⟨rfl, _, rfl, rfl, hs.cutG 0 0⟩
            · intro ρ w Γx Λx hs hu hp
              have e125 : ρ 45 = undef := (hp 7 rfl).1
              have e126 : ρ 40 = .bool (decide (0 < x22)) := (hp 2 rfl).1
              refine WL.pass ((wanted_of rfl rfl (bool_tr e126 hc55)).trans rfl) rfl ?_
              exact WL.nil ⟨rfl, _, rfl, rfl, hs.cutG 0 0⟩
            · intro ρ w Γx Λx hs hu hp
              have e127 : ρ 46 = undef := (hp 8 rfl).1
              have e128 : ρ 40 = .bool (decide (0 < x22)) := (hp 2 rfl).1
              refine WL.pass ((wanted_of rfl rfl (bool_tr e128 hc55)).trans rfl) rfl ?_
              exact WL.nil ⟨rfl, _, rfl, rfl, hs.cutG 0 0⟩
            · intro ρ w Γx Λx hs hu hp
              have e129 : ρ 40 = .bool (decide (0 < x22)) := (hp 2 rfl).1
              refine WL.pass ((wanted_of rfl rfl (bool_tr e129 hc55)).trans rfl) rfl ?_
              exact WL.nil ⟨rfl, _, rfl, rfl, hs.cutG 0 0⟩
            · intro ρ w Γx Λx hs hu hp
              have e130 : ρ 48 = undef := (hp 10 rfl).1
              have e131 : ρ 40 = .bool (decide (0 < x22)) := (hp 2 rfl).1
              refine WL.pass ((wanted_of rfl rfl (bool_tr e131 hc55)).trans rfl) rfl ?_
              exact WL.nil ⟨rfl, _, rfl, rfl, hs.cutG 0 0⟩
            · intro ρ w Γx Λx hs hu hp
              have e132 : ρ 47 = undef := (hp 9 rfl).1
              have e133 : ρ 49 = undef := (hp 11 rfl).1
              have e134 : ρ 40 = .bool (decide (0 < x22)) := (hp 2 rfl).1
              refine WL.pass ((wanted_of rfl rfl (bool_tr e134 hc55)).trans rfl) rfl ?_
              exact WL.nil ⟨rfl, _, rfl, rfl, hs.cutG 0 0⟩
            · intro ρ w Γx Λx hs hu hp
              have e135 : ρ 40 = .bool (decide (0 < x22)) := (hp 2 rfl).1
              have e136 : ρ 50 = undef := (hp 12 rfl).1
              refine WL.pickF (v := .bool false) (bool_tr e135 hc55) rfl ?_
              exact WL.nil ⟨rfl, _, rfl, rfl, hs.cutG 0 0⟩
            · intro ρ w hs hu137 hp
              obtain ⟨⟨⟨⟨⟨⟨⟨⟨⟨⟨⟨⟨⟨⟨_, hp0_⟩, hp1_⟩, hp2_⟩, hp3_⟩, hp4_⟩, hp5_⟩, hp6_⟩, hp7_⟩, hp8_⟩, hp9_⟩, hp10_⟩, hp11_⟩, hp12_⟩, hp13_⟩ := hp
              have hs : St ok (bz w0) w [vl t_api_Member x35 (.agg cs38.toArray), vl t_api_View x1 (.agg cs3.toArray)] [blk g40 44 cs38, blk g6 26 cs3] := hs
              have e138 : ρ 51 = .bool false := hp13_
              have e139 : ρ 50 = undef := hp12_
              have e140 : ρ 49 = undef := hp11_
              have e141 : ρ 48 = undef := hp10_
              have e142 : ρ 47 = undef := hp9_
              have e143 : ρ 46 = undef := hp8_
              have e144 : ρ 45 = undef := hp7_
              have e145 : ρ 44 = undef := hp6_
              have e146 : ρ 43 = undef := hp5_
              have e147 : ρ 42 = undef := hp4_
              have e148 : ρ 41 = undef := hp3_
              have e149 : ρ 40 = .bool (decide (0 < x22)) := hp2_
              have e150 : ρ 39 = .bool (decide (0 < x22)) := hp1_
              have e151 : ρ 38 = .int .i64 x22 := hp0_
              refine WA.done (by kernel_rfl) ?_
              exact Jk51 false _ _ ((hu137 1 rfl).trans h43_1) ((hu137 4 rfl).trans h43_4) e138 ((hs.mask [false, true]).pick [1]) hf
      refine W.region ?_
      refine WL.fieldAddr (m := 0) rfl FA44_0 rfl ?_
      refine WL.loadF (z := x35.Server) F_api_Member_Server hs 0 rfl 0 rfl rfl TI3 (.inr rfl) rfl rfl (fun v152 hs => ?_)
      obtain rfl := hs.int 0 rfl
      obtain ⟨x153, hxx153, hf⟩ := bindE hf
      refine WL.call (vs := [.int .i64 x35.Server]) hs FN31 ⟨rfl, trivial⟩ (fun ok hA => esref06_Server.calls (x1 := x35.Server) hxx153) ?_
      rintro _ w hs
      refine WL.not rfl ?_
      refine WL.move (v := .bool (!x153)) rfl ?_
      rcases iteE hf with ⟨hc154, hf⟩ | ⟨hc154, hf⟩
      · refine WL.pass ((wanted_of rfl rfl (bool_tr rfl hc154)).trans rfl) rfl ?_
        refine WL.pass ((wanted_of rfl rfl (bool_tr rfl hc154)).trans rfl) rfl ?_
        refine WL.pass ((wanted_of rfl rfl (bool_tr rfl hc154)).trans rfl) rfl ?_
        refine WL.pickT (v := .bool true) (bool_tr rfl hc154) rfl ?_
        refine WL.move (v := .bool true) rfl ?_
        refine WL.pass ((wanted_of rfl rfl rfl).trans rfl) rfl ?_
        refine WL.pass ((wanted_of rfl rfl rfl).trans rfl) rfl ?_
        refine WL.pass ((wanted_of rfl rfl rfl).trans rfl) rfl ?_
        refine WL.pickT (v := .bool true) rfl rfl ?_
        refine WL.nil ?_
        exact Jk45 true _ _ h21_1 h21_4 rfl rfl ((hs.mask [true, true]).pick [1, 5]) hf
      · refine WL.fieldAddr (m := 1) rfl FA44_1 rfl ?_ (hg := (wanted_of rfl rfl (bool_tr rfl hc154)).trans rfl)
        refine WL.loadF (z := x35.Weight) F_api_Member_Weight hs 0 rfl 1 rfl rfl TI3 (.inr rfl) rfl rfl (fun v155 hs => ?_) (hg := (wanted_of rfl rfl (bool_tr rfl hc154)).trans rfl)
        obtain rfl := hs.int 0 rfl
        refine WL.bin (v := .bool (decide (x35.Weight < 1))) rfl rfl (ib_lss _ _ _) ?_ (hg := (wanted_of rfl rfl (bool_tr rfl hc154)).trans rfl)
        refine WL.pickF (v := .bool (decide (x35.Weight < 1))) (bool_tr rfl hc154) rfl ?_
        refine WL.move (v := .bool (decide (x35.Weight < 1))) rfl ?_
        rcases iteE hf with ⟨hc156, hf⟩ | ⟨hc156, hf⟩
        · refine WL.pass ((wanted_of rfl rfl (bool_tr rfl hc156)).trans rfl) rfl ?_
          refine WL.pass ((wanted_of rfl rfl (bool_tr rfl hc156)).trans rfl) rfl ?_
          refine WL.pass ((wanted_of rfl rfl (bool_tr rfl hc156)).trans rfl) rfl ?_
          refine WL.pickT (v := .bool true) (bool_tr rfl hc156) rfl ?_
          refine WL.nil ?_
          exact Jk45 true _ _ h21_1 h21_4 rfl rfl ((hs.mask [true, true]).pick [2, 6]) hf
        · refine WL.fieldAddr (m := 1) rfl FA44_1 rfl ?_ (hg := (wanted_of rfl rfl (bool_tr rfl hc156)).trans rfl)
          refine WL.loadF (z := x35.Weight) F_api_Member_Weight hs 0 rfl 2 rfl rfl TI3 (.inr rfl) rfl rfl (fun v157 hs => ?_) (hg := (wanted_of rfl rfl (bool_tr rfl hc156)).trans rfl)
          obtain rfl := hs.int 0 rfl
          refine WL.bin (v := .bool (decide (9 < x35.Weight))) rfl rfl (ib_gtr _ _ _) ?_ (hg := (wanted_of rfl rfl (bool_tr rfl hc156)).trans rfl)
          refine WL.pickF (v := .bool (decide (9 < x35.Weight))) (bool_tr rfl hc156) rfl ?_
          refine WL.nil ?_
          exact Jk45 (decide (9 < x35.Weight)) _ _ h21_1 h21_4 rfl rfl ((hs.mask [true, true]).pick [3, 7]) hf
    · refine W.cond_false (bool_tr rfl hc29) ?_
      refine W.exit ?_
      have hr := Option.some.inj hf; subst hr
      have hr := hbbs23 _ rfl; subst hr
      have hf := hfs23
      exact Jk18  _ _  ((hs.mask []).pick []) hf
end Go.Proofs.Ytodebgfppmcjlaa
