import Derived.Test.YtodebgfppmcjlaaFh
import Derived.Test.YtodebgfppmcjlaaFp1
import Derived.Test.YtodebgfppmcjlaaFp2
import Derived.Test.YtodebgfppmcjlaaFp4
import Derived.Test.YtodebgfppmcjlaaFp5
set_option linter.unusedVariables false
set_option linter.unusedSimpArgs false
namespace Go.Proofs.Ytodebgfppmcjlaa
open Go Go.RowKit Go.Proofs.YtodebgfppmcjlaaL
set_option maxRecDepth 100000
set_option maxHeartbeats 4000000
/-! elasticstore/elasticstorelaw04.QuorumValidate: function 3 -/
theorem eslaw04_QuorumValidate.calls {ok : Nat → Prop} {w0 : World} {x1 : api_Rule} {x5 : api_View} {v2 : Value} {v6 : Value} {r : Bool} (hf : eslaw04_QuorumValidate x1 x5 = some r) (i0 : (vl t_api_Rule x1 v2).holds ok w0) (i1 : (vl t_api_View x5 v6).holds ok w0) :
    Calls Try.prog 3 #[v2, v6] w0 fun e w' => ∃ v, e = .returned v ∧ ∃ y : Unit, v = .bool r ∧ St ok (bz w0) w' [] [] := by
  unfold eslaw04_QuorumValidate at hf
  refine calls_of_W (fn := Try.f3) (N := 37) Try.func3 rfl Try.ntmps3 rfl ?_
  have hs : St ok (bz w0) w0 [vl t_api_Rule x1 v2, vl t_api_View x5 v6] [] := St.init (All.cons i0 (All.cons i1 All.nil))
  clear i0 i1
  obtain ⟨cs3, hl4, rfl⟩ := hs.aggv (n := 3) 0 rfl rfl rfl
  obtain ⟨cs7, hl8, rfl⟩ := hs.aggv (n := 4) 1 rfl rfl rfl
  refine W.seqK fun K9 hK9 => ?_
  refine W.region ?_
  refine WL.box (vs := cs3) hs rfl rfl (fun g10 w hs => ?_)
  refine WL.box (vs := cs7) hs rfl rfl (fun g11 w hs => ?_)
  refine WL.assign (v := .bool false) rfl ?_
  refine WL.nil ?_
  refine hK9 _ _ ?_
  refine W.seqK fun K12 hK12 => ?_
  refine W.seqK fun K13 hK13 => ?_
  refine W.region ?_
  refine WL.fieldAddr (m := 0) rfl FA26_0 rfl ?_
  refine WL.loadF (z := x5.Members) F_api_View_Members hs 0 rfl 1 rfl rfl TI24 (.inr rfl) rfl rfl (fun v14 hs => ?_)
  obtain ⟨a15, c16, rfl⟩ := hs.slice 0 rfl
  refine WL.len (v := .slice a15 (x5.Members).length c16) rfl (len_slice UN24) ?_
  refine WL.bin (v := .bool (decide (100 < ((x5.Members).length : Int)))) rfl rfl (ib_gtr _ _ _) ?_
  refine WL.nil ?_
  refine hK13 _ _ ?_
  rcases iteE hf with ⟨hc17, hf⟩ | ⟨hc17, hf⟩
  · refine W.cond_true (bool_tr rfl hc17) ?_
    refine W.seqK fun K18 hK18 => ?_
    refine W.region ?_
    obtain ⟨x19, hxx19, hf⟩ := bindE hf
    refine WL.call (vs := []) hs FN11 trivial (fun ok hA => eslaw04_awake.calls hxx19) ?_
    rintro _ w hs
    refine WL.assign (v := .bool x19) rfl ?_
    refine WL.nil ?_
    refine hK18 _ _ ?_
    refine W.ret ?_
    have hr := Option.some.inj hf; subst hr
    exact ⟨_, resOk_one rfl rfl, (), rfl, (hs.mask []).pick []⟩
  · refine W.cond_false (bool_tr rfl hc17) ?_
    refine W.skip ?_
    refine hK12 _ _ ?_
    refine W.seqK fun K20 hK20 => ?_
    have Jk23 : ∀ (x22 : Bool) (ρ : Env) (w : World), ρ 4 = .bool x22 → St ok (bz w0) w [] [] → eslaw04_QuorumValidate.j1 x22 = some r → K20 ρ w := by
      intro x22 ρ w h21_4 hs hf
      refine hK20 _ _ ?_
      unfold eslaw04_QuorumValidate.j1 at hf
      refine W.ret ?_
      have hr := Option.some.inj hf; subst hr
      exact ⟨_, resOk_one rfl h21_4, (), rfl, (hs.mask []).pick []⟩
    obtain ⟨x24, hxx24, hf⟩ := bindE hf
    obtain ⟨x25, hxx25, hf⟩ := bindE hf
    rcases iteE hf with ⟨hc26, hf⟩ | ⟨hc26, hf⟩
    · obtain ⟨x27, hxx27, hf⟩ := bindE hf
      obtain ⟨x28, hxx28, hf⟩ := bindE hf
      rcases iteE hf with ⟨hc29, hf⟩ | ⟨hc29, hf⟩
      · obtain ⟨x30, hxx30, hf⟩ := bindE hf
        rcases iteE hf with ⟨hc31, hf⟩ | ⟨hc31, hf⟩
        · obtain ⟨x32, hxx32, hf⟩ := bindE hf
          refine W.any (by kernel_rfl) 27 1 [true, true, true, true, true, true, true, true, true, true, true, true, true, true, true, true, true, true, true, true, true, true, true, true, true, true, true, false] rfl rfl (poAt [pv (.agg cs3.toArray), pv (.int .i64 x24), pv (.agg cs3.toArray), pv (.int .i64 x25), pv (.bool (x24 == x25)), pv (.bool (x24 == x25)), pv (.agg cs7.toArray), pv (.int .i64 x27), pv (.agg cs7.toArray), pv (.int .i64 x28), pv (.bool (x27 == x28)), pv (.bool (x27 == x28)), pv (.bool (x27 == x28)), pv (.agg cs3.toArray), pv (.int .i64 x30), pv (.bool (x30 != 0)), pv (.bool (x30 != 0)), pv (undef), pv (undef), pv (undef), pv (undef), pv (undef), pv (.bool true), pv (.bool true), pv (.bool true), pv (.bool x32), pv (.bool x32)]) (Λ := [blk g11 26 cs7, blk g10 23 cs3]) hs (by kernel_rfl) (by kernel_rfl) (by kernel_rfl) ⟨⟨⟨⟨⟨⟨⟨⟨⟨⟨⟨⟨⟨⟨⟨⟨⟨⟨⟨⟨⟨⟨⟨⟨⟨⟨⟨trivial, ?_⟩, ?_⟩, ?_⟩, ?_⟩, ?_⟩, ?_⟩, ?_⟩, ?_⟩, ?_⟩, ?_⟩, ?_⟩, ?_⟩, ?_⟩, ?_⟩, ?_⟩, ?_⟩, ?_⟩, ?_⟩, ?_⟩, ?_⟩, ?_⟩, ?_⟩, ?_⟩, ?_⟩, ?_⟩, ?_⟩, ?_⟩ ?_
          · intro ρ w Γx Λx hs hu hp
            refine WL.loadAll hs (Λx.length + 1) (getApp rfl) TI23 (hu 2 rfl) hl4 ?_
            exact WL.nil ⟨rfl, _, rfl, rfl, hs.cutG 0 0⟩
          · intro ρ w Γx Λx hs hu hp
            have e33 : ρ 10 = .agg cs3.toArray := (hp 0 rfl).1
            refine WL.call (vs := [.agg cs3.toArray]) hs FN12 ⟨e33, trivial⟩ (fun ok hA => quorum_ValidateRule.calls (x1 := x1) hxx24 (hA.get (Γx.length + 1) (getApp rfl))) ?_
            rintro _ w hs
            exact WL.nil ⟨rfl, _, rfl, rfl, hs.cutG 0 0⟩
          · intro ρ w Γx Λx hs hu hp
            refine WL.loadAll hs (Λx.length + 1) (getApp rfl) TI23 (hu 2 rfl) hl4 ?_
            exact WL.nil ⟨rfl, _, rfl, rfl, hs.cutG 0 0⟩
          · intro ρ w Γx Λx hs hu hp
            have e34 : ρ 12 = .agg cs3.toArray := (hp 2 rfl).1
            refine WL.call (vs := [.agg cs3.toArray]) hs FN13 ⟨e34, trivial⟩ (fun ok hA => esref06_ValidateRule.calls (x1 := x1) hxx25 (hA.get (Γx.length + 1) (getApp rfl))) ?_
            rintro _ w hs
            exact WL.nil ⟨rfl, _, rfl, rfl, hs.cutG 0 0⟩
          · intro ρ w Γx Λx hs hu hp
            have e35 : ρ 11 = .int .i64 x24 := (hp 1 rfl).1
            have e36 : ρ 13 = .int .i64 x25 := (hp 3 rfl).1
            refine WL.bin (v := .bool (x24 == x25)) e35 e36 (ib_eql _ _ _) ?_
            exact WL.nil ⟨rfl, _, rfl, rfl, hs.cutG 0 0⟩
          · intro ρ w Γx Λx hs hu hp
            have e37 : ρ 14 = .bool (x24 == x25) := (hp 4 rfl).1
            refine WL.move (v := .bool (x24 == x25)) e37 ?_
            exact WL.nil ⟨rfl, _, rfl, rfl, hs.cutG 0 0⟩
          · intro ρ w Γx Λx hs hu hp
            have e38 : ρ 15 = .bool (x24 == x25) := (hp 5 rfl).1
            refine WL.loadAll hs (Λx.length + 0) (getApp rfl) TI26 (hu 3 rfl) hl8 ?_ (hg := (wanted_of rfl rfl (bool_tr e38 hc26)).trans rfl)
            exact WL.nil ⟨rfl, _, rfl, rfl, hs.cutG 0 0⟩
          · intro ρ w Γx Λx hs hu hp
            have e39 : ρ 16 = .agg cs7.toArray := (hp 6 rfl).1
            have e40 : ρ 15 = .bool (x24 == x25) := (hp 5 rfl).1
            refine WL.call (vs := [.agg cs7.toArray]) hs FN14 ⟨e39, trivial⟩ (fun ok hA => quorum_ValidateView.calls (x1 := x5) hxx27 (hA.get (Γx.length + 2) (getApp rfl))) ?_ (hg := (wanted_of rfl rfl (bool_tr e40 hc26)).trans rfl)
            rintro _ w hs
            exact WL.nil ⟨rfl, _, rfl, rfl, hs.cutG 0 0⟩
          · intro ρ w Γx Λx hs hu hp
            have e41 : ρ 15 = .bool (x24 == x25) := (hp 5 rfl).1
            refine WL.loadAll hs (Λx.length + 0) (getApp rfl) TI26 (hu 3 rfl) hl8 ?_ (hg := (wanted_of rfl rfl (bool_tr e41 hc26)).trans rfl)
            exact WL.nil ⟨rfl, _, rfl, rfl, hs.cutG 0 0⟩
          · intro ρ w Γx Λx hs hu hp
            have e42 : ρ 18 = .agg cs7.toArray := (hp 8 rfl).1
            have e43 : ρ 15 = .bool (x24 == x25) := (hp 5 rfl).1
            refine WL.call (vs := [.agg cs7.toArray]) hs FN15 ⟨e42, trivial⟩ (fun ok hA => esref06_ValidateView.calls (x1 := x5) hxx28 (hA.get (Γx.length + 2) (getApp rfl))) ?_ (hg := (wanted_of rfl rfl (bool_tr e43 hc26)).trans rfl)
            rintro _ w hs
            exact WL.nil ⟨rfl, _, rfl, rfl, hs.cutG 0 0⟩
          · intro ρ w Γx Λx hs hu hp
            have e44 : ρ 17 = .int .i64 x27 := (hp 7 rfl).1
            have e45 : ρ 19 = .int .i64 x28 := (hp 9 rfl).1
            have e46 : ρ 15 = .bool (x24 == x25) := (hp 5 rfl).1
            refine WL.bin (v := .bool (x27 == x28)) e44 e45 (ib_eql _ _ _) ?_ (hg := (wanted_of rfl rfl (bool_tr e46 hc26)).trans rfl)
            exact WL.nil ⟨rfl, _, rfl, rfl, hs.cutG 0 0⟩
          · intro ρ w Γx Λx hs hu hp
            have e47 : ρ 15 = .bool (x24 == x25) := (hp 5 rfl).1
            have e48 : ρ 20 = .bool (x27 == x28) := (hp 10 rfl).1
            refine WL.pickT (v := .bool (x27 == x28)) (bool_tr e47 hc26) e48 ?_
            exact WL.nil ⟨rfl, _, rfl, rfl, hs.cutG 0 0⟩
          · intro ρ w Γx Λx hs hu hp
            have e49 : ρ 21 = .bool (x27 == x28) := (hp 11 rfl).1
            refine WL.move (v := .bool (x27 == x28)) e49 ?_
            exact WL.nil ⟨rfl, _, rfl, rfl, hs.cutG 0 0⟩
          · intro ρ w Γx Λx hs hu hp
            have e50 : ρ 22 = .bool (x27 == x28) := (hp 12 rfl).1
            refine WL.loadAll hs (Λx.length + 1) (getApp rfl) TI23 (hu 2 rfl) hl4 ?_ (hg := (wanted_of rfl rfl (bool_tr e50 hc29)).trans rfl)
            exact WL.nil ⟨rfl, _, rfl, rfl, hs.cutG 0 0⟩
          · intro ρ w Γx Λx hs hu hp
            have e51 : ρ 23 = .agg cs3.toArray := (hp 13 rfl).1
            have e52 : ρ 22 = .bool (x27 == x28) := (hp 12 rfl).1
            refine WL.call (vs := [.agg cs3.toArray]) hs FN13 ⟨e51, trivial⟩ (fun ok hA => esref06_ValidateRule.calls (x1 := x1) hxx30 (hA.get (Γx.length + 1) (getApp rfl))) ?_ (hg := (wanted_of rfl rfl (bool_tr e52 hc29)).trans rfl)
            rintro _ w hs
            exact WL.nil ⟨rfl, _, rfl, rfl, hs.cutG 0 0⟩
          · intro ρ w Γx Λx hs hu hp
            have e53 : ρ 24 = .int .i64 x30 := (hp 14 rfl).1
            have e54 : ρ 22 = .bool (x27 == x28) := (hp 12 rfl).1
            refine WL.bin (v := .bool (x30 != 0)) e53 rfl (ib_neq _ _ _) ?_ (hg := (wanted_of rfl rfl (bool_tr e54 hc29)).trans rfl)
            exact WL.nil ⟨rfl, _, rfl, rfl, hs.cutG 0 0⟩
          · intro ρ w Γx Λx hs hu hp
            have e55 : ρ 25 = .bool (x30 != 0) := (hp 15 rfl).1
            have e56 : ρ 22 = .bool (x27 == x28) := (hp 12 rfl).1
            refine WL.move (v := .bool (x30 != 0)) e55 ?_ (hg := (wanted_of rfl rfl (bool_tr e56 hc29)).trans rfl)
            exact WL.nil ⟨rfl, _, rfl, rfl, hs.cutG 0 0⟩
          · intro ρ w Γx Λx hs hu hp
            have e57 : ρ 26 = .bool (x30 != 0) := (hp 16 rfl).1
            refine WL.pass ((wanted_of rfl rfl (bool_tr e57 hc31)).trans rfl) rfl ?_
            exact WL.nil ⟨rfl, _, rfl, rfl, hs.cutG 0 0⟩
          · intro ρ w Γx Λx hs hu hp
            have e58 : ρ 27 = undef := (hp 17 rfl).1
            have e59 : ρ 26 = .bool (x30 != 0) := (hp 16 rfl).1
            refine WL.pass ((wanted_of rfl rfl (bool_tr e59 hc31)).trans rfl) rfl ?_
            exact WL.nil ⟨rfl, _, rfl, rfl, hs.cutG 0 0⟩
          · intro ρ w Γx Λx hs hu hp
            have e60 : ρ 26 = .bool (x30 != 0) := (hp 16 rfl).1
            refine WL.pass ((wanted_of rfl rfl (bool_tr e60 hc31)).trans rfl) rfl ?_
            exact WL.nil ⟨rfl, _, rfl, rfl, hs.cutG 0 0⟩
          · intro ρ w Γx Λx hs hu hp
            have e61 : ρ 29 = undef := (hp 19 rfl).1
            have e62 : ρ 26 = .bool (x30 != 0) := (hp 16 rfl).1
            refine WL.pass ((wanted_of rfl rfl (bool_tr e62 hc31)).trans rfl) rfl ?_
            exact WL.nil ⟨rfl, _, rfl, rfl, hs.cutG 0 0⟩
          · intro ρ w Γx Λx hs hu hp
            have e63 : ρ 28 = undef := (hp 18 rfl).1
            have e64 : ρ 30 = undef := (hp 20 rfl).1
            have e65 : ρ 26 = .bool (x30 != 0) := (hp 16 rfl).1
            refine WL.pass ((wanted_of rfl rfl (bool_tr e65 hc31)).trans rfl) rfl ?_
            exact WL.nil ⟨rfl, _, rfl, rfl, hs.cutG 0 0⟩
          · intro ρ w Γx Λx hs hu hp
            have e66 : ρ 26 = .bool (x30 != 0) := (hp 16 rfl).1
            have e67 : ρ 31 = undef := (hp 21 rfl).1
            have e68 : ρ 22 = .bool (x27 == x28) := (hp 12 rfl).1
            refine WL.pickT (v := .bool true) (bool_tr e66 hc31) rfl ?_ (hg := (wanted_of rfl rfl (bool_tr e68 hc29)).trans rfl)
            exact WL.nil ⟨rfl, _, rfl, rfl, hs.cutG 0 0⟩
          · intro ρ w Γx Λx hs hu hp
            have e69 : ρ 22 = .bool (x27 == x28) := (hp 12 rfl).1
            have e70 : ρ 32 = .bool true := (hp 22 rfl).1
            refine WL.pickT (v := .bool true) (bool_tr e69 hc29) e70 ?_
            exact WL.nil ⟨rfl, _, rfl, rfl, hs.cutG 0 0⟩
          · intro ρ w Γx Λx hs hu hp
            have e71 : ρ 33 = .bool true := (hp 23 rfl).1
            refine WL.move (v := .bool true) e71 ?_
            exact WL.nil ⟨rfl, _, rfl, rfl, hs.cutG 0 0⟩
          · intro ρ w Γx Λx hs hu hp
            have e72 : ρ 34 = .bool true := (hp 24 rfl).1
            refine WL.call (vs := []) hs FN11 trivial (fun ok hA => eslaw04_awake.calls hxx32) ?_ (hg := (wanted_of rfl rfl e72).trans rfl)
            rintro _ w hs
            exact WL.nil ⟨rfl, _, rfl, rfl, hs.cutG 0 0⟩
          · intro ρ w Γx Λx hs hu hp
            have e73 : ρ 34 = .bool true := (hp 24 rfl).1
            have e74 : ρ 35 = .bool x32 := (hp 25 rfl).1
            refine WL.pickT (v := .bool x32) e73 e74 ?_
            exact WL.nil ⟨rfl, _, rfl, rfl, hs.cutG 0 0⟩
          · intro ρ w hs hu75 hp
            obtain ⟨⟨⟨⟨⟨⟨⟨⟨⟨⟨⟨⟨⟨⟨⟨⟨⟨⟨⟨⟨⟨⟨⟨⟨⟨⟨⟨_, hp0_⟩, hp1_⟩, hp2_⟩, hp3_⟩, hp4_⟩, hp5_⟩, hp6_⟩, hp7_⟩, hp8_⟩, hp9_⟩, hp10_⟩, hp11_⟩, hp12_⟩, hp13_⟩, hp14_⟩, hp15_⟩, hp16_⟩, hp17_⟩, hp18_⟩, hp19_⟩, hp20_⟩, hp21_⟩, hp22_⟩, hp23_⟩, hp24_⟩, hp25_⟩, hp26_⟩ := hp
            have hs : St ok (bz w0) w [vl (tSlice t_api_Member) x5.Members (.slice a15 (x5.Members).length c16), vl t_api_Rule x1 (.agg cs3.toArray), vl t_api_View x5 (.agg cs7.toArray)] [blk g11 26 cs7, blk g10 23 cs3] := hs
            have e76 : ρ 36 = .bool x32 := hp26_
            have e77 : ρ 35 = .bool x32 := hp25_
            have e78 : ρ 34 = .bool true := hp24_
            have e79 : ρ 33 = .bool true := hp23_
            have e80 : ρ 32 = .bool true := hp22_
            have e81 : ρ 31 = undef := hp21_
            have e82 : ρ 30 = undef := hp20_
            have e83 : ρ 29 = undef := hp19_
            have e84 : ρ 28 = undef := hp18_
            have e85 : ρ 27 = undef := hp17_
            have e86 : ρ 26 = .bool (x30 != 0) := hp16_
            have e87 : ρ 25 = .bool (x30 != 0) := hp15_
            have e88 : ρ 24 = .int .i64 x30 := hp14_
            have e89 : ρ 23 = .agg cs3.toArray := hp13_
            have e90 : ρ 22 = .bool (x27 == x28) := hp12_
            have e91 : ρ 21 = .bool (x27 == x28) := hp11_
            have e92 : ρ 20 = .bool (x27 == x28) := hp10_
            have e93 : ρ 19 = .int .i64 x28 := hp9_
            have e94 : ρ 18 = .agg cs7.toArray := hp8_
            have e95 : ρ 17 = .int .i64 x27 := hp7_
            have e96 : ρ 16 = .agg cs7.toArray := hp6_
            have e97 : ρ 15 = .bool (x24 == x25) := hp5_
            have e98 : ρ 14 = .bool (x24 == x25) := hp4_
            have e99 : ρ 13 = .int .i64 x25 := hp3_
            have e100 : ρ 12 = .agg cs3.toArray := hp2_
            have e101 : ρ 11 = .int .i64 x24 := hp1_
            have e102 : ρ 10 = .agg cs3.toArray := hp0_
            refine WA.step [27] (by kernel_rfl) (by simp) ⟨?_, trivial⟩
            refine WL.assign (v := .bool x32) e76 ?_
            refine WL.nil ⟨rfl, _, rfl, ?_⟩
            refine WA.done (by kernel_rfl) ?_
            exact Jk23 x32 _ _ rfl ((hs.mask []).pick []) hf
        · obtain ⟨x103, hxx103, hf⟩ := bindE hf
          rcases iteE hf with ⟨hc105, hf⟩ | ⟨hc105, hf⟩
          · obtain ⟨x106, hxx106, hf⟩ := bindE hf
            refine W.any (by kernel_rfl) 27 1 [true, true, true, true, true, true, true, true, true, true, true, true, true, true, true, true, true, true, true, true, true, true, true, true, true, true, true, false] rfl rfl (poAt [pv (.agg cs3.toArray), pv (.int .i64 x24), pv (.agg cs3.toArray), pv (.int .i64 x25), pv (.bool (x24 == x25)), pv (.bool (x24 == x25)), pv (.agg cs7.toArray), pv (.int .i64 x27), pv (.agg cs7.toArray), pv (.int .i64 x28), pv (.bool (x27 == x28)), pv (.bool (x27 == x28)), pv (.bool (x27 == x28)), pv (.agg cs3.toArray), pv (.int .i64 x30), pv (.bool (x30 != 0)), pv (.bool (x30 != 0)), pv (.agg cs3.toArray), pv (.int .i64 x103), pv (.pointer (some ⟨g10, 2, none⟩)), pv (.int .i64 x1.Faulty), pv (.bool (x103 == x1.Faulty)), pv (.bool (x103 == x1.Faulty)), pv (.bool (x103 == x1.Faulty)), pv (.bool (x103 == x1.Faulty)), pv (.bool x106), pv (.bool x106)]) (Λ := [blk g11 26 cs7, blk g10 23 cs3]) hs (by kernel_rfl) (by kernel_rfl) (by kernel_rfl) ⟨⟨⟨⟨⟨⟨⟨⟨⟨⟨⟨⟨⟨⟨⟨⟨⟨⟨⟨⟨⟨⟨⟨⟨⟨⟨⟨trivial, ?_⟩, ?_⟩, ?_⟩, ?_⟩, ?_⟩, ?_⟩, ?_⟩, ?_⟩, ?_⟩, ?_⟩, ?_⟩, ?_⟩, ?_⟩, ?_⟩, ?_⟩, ?_⟩, ?_⟩, ?_⟩, ?_⟩, ?_⟩, ?_⟩, ?_⟩, ?_⟩, ?_⟩, ?_⟩, ?_⟩, ?_⟩ ?_
            · intro ρ w Γx Λx hs hu hp
              refine WL.loadAll hs (Λx.length + 1) (getApp rfl) TI23 (hu 2 rfl) hl4 ?_
              exact WL.nil ⟨rfl, _, rfl, rfl, hs.cutG 0 0⟩
            · intro ρ w Γx Λx hs hu hp
              have e107 : ρ 10 = .agg cs3.toArray := (hp 0 rfl).1
              refine WL.call (vs := [.agg cs3.toArray]) hs FN12 ⟨e107, trivial⟩ (fun ok hA => quorum_ValidateRule.calls (x1 := x1) hxx24 (hA.get (Γx.length + 1) (getApp rfl))) ?_
              rintro _ w hs
              exact WL.nil ⟨rfl, _, rfl, rfl, hs.cutG 0 0⟩
            · intro ρ w Γx Λx hs hu hp
              refine WL.loadAll hs (Λx.length + 1) (getApp rfl) TI23 (hu 2 rfl) hl4 ?_
              exact WL.nil ⟨rfl, _, rfl, rfl, hs.cutG 0 0⟩
            · intro ρ w Γx Λx hs hu hp
              have e108 : ρ 12 = .agg cs3.toArray := (hp 2 rfl).1
              refine WL.call (vs := [.agg cs3.toArray]) hs FN13 ⟨e108, trivial⟩ (fun ok hA => esref06_ValidateRule.calls (x1 := x1) hxx25 (hA.get (Γx.length + 1) (getApp rfl))) ?_
              rintro _ w hs
              exact WL.nil ⟨rfl, _, rfl, rfl, hs.cutG 0 0⟩
            · intro ρ w Γx Λx hs hu hp
              have e109 : ρ 11 = .int .i64 x24 := (hp 1 rfl).1
              have e110 : ρ 13 = .int .i64 x25 := (hp 3 rfl).1
              refine WL.bin (v := .bool (x24 == x25)) e109 e110 (ib_eql _ _ _) ?_
              exact WL.nil ⟨rfl, _, rfl, rfl, hs.cutG 0 0⟩
            · intro ρ w Γx Λx hs hu hp
              have e111 : ρ 14 = .bool (x24 == x25) := (hp 4 rfl).1
              refine WL.move (v := .bool (x24 == x25)) e111 ?_
              exact WL.nil ⟨rfl, _, rfl, rfl, hs.cutG 0 0⟩
            · intro ρ w Γx Λx hs hu hp
              have e112 : ρ 15 = .bool (x24 == x25) := (hp 5 rfl).1
              refine WL.loadAll hs (Λx.length + 0) (getApp rfl) TI26 (hu 3 rfl) hl8 ?_ (hg := (wanted_of rfl rfl (bool_tr e112 hc26)).trans rfl)
              exact WL.nil ⟨rfl, _, rfl, rfl, hs.cutG 0 0⟩
            · intro ρ w Γx Λx hs hu hp
              have e113 : ρ 16 = .agg cs7.toArray := (hp 6 rfl).1
              have e114 : ρ 15 = .bool (x24 == x25) := (hp 5 rfl).1
              refine WL.call (vs := [.agg cs7.toArray]) hs FN14 ⟨e113, trivial⟩ (fun ok hA => quorum_ValidateView.calls (x1 := x5) hxx27 (hA.get (Γx.length + 2) (getApp rfl))) ?_ (hg := (wanted_of rfl rfl (bool_tr e114 hc26)).trans rfl)
              rintro _ w hs
              exact WL.nil ⟨rfl, _, rfl, rfl, hs.cutG 0 0⟩
            · intro ρ w Γx Λx hs hu hp
              have e115 : ρ 15 = .bool (x24 == x25) := (hp 5 rfl).1
              refine WL.loadAll hs (Λx.length + 0) (getApp rfl) TI26 (hu 3 rfl) hl8 ?_ (hg := (wanted_of rfl rfl (bool_tr e115 hc26)).trans rfl)
              exact WL.nil ⟨rfl, _, rfl, rfl, hs.cutG 0 0⟩
            · intro ρ w Γx Λx hs hu hp
              have e116 : ρ 18 = .agg cs7.toArray := (hp 8 rfl).1
              have e117 : ρ 15 = .bool (x24 == x25) := (hp 5 rfl).1
              refine WL.call (vs := [.agg cs7.toArray]) hs FN15 ⟨e116, trivial⟩ (fun ok hA => esref06_ValidateView.calls (x1 := x5) hxx28 (hA.get (Γx.length + 2) (getApp rfl))) ?_ (hg := (wanted_of rfl rfl (bool_tr e117 hc26)).trans rfl)
              rintro _ w hs
              exact WL.nil ⟨rfl, _, rfl, rfl, hs.cutG 0 0⟩
            · intro ρ w Γx Λx hs hu hp
              have e118 : ρ 17 = .int .i64 x27 := (hp 7 rfl).1
              have e119 : ρ 19 = .int .i64 x28 := (hp 9 rfl).1
              have e120 : ρ 15 = .bool (x24 == x25) := (hp 5 rfl).1
              refine WL.bin (v := .bool (x27 == x28)) e118 e119 (ib_eql _ _ _) ?_ (hg := (wanted_of rfl rfl (bool_tr e120 hc26)).trans rfl)
              exact WL.nil ⟨rfl, _, rfl, rfl, hs.cutG 0 0⟩
            · intro ρ w Γx Λx hs hu hp
              have e121 : ρ 15 = .bool (x24 == x25) := (hp 5 rfl).1
              have e122 : ρ 20 = .bool (x27 == x28) := (hp 10 rfl).1
              refine WL.pickT (v := .bool (x27 == x28)) (bool_tr e121 hc26) e122 ?_
              exact WL.nil ⟨rfl, _, rfl, rfl, hs.cutG 0 0⟩
            · intro ρ w Γx Λx hs hu hp
              have e123 : ρ 21 = .bool (x27 == x28) := (hp 11 rfl).1
              refine WL.move (v := .bool (x27 == x28)) e123 ?_
              exact WL.nil ⟨rfl, _, rfl, rfl, hs.cutG 0 0⟩
            · intro ρ w Γx Λx hs hu hp
              have e124 : ρ 22 = .bool (x27 == x28) := (hp 12 rfl).1
              refine WL.loadAll hs (Λx.length + 1) (getApp rfl) TI23 (hu 2 rfl) hl4 ?_ (hg := (wanted_of rfl rfl (bool_tr e124 hc29)).trans rfl)
              exact WL.nil ⟨rfl, _, rfl, rfl, hs.cutG 0 0⟩
            · intro ρ w Γx Λx hs hu hp
              have e125 : ρ 23 = .agg cs3.toArray := (hp 13 rfl).1
              have e126 : ρ 22 = .bool (x27 == x28) := (hp 12 rfl).1
              refine WL.call (vs := [.agg cs3.toArray]) hs FN13 ⟨e125, trivial⟩ (fun ok hA => esref06_ValidateRule.calls (x1 := x1) hxx30 (hA.get (Γx.length + 1) (getApp rfl))) ?_ (hg := (wanted_of rfl rfl (bool_tr e126 hc29)).trans rfl)
              rintro _ w hs
              exact WL.nil ⟨rfl, _, rfl, rfl, hs.cutG 0 0⟩
            · intro ρ w Γx Λx hs hu hp
              have e127 : ρ 24 = .int .i64 x30 := (hp 14 rfl).1
              have e128 : ρ 22 = .bool (x27 == x28) := (hp 12 rfl).1
              refine WL.bin (v := .bool (x30 != 0)) e127 rfl (ib_neq _ _ _) ?_ (hg := (wanted_of rfl rfl (bool_tr e128 hc29)).trans rfl)
              exact WL.nil ⟨rfl, _, rfl, rfl, hs.cutG 0 0⟩
            · intro ρ w Γx Λx hs hu hp
              have e129 : ρ 25 = .bool (x30 != 0) := (hp 15 rfl).1
              have e130 : ρ 22 = .bool (x27 == x28) := (hp 12 rfl).1
              refine WL.move (v := .bool (x30 != 0)) e129 ?_ (hg := (wanted_of rfl rfl (bool_tr e130 hc29)).trans rfl)
              exact WL.nil ⟨rfl, _, rfl, rfl, hs.cutG 0 0⟩
            · intro ρ w Γx Λx hs hu hp
              have e131 : ρ 26 = .bool (x30 != 0) := (hp 16 rfl).1
              refine WL.loadAll hs (Λx.length + 1) (getApp rfl) TI23 (hu 2 rfl) hl4 ?_ (hg := (wanted_of rfl rfl (bool_tr e131 hc31)).trans rfl)
              exact WL.nil ⟨rfl, _, rfl, rfl, hs.cutG 0 0⟩
            · intro ρ w Γx Λx hs hu hp
              have e132 : ρ 27 = .agg cs3.toArray := (hp 17 rfl).1
              have e133 : ρ 26 = .bool (x30 != 0) := (hp 16 rfl).1
              refine WL.call (vs := [.agg cs3.toArray]) hs FN16 ⟨e132, trivial⟩ (fun ok hA => quorum_Faulty.calls (x1 := x1) hxx103 (hA.get (Γx.length + 1) (getApp rfl))) ?_ (hg := (wanted_of rfl rfl (bool_tr e133 hc31)).trans rfl)
              rintro _ w hs
              exact WL.nil ⟨rfl, _, rfl, rfl, hs.cutG 0 0⟩
            · intro ρ w Γx Λx hs hu hp
              have e134 : ρ 26 = .bool (x30 != 0) := (hp 16 rfl).1
              refine WL.fieldAddr (m := 2) (hu 2 rfl) FA23_2 rfl ?_ (hg := (wanted_of rfl rfl (bool_tr e134 hc31)).trans rfl)
              exact WL.nil ⟨rfl, _, rfl, rfl, hs.cutG 0 0⟩
            · intro ρ w Γx Λx hs hu hp
              have e135 : ρ 29 = .pointer (some ⟨g10, 2, none⟩) := (hp 19 rfl).1
              have e136 : ρ 26 = .bool (x30 != 0) := (hp 16 rfl).1
              refine WL.loadF (z := x1.Faulty) F_api_Rule_Faulty hs (Λx.length + 1) (getApp rfl) (Γx.length + 1) (getApp rfl) rfl TI3 (.inr rfl) e135 rfl (fun v104 hs => ?_) (hg := (wanted_of rfl rfl (bool_tr e136 hc31)).trans rfl)
              obtain rfl := hs.int 0 rfl
              exact WL.nil ⟨rfl, _, rfl, rfl, hs.cutG 0 1⟩
            · intro ρ w Γx Λx hs hu hp
              have e137 : ρ 28 = .int .i64 x103 := (hp 18 rfl).1
              have e138 : ρ 30 = .int .i64 x1.Faulty := (hp 20 rfl).1
              have e139 : ρ 26 = .bool (x30 != 0) := (hp 16 rfl).1
              refine WL.bin (v := .bool (x103 == x1.Faulty)) e137 e138 (ib_eql _ _ _) ?_ (hg := (wanted_of rfl rfl (bool_tr e139 hc31)).trans rfl)
              exact WL.nil ⟨rfl, _, rfl, rfl, hs.cutG 0 0⟩
            · intro ρ w Γx Λx hs hu hp
              have e140 : ρ 26 = .bool (x30 != 0) := (hp 16 rfl).1
              have e141 : ρ 31 = .bool (x103 == x1.Faulty) := (hp 21 rfl).1
              have e142 : ρ 22 = .bool (x27 == x28) := (hp 12 rfl).1
              refine WL.pickF (v := .bool (x103 == x1.Faulty)) (bool_tr e140 hc31) e141 ?_ (hg := (wanted_of rfl rfl (bool_tr e142 hc29)).trans rfl)
              exact WL.nil ⟨rfl, _, rfl, rfl, hs.cutG 0 0⟩
            · intro ρ w Γx Λx hs hu hp
              have e143 : ρ 22 = .bool (x27 == x28) := (hp 12 rfl).1
              have e144 : ρ 32 = .bool (x103 == x1.Faulty) := (hp 22 rfl).1
              refine WL.pickT (v := .bool (x103 == x1.Faulty)) (bool_tr e143 hc29) e144 ?_
              exact WL.nil ⟨rfl, _, rfl, rfl, hs.cutG 0 0⟩
            · intro ρ w Γx Λx hs hu hp
              have e145 : ρ 33 = .bool (x103 == x1.Faulty) := (hp 23 rfl).1
              refine WL.move (v := .bool (x103 == x1.Faulty)) e145 ?_
              exact WL.nil ⟨rfl, _, rfl, rfl, hs.cutG 0 0⟩
            · intro ρ w Γx Λx hs hu hp
              have e146 : ρ 34 = .bool (x103 == x1.Faulty) := (hp 24 rfl).1
              refine WL.call (vs := []) hs FN11 trivial (fun ok hA => eslaw04_awake.calls hxx106) ?_ (hg := (wanted_of rfl rfl (bool_tr e146 hc105)).trans rfl)
              rintro _ w hs
              exact WL.nil ⟨rfl, _, rfl, rfl, hs.cutG 0 0⟩
            · intro ρ w Γx Λx hs hu hp
              have e147 : ρ 34 = .bool (x103 == x1.Faulty) := (hp 24 rfl).1
              have e148 : ρ 35 = .bool x106 := (hp 25 rfl).1
              refine WL.pickT (v := .bool x106) (bool_tr e147 hc105) e148 ?_
              exact WL.nil ⟨rfl, _, rfl, rfl, hs.cutG 0 0⟩
            · intro ρ w hs hu149 hp
              obtain ⟨⟨⟨⟨⟨⟨⟨⟨⟨⟨⟨⟨⟨⟨⟨⟨⟨⟨⟨⟨⟨⟨⟨⟨⟨⟨⟨_, hp0_⟩, hp1_⟩, hp2_⟩, hp3_⟩, hp4_⟩, hp5_⟩, hp6_⟩, hp7_⟩, hp8_⟩, hp9_⟩, hp10_⟩, hp11_⟩, hp12_⟩, hp13_⟩, hp14_⟩, hp15_⟩, hp16_⟩, hp17_⟩, hp18_⟩, hp19_⟩, hp20_⟩, hp21_⟩, hp22_⟩, hp23_⟩, hp24_⟩, hp25_⟩, hp26_⟩ := hp
              have hs : St ok (bz w0) w [vl (tSlice t_api_Member) x5.Members (.slice a15 (x5.Members).length c16), vl t_api_Rule x1 (.agg cs3.toArray), vl t_api_View x5 (.agg cs7.toArray)] [blk g11 26 cs7, blk g10 23 cs3] := hs
              have e150 : ρ 36 = .bool x106 := hp26_
              have e151 : ρ 35 = .bool x106 := hp25_
              have e152 : ρ 34 = .bool (x103 == x1.Faulty) := hp24_
              have e153 : ρ 33 = .bool (x103 == x1.Faulty) := hp23_
              have e154 : ρ 32 = .bool (x103 == x1.Faulty) := hp22_
              have e155 : ρ 31 = .bool (x103 == x1.Faulty) := hp21_
              have e156 : ρ 30 = .int .i64 x1.Faulty := hp20_
              have e157 : ρ 29 = .pointer (some ⟨g10, 2, none⟩) := hp19_
              have e158 : ρ 28 = .int .i64 x103 := hp18_
              have e159 : ρ 27 = .agg cs3.toArray := hp17_
              have e160 : ρ 26 = .bool (x30 != 0) := hp16_
              have e161 : ρ 25 = .bool (x30 != 0) := hp15_
              have e162 : ρ 24 = .int .i64 x30 := hp14_
              have e163 : ρ 23 = .agg cs3.toArray := hp13_
              have e164 : ρ 22 = .bool (x27 == x28) := hp12_
              have e165 : ρ 21 = .bool (x27 == x28) := hp11_
              have e166 : ρ 20 = .bool (x27 == x28) := hp10_
              have e167 : ρ 19 = .int .i64 x28 := hp9_
              have e168 : ρ 18 = .agg cs7.toArray := hp8_
              have e169 : ρ 17 = .int .i64 x27 := hp7_
              have e170 : ρ 16 = .agg cs7.toArray := hp6_
              have e171 : ρ 15 = .bool (x24 == x25) := hp5_
              have e172 : ρ 14 = .bool (x24 == x25) := hp4_
              have e173 : ρ 13 = .int .i64 x25 := hp3_
              have e174 : ρ 12 = .agg cs3.toArray := hp2_
              have e175 : ρ 11 = .int .i64 x24 := hp1_
              have e176 : ρ 10 = .agg cs3.toArray := hp0_
              refine WA.step [27] (by kernel_rfl) (by simp) ⟨?_, trivial⟩
              refine WL.assign (v := .bool x106) e150 ?_
              refine WL.nil ⟨rfl, _, rfl, ?_⟩
              refine WA.done (by kernel_rfl) ?_
              exact Jk23 x106 _ _ rfl ((hs.mask []).pick []) hf
          · refine W.any (by kernel_rfl) 27 1 [true, true, true, true, true, true, true, true, true, true, true, true, true, true, true, true, true, true, true, true, true, true, true, true, true, true, true, false] rfl rfl (poAt [pv (.agg cs3.toArray), pv (.int .i64 x24), pv (.agg cs3.toArray), pv (.int .i64 x25), pv (.bool (x24 == x25)), pv (.bool (x24 == x25)), pv (.agg cs7.toArray), pv (.int .i64 x27), pv (.agg cs7.toArray), pv (.int .i64 x28), pv (.bool (x27 == x28)), pv (.bool (x27 == x28)), pv (.bool (x27 == x28)), pv (.agg cs3.toArray), pv (.int .i64 x30), pv (.bool (x30 != 0)), pv (.bool (x30 != 0)), pv (.agg cs3.toArray), pv (.int .i64 x103), pv (.pointer (some ⟨g10, 2, none⟩)), pv (.int .i64 x1.Faulty), pv (.bool (x103 == x1.Faulty)), pv (.bool (x103 == x1.Faulty)), pv (.bool (x103 == x1.Faulty)), pv (.bool (x103 == x1.Faulty)), pv (undef), pv (.bool false)]) (Λ := [blk g11 26 cs7, blk g10 23 cs3]) hs (by kernel_rfl) (by kernel_rfl) (by kernel_rfl) ⟨⟨⟨⟨⟨⟨⟨⟨⟨⟨⟨⟨⟨⟨⟨⟨⟨⟨⟨⟨⟨⟨⟨⟨⟨⟨⟨trivial, ?_⟩, ?_⟩, ?_⟩, ?_⟩, ?_⟩, ?_⟩, ?_⟩, ?_⟩, ?_⟩, ?_⟩, ?_⟩, ?_⟩, ?_⟩, ?_⟩, ?_⟩, ?_⟩, ?_⟩, ?_⟩, ?_⟩, ?_⟩, ?_⟩, ?_⟩, ?_⟩, ?_⟩, ?_⟩, ?_⟩, ?_⟩ ?_
            · intro ρ w Γx Λx hs hu hp
              refine WL.loadAll hs (Λx.length + 1) (getApp rfl) TI23 (hu 2 rfl) hl4 ?_
              exact WL.nil ⟨rfl, _, rfl, rfl, hs.cutG 0 0⟩
            · intro ρ w Γx Λx hs hu hp
              have e177 : ρ 10 = .agg cs3.toArray := (hp 0 rfl).1
              refine WL.call (vs := [.agg cs3.toArray]) hs FN12 ⟨e177, trivial⟩ (fun ok hA => quorum_ValidateRule.calls (x1 := x1) hxx24 (hA.get (Γx.length + 1) (getApp rfl))) ?_
              rintro _ w hs
              exact WL.nil ⟨rfl, _, rfl, rfl, hs.cutG 0 0⟩
            · intro ρ w Γx Λx hs hu hp
              refine WL.loadAll hs (Λx.length + 1) (getApp rfl) TI23 (hu 2 rfl) hl4 ?_
              exact WL.nil ⟨rfl, _, rfl, rfl, hs.cutG 0 0⟩
            · intro ρ w Γx Λx hs hu hp
              have e178 : ρ 12 = .agg cs3.toArray := (hp 2 rfl).1
              refine WL.call (vs := [.agg cs3.toArray]) hs FN13 ⟨e178, trivial⟩ (fun ok hA => esref06_ValidateRule.calls (x1 := x1) hxx25 (hA.get (Γx.length + 1) (getApp rfl))) ?_
              rintro _ w hs
              exact WL.nil ⟨rfl, _, rfl, rfl, hs.cutG 0 0⟩
            · intro ρ w Γx Λx hs hu hp
              have e179 : ρ 11 = .int .i64 x24 := (hp 1 rfl).1
              have e180 : ρ 13 = .int .i64 x25 := (hp 3 rfl).1
              refine WL.bin (v := .bool (x24 == x25)) e179 e180 (ib_eql _ _ _) ?_
              exact WL.nil ⟨rfl, _, rfl, rfl, hs.cutG 0 0⟩
            · intro ρ w Γx Λx hs hu hp
              have e181 : ρ 14 = .bool (x24 == x25) := (hp 4 rfl).1
              refine WL.move (v := .bool (x24 == x25)) e181 ?_
              exact WL.nil ⟨rfl, _, rfl, rfl, hs.cutG 0 0⟩
            · intro ρ w Γx Λx hs hu hp
              have e182 : ρ 15 = .bool (x24 == x25) := (hp 5 rfl).1
              refine WL.loadAll hs (Λx.length + 0) (getApp rfl) TI26 (hu 3 rfl) hl8 ?_ (hg := (wanted_of rfl rfl (bool_tr e182 hc26)).trans rfl)
              exact WL.nil ⟨rfl, _, rfl, rfl, hs.cutG 0 0⟩
            · intro ρ w Γx Λx hs hu hp
              have e183 : ρ 16 = .agg cs7.toArray := (hp 6 rfl).1
              have e184 : ρ 15 = .bool (x24 == x25) := (hp 5 rfl).1
              refine WL.call (vs := [.agg cs7.toArray]) hs FN14 ⟨e183, trivial⟩ (fun ok hA => quorum_ValidateView.calls (x1 := x5) hxx27 (hA.get (Γx.length + 2) (getApp rfl))) ?_ (hg := (wanted_of rfl rfl (bool_tr e184 hc26)).trans rfl)
              rintro _ w hs
              exact WL.nil ⟨rfl, _, rfl, rfl, hs.cutG 0 0⟩
            · intro ρ w Γx Λx hs hu hp
              have e185 : ρ 15 = .bool (x24 == x25) := (hp 5 rfl).1
              refine WL.loadAll hs (Λx.length + 0) (getApp rfl) TI26 (hu 3 rfl) hl8 ?_ (hg := (wanted_of rfl rfl (bool_tr e185 hc26)).trans rfl)
              exact WL.nil ⟨rfl, _, rfl, rfl, hs.cutG 0 0⟩
            · intro ρ w Γx Λx hs hu hp
              have e186 : ρ 18 = .agg cs7.toArray := (hp 8 rfl).1
              have e187 : ρ 15 = .bool (x24 == x25) := (hp 5 rfl).1
              refine WL.call (vs := [.agg cs7.toArray]) hs FN15 ⟨e186, trivial⟩ (fun ok hA => esref06_ValidateView.calls (x1 := x5) hxx28 (hA.get (Γx.length + 2) (getApp rfl))) ?_ (hg := (wanted_of rfl rfl (bool_tr e187 hc26)).trans rfl)
              rintro _ w hs
              exact WL.nil ⟨rfl, _, rfl, rfl, hs.cutG 0 0⟩
            · intro ρ w Γx Λx hs hu hp
              have e188 : ρ 17 = .int .i64 x27 := (hp 7 rfl).1
              have e189 : ρ 19 = .int .i64 x28 := (hp 9 rfl).1
              have e190 : ρ 15 = .bool (x24 == x25) := (hp 5 rfl).1
              refine WL.bin (v := .bool (x27 == x28)) e188 e189 (ib_eql _ _ _) ?_ (hg := (wanted_of rfl rfl (bool_tr e190 hc26)).trans rfl)
              exact WL.nil ⟨rfl, _, rfl, rfl, hs.cutG 0 0⟩
            · intro ρ w Γx Λx hs hu hp
              have e191 : ρ 15 = .bool (x24 == x25) := (hp 5 rfl).1
              have e192 : ρ 20 = .bool (x27 == x28) := (hp 10 rfl).1
              refine WL.pickT (v := .bool (x27 == x28)) (bool_tr e191 hc26) e192 ?_
              exact WL.nil ⟨rfl, _, rfl, rfl, hs.cutG 0 0⟩
            · intro ρ w Γx Λx hs hu hp
              have e193 : ρ 21 = .bool (x27 == x28) := (hp 11 rfl).1
              refine WL.move (v := .bool (x27 == x28)) e193 ?_
              exact WL.nil ⟨rfl, _, rfl, rfl, hs.cutG 0 0⟩
            · intro ρ w Γx Λx hs hu hp
              have e194 : ρ 22 = .bool (x27 == x28) := (hp 12 rfl).1
              refine WL.loadAll hs (Λx.length + 1) (getApp rfl) TI23 (hu 2 rfl) hl4 ?_ (hg := (wanted_of rfl rfl (bool_tr e194 hc29)).trans rfl)
              exact WL.nil ⟨rfl, _, rfl, rfl, hs.cutG 0 0⟩
            · intro ρ w Γx Λx hs hu hp
              have e195 : ρ 23 = .agg cs3.toArray := (hp 13 rfl).1
              have e196 : ρ 22 = .bool (x27 == x28) := (hp 12 rfl).1
              refine WL.call (vs := [.agg cs3.toArray]) hs FN13 ⟨e195, trivial⟩ (fun ok hA => esref06_ValidateRule.calls (x1 := x1) hxx30 (hA.get (Γx.length + 1) (getApp rfl))) ?_ (hg := (wanted_of rfl rfl (bool_tr e196 hc29)).trans rfl)
              rintro _ w hs
              exact WL.nil ⟨rfl, _, rfl, rfl, hs.cutG 0 0⟩
            · intro ρ w Γx Λx hs hu hp
              have e197 : ρ 24 = .int .i64 x30 := (hp 14 rfl).1
              have e198 : ρ 22 = .bool (x27 == x28) := (hp 12 rfl).1
              refine WL.bin (v := .bool (x30 != 0)) e197 rfl (ib_neq _ _ _) ?_ (hg := (wanted_of rfl rfl (bool_tr e198 hc29)).trans rfl)
              exact WL.nil ⟨rfl, _, rfl, rfl, hs.cutG 0 0⟩
            · intro ρ w Γx Λx hs hu hp
              have e199 : ρ 25 = .bool (x30 != 0) := (hp 15 rfl).1
              have e200 : ρ 22 = .bool (x27 == x28) := (hp 12 rfl).1
              refine WL.move (v := .bool (x30 != 0)) e199 ?_ (hg := (wanted_of rfl rfl (bool_tr e200 hc29)).trans rfl)
              exact WL.nil ⟨rfl, _, rfl, rfl, hs.cutG 0 0⟩
            · intro ρ w Γx Λx hs hu hp
              have e201 : ρ 26 = .bool (x30 != 0) := (hp 16 rfl).1
              refine WL.loadAll hs (Λx.length + 1) (getApp rfl) TI23 (hu 2 rfl) hl4 ?_ (hg := (wanted_of rfl rfl (bool_tr e201 hc31)).trans rfl)
              exact WL.nil ⟨rfl, _, rfl, rfl, hs.cutG 0 0⟩
            · intro ρ w Γx Λx hs hu hp
              have e202 : ρ 27 = .agg cs3.toArray := (hp 17 rfl).1
              have e203 : ρ 26 = .bool (x30 != 0) := (hp 16 rfl).1
              refine WL.call (vs := [.agg cs3.toArray]) hs FN16 ⟨e202, trivial⟩ (fun ok hA => quorum_Faulty.calls (x1 := x1) hxx103 (hA.get (Γx.length + 1) (getApp rfl))) ?_ (hg := (wanted_of rfl rfl (bool_tr e203 hc31)).trans rfl)
              rintro _ w hs
              exact WL.nil ⟨rfl, _, rfl, rfl, hs.cutG 0 0⟩
            · intro ρ w Γx Λx hs hu hp
              have e204 : ρ 26 = .bool (x30 != 0) := (hp 16 rfl).1
              refine WL.fieldAddr (m := 2) (hu 2 rfl) FA23_2 rfl ?_ (hg := (wanted_of rfl rfl (bool_tr e204 hc31)).trans rfl)
              exact WL.nil ⟨rfl, _, rfl, rfl, hs.cutG 0 0⟩
            · intro ρ w Γx Λx hs hu hp
              have e205 : ρ 29 = .pointer (some ⟨g10, 2, none⟩) := (hp 19 rfl).1
              have e206 : ρ 26 = .bool (x30 != 0) := (hp 16 rfl).1
              refine WL.loadF (z := x1.Faulty) F_api_Rule_Faulty hs (Λx.length + 1) (getApp rfl) (Γx.length + 1) (getApp rfl) rfl TI3 (.inr rfl) e205 rfl (fun v104 hs => ?_) (hg := (wanted_of rfl rfl (bool_tr e206 hc31)).trans rfl)
              obtain rfl := hs.int 0 rfl
              exact WL.nil ⟨rfl, _, rfl, rfl, hs.cutG 0 1⟩
            · intro ρ w Γx Λx hs hu hp
              have e207 : ρ 28 = .int .i64 x103 := (hp 18 rfl).1
              have e208 : ρ 30 = .int .i64 x1.Faulty := (hp 20 rfl).1
              have e209 : ρ 26 = .bool (x30 != 0) := (hp 16 rfl).1
              refine WL.bin (v := .bool (x103 == x1.Faulty)) e207 e208 (ib_eql _ _ _) ?_ (hg := (wanted_of rfl rfl (bool_tr e209 hc31)).trans rfl)
              exact WL.nil ⟨rfl, _, rfl, rfl, hs.cutG 0 0⟩
            · intro ρ w Γx Λx hs hu hp
              have e210 : ρ 26 = .bool (x30 != 0) := (hp 16 rfl).1
              have e211 : ρ 31 = .bool (x103 == x1.Faulty) := (hp 21 rfl).1
              have e212 : ρ 22 = .bool (x27 == x28) := (hp 12 rfl).1
              refine WL.pickF (v := .bool (x103 == x1.Faulty)) (bool_tr e210 hc31) e211 ?_ (hg := (wanted_of rfl rfl (bool_tr e212 hc29)).trans rfl)
              exact WL.nil ⟨rfl, _, rfl, rfl, hs.cutG 0 0⟩
            · intro ρ w Γx Λx hs hu hp
              have e213 : ρ 22 = .bool (x27 == x28) := (hp 12 rfl).1
              have e214 : ρ 32 = .bool (x103 == x1.Faulty) := (hp 22 rfl).1
              refine WL.pickT (v := .bool (x103 == x1.Faulty)) (bool_tr e213 hc29) e214 ?_
              exact WL.nil ⟨rfl, _, rfl, rfl, hs.cutG 0 0⟩
            · intro ρ w Γx Λx hs hu hp
              have e215 : ρ 33 = .bool (x103 == x1.Faulty) := (hp 23 rfl).1
              refine WL.move (v := .bool (x103 == x1.Faulty)) e215 ?_
              exact WL.nil ⟨rfl, _, rfl, rfl, hs.cutG 0 0⟩
            · intro ρ w Γx Λx hs hu hp
              have e216 : ρ 34 = .bool (x103 == x1.Faulty) := (hp 24 rfl).1
              refine WL.pass ((wanted_of rfl rfl (bool_tr e216 hc105)).trans rfl) rfl ?_
              exact WL.nil ⟨rfl, _, rfl, rfl, hs.cutG 0 0⟩
            · intro ρ w Γx Λx hs hu hp
              have e217 : ρ 34 = .bool (x103 == x1.Faulty) := (hp 24 rfl).1
              have e218 : ρ 35 = undef := (hp 25 rfl).1
              refine WL.pickF (v := .bool false) (bool_tr e217 hc105) rfl ?_
              exact WL.nil ⟨rfl, _, rfl, rfl, hs.cutG 0 0⟩
            · intro ρ w hs hu219 hp
              obtain ⟨⟨⟨⟨⟨⟨⟨⟨⟨⟨⟨⟨⟨⟨⟨⟨⟨⟨⟨⟨⟨⟨⟨⟨⟨⟨⟨_, hp0_⟩, hp1_⟩, hp2_⟩, hp3_⟩, hp4_⟩, hp5_⟩, hp6_⟩, hp7_⟩, hp8_⟩, hp9_⟩, hp10_⟩, hp11_⟩, hp12_⟩, hp13_⟩, hp14_⟩, hp15_⟩, hp16_⟩, hp17_⟩, hp18_⟩, hp19_⟩, hp20_⟩, hp21_⟩, hp22_⟩, hp23_⟩, hp24_⟩, hp25_⟩, hp26_⟩ := hp
              have hs : St ok (bz w0) w [vl (tSlice t_api_Member) x5.Members (.slice a15 (x5.Members).length c16), vl t_api_Rule x1 (.agg cs3.toArray), vl t_api_View x5 (.agg cs7.toArray)] [blk g11 26 cs7, blk g10 23 cs3] := hs
              have e220 : ρ 36 = .bool false := hp26_
              have e221 : ρ 35 = undef := hp25_
              have e222 : ρ 34 = .bool (x103 == x1.Faulty) := hp24_
              have e223 : ρ 33 = .bool (x103 == x1.Faulty) := hp23_
              have e224 : ρ 32 = .bool (x103 == x1.Faulty) := hp22_
              have e225 : ρ 31 = .bool (x103 == x1.Faulty) := hp21_
              have e226 : ρ 30 = .int .i64 x1.Faulty := hp20_
              have e227 : ρ 29 = .pointer (some ⟨g10, 2, none⟩) := hp19_
              have e228 : ρ 28 = .int .i64 x103 := hp18_
              have e229 : ρ 27 = .agg cs3.toArray := hp17_
              have e230 : ρ 26 = .bool (x30 != 0) := hp16_
              have e231 : ρ 25 = .bool (x30 != 0) := hp15_
              have e232 : ρ 24 = .int .i64 x30 := hp14_
              have e233 : ρ 23 = .agg cs3.toArray := hp13_
              have e234 : ρ 22 = .bool (x27 == x28) := hp12_
              have e235 : ρ 21 = .bool (x27 == x28) := hp11_
              have e236 : ρ 20 = .bool (x27 == x28) := hp10_
              have e237 : ρ 19 = .int .i64 x28 := hp9_
              have e238 : ρ 18 = .agg cs7.toArray := hp8_
              have e239 : ρ 17 = .int .i64 x27 := hp7_
              have e240 : ρ 16 = .agg cs7.toArray := hp6_
              have e241 : ρ 15 = .bool (x24 == x25) := hp5_
              have e242 : ρ 14 = .bool (x24 == x25) := hp4_
              have e243 : ρ 13 = .int .i64 x25 := hp3_
              have e244 : ρ 12 = .agg cs3.toArray := hp2_
              have e245 : ρ 11 = .int .i64 x24 := hp1_
              have e246 : ρ 10 = .agg cs3.toArray := hp0_
              refine WA.step [27] (by kernel_rfl) (by simp) ⟨?_, trivial⟩
              refine WL.assign (v := .bool false) e220 ?_
              refine WL.nil ⟨rfl, _, rfl, ?_⟩
              refine WA.done (by kernel_rfl) ?_
              exact Jk23 false _ _ rfl ((hs.mask []).pick []) hf
      · refine W.any (by kernel_rfl) 27 1 [true, true, true, true, true, true, true, true, true, true, true, true, true, true, true, true, true, true, true, true, true, true, true, true, true, true, true, false] rfl rfl (poAt [pv (.agg cs3.toArray), pv (.int .i64 x24), pv (.agg cs3.toArray), pv (.int .i64 x25), pv (.bool (x24 == x25)), pv (.bool (x24 == x25)), pv (.agg cs7.toArray), pv (.int .i64 x27), pv (.agg cs7.toArray), pv (.int .i64 x28), pv (.bool (x27 == x28)), pv (.bool (x27 == x28)), pv (.bool (x27 == x28)), pv (undef), pv (undef), pv (undef), pv (undef), pv (undef), pv (undef), pv (undef), pv (undef), pv (undef), pv (undef), pv (.bool false), pv (.bool false), pv (undef), pv (.bool false)]) (Λ := [blk g11 26 cs7, blk g10 23 cs3]) hs (by kernel_rfl) (by kernel_rfl) (by kernel_rfl) ⟨⟨⟨⟨⟨⟨⟨⟨⟨⟨⟨⟨⟨⟨⟨⟨⟨⟨⟨⟨⟨⟨⟨⟨⟨⟨⟨trivial, ?_⟩, ?_⟩, ?_⟩, ?_⟩, ?_⟩, ?_⟩, ?_⟩, ?_⟩, ?_⟩, ?_⟩, ?_⟩, ?_⟩, ?_⟩, ?_⟩, ?_⟩, ?_⟩, ?_⟩, ?_⟩, ?_⟩, ?_⟩, ?_⟩, ?_⟩, ?_⟩, ?_⟩, ?_⟩, ?_⟩, ?_⟩ ?_
        · intro ρ w Γx Λx hs hu hp
          refine WL.loadAll hs (Λx.length + 1) (getApp rfl) TI23 (hu 2 rfl) hl4 ?_
          exact WL.nil ⟨rfl, _, rfl, rfl, hs.cutG 0 0⟩
        · intro ρ w Γx Λx hs hu hp
          have e247 : ρ 10 = .agg cs3.toArray := (hp 0 rfl).1
          refine WL.call (vs := [.agg cs3.toArray]) hs FN12 ⟨e247, trivial⟩ (fun ok hA => quorum_ValidateRule.calls (x1 := x1) hxx24 (hA.get (Γx.length + 1) (getApp rfl))) ?_
          rintro _ w hs
          exact WL.nil ⟨rfl, _, rfl, rfl, hs.cutG 0 0⟩
        · intro ρ w Γx Λx hs hu hp
          refine WL.loadAll hs (Λx.length + 1) (getApp rfl) TI23 (hu 2 rfl) hl4 ?_
          exact WL.nil ⟨rfl, _, rfl, rfl, hs.cutG 0 0⟩
        · intro ρ w Γx Λx hs hu hp
          have e248 : ρ 12 = .agg cs3.toArray := (hp 2 rfl).1
          refine WL.call (vs := [.agg cs3.toArray]) hs FN13 ⟨e248, trivial⟩ (fun ok hA => esref06_ValidateRule.calls (x1 := x1) hxx25 (hA.get (Γx.length + 1) (getApp rfl))) ?_
          rintro _ w hs
          exact WL.nil ⟨rfl, _, rfl, rfl, hs.cutG 0 0⟩
        · intro ρ w Γx Λx hs hu hp
          have e249 : ρ 11 = .int .i64 x24 := (hp 1 rfl).1
          have e250 : ρ 13 = .int .i64 x25 := (hp 3 rfl).1
          refine WL.bin (v := .bool (x24 == x25)) e249 e250 (ib_eql _ _ _) ?_
          exact WL.nil ⟨rfl, _, rfl, rfl, hs.cutG 0 0⟩
        · intro ρ w Γx Λx hs hu hp
          have e251 : ρ 14 = .bool (x24 == x25) := (hp 4 rfl).1
          refine WL.move (v := .bool (x24 == x25)) e251 ?_
          exact WL.nil ⟨rfl, _, rfl, rfl, hs.cutG 0 0⟩
        · intro ρ w Γx Λx hs hu hp
          have e252 : ρ 15 = .bool (x24 == x25) := (hp 5 rfl).1
          refine WL.loadAll hs (Λx.length + 0) (getApp rfl) TI26 (hu 3 rfl) hl8 ?_ (hg := (wanted_of rfl rfl (bool_tr e252 hc26)).trans rfl)
          exact WL.nil ⟨rfl, _, rfl, rfl, hs.cutG 0 0⟩
        · intro ρ w Γx Λx hs hu hp
          have e253 : ρ 16 = .agg cs7.toArray := (hp 6 rfl).1
          have e254 : ρ 15 = .bool (x24 == x25) := (hp 5 rfl).1
          refine WL.call (vs := [.agg cs7.toArray]) hs FN14 ⟨e253, trivial⟩ (fun ok hA => quorum_ValidateView.calls (x1 := x5) hxx27 (hA.get (Γx.length + 2) (getApp rfl))) ?_ (hg := (wanted_of rfl rfl (bool_tr e254 hc26)).trans rfl)
          rintro _ w hs
          exact WL.nil ⟨rfl, _, rfl, rfl, hs.cutG 0 0⟩
        · intro ρ w Γx Λx hs hu hp
          have e255 : ρ 15 = .bool (x24 == x25) := (hp 5 rfl).1
          refine WL.loadAll hs (Λx.length + 0) (getApp rfl) TI26 (hu 3 rfl) hl8 ?_ (hg := (wanted_of rfl rfl (bool_tr e255 hc26)).trans rfl)
          exact WL.nil ⟨rfl, _, rfl, rfl, hs.cutG 0 0⟩
        · intro ρ w Γx Λx hs hu hp
          have e256 : ρ 18 = .agg cs7.toArray := (hp 8 rfl).1
          have e257 : ρ 15 = .bool (x24 == x25) := (hp 5 rfl).1
          refine WL.call (vs := [.agg cs7.toArray]) hs FN15 ⟨e256, trivial⟩ (fun ok hA => esref06_ValidateView.calls (x1 := x5) hxx28 (hA.get (Γx.length + 2) (getApp rfl))) ?_ (hg := (wanted_of rfl rfl (bool_tr e257 hc26)).trans rfl)
          rintro _ w hs
          exact WL.nil ⟨rfl, _, rfl, rfl, hs.cutG 0 0⟩
        · intro ρ w Γx Λx hs hu hp
          have e258 : ρ 17 = .int .i64 x27 := (hp 7 rfl).1
          have e259 : ρ 19 = .int .i64 x28 := (hp 9 rfl).1
          have e260 : ρ 15 = .bool (x24 == x25) := (hp 5 rfl).1
          refine WL.bin (v := .bool (x27 == x28)) e258 e259 (ib_eql _ _ _) ?_ (hg := (wanted_of rfl rfl (bool_tr e260 hc26)).trans rfl)
          exact WL.nil ⟨rfl, _, rfl, rfl, hs.cutG 0 0⟩
        · intro ρ w Γx Λx hs hu hp
          have e261 : ρ 15 = .bool (x24 == x25) := (hp 5 rfl).1
          have e262 : ρ 20 = .bool (x27 == x28) := (hp 10 rfl).1
          refine WL.pickT (v := .bool (x27 == x28)) (bool_tr e261 hc26) e262 ?_
          exact WL.nil ⟨rfl, _, rfl, rfl, hs.cutG 0 0⟩
        · intro ρ w Γx Λx hs hu hp
          have e263 : ρ 21 = .bool (x27 == x28) := (hp 11 rfl).1
          refine WL.move (v := .bool (x27 == x28)) e263 ?_
          exact WL.nil ⟨rfl, _, rfl, rfl, hs.cutG 0 0⟩
        · intro ρ w Γx Λx hs hu hp
          have e264 : ρ 22 = .bool (x27 == x28) := (hp 12 rfl).1
          refine WL.pass ((wanted_of rfl rfl (bool_tr e264 hc29)).trans rfl) rfl ?_
          exact WL.nil ⟨rfl, _, rfl, rfl, hs.cutG 0 0⟩
        · intro ρ w Γx Λx hs hu hp
          have e265 : ρ 23 = undef := (hp 13 rfl).1
          have e266 : ρ 22 = .bool (x27 == x28) := (hp 12 rfl).1
          refine WL.pass ((wanted_of rfl rfl (bool_tr e266 hc29)).trans rfl) rfl ?_
          exact WL.nil ⟨rfl, _, rfl, rfl, hs.cutG 0 0⟩
        · intro ρ w Γx Λx hs hu hp
          have e267 : ρ 24 = undef := (hp 14 rfl).1
          have e268 : ρ 22 = .bool (x27 == x28) := (hp 12 rfl).1
          refine WL.pass ((wanted_of rfl rfl (bool_tr e268 hc29)).trans rfl) rfl ?_
          exact WL.nil ⟨rfl, _, rfl, rfl, hs.cutG 0 0⟩
        · intro ρ w Γx Λx hs hu hp
          have e269 : ρ 25 = undef := (hp 15 rfl).1
          have e270 : ρ 22 = .bool (x27 == x28) := (hp 12 rfl).1
          refine WL.pass ((wanted_of rfl rfl (bool_tr e270 hc29)).trans rfl) rfl ?_
          exact WL.nil ⟨rfl, _, rfl, rfl, hs.cutG 0 0⟩
        · intro ρ w Γx Λx hs hu hp
          have e271 : ρ 26 = undef := (hp 16 rfl).1
          refine WL.pass (wanted_undef rfl rfl e271) rfl ?_
          exact WL.nil ⟨rfl, _, rfl, rfl, hs.cutG 0 0⟩
        · intro ρ w Γx Λx hs hu hp
          have e272 : ρ 27 = undef := (hp 17 rfl).1
          have e273 : ρ 26 = undef := (hp 16 rfl).1
          refine WL.pass (wanted_undef rfl rfl e273) rfl ?_
          exact WL.nil ⟨rfl, _, rfl, rfl, hs.cutG 0 0⟩
        · intro ρ w Γx Λx hs hu hp
          have e274 : ρ 26 = undef := (hp 16 rfl).1
          refine WL.pass (wanted_undef rfl rfl e274) rfl ?_
          exact WL.nil ⟨rfl, _, rfl, rfl, hs.cutG 0 0⟩
        · intro ρ w Γx Λx hs hu hp
          have e275 : ρ 29 = undef := (hp 19 rfl).1
          have e276 : ρ 26 = undef := (hp 16 rfl).1
          refine WL.pass (wanted_undef rfl rfl e276) rfl ?_
          exact WL.nil ⟨rfl, _, rfl, rfl, hs.cutG 0 0⟩
        · intro ρ w Γx Λx hs hu hp
          have e277 : ρ 28 = undef := (hp 18 rfl).1
          have e278 : ρ 30 = undef := (hp 20 rfl).1
          have e279 : ρ 26 = undef := (hp 16 rfl).1
          refine WL.pass (wanted_undef rfl rfl e279) rfl ?_
          exact WL.nil ⟨rfl, _, rfl, rfl, hs.cutG 0 0⟩
        · intro ρ w Γx Λx hs hu hp
          have e280 : ρ 26 = undef := (hp 16 rfl).1
          have e281 : ρ 31 = undef := (hp 21 rfl).1
          have e282 : ρ 22 = .bool (x27 == x28) := (hp 12 rfl).1
          refine WL.pass ((wanted_of rfl rfl (bool_tr e282 hc29)).trans rfl) rfl ?_
          exact WL.nil ⟨rfl, _, rfl, rfl, hs.cutG 0 0⟩
        · intro ρ w Γx Λx hs hu hp
          have e283 : ρ 22 = .bool (x27 == x28) := (hp 12 rfl).1
          have e284 : ρ 32 = undef := (hp 22 rfl).1
          refine WL.pickF (v := .bool false) (bool_tr e283 hc29) rfl ?_
          exact WL.nil ⟨rfl, _, rfl, rfl, hs.cutG 0 0⟩
        · intro ρ w Γx Λx hs hu hp
          have e285 : ρ 33 = .bool false := (hp 23 rfl).1
          refine WL.move (v := .bool false) e285 ?_
          exact WL.nil ⟨rfl, _, rfl, rfl, hs.cutG 0 0⟩
        · intro ρ w Γx Λx hs hu hp
          have e286 : ρ 34 = .bool false := (hp 24 rfl).1
          refine WL.pass ((wanted_of rfl rfl e286).trans rfl) rfl ?_
          exact WL.nil ⟨rfl, _, rfl, rfl, hs.cutG 0 0⟩
        · intro ρ w Γx Λx hs hu hp
          have e287 : ρ 34 = .bool false := (hp 24 rfl).1
          have e288 : ρ 35 = undef := (hp 25 rfl).1
          refine WL.pickF (v := .bool false) e287 rfl ?_
          exact WL.nil ⟨rfl, _, rfl, rfl, hs.cutG 0 0⟩
        · intro ρ w hs hu289 hp
          obtain ⟨⟨⟨⟨⟨⟨⟨⟨⟨⟨⟨⟨⟨⟨⟨⟨⟨⟨⟨⟨⟨⟨⟨⟨⟨⟨⟨_, hp0_⟩, hp1_⟩, hp2_⟩, hp3_⟩, hp4_⟩, hp5_⟩, hp6_⟩, hp7_⟩, hp8_⟩, hp9_⟩, hp10_⟩, hp11_⟩, hp12_⟩, hp13_⟩, hp14_⟩, hp15_⟩, hp16_⟩, hp17_⟩, hp18_⟩, hp19_⟩, hp20_⟩, hp21_⟩, hp22_⟩, hp23_⟩, hp24_⟩, hp25_⟩, hp26_⟩ := hp
          have hs : St ok (bz w0) w [vl (tSlice t_api_Member) x5.Members (.slice a15 (x5.Members).length c16), vl t_api_Rule x1 (.agg cs3.toArray), vl t_api_View x5 (.agg cs7.toArray)] [blk g11 26 cs7, blk g10 23 cs3] := hs
          have e290 : ρ 36 = .bool false := hp26_
          have e291 : ρ 35 = undef := hp25_
          have e292 : ρ 34 = .bool false := hp24_
          have e293 : ρ 33 = .bool false := hp23_
          have e294 : ρ 32 = undef := hp22_
          have e295 : ρ 31 = undef := hp21_
          have e296 : ρ 30 = undef := hp20_
          have e297 : ρ 29 = undef := hp19_
          have e298 : ρ 28 = undef := hp18_
          have e299 : ρ 27 = undef := hp17_
          have e300 : ρ 26 = undef := hp16_
          have e301 : ρ 25 = undef := hp15_
          have e302 : ρ 24 = undef := hp14_
          have e303 : ρ 23 = undef := hp13_
          have e304 : ρ 22 = .bool (x27 == x28) := hp12_
          have e305 : ρ 21 = .bool (x27 == x28) := hp11_
          have e306 : ρ 20 = .bool (x27 == x28) := hp10_
          have e307 : ρ 19 = .int .i64 x28 := hp9_
          have e308 : ρ 18 = .agg cs7.toArray := hp8_
          have e309 : ρ 17 = .int .i64 x27 := hp7_
          have e310 : ρ 16 = .agg cs7.toArray := hp6_
          have e311 : ρ 15 = .bool (x24 == x25) := hp5_
          have e312 : ρ 14 = .bool (x24 == x25) := hp4_
          have e313 : ρ 13 = .int .i64 x25 := hp3_
          have e314 : ρ 12 = .agg cs3.toArray := hp2_
          have e315 : ρ 11 = .int .i64 x24 := hp1_
          have e316 : ρ 10 = .agg cs3.toArray := hp0_
          refine WA.step [27] (by kernel_rfl) (by simp) ⟨?_, trivial⟩
          refine WL.assign (v := .bool false) e290 ?_
          refine WL.nil ⟨rfl, _, rfl, ?_⟩
          refine WA.done (by kernel_rfl) ?_
          exact Jk23 false _ _ rfl ((hs.mask []).pick []) hf
    · refine W.any (by kernel_rfl) 27 1 [true, true, true, true, true, true, true, true, true, true, true, true, true, true, true, true, true, true, true, true, true, true, true, true, true, true, true, false] rfl rfl (poAt [pv (.agg cs3.toArray), pv (.int .i64 x24), pv (.agg cs3.toArray), pv (.int .i64 x25), pv (.bool (x24 == x25)), pv (.bool (x24 == x25)), pv (undef), pv (undef), pv (undef), pv (undef), pv (undef), pv (.bool false), pv (.bool false), pv (undef), pv (undef), pv (undef), pv (undef), pv (undef), pv (undef), pv (undef), pv (undef), pv (undef), pv (undef), pv (.bool false), pv (.bool false), pv (undef), pv (.bool false)]) (Λ := [blk g11 26 cs7, blk g10 23 cs3]) hs (by kernel_rfl) (by kernel_rfl) (by kernel_rfl) ⟨⟨⟨⟨⟨⟨⟨⟨⟨⟨⟨⟨⟨⟨⟨⟨⟨⟨⟨⟨⟨⟨⟨⟨⟨⟨⟨trivial, ?_⟩, ?_⟩, ?_⟩, ?_⟩, ?_⟩, ?_⟩, ?_⟩, ?_⟩, ?_⟩, ?_⟩, ?_⟩, ?_⟩, ?_⟩, ?_⟩, ?_⟩, ?_⟩, ?_⟩, ?_⟩, ?_⟩, ?_⟩, ?_⟩, ?_⟩, ?_⟩, ?_⟩, ?_⟩, ?_⟩, ?_⟩ ?_
      · intro ρ w Γx Λx hs hu hp
        refine WL.loadAll hs (Λx.length + 1) (getApp rfl) TI23 (hu 2 rfl) hl4 ?_
        exact WL.nil ⟨rfl, _, rfl, rfl, hs.cutG 0 0⟩
      · intro ρ w Γx Λx hs hu hp
        have e317 : ρ 10 = .agg cs3.toArray := (hp 0 rfl).1
        refine WL.call (vs := [.agg cs3.toArray]) hs FN12 ⟨e317, trivial⟩ (fun ok hA => quorum_ValidateRule.calls (x1 := x1) hxx24 (hA.get (Γx.length + 1) (getApp rfl))) ?_
        rintro _ w hs
        exact WL.nil ⟨rfl, _, rfl, rfl, hs.cutG 0 0⟩
      · intro ρ w Γx Λx hs hu hp
        refine WL.loadAll hs (Λx.length + 1) (getApp rfl) TI23 (hu 2 rfl) hl4 ?_
        exact WL.nil ⟨rfl, _, rfl, rfl, hs.cutG 0 0⟩
      · intro ρ w Γx Λx hs hu hp
        have e318 : ρ 12 = .agg cs3.toArray := (hp 2 rfl).1
        refine WL.call (vs := [.agg cs3.toArray]) hs FN13 ⟨e318, trivial⟩ (fun ok hA => esref06_ValidateRule.calls (x1 := x1) hxx25 (hA.get (Γx.length + 1) (getApp rfl))) ?_
        rintro _ w hs
        exact WL.nil ⟨rfl, _, rfl, rfl, hs.cutG 0 0⟩
      · intro ρ w Γx Λx hs hu hp
        have e319 : ρ 11 = .int .i64 x24 := (hp 1 rfl).1
        have e320 : ρ 13 = .int .i64 x25 := (hp 3 rfl).1
        refine WL.bin (v := .bool (x24 == x25)) e319 e320 (ib_eql _ _ _) ?_
        exact WL.nil ⟨rfl, _, rfl, rfl, hs.cutG 0 0⟩
      · intro ρ w Γx Λx hs hu hp
        have e321 : ρ 14 = .bool (x24 == x25) := (hp 4 rfl).1
        refine WL.move (v := .bool (x24 == x25)) e321 ?_
        exact WL.nil ⟨rfl, _, rfl, rfl, hs.cutG 0 0⟩
      · intro ρ w Γx Λx hs hu hp
        have e322 : ρ 15 = .bool (x24 == x25) := (hp 5 rfl).1
        refine WL.pass ((wanted_of rfl rfl (bool_tr e322 hc26)).trans rfl) rfl ?_
        exact WL.nil ⟨rfl, _, rfl, rfl, hs.cutG 0 0⟩
      · intro ρ w Γx Λx hs hu hp
        have e323 : ρ 16 = undef := (hp 6 rfl).1
        have e324 : ρ 15 = .bool (x24 == x25) := (hp 5 rfl).1
        refine WL.pass ((wanted_of rfl rfl (bool_tr e324 hc26)).trans rfl) rfl ?_
        exact WL.nil ⟨rfl, _, rfl, rfl, hs.cutG 0 0⟩
      · intro ρ w Γx Λx hs hu hp
        have e325 : ρ 15 = .bool (x24 == x25) := (hp 5 rfl).1
        refine WL.pass ((wanted_of rfl rfl (bool_tr e325 hc26)).trans rfl) rfl ?_
        exact WL.nil ⟨rfl, _, rfl, rfl, hs.cutG 0 0⟩
      · intro ρ w Γx Λx hs hu hp
        have e326 : ρ 18 = undef := (hp 8 rfl).1
        have e327 : ρ 15 = .bool (x24 == x25) := (hp 5 rfl).1
        refine WL.pass ((wanted_of rfl rfl (bool_tr e327 hc26)).trans rfl) rfl ?_
        exact WL.nil ⟨rfl, _, rfl, rfl, hs.cutG 0 0⟩
      · intro ρ w Γx Λx hs hu hp
        have e328 : ρ 17 = undef := (hp 7 rfl).1
        have e329 : ρ 19 = undef := (hp 9 rfl).1
        have e330 : ρ 15 = .bool (x24 == x25) := (hp 5 rfl).1
        refine WL.pass ((wanted_of rfl rfl (bool_tr e330 hc26)).trans rfl) rfl ?_
        exact WL.nil ⟨rfl, _, rfl, rfl, hs.cutG 0 0⟩
      · intro ρ w Γx Λx hs hu hp
        have e331 : ρ 15 = .bool (x24 == x25) := (hp 5 rfl).1
        have e332 : ρ 20 = undef := (hp 10 rfl).1
        refine WL.pickF (v := .bool false) (bool_tr e331 hc26) rfl ?_
        exact WL.nil ⟨rfl, _, rfl, rfl, hs.cutG 0 0⟩
      · intro ρ w Γx Λx hs hu hp
        have e333 : ρ 21 = .bool false := (hp 11 rfl).1
        refine WL.move (v := .bool false) e333 ?_
        exact WL.nil ⟨rfl, _, rfl, rfl, hs.cutG 0 0⟩
      · intro ρ w Γx Λx hs hu hp
        have e334 : ρ 22 = .bool false := (hp 12 rfl).1
        refine WL.pass ((wanted_of rfl rfl e334).trans rfl) rfl ?_
        exact WL.nil ⟨rfl, _, rfl, rfl, hs.cutG 0 0⟩
      · intro ρ w Γx Λx hs hu hp
        have e335 : ρ 23 = undef := (hp 13 rfl).1
        have e336 : ρ 22 = .bool false := (hp 12 rfl).1
        refine WL.pass ((wanted_of rfl rfl e336).trans rfl) rfl ?_
        exact WL.nil ⟨rfl, _, rfl, rfl, hs.cutG 0 0⟩
      · intro ρ w Γx Λx hs hu hp
        have e337 : ρ 24 = undef := (hp 14 rfl).1
        have e338 : ρ 22 = .bool false := (hp 12 rfl).1
        refine WL.pass ((wanted_of rfl rfl e338).trans rfl) rfl ?_
        exact WL.nil ⟨rfl, _, rfl, rfl, hs.cutG 0 0⟩
      · intro ρ w Γx Λx hs hu hp
        have e339 : ρ 25 = undef := (hp 15 rfl).1
        have e340 : ρ 22 = .bool false := (hp 12 rfl).1
        refine WL.pass ((wanted_of rfl rfl e340).trans rfl) rfl ?_
        exact WL.nil ⟨rfl, _, rfl, rfl, hs.cutG 0 0⟩
      · intro ρ w Γx Λx hs hu hp
        have e341 : ρ 26 = undef := (hp 16 rfl).1
        refine WL.pass (wanted_undef rfl rfl e341) rfl ?_
        exact WL.nil ⟨rfl, _, rfl, rfl, hs.cutG 0 0⟩
      · intro ρ w Γx Λx hs hu hp
        have e342 : ρ 27 = undef := (hp 17 rfl).1
        have e343 : ρ 26 = undef := (hp 16 rfl).1
        refine WL.pass (wanted_undef rfl rfl e343) rfl ?_
        exact WL.nil ⟨rfl, _, rfl, rfl, hs.cutG 0 0⟩
      · intro ρ w Γx Λx hs hu hp
        have e344 : ρ 26 = undef := (hp 16 rfl).1
        refine WL.pass (wanted_undef rfl rfl e344) rfl ?_
        exact WL.nil ⟨rfl, _, rfl, rfl, hs.cutG 0 0⟩
      · intro ρ w Γx Λx hs hu hp
        have e345 : ρ 29 = undef := (hp 19 rfl).1
        have e346 : ρ 26 = undef := (hp 16 rfl).1
        refine WL.pass (wanted_undef rfl rfl e346) rfl ?_
        exact WL.nil ⟨rfl, _, rfl, rfl, hs.cutG 0 0⟩
      · intro ρ w Γx Λx hs hu hp
        have e347 : ρ 28 = undef := (hp 18 rfl).1
        have e348 : ρ 30 = undef := (hp 20 rfl).1
        have e349 : ρ 26 = undef := (hp 16 rfl).1
        refine WL.pass (wanted_undef rfl rfl e349) rfl ?_
        exact WL.nil ⟨rfl, _, rfl, rfl, hs.cutG 0 0⟩
      · intro ρ w Γx Λx hs hu hp
        have e350 : ρ 26 = undef := (hp 16 rfl).1
        have e351 : ρ 31 = undef := (hp 21 rfl).1
        have e352 : ρ 22 = .bool false := (hp 12 rfl).1
        refine WL.pass ((wanted_of rfl rfl e352).trans rfl) rfl ?_
        exact WL.nil ⟨rfl, _, rfl, rfl, hs.cutG 0 0⟩
      · intro ρ w Γx Λx hs hu hp
        have e353 : ρ 22 = .bool false := (hp 12 rfl).1
        have e354 : ρ 32 = undef := (hp 22 rfl).1
        refine WL.pickF (v := .bool false) e353 rfl ?_
        exact WL.nil ⟨rfl, _, rfl, rfl, hs.cutG 0 0⟩
      · intro ρ w Γx Λx hs hu hp
        have e355 : ρ 33 = .bool false := (hp 23 rfl).1
        refine WL.move (v := .bool false) e355 ?_
        exact WL.nil ⟨rfl, _, rfl, rfl, hs.cutG 0 0⟩
      · intro ρ w Γx Λx hs hu hp
        have e356 : ρ 34 = .bool false := (hp 24 rfl).1
        refine WL.pass ((wanted_of rfl rfl e356).trans rfl) rfl ?_
        exact WL.nil ⟨rfl, _, rfl, rfl, hs.cutG 0 0⟩
      · intro ρ w Γx Λx hs hu hp
        have e357 : ρ 34 = .bool false := (hp 24 rfl).1
        have e358 : ρ 35 = undef := (hp 25 rfl).1
        refine WL.pickF (v := .bool false) e357 rfl ?_
        exact WL.nil ⟨rfl, _, rfl, rfl, hs.cutG 0 0⟩
      · intro ρ w hs hu359 hp
        obtain ⟨⟨⟨⟨⟨⟨⟨⟨⟨⟨⟨⟨⟨⟨⟨⟨⟨⟨⟨⟨⟨⟨⟨⟨⟨⟨⟨_, hp0_⟩, hp1_⟩, hp2_⟩, hp3_⟩, hp4_⟩, hp5_⟩, hp6_⟩, hp7_⟩, hp8_⟩, hp9_⟩, hp10_⟩, hp11_⟩, hp12_⟩, hp13_⟩, hp14_⟩, hp15_⟩, hp16_⟩, hp17_⟩, hp18_⟩, hp19_⟩, hp20_⟩, hp21_⟩, hp22_⟩, hp23_⟩, hp24_⟩, hp25_⟩, hp26_⟩ := hp
        have hs : St ok (bz w0) w [vl (tSlice t_api_Member) x5.Members (.slice a15 (x5.Members).length c16), vl t_api_Rule x1 (.agg cs3.toArray), vl t_api_View x5 (.agg cs7.toArray)] [blk g11 26 cs7, blk g10 23 cs3] := hs
        have e360 : ρ 36 = .bool false := hp26_
        have e361 : ρ 35 = undef := hp25_
        have e362 : ρ 34 = .bool false := hp24_
        have e363 : ρ 33 = .bool false := hp23_
        have e364 : ρ 32 = undef := hp22_
        have e365 : ρ 31 = undef := hp21_
        have e366 : ρ 30 = undef := hp20_
        have e367 : ρ 29 = undef := hp19_
        have e368 : ρ 28 = undef := hp18_
        have e369 : ρ 27 = undef := hp17_
        have e370 : ρ 26 = undef := hp16_
        have e371 : ρ 25 = undef := hp15_
        have e372 : ρ 24 = undef := hp14_
        have e373 : ρ 23 = undef := hp13_
        have e374 : ρ 22 = .bool false := hp12_
        have e375 : ρ 21 = .bool false := hp11_
        have e376 : ρ 20 = undef := hp10_
        have e377 : ρ 19 = undef := hp9_
        have e378 : ρ 18 = undef := hp8_
        have e379 : ρ 17 = undef := hp7_
        have e380 : ρ 16 = undef := hp6_
        have e381 : ρ 15 = .bool (x24 == x25) := hp5_
        have e382 : ρ 14 = .bool (x24 == x25) := hp4_
        have e383 : ρ 13 = .int .i64 x25 := hp3_
        have e384 : ρ 12 = .agg cs3.toArray := hp2_
        have e385 : ρ 11 = .int .i64 x24 := hp1_
        have e386 : ρ 10 = .agg cs3.toArray := hp0_
        refine WA.step [27] (by kernel_rfl) (by simp) ⟨?_, trivial⟩
        refine WL.assign (v := .bool false) e360 ?_
        refine WL.nil ⟨rfl, _, rfl, ?_⟩
        refine WA.done (by kernel_rfl) ?_
        exact Jk23 false _ _ rfl ((hs.mask []).pick []) hf
end Go.Proofs.Ytodebgfppmcjlaa
