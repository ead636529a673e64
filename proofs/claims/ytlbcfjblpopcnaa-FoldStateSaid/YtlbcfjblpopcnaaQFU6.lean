/- What the row leans on, as few texts. -/
import Derived.Test.YtlbcfjblpopcnaaQFU2
import Derived.Test.YtlbcfjblpopcnaaQFU3
import Derived.Test.YtlbcfjblpopcnaaQFU4
import Derived.Test.YtlbcfjblpopcnaaQFU5
import Derived.Test.YtlbcfjblpopcnaaQFU1
import Derived.Test.YtlbcfjblpopcnaaQFU0
set_option linter.unusedVariables false
set_option linter.unusedSimpArgs false
namespace Go.Proofs.Ytlbcfjblpopcnaa
open Go Go.RowKit Go.Proofs.YtlbcfjblpopcnaaL
set_option maxRecDepth 100000
set_option maxHeartbeats 4000000
theorem eslaw30_FoldState.calls {ok : Nat → Prop} {w0 : World} {x1 : List api_Update} {a2 : Option Addr} {c3 : Nat} {r : Bool} (hf : eslaw30_FoldState x1 = some r) (i0 : (vl (tSlice t_api_Update) x1 (.slice a2 x1.length c3)).holds ok w0) :
    Calls Try.prog 3 #[.slice a2 x1.length c3] w0 fun e w' => ∃ v, e = .returned v ∧ ∃ y : Unit, v = .bool r ∧ St ok (bz w0) w' [] [] := by
  unfold eslaw30_FoldState at hf
  refine calls_of_W (fn := Try.f3) (N := 29) Try.func3 rfl Try.ntmps3 rfl ?_
  have hs : St ok (bz w0) w0 [vl (tSlice t_api_Update) x1 (.slice a2 x1.length c3)] [] := St.init (All.cons i0 All.nil)
  clear i0
  refine W.seqK fun K4 hK4 => ?_
  refine W.region ?_
  refine WL.assign (v := .bool false) rfl ?_
  refine WL.nil ?_
  refine hK4 _ _ ?_
  refine W.seqK fun K5 hK5 => ?_
  refine W.seqK fun K6 hK6 => ?_
  have Jk9 : ∀ (x8 : Bool) (ρ : Env) (w : World), ρ 0 = .slice a2 x1.length c3 → ρ 11 = .bool x8 → St ok (bz w0) w [vl (tSlice t_api_Update) x1 (.slice a2 x1.length c3)] [] → eslaw30_FoldState.j2 x1 x8 = some r → K6 ρ w := by
    intro x8 ρ w h7_0 h7_11 hs hf
    refine hK6 _ _ ?_
    unfold eslaw30_FoldState.j2 at hf
    rcases iteE hf with ⟨hc10, hf⟩ | ⟨hc10, hf⟩
    {
    refine W.cond_true (bool_tr h7_11 hc10) ?_
    refine W.seqK fun K11 hK11 => ?_
    refine W.region ?_
    obtain ⟨x12, hxx12, hf⟩ := bindE hf
    refine WL.call (vs := []) hs FN12 trivial (fun ok hA => eslaw30_awake.calls hxx12) ?_
    rintro _ w hs
    refine WL.assign (v := .bool x12) rfl ?_
    refine WL.nil ?_
    refine hK11 _ _ ?_
    refine W.ret ?_
    have hr := Option.some.inj hf; subst hr
    exact ⟨_, resOk_one rfl rfl, (), rfl, (hs.mask []).pick []⟩ }
    {
    refine W.cond_false (bool_tr h7_11 hc10) ?_
    refine W.skip ?_
    refine hK5 _ _ ?_
    refine W.seqK fun K13 hK13 => ?_
    refine W.region ?_
    refine WL.move (v := .slice a2 x1.length c3) h7_0 ?_
    obtain ⟨x14, hxx14, hf⟩ := bindE hf
    refine WL.call (vs := [.slice a2 x1.length c3]) hs FN13 ⟨rfl, trivial⟩ (fun ok hA => fold_Fold.calls (x1 := x1) hxx14 (hA.get 0 rfl)) ?_
    rintro cs15 w hs
    have hl16 := hs.agglen (n := 1) 0 rfl rfl rfl
    refine WL.alloc hs ZV29 (fun g17 w hs => ?_)
    refine WL.storeAll (vs := cs15) hs 0 rfl TI29 rfl rfl rfl hl16 (hs.ones 0 rfl rfl) rfl (fun w hs => ?_)
    refine WL.nil ?_
    refine hK13 _ _ ?_
    refine W.seqK fun K18 hK18 => ?_
    have Jk21 : ∀ (x20 : Bool) (ρ : Env) (w : World), ρ 2 = .bool x20 → St ok (bz w0) w [] [] → eslaw30_FoldState.j1 x20 = some r → K18 ρ w := by
      intro x20 ρ w h19_2 hs hf
      refine hK18 _ _ ?_
      unfold eslaw30_FoldState.j1 at hf
      refine W.ret ?_
      have hr := Option.some.inj hf; subst hr
      exact ⟨_, resOk_one rfl h19_2, (), rfl, (hs.mask []).pick []⟩
    obtain ⟨x22, hxx22, hf⟩ := bindE hf
    obtain ⟨x25, hxx25, hf⟩ := bindE hf
    rcases iteE hf with ⟨hc26, hf⟩ | ⟨hc26, hf⟩
    {
    obtain ⟨x27, hxx27, hf⟩ := bindE hf
    obtain ⟨x28, hxx28, hf⟩ := bindE hf
    rcases iteE hf with ⟨hc29, hf⟩ | ⟨hc29, hf⟩
    {
    obtain ⟨x30, hxx30, hf⟩ := bindE hf
    refine W.any (by kernel_rfl) 14 1 [true, true, true, true, true, true, true, true, true, true, true, true, true, true, false] rfl rfl (poAt [pv (.agg cs15.toArray), pv (.slice a2 x1.length c3), pq (fun y : List Value => .agg y.toArray) (fun v => [vl t_fold_Store x22 v]) (fun v => []), pv (.bool x25), pv (.bool x25), pv (.agg cs15.toArray), pv (.int .u64 x27), pv (.agg cs15.toArray), pv (.int .u64 x28), pv (.bool (x27 == x28)), pv (.bool (x27 == x28)), pv (.bool (x27 == x28)), pv (.bool x30), pv (.bool x30)]) (Λ := [blk g17 29 cs15]) hs (by kernel_rfl) (by kernel_rfl) (by kernel_rfl) ⟨⟨⟨⟨⟨⟨⟨⟨⟨⟨⟨⟨⟨⟨trivial, ?_⟩, ?_⟩, ?_⟩, ?_⟩, ?_⟩, ?_⟩, ?_⟩, ?_⟩, ?_⟩, ?_⟩, ?_⟩, ?_⟩, ?_⟩, ?_⟩ ?_
    {
    intro ρ w Γx Λx hs hu hp
    refine WL.loadAll hs (Λx.length + 0) (getApp rfl) TI29 (hu 3 rfl) hl16 ?_
    exact WL.nil ⟨rfl, _, rfl, rfl, hs.cutG 0 0⟩ }
    {
    intro ρ w Γx Λx hs hu hp
    refine WL.move (v := .slice a2 x1.length c3) ((hu 0 rfl).trans h7_0) ?_
    exact WL.nil ⟨rfl, _, rfl, rfl, hs.cutG 0 0⟩ }
    {
    intro ρ w Γx Λx hs hu hp
    have e31 : ρ 16 = .slice a2 x1.length c3 := (hp 1 rfl).1
    refine WL.call (vs := [.slice a2 x1.length c3]) hs FN15 ⟨e31, trivial⟩ (fun ok hA => esref32_Fold.calls (x1 := x1) hxx22 (hA.get (Γx.length + 1) (getApp rfl))) ?_
    rintro cs23 w hs
    have hl24 := hs.agglen (n := 1) 0 rfl rfl rfl
    have hs := hs.add (it := vl t_fold_Store x22 (.agg cs23.toArray)) fun ok hA => hA.get 0 rfl
    exact WL.nil ⟨rfl, _, rfl, ⟨cs23, rfl⟩, hs.cutG 1 1⟩ }
    {
    intro ρ w Γx Λx hs hu hp
    have e32 : ρ 15 = .agg cs15.toArray := (hp 0 rfl).1
    obtain ⟨⟨cs33, e35r⟩, hm36⟩ := hp 2 rfl
    have e35 : ρ 17 = .agg cs33.toArray := e35r
    rw [e35r] at hm36
    have hs := hs.memo1 (it := vl t_fold_Store x22 (.agg cs33.toArray)) (List.mem_append.2 (.inl (hm36 _ (List.mem_of_getElem? (i := 0) rfl))))
    have hl34 := hs.agglen (n := 1) 0 rfl rfl rfl
    refine WL.call (vs := [.agg cs15.toArray, .agg cs33.toArray]) hs FN14 ⟨e32, ⟨e35, trivial⟩⟩ (fun ok hA => esref32_Equal.calls (x1 := x14) (x5 := x22) hxx25 (hA.get (Γx.length + 0 + 1) (getApp1 rfl)) (hA.get 0 rfl)) ?_
    rintro _ w hs
    exact WL.nil ⟨rfl, _, rfl, rfl, hs.cutG 0 1⟩ }
    {
    intro ρ w Γx Λx hs hu hp
    have e37 : ρ 18 = .bool x25 := (hp 3 rfl).1
    refine WL.move (v := .bool x25) e37 ?_
    exact WL.nil ⟨rfl, _, rfl, rfl, hs.cutG 0 0⟩ }
    {
    intro ρ w Γx Λx hs hu hp
    have e38 : ρ 19 = .bool x25 := (hp 4 rfl).1
    refine WL.loadAll hs (Λx.length + 0) (getApp rfl) TI29 (hu 3 rfl) hl16 ?_ (hg := (wanted_of rfl rfl (bool_tr e38 hc26)).trans rfl)
    exact WL.nil ⟨rfl, _, rfl, rfl, hs.cutG 0 0⟩ }
    {
    intro ρ w Γx Λx hs hu hp
    have e39 : ρ 20 = .agg cs15.toArray := (hp 5 rfl).1
    have e40 : ρ 19 = .bool x25 := (hp 4 rfl).1
    refine WL.call (vs := [.agg cs15.toArray]) hs FN16 ⟨e39, trivial⟩ (fun ok hA => fold_Hash.calls (x1 := x14) hxx27 (hA.get (Γx.length + 0) (getApp rfl))) ?_ (hg := (wanted_of rfl rfl (bool_tr e40 hc26)).trans rfl)
    rintro _ w hs
    exact WL.nil ⟨rfl, _, rfl, rfl, hs.cutG 0 0⟩ }
    {
    intro ρ w Γx Λx hs hu hp
    have e41 : ρ 19 = .bool x25 := (hp 4 rfl).1
    refine WL.loadAll hs (Λx.length + 0) (getApp rfl) TI29 (hu 3 rfl) hl16 ?_ (hg := (wanted_of rfl rfl (bool_tr e41 hc26)).trans rfl)
    exact WL.nil ⟨rfl, _, rfl, rfl, hs.cutG 0 0⟩ }
    {
    intro ρ w Γx Λx hs hu hp
    have e42 : ρ 22 = .agg cs15.toArray := (hp 7 rfl).1
    have e43 : ρ 19 = .bool x25 := (hp 4 rfl).1
    refine WL.call (vs := [.agg cs15.toArray]) hs FN17 ⟨e42, trivial⟩ (fun ok hA => esref32_Hash.calls (x1 := x14) hxx28 (hA.get (Γx.length + 0) (getApp rfl))) ?_ (hg := (wanted_of rfl rfl (bool_tr e43 hc26)).trans rfl)
    rintro _ w hs
    exact WL.nil ⟨rfl, _, rfl, rfl, hs.cutG 0 0⟩ }
    {
    intro ρ w Γx Λx hs hu hp
    have e44 : ρ 21 = .int .u64 x27 := (hp 6 rfl).1
    have e45 : ρ 23 = .int .u64 x28 := (hp 8 rfl).1
    have e46 : ρ 19 = .bool x25 := (hp 4 rfl).1
    refine WL.bin (v := .bool (x27 == x28)) e44 e45 (ib_eql _ _ _) ?_ (hg := (wanted_of rfl rfl (bool_tr e46 hc26)).trans rfl)
    exact WL.nil ⟨rfl, _, rfl, rfl, hs.cutG 0 0⟩ }
    {
    intro ρ w Γx Λx hs hu hp
    have e47 : ρ 19 = .bool x25 := (hp 4 rfl).1
    have e48 : ρ 24 = .bool (x27 == x28) := (hp 9 rfl).1
    refine WL.pickT (v := .bool (x27 == x28)) (bool_tr e47 hc26) e48 ?_
    exact WL.nil ⟨rfl, _, rfl, rfl, hs.cutG 0 0⟩ }
    {
    intro ρ w Γx Λx hs hu hp
    have e49 : ρ 25 = .bool (x27 == x28) := (hp 10 rfl).1
    refine WL.move (v := .bool (x27 == x28)) e49 ?_
    exact WL.nil ⟨rfl, _, rfl, rfl, hs.cutG 0 0⟩ }
    {
    intro ρ w Γx Λx hs hu hp
    have e50 : ρ 26 = .bool (x27 == x28) := (hp 11 rfl).1
    refine WL.call (vs := []) hs FN12 trivial (fun ok hA => eslaw30_awake.calls hxx30) ?_ (hg := (wanted_of rfl rfl (bool_tr e50 hc29)).trans rfl)
    rintro _ w hs
    exact WL.nil ⟨rfl, _, rfl, rfl, hs.cutG 0 0⟩ }
    {
    intro ρ w Γx Λx hs hu hp
    have e51 : ρ 26 = .bool (x27 == x28) := (hp 11 rfl).1
    have e52 : ρ 27 = .bool x30 := (hp 12 rfl).1
    refine WL.pickT (v := .bool x30) (bool_tr e51 hc29) e52 ?_
    exact WL.nil ⟨rfl, _, rfl, rfl, hs.cutG 0 0⟩ }
    {
    intro ρ w hs hu53 hp
    obtain ⟨⟨⟨⟨⟨⟨⟨⟨⟨⟨⟨⟨⟨⟨_, hp0_⟩, hp1_⟩, hp2_⟩, hp3_⟩, hp4_⟩, hp5_⟩, hp6_⟩, hp7_⟩, hp8_⟩, hp9_⟩, hp10_⟩, hp11_⟩, hp12_⟩, hp13_⟩ := hp
    have hs : St ok (bz w0) w [vl t_fold_Store x22 (ρ 17), vl t_fold_Store x14 (.agg cs15.toArray), vl (tSlice t_api_Update) x1 (.slice a2 x1.length c3)] [blk g17 29 cs15] := hs
    have e54 : ρ 28 = .bool x30 := hp13_
    have e55 : ρ 27 = .bool x30 := hp12_
    have e56 : ρ 26 = .bool (x27 == x28) := hp11_
    have e57 : ρ 25 = .bool (x27 == x28) := hp10_
    have e58 : ρ 24 = .bool (x27 == x28) := hp9_
    have e59 : ρ 23 = .int .u64 x28 := hp8_
    have e60 : ρ 22 = .agg cs15.toArray := hp7_
    have e61 : ρ 21 = .int .u64 x27 := hp6_
    have e62 : ρ 20 = .agg cs15.toArray := hp5_
    have e63 : ρ 19 = .bool x25 := hp4_
    have e64 : ρ 18 = .bool x25 := hp3_
    obtain ⟨cs65, e67⟩ := hp2_
    have e67 : ρ 17 = .agg cs65.toArray := e67
    try rw [e67] at hs
    have e68 : ρ 16 = .slice a2 x1.length c3 := hp1_
    have e69 : ρ 15 = .agg cs15.toArray := hp0_
    have hl66 := hs.agglen (n := 1) 0 rfl rfl rfl
    refine WA.step [14] (by kernel_rfl) (by simp) ⟨?_, trivial⟩
    refine WL.assign (v := .bool x30) e54 ?_
    refine WL.nil ⟨rfl, _, rfl, ?_⟩
    refine WA.done (by kernel_rfl) ?_
    exact Jk21 x30 _ _ rfl ((hs.mask []).pick []) hf } }
    {
    refine W.any (by kernel_rfl) 14 1 [true, true, true, true, true, true, true, true, true, true, true, true, true, true, false] rfl rfl (poAt [pv (.agg cs15.toArray), pv (.slice a2 x1.length c3), pq (fun y : List Value => .agg y.toArray) (fun v => [vl t_fold_Store x22 v]) (fun v => []), pv (.bool x25), pv (.bool x25), pv (.agg cs15.toArray), pv (.int .u64 x27), pv (.agg cs15.toArray), pv (.int .u64 x28), pv (.bool (x27 == x28)), pv (.bool (x27 == x28)), pv (.bool (x27 == x28)), pv (undef), pv (.bool false)]) (Λ := [blk g17 29 cs15]) hs (by kernel_rfl) (by kernel_rfl) (by kernel_rfl) ⟨⟨⟨⟨⟨⟨⟨⟨⟨⟨⟨⟨⟨⟨trivial, ?_⟩, ?_⟩, ?_⟩, ?_⟩, ?_⟩, ?_⟩, ?_⟩, ?_⟩, ?_⟩, ?_⟩, ?_⟩, ?_⟩, ?_⟩, ?_⟩ ?_
    {
    intro ρ w Γx Λx hs hu hp
    refine WL.loadAll hs (Λx.length + 0) (getApp rfl) TI29 (hu 3 rfl) hl16 ?_
    exact WL.nil ⟨rfl, _, rfl, rfl, hs.cutG 0 0⟩ }
    {
    intro ρ w Γx Λx hs hu hp
    refine WL.move (v := .slice a2 x1.length c3) ((hu 0 rfl).trans h7_0) ?_
    exact WL.nil ⟨rfl, _, rfl, rfl, hs.cutG 0 0⟩ }
    {
    intro ρ w Γx Λx hs hu hp
    have e70 : ρ 16 = .slice a2 x1.length c3 := (hp 1 rfl).1
    refine WL.call (vs := [.slice a2 x1.length c3]) hs FN15 ⟨e70, trivial⟩ (fun ok hA => esref32_Fold.calls (x1 := x1) hxx22 (hA.get (Γx.length + 1) (getApp rfl))) ?_
    rintro cs23 w hs
    have hl24 := hs.agglen (n := 1) 0 rfl rfl rfl
    have hs := hs.add (it := vl t_fold_Store x22 (.agg cs23.toArray)) fun ok hA => hA.get 0 rfl
    exact WL.nil ⟨rfl, _, rfl, ⟨cs23, rfl⟩, hs.cutG 1 1⟩ }
    {
    intro ρ w Γx Λx hs hu hp
    have e71 : ρ 15 = .agg cs15.toArray := (hp 0 rfl).1
    obtain ⟨⟨cs72, e74r⟩, hm75⟩ := hp 2 rfl
    have e74 : ρ 17 = .agg cs72.toArray := e74r
    rw [e74r] at hm75
    have hs := hs.memo1 (it := vl t_fold_Store x22 (.agg cs72.toArray)) (List.mem_append.2 (.inl (hm75 _ (List.mem_of_getElem? (i := 0) rfl))))
    have hl73 := hs.agglen (n := 1) 0 rfl rfl rfl
    refine WL.call (vs := [.agg cs15.toArray, .agg cs72.toArray]) hs FN14 ⟨e71, ⟨e74, trivial⟩⟩ (fun ok hA => esref32_Equal.calls (x1 := x14) (x5 := x22) hxx25 (hA.get (Γx.length + 0 + 1) (getApp1 rfl)) (hA.get 0 rfl)) ?_
    rintro _ w hs
    exact WL.nil ⟨rfl, _, rfl, rfl, hs.cutG 0 1⟩ }
    {
    intro ρ w Γx Λx hs hu hp
    have e76 : ρ 18 = .bool x25 := (hp 3 rfl).1
    refine WL.move (v := .bool x25) e76 ?_
    exact WL.nil ⟨rfl, _, rfl, rfl, hs.cutG 0 0⟩ }
    {
    intro ρ w Γx Λx hs hu hp
    have e77 : ρ 19 = .bool x25 := (hp 4 rfl).1
    refine WL.loadAll hs (Λx.length + 0) (getApp rfl) TI29 (hu 3 rfl) hl16 ?_ (hg := (wanted_of rfl rfl (bool_tr e77 hc26)).trans rfl)
    exact WL.nil ⟨rfl, _, rfl, rfl, hs.cutG 0 0⟩ }
    {
    intro ρ w Γx Λx hs hu hp
    have e78 : ρ 20 = .agg cs15.toArray := (hp 5 rfl).1
    have e79 : ρ 19 = .bool x25 := (hp 4 rfl).1
    refine WL.call (vs := [.agg cs15.toArray]) hs FN16 ⟨e78, trivial⟩ (fun ok hA => fold_Hash.calls (x1 := x14) hxx27 (hA.get (Γx.length + 0) (getApp rfl))) ?_ (hg := (wanted_of rfl rfl (bool_tr e79 hc26)).trans rfl)
    rintro _ w hs
    exact WL.nil ⟨rfl, _, rfl, rfl, hs.cutG 0 0⟩ }
    {
    intro ρ w Γx Λx hs hu hp
    have e80 : ρ 19 = .bool x25 := (hp 4 rfl).1
    refine WL.loadAll hs (Λx.length + 0) (getApp rfl) TI29 (hu 3 rfl) hl16 ?_ (hg := (wanted_of rfl rfl (bool_tr e80 hc26)).trans rfl)
    exact WL.nil ⟨rfl, _, rfl, rfl, hs.cutG 0 0⟩ }
    {
    intro ρ w Γx Λx hs hu hp
    have e81 : ρ 22 = .agg cs15.toArray := (hp 7 rfl).1
    have e82 : ρ 19 = .bool x25 := (hp 4 rfl).1
    refine WL.call (vs := [.agg cs15.toArray]) hs FN17 ⟨e81, trivial⟩ (fun ok hA => esref32_Hash.calls (x1 := x14) hxx28 (hA.get (Γx.length + 0) (getApp rfl))) ?_ (hg := (wanted_of rfl rfl (bool_tr e82 hc26)).trans rfl)
    rintro _ w hs
    exact WL.nil ⟨rfl, _, rfl, rfl, hs.cutG 0 0⟩ }
    {
    intro ρ w Γx Λx hs hu hp
    have e83 : ρ 21 = .int .u64 x27 := (hp 6 rfl).1
    have e84 : ρ 23 = .int .u64 x28 := (hp 8 rfl).1
    have e85 : ρ 19 = .bool x25 := (hp 4 rfl).1
    refine WL.bin (v := .bool (x27 == x28)) e83 e84 (ib_eql _ _ _) ?_ (hg := (wanted_of rfl rfl (bool_tr e85 hc26)).trans rfl)
    exact WL.nil ⟨rfl, _, rfl, rfl, hs.cutG 0 0⟩ }
    {
    intro ρ w Γx Λx hs hu hp
    have e86 : ρ 19 = .bool x25 := (hp 4 rfl).1
    have e87 : ρ 24 = .bool (x27 == x28) := (hp 9 rfl).1
    refine WL.pickT (v := .bool (x27 == x28)) (bool_tr e86 hc26) e87 ?_
    exact WL.nil ⟨rfl, _, rfl, rfl, hs.cutG 0 0⟩ }
    {
    intro ρ w Γx Λx hs hu hp
    have e88 : ρ 25 = .bool (x27 == x28) := (hp 10 rfl).1
    refine WL.move (v := .bool (x27 == x28)) e88 ?_
    exact WL.nil ⟨rfl, _, rfl, rfl, hs.cutG 0 0⟩ }
    {
    intro ρ w Γx Λx hs hu hp
    have e89 : ρ 26 = .bool (x27 == x28) := (hp 11 rfl).1
    refine WL.pass ((wanted_of rfl rfl (bool_tr e89 hc29)).trans rfl) rfl ?_
    exact WL.nil ⟨rfl, _, rfl, rfl, hs.cutG 0 0⟩ }
    {
    intro ρ w Γx Λx hs hu hp
    have e90 : ρ 26 = .bool (x27 == x28) := (hp 11 rfl).1
    have e91 : ρ 27 = undef := (hp 12 rfl).1
    refine WL.pickF (v := .bool false) (bool_tr e90 hc29) rfl ?_
    exact WL.nil ⟨rfl, _, rfl, rfl, hs.cutG 0 0⟩ }
    {
    intro ρ w hs hu92 hp
    obtain ⟨⟨⟨⟨⟨⟨⟨⟨⟨⟨⟨⟨⟨⟨_, hp0_⟩, hp1_⟩, hp2_⟩, hp3_⟩, hp4_⟩, hp5_⟩, hp6_⟩, hp7_⟩, hp8_⟩, hp9_⟩, hp10_⟩, hp11_⟩, hp12_⟩, hp13_⟩ := hp
    have hs : St ok (bz w0) w [vl t_fold_Store x22 (ρ 17), vl t_fold_Store x14 (.agg cs15.toArray), vl (tSlice t_api_Update) x1 (.slice a2 x1.length c3)] [blk g17 29 cs15] := hs
    have e93 : ρ 28 = .bool false := hp13_
    have e94 : ρ 27 = undef := hp12_
    have e95 : ρ 26 = .bool (x27 == x28) := hp11_
    have e96 : ρ 25 = .bool (x27 == x28) := hp10_
    have e97 : ρ 24 = .bool (x27 == x28) := hp9_
    have e98 : ρ 23 = .int .u64 x28 := hp8_
    have e99 : ρ 22 = .agg cs15.toArray := hp7_
    have e100 : ρ 21 = .int .u64 x27 := hp6_
    have e101 : ρ 20 = .agg cs15.toArray := hp5_
    have e102 : ρ 19 = .bool x25 := hp4_
    have e103 : ρ 18 = .bool x25 := hp3_
    obtain ⟨cs104, e106⟩ := hp2_
    have e106 : ρ 17 = .agg cs104.toArray := e106
    try rw [e106] at hs
    have e107 : ρ 16 = .slice a2 x1.length c3 := hp1_
    have e108 : ρ 15 = .agg cs15.toArray := hp0_
    have hl105 := hs.agglen (n := 1) 0 rfl rfl rfl
    refine WA.step [14] (by kernel_rfl) (by simp) ⟨?_, trivial⟩
    refine WL.assign (v := .bool false) e93 ?_
    refine WL.nil ⟨rfl, _, rfl, ?_⟩
    refine WA.done (by kernel_rfl) ?_
    exact Jk21 false _ _ rfl ((hs.mask []).pick []) hf } } }
    {
    refine W.any (by kernel_rfl) 14 1 [true, true, true, true, true, true, true, true, true, true, true, true, true, true, false] rfl rfl (poAt [pv (.agg cs15.toArray), pv (.slice a2 x1.length c3), pq (fun y : List Value => .agg y.toArray) (fun v => [vl t_fold_Store x22 v]) (fun v => []), pv (.bool x25), pv (.bool x25), pv (undef), pv (undef), pv (undef), pv (undef), pv (undef), pv (.bool false), pv (.bool false), pv (undef), pv (.bool false)]) (Λ := [blk g17 29 cs15]) hs (by kernel_rfl) (by kernel_rfl) (by kernel_rfl) ⟨⟨⟨⟨⟨⟨⟨⟨⟨⟨⟨⟨⟨⟨trivial, ?_⟩, ?_⟩, ?_⟩, ?_⟩, ?_⟩, ?_⟩, ?_⟩, ?_⟩, ?_⟩, ?_⟩, ?_⟩, ?_⟩, ?_⟩, ?_⟩ ?_
    {
    intro ρ w Γx Λx hs hu hp
    refine WL.loadAll hs (Λx.length + 0) (getApp rfl) TI29 (hu 3 rfl) hl16 ?_
    exact WL.nil ⟨rfl, _, rfl, rfl, hs.cutG 0 0⟩ }
    {
    intro ρ w Γx Λx hs hu hp
    refine WL.move (v := .slice a2 x1.length c3) ((hu 0 rfl).trans h7_0) ?_
    exact WL.nil ⟨rfl, _, rfl, rfl, hs.cutG 0 0⟩ }
    {
    intro ρ w Γx Λx hs hu hp
    have e109 : ρ 16 = .slice a2 x1.length c3 := (hp 1 rfl).1
    refine WL.call (vs := [.slice a2 x1.length c3]) hs FN15 ⟨e109, trivial⟩ (fun ok hA => esref32_Fold.calls (x1 := x1) hxx22 (hA.get (Γx.length + 1) (getApp rfl))) ?_
    rintro cs23 w hs
    have hl24 := hs.agglen (n := 1) 0 rfl rfl rfl
    have hs := hs.add (it := vl t_fold_Store x22 (.agg cs23.toArray)) fun ok hA => hA.get 0 rfl
    exact WL.nil ⟨rfl, _, rfl, ⟨cs23, rfl⟩, hs.cutG 1 1⟩ }
    {
    intro ρ w Γx Λx hs hu hp
    have e110 : ρ 15 = .agg cs15.toArray := (hp 0 rfl).1
    obtain ⟨⟨cs111, e113r⟩, hm114⟩ := hp 2 rfl
    have e113 : ρ 17 = .agg cs111.toArray := e113r
    rw [e113r] at hm114
    have hs := hs.memo1 (it := vl t_fold_Store x22 (.agg cs111.toArray)) (List.mem_append.2 (.inl (hm114 _ (List.mem_of_getElem? (i := 0) rfl))))
    have hl112 := hs.agglen (n := 1) 0 rfl rfl rfl
    refine WL.call (vs := [.agg cs15.toArray, .agg cs111.toArray]) hs FN14 ⟨e110, ⟨e113, trivial⟩⟩ (fun ok hA => esref32_Equal.calls (x1 := x14) (x5 := x22) hxx25 (hA.get (Γx.length + 0 + 1) (getApp1 rfl)) (hA.get 0 rfl)) ?_
    rintro _ w hs
    exact WL.nil ⟨rfl, _, rfl, rfl, hs.cutG 0 1⟩ }
    {
    intro ρ w Γx Λx hs hu hp
    have e115 : ρ 18 = .bool x25 := (hp 3 rfl).1
    refine WL.move (v := .bool x25) e115 ?_
    exact WL.nil ⟨rfl, _, rfl, rfl, hs.cutG 0 0⟩ }
    {
    intro ρ w Γx Λx hs hu hp
    have e116 : ρ 19 = .bool x25 := (hp 4 rfl).1
    refine WL.pass ((wanted_of rfl rfl (bool_tr e116 hc26)).trans rfl) rfl ?_
    exact WL.nil ⟨rfl, _, rfl, rfl, hs.cutG 0 0⟩ }
    {
    intro ρ w Γx Λx hs hu hp
    have e117 : ρ 20 = undef := (hp 5 rfl).1
    have e118 : ρ 19 = .bool x25 := (hp 4 rfl).1
    refine WL.pass ((wanted_of rfl rfl (bool_tr e118 hc26)).trans rfl) rfl ?_
    exact WL.nil ⟨rfl, _, rfl, rfl, hs.cutG 0 0⟩ }
    {
    intro ρ w Γx Λx hs hu hp
    have e119 : ρ 19 = .bool x25 := (hp 4 rfl).1
    refine WL.pass ((wanted_of rfl rfl (bool_tr e119 hc26)).trans rfl) rfl ?_
    exact WL.nil ⟨rfl, _, rfl, rfl, hs.cutG 0 0⟩ }
    {
    intro ρ w Γx Λx hs hu hp
    have e120 : ρ 22 = undef := (hp 7 rfl).1
    have e121 : ρ 19 = .bool x25 := (hp 4 rfl).1
    refine WL.pass ((wanted_of rfl rfl (bool_tr e121 hc26)).trans rfl) rfl ?_
    exact WL.nil ⟨rfl, _, rfl, rfl, hs.cutG 0 0⟩ }
    {
    intro ρ w Γx Λx hs hu hp
    have e122 : ρ 21 = undef := (hp 6 rfl).1
    have e123 : ρ 23 = undef := (hp 8 rfl).1
    have e124 : ρ 19 = .bool x25 := (hp 4 rfl).1
    refine WL.pass ((wanted_of rfl rfl (bool_tr e124 hc26)).trans rfl) rfl ?_
    exact WL.nil ⟨rfl, _, rfl, rfl, hs.cutG 0 0⟩ }
    {
    intro ρ w Γx Λx hs hu hp
    have e125 : ρ 19 = .bool x25 := (hp 4 rfl).1
    have e126 : ρ 24 = undef := (hp 9 rfl).1
    refine WL.pickF (v := .bool false) (bool_tr e125 hc26) rfl ?_
    exact WL.nil ⟨rfl, _, rfl, rfl, hs.cutG 0 0⟩ }
    {
    intro ρ w Γx Λx hs hu hp
    have e127 : ρ 25 = .bool false := (hp 10 rfl).1
    refine WL.move (v := .bool false) e127 ?_
    exact WL.nil ⟨rfl, _, rfl, rfl, hs.cutG 0 0⟩ }
    {
    intro ρ w Γx Λx hs hu hp
    have e128 : ρ 26 = .bool false := (hp 11 rfl).1
    refine WL.pass ((wanted_of rfl rfl e128).trans rfl) rfl ?_
    exact WL.nil ⟨rfl, _, rfl, rfl, hs.cutG 0 0⟩ }
    {
    intro ρ w Γx Λx hs hu hp
    have e129 : ρ 26 = .bool false := (hp 11 rfl).1
    have e130 : ρ 27 = undef := (hp 12 rfl).1
    refine WL.pickF (v := .bool false) e129 rfl ?_
    exact WL.nil ⟨rfl, _, rfl, rfl, hs.cutG 0 0⟩ }
    {
    intro ρ w hs hu131 hp
    obtain ⟨⟨⟨⟨⟨⟨⟨⟨⟨⟨⟨⟨⟨⟨_, hp0_⟩, hp1_⟩, hp2_⟩, hp3_⟩, hp4_⟩, hp5_⟩, hp6_⟩, hp7_⟩, hp8_⟩, hp9_⟩, hp10_⟩, hp11_⟩, hp12_⟩, hp13_⟩ := hp
    have hs : St ok (bz w0) w [vl t_fold_Store x22 (ρ 17), vl t_fold_Store x14 (.agg cs15.toArray), vl (tSlice t_api_Update) x1 (.slice a2 x1.length c3)] [blk g17 29 cs15] := hs
    have e132 : ρ 28 = .bool false := hp13_
    have e133 : ρ 27 = undef := hp12_
    have e134 : ρ 26 = .bool false := hp11_
    have e135 : ρ 25 = .bool false := hp10_
    have e136 : ρ 24 = undef := hp9_
    have e137 : ρ 23 = undef := hp8_
    have e138 : ρ 22 = undef := hp7_
    have e139 : ρ 21 = undef := hp6_
    have e140 : ρ 20 = undef := hp5_
    have e141 : ρ 19 = .bool x25 := hp4_
    have e142 : ρ 18 = .bool x25 := hp3_
    obtain ⟨cs143, e145⟩ := hp2_
    have e145 : ρ 17 = .agg cs143.toArray := e145
    try rw [e145] at hs
    have e146 : ρ 16 = .slice a2 x1.length c3 := hp1_
    have e147 : ρ 15 = .agg cs15.toArray := hp0_
    have hl144 := hs.agglen (n := 1) 0 rfl rfl rfl
    refine WA.step [14] (by kernel_rfl) (by simp) ⟨?_, trivial⟩
    refine WL.assign (v := .bool false) e132 ?_
    refine WL.nil ⟨rfl, _, rfl, ?_⟩
    refine WA.done (by kernel_rfl) ?_
    exact Jk21 false _ _ rfl ((hs.mask []).pick []) hf } } }
  refine W.region ?_
  refine WL.move (v := .slice a2 x1.length c3) rfl ?_
  refine WL.len (v := .slice a2 x1.length c3) rfl (len_slice UN23) ?_
  refine WL.bin (v := .bool (decide (48 < (x1.length : Int)))) rfl rfl (ib_gtr _ _ _) ?_
  refine WL.move (v := .bool (decide (48 < (x1.length : Int)))) rfl ?_
  rcases iteE hf with ⟨hc148, hf⟩ | ⟨hc148, hf⟩
  {
  refine WL.pass ((wanted_of rfl rfl (bool_tr rfl hc148)).trans rfl) rfl ?_
  refine WL.pass ((wanted_of rfl rfl (bool_tr rfl hc148)).trans rfl) rfl ?_
  refine WL.pass ((wanted_of rfl rfl (bool_tr rfl hc148)).trans rfl) rfl ?_
  refine WL.pickT (v := .bool true) (bool_tr rfl hc148) rfl ?_
  refine WL.nil ?_
  exact Jk9 true _ _ rfl rfl ((hs.mask []).pick [0]) hf }
  {
  refine WL.move (v := .slice a2 x1.length c3) rfl ?_ (hg := (wanted_of rfl rfl (bool_tr rfl hc148)).trans rfl)
  obtain ⟨x149, hxx149, hf⟩ := bindE hf
  refine WL.call (vs := [.slice a2 x1.length c3]) hs FN11 ⟨rfl, trivial⟩ (fun ok hA => esref14_ValidateState.calls (x1 := x1) hxx149 (hA.get 0 rfl)) ?_ (hg := (wanted_of rfl rfl (bool_tr rfl hc148)).trans rfl)
  rintro _ w hs
  refine WL.bin (v := .bool (x149 != 0)) rfl rfl (ib_neq _ _ _) ?_ (hg := (wanted_of rfl rfl (bool_tr rfl hc148)).trans rfl)
  refine WL.pickF (v := .bool (x149 != 0)) (bool_tr rfl hc148) rfl ?_
  refine WL.nil ?_
  exact Jk9 (x149 != 0) _ _ rfl rfl ((hs.mask []).pick [0]) hf }
end Go.Proofs.Ytlbcfjblpopcnaa
set_option linter.unusedVariables false
set_option linter.unusedSimpArgs false
namespace Go.Proofs.Ytlbcfjblpopcnaa
open Go Go.Proofs.YtlbcfjblpopcnaaL
end Go.Proofs.Ytlbcfjblpopcnaa
set_option linter.unusedVariables false
set_option linter.unusedSimpArgs false
namespace Go.Proofs.Ytlbcfjblpopcnaa
open Go Go.Proofs.YtlbcfjblpopcnaaL
structure GD (n : Nat) (objs : List fold_Object) : Prop where
  asc : SA ON_ objs
  len : objs.length ≤ n
  name : ∀ o ∈ objs, o.Name.length ≤ 1000
  ne : ∀ o ∈ objs, o.Fields ≠ []
  fasc : ∀ o ∈ objs, SA FN_ o.Fields
  flen : ∀ o ∈ objs, o.Fields.length ≤ n
  good : ∀ o ∈ objs, ∀ y ∈ o.Fields, GF n y
theorem GD_nil (n : Nat) : GD n [] := ⟨List.Pairwise.nil, Nat.zero_le _, by simp, by simp, by simp, by simp, by simp⟩
def appT (u : api_Update) (objs : List fold_Object) : List fold_Object := u.Effects.foldl (effT u) objs
def foldT (s : List api_Update) (objs : List fold_Object) : List fold_Object := s.foldl (fun o u => appT u o) objs
theorem apply_ex {u : api_Update} {n : Nat} {x : fold_B} (h : BI n x) (he : ∀ e ∈ u.Effects, EF e) (hn : n + u.Effects.length ≤ 1000000) :
    ∃ x', fold_apply u x = some x' ∧ BI (n + u.Effects.length) x' ∧ canonB x' = appT u (canonB x) := by
  unfold fold_apply
  refine loopO_inv (I := fun k s => s.1 = (k : Int) ∧ BI (n + k) s.2 ∧ canonB s.2 = (u.Effects.take k).foldl (effT u) (canonB x)) u.Effects.length ⟨rfl, h, rfl⟩ ?_ ?_
  · rintro k ⟨i, y⟩ hk ⟨hi, h1, h2⟩
    simp only at hi h1 h2
    subst hi
    obtain ⟨x', e1, e2, e3⟩ := eff_eq (u := u) h1 (he _ (List.getElem_mem hk)) (by omega)
    refine ⟨(((k + 1 : Nat) : Int), x'), ?_, rfl, e2, ?_⟩
    · unfold fold_apply.l1
      simp only [lt_of_len hk, if_true, idx_nat hk, Option.bind_some, e1, letV, wcast hk (by omega)]
    · rw [take_snoc hk, List.foldl_append, ← h2, e3]
      rfl
  · rintro ⟨i, y⟩ ⟨hi, h1, h2⟩
    simp only at hi h1 h2
    subst hi
    rw [List.take_length] at h2
    refine ⟨y, ?_, h1, h2⟩
    unfold fold_apply.l1
    simp only [not_lt_len, Bool.false_eq_true, if_false]
theorem clone_eq {l : List (List UInt8)} (h : l.length ≤ 1000000) : slices_Clone_string l = some l := by
  unfold slices_Clone_string
  rw [app_of (by simp; omega)]
  rfl
theorem names_ne {α : Type} {key : α → List UInt8} {l : List α} (h : SA key l) : (l.map key).Nodup := by
  refine List.pairwise_map.2 (h.imp fun {a b} hab e => ?_)
  rw [e, bl_irrefl] at hab
  cases hab
def loaded (objs : List fold_Object) : fold_B := objs.map fun o => (o.Name, o.Fields)
theorem load_fields {n : Nat} {o : fold_Object} (h1 : SA FN_ o.Fields) (h2 : o.Fields.length ≤ n) (h3 : ∀ y ∈ o.Fields, GF n y) (hn : n ≤ 1000000) : loopO (fold_load.l1 o) (0, []) = some o.Fields := by
  have := loopO_up (step := fold_load.l1 o) (fun k => ((k : Int), o.Fields.take k)) o.Fields.length (b := o.Fields) (fun k hk => ?_) ?_
  · exact this
  · have hg := h3 _ (List.getElem_mem hk)
    unfold fold_load.l1
    simp only [lt_of_len hk, if_true, idx_nat hk, Option.bind_some]
    rw [clone_eq (by have := hg.len; omega), Option.bind_some, letV, wcast hk (by omega)]
    have e : fput fold_Field.Name o.Fields[k] (o.Fields.take k) = o.Fields.take (k + 1) := by
      rw [take_snoc hk, fput_none]
      rw [List.find?_eq_none]
      intro y hy
      obtain ⟨j, hj, rfl⟩ := List.getElem_of_mem hy
      rw [List.length_take] at hj
      have := List.pairwise_iff_getElem.1 h1 j k (by omega) hk (by omega)
      rw [List.getElem_take]
      intro he
      have he : o.Fields[k].Name = (o.Fields[j]'(by omega)).Name := by simpa using he
      have this : Op.bytesLess (o.Fields[j]'(by omega)).Name o.Fields[k].Name = true := this
      rw [he, bl_irrefl] at this
      cases this
    rw [show ({ o.Fields[k] with Elems := o.Fields[k].Elems } : fold_Field) = o.Fields[k] from rfl, e]
  · unfold fold_load.l1
    simp only [not_lt_len, Bool.false_eq_true, if_false, List.take_length]
theorem load_eq {n : Nat} {t : fold_Store} (h : GD n t.Objects) (hn : n ≤ 1000000) : fold_load t = some (loaded t.Objects) := by
  unfold fold_load
  have hlen := h.len
  have := loopO_up (step := fold_load.l2 t) (fun k => ((k : Int), loaded (t.Objects.take k))) t.Objects.length (b := loaded t.Objects) (fun k hk => ?_) ?_
  · exact this
  · have hm := List.getElem_mem hk
    unfold fold_load.l2
    simp only [lt_of_len hk, if_true, idx_nat hk, Option.bind_some]
    rw [load_fields (h.fasc _ hm) (h.flen _ hm) (h.good _ hm) hn, Option.bind_some, letV, wcast hk (by omega)]
    have e : mset (loaded (t.Objects.take k)) t.Objects[k].Name t.Objects[k].Fields = loaded (t.Objects.take (k + 1)) := by
      unfold loaded
      rw [take_snoc hk, List.map_append, mset_none]
      · rfl
      · cases hl : (List.map (fun o : fold_Object => (o.Name, o.Fields)) (List.take k t.Objects)).lookup t.Objects[k].Name with
        | none => rfl
        | some fs =>
          exfalso
          obtain ⟨o, ho, he⟩ := List.mem_map.1 (lookup_mem hl)
          have he : o.Name = t.Objects[k].Name := congrArg Prod.fst he
          obtain ⟨j, hj, rfl⟩ := List.getElem_of_mem ho
          rw [List.length_take] at hj
          have := List.pairwise_iff_getElem.1 h.asc j k (by omega) hk (by omega)
          rw [List.getElem_take] at he
          have this : Op.bytesLess (t.Objects[j]'(by omega)).Name t.Objects[k].Name = true := this
          rw [he, bl_irrefl] at this
          cases this
    rw [e]
  · unfold fold_load.l2
    simp only [not_lt_len, Bool.false_eq_true, if_false, List.take_length]
theorem BI_loaded {n : Nat} {objs : List fold_Object} (h : GD n objs) : BI n (loaded objs) := by
  have hm : ∀ o ∈ loaded objs, ∃ p ∈ objs, o = (p.Name, p.Fields) := fun o ho => by
    obtain ⟨p, hp, rfl⟩ := List.mem_map.1 ho
    exact ⟨p, hp, rfl⟩
  refine ⟨?_, by unfold loaded; rw [List.length_map]; exact h.len, fun o ho => ?_, fun o ho => ?_, fun o ho => ?_, fun o ho => ?_, fun o ho => ?_⟩
  · unfold loaded
    rw [List.map_map]
    exact names_ne h.asc
  all_goals obtain ⟨p, hp, rfl⟩ := hm o ho
  · exact h.name p hp
  · exact h.ne p hp
  · exact names_ne (h.fasc p hp)
  · exact h.flen p hp
  · exact h.good p hp
theorem canonF_self {fs : List fold_Field} (h : SA FN_ fs) : canonF fs = fs := SA_ext (SA_canonF (names_ne h)) h fun k => get_canonF fs k
theorem loaded_lookup (objs : List fold_Object) (k : List UInt8) : (loaded objs).lookup k = (get ON_ objs k).map (·.Fields) := by
  induction objs with
  | nil => rfl
  | cons a objs ih =>
    unfold loaded at ih ⊢
    rw [List.map_cons, List.lookup_cons, get_cons]
    by_cases h : ON_ a = k
    · rw [if_pos h, show (k == a.Name) = true by rw [← h]; simp]
      rfl
    · rw [if_neg h, show (k == a.Name) = false by rw [beq_eq_false_iff_ne]; exact fun e => h e.symm]
      exact ih
theorem canon_loaded {n : Nat} {objs : List fold_Object} (h : GD n objs) : canonB (loaded objs) = objs := by
  refine SA_ext (SA_canonB (BI_loaded h).keys) h.asc fun k => ?_
  rw [get_canonB, loaded_lookup]
  cases hg : get ON_ objs k with
  | none => rfl
  | some o =>
    show some (⟨k, canonF o.Fields⟩ : fold_Object) = some o
    rw [canonF_self (h.fasc o (get_mem hg)), ← get_key hg]
theorem canonF_mem {fs : List fold_Field} {y : fold_Field} (h : y ∈ canonF fs) : y ∈ fs := by
  unfold canonF at h
  obtain ⟨n, hn, rfl⟩ := List.mem_map.1 h
  rw [mem_srt, get_names] at hn
  cases hg : get FN_ fs n with
  | none => rw [hg] at hn; cases hn
  | some y => exact get_mem hg
theorem GD_canon {n : Nat} {x : fold_B} (h : BI n x) : GD n (canonB x) := by
  have hm : ∀ o ∈ canonB x, ∃ fs, (o.Name, fs) ∈ x ∧ o.Fields = canonF fs := by
    intro o ho
    have hg := get_mem_self (SA_canonB h.keys) ho
    rw [get_canonB] at hg
    cases hl : x.lookup (ON_ o) with
    | none => rw [hl] at hg; cases hg
    | some fs =>
      rw [hl] at hg
      have := Option.some.inj hg
      exact ⟨fs, lookup_mem hl, by rw [← this]⟩
  refine ⟨SA_canonB h.keys, ?_, fun o ho => ?_, fun o ho => ?_, fun o ho => ?_, fun o ho => ?_, fun o ho y hy => ?_⟩
  · unfold canonB
    rw [List.length_map, List.length_mergeSort, List.length_map]
    exact h.len
  all_goals obtain ⟨fs, h1, h2⟩ := hm o ho
  · exact h.name _ h1
  · rw [h2]
    intro he
    have := congrArg List.length he
    unfold canonF at this
    rw [List.length_map, List.length_mergeSort, List.length_map] at this
    exact h.ne _ h1 (List.length_eq_zero_iff.1 this)
  · rw [h2]; exact SA_canonF (h.names _ h1)
  · rw [h2]
    unfold canonF
    rw [List.length_map, List.length_mergeSort, List.length_map]
    exact h.flen _ h1
  · rw [h2] at hy
    exact h.good _ h1 y (canonF_mem hy)
theorem Apply_eq {n : Nat} {t : fold_Store} {u : api_Update} (h : GD n t.Objects) (he : ∀ e ∈ u.Effects, EF e) (hn : n + u.Effects.length ≤ 1000000) :
    fold_Apply t u = some ⟨appT u t.Objects⟩ ∧ GD (n + u.Effects.length) (appT u t.Objects) := by
  unfold fold_Apply
  obtain ⟨x', e1, e2, e3⟩ := apply_ex (u := u) (BI_loaded h) he hn
  rw [canon_loaded h] at e3
  rw [load_eq h (by omega), Option.bind_some, e1, Option.bind_some, fold_store_eq e2 hn, e3]
  exact ⟨rfl, e3 ▸ GD_canon e2⟩
end Go.Proofs.Ytlbcfjblpopcnaa
set_option linter.unusedVariables false
set_option linter.unusedSimpArgs false
namespace Go.Proofs.Ytlbcfjblpopcnaa
open Go Go.Proofs.YtlbcfjblpopcnaaL
def effN (s : List api_Update) : Nat := (s.map fun u => u.Effects.length).sum
theorem Fold_eq {s : List api_Update} (he : ∀ u ∈ s, ∀ e ∈ u.Effects, EF e) (hn : effN s ≤ 1000000) (hl : s.length ≤ 1000000) :
    fold_Fold s = some ⟨foldT s []⟩ ∧ GD (effN s) (foldT s []) := by
  unfold fold_Fold
  have key : ∃ b, loopO (fold_Fold.l1 s) (0, []) = some b ∧ BI (effN s) b ∧ canonB b = foldT s [] := by
    have hsum : ∀ k, k ≤ s.length → effN (s.take k) ≤ effN s := by
      intro k hk
      unfold effN
      have : s.map (fun u => u.Effects.length) = (s.take k).map (fun u => u.Effects.length) ++ (s.drop k).map (fun u => u.Effects.length) := by rw [← List.map_append, List.take_append_drop]
      rw [this, List.sum_append]
      omega
    refine loopO_inv (I := fun k s' => s'.1 = (k : Int) ∧ BI (effN (s.take k)) s'.2 ∧ canonB s'.2 = foldT (s.take k) []) s.length ⟨rfl, ?_, ?_⟩ ?_ ?_
    · exact ⟨List.nodup_nil, Nat.zero_le _, by simp, by simp, by simp, by simp, by simp⟩
    · simp [canonB, srtN, foldT]
    · rintro k ⟨i, y⟩ hk ⟨hi, h1, h2⟩
      simp only at hi h1 h2
      subst hi
      have hs := hsum (k + 1) hk
      have es : effN (s.take (k + 1)) = effN (s.take k) + s[k].Effects.length := by
        unfold effN
        rw [take_snoc hk, List.map_append, List.sum_append]
        simp
      obtain ⟨x', e1, e2, e3⟩ := apply_ex (u := s[k]) h1 (he _ (List.getElem_mem hk)) (by omega)
      refine ⟨(((k + 1 : Nat) : Int), x'), ?_, rfl, by rw [es]; exact e2, ?_⟩
      · unfold fold_Fold.l1
        simp only [lt_of_len hk, if_true, idx_nat hk, Option.bind_some, e1, letV, wcast hk (by omega)]
      · show canonB x' = _
        rw [e3, h2, take_snoc hk]
        unfold foldT
        rw [List.foldl_append]
        rfl
    · rintro ⟨i, y⟩ ⟨hi, h1, h2⟩
      simp only at hi h1 h2
      subst hi
      rw [List.take_length] at h1 h2
      refine ⟨y, ?_, h1, h2⟩
      unfold fold_Fold.l1
      simp only [not_lt_len, Bool.false_eq_true, if_false]
  obtain ⟨b, e1, e2, e3⟩ := key
  rw [e1, Option.bind_some, fold_store_eq e2 hn, e3]
  exact ⟨rfl, e3 ▸ GD_canon e2⟩
theorem GD_one {n : Nat} {objs : List fold_Object} (h : GD n objs) {o : fold_Object} (ho : o ∈ objs) : GD n [o] := by
  refine ⟨List.pairwise_singleton _ _, ?_, ?_, ?_, ?_, ?_, ?_⟩
  · have := List.length_pos_of_mem ho
    have := h.len
    simp only [List.length_singleton]
    omega
  all_goals intro p hp; simp at hp; subst hp
  · exact h.name _ ho
  · exact h.ne _ ho
  · exact h.fasc _ ho
  · exact h.flen _ ho
  · exact h.good _ ho
end Go.Proofs.Ytlbcfjblpopcnaa
set_option linter.unusedVariables false
set_option linter.unusedSimpArgs false
namespace Go.Proofs.Ytlbcfjblpopcnaa
open Go Go.Proofs.YtlbcfjblpopcnaaL
end Go.Proofs.Ytlbcfjblpopcnaa
set_option linter.unusedVariables false
namespace Go.Proofs.Ytlbcfjblpopcnaa
open Go Go.Proofs.YtlbcfjblpopcnaaL
end Go.Proofs.Ytlbcfjblpopcnaa
set_option linter.unusedVariables false
set_option linter.unusedSimpArgs false
namespace Go.Proofs.Ytlbcfjblpopcnaa
open Go Go.Proofs.YtlbcfjblpopcnaaL
theorem Find_eq {n : Nat} {t : fold_Store} (h : GD n t.Objects) (hn : n ≤ 1000000) (k : List UInt8) : fold_Find t k = some ((get ON_ t.Objects k).getD ⟨k, []⟩) := by
  unfold fold_Find
  have hlen := h.len
  have key : loopO (fold_Find.l1 t k) 0 = some (match get ON_ t.Objects k with | some o => .inr o | none => .inl ()) := by
    have h1 := loopO_runL (step := fold_Find.l1 t k) (fun i (_ : Unit) => (i : Int)) (fun _ o (_ : Unit) => if o.Name = k then some (.inr (.inr o)) else some (.inl ())) (fun _ => some (.inl ())) t.Objects (fun i hi _ => ?_) (fun _ => ?_) ()
    · have h2 : ∀ (l : List fold_Object) (i : Nat), runL (fun _ (o : fold_Object) (_ : Unit) => if o.Name = k then some (.inr (.inr o : Unit ⊕ fold_Object)) else some (.inl ())) (fun _ => some (.inl ())) i l () = some (match get ON_ l k with | some o => .inr o | none => .inl ()) := by
        intro l
        induction l with
        | nil => intro i; rfl
        | cons o l ih =>
          intro i
          rw [runL, get_cons]
          by_cases he : o.Name = k
          · rw [if_pos he, if_pos he]
          · rw [if_neg he, if_neg he]
            exact ih _
      rw [← h2 t.Objects 0]
      exact h1
    · have hm := List.getElem_mem hi
      unfold fold_Find.l1
      simp only [lt_of_len hi, if_true, idx_nat hi, Option.bind_some]
      by_cases he : t.Objects[i].Name = k
      · rw [if_pos (by simp [he]), if_pos he]
        have hone := GD_one h hm
        rw [load_eq (t := ⟨[t.Objects[i]]⟩) hone hn, Option.bind_some, fold_store_eq (BI_loaded hone) hn, Option.bind_some, canon_loaded hone]
        rfl
      · rw [if_neg (by simpa using he), if_neg he, letV, wcast hi (by omega)]
    · unfold fold_Find.l1
      simp only [not_lt_len, Bool.false_eq_true, if_false]
      rfl
  rw [key, Option.bind_some]
  cases get ON_ t.Objects k with
  | none => rfl
  | some o => rfl
theorem FieldOf_eq {n : Nat} {o : fold_Object} (h1 : o.Fields.length ≤ n) (h2 : ∀ y ∈ o.Fields, GF n y) (hn : n ≤ 1000000) (k : List UInt8) :
    fold_FieldOf o k = some ((get FN_ o.Fields k).getD { fold_zero with Name := k }) := by
  unfold fold_FieldOf
  have key : loopO (fold_FieldOf.l1 o k) (0, (⟨[], (⟨false, 0, 0, 0, 0, []⟩ : fold_Register), false, 0, 0, [], false⟩ : fold_Field)) = some (match get FN_ o.Fields k with | some y => .inr y | none => .inl ⟨[], ⟨false, 0, 0, 0, 0, []⟩, false, 0, 0, [], false⟩) := by
    have h1 := loopO_runL (step := fold_FieldOf.l1 o k) (fun i (z : fold_Field) => ((i : Int), z)) (fun _ y (z : fold_Field) => if y.Name = k then some (.inr (.inr y)) else some (.inl z)) (fun z => some (.inl z)) o.Fields (fun i hi z => ?_) (fun z => ?_) ⟨[], ⟨false, 0, 0, 0, 0, []⟩, false, 0, 0, [], false⟩
    · have h2 : ∀ (l : List fold_Field) (i : Nat) (z : fold_Field), runL (fun _ (y : fold_Field) (z : fold_Field) => if y.Name = k then some (.inr (.inr y : fold_Field ⊕ fold_Field)) else some (.inl z)) (fun z => some (.inl z)) i l z = some (match get FN_ l k with | some y => .inr y | none => .inl z) := by
        intro l
        induction l with
        | nil => intro i z; rfl
        | cons o l ih =>
          intro i z
          rw [runL, get_cons]
          by_cases he : o.Name = k
          · rw [if_pos he, if_pos he]
          · rw [if_neg he, if_neg he]
            exact ih _ z
      rw [← h2 o.Fields 0]
      exact h1
    · have hm := List.getElem_mem hi
      unfold fold_FieldOf.l1
      simp only [lt_of_len hi, if_true, idx_nat hi, Option.bind_some]
      by_cases he : o.Fields[i].Name = k
      · rw [if_pos (by simp [he]), if_pos he, clone_eq (by have := (h2 _ hm).len; omega)]
        rfl
      · rw [if_neg (by simpa using he), if_neg he, letV, wcast hi (by omega)]
    · unfold fold_FieldOf.l1
      simp only [not_lt_len, Bool.false_eq_true, if_false]
      rfl
  rw [key, Option.bind_some]
  cases get FN_ o.Fields k with
  | none => rfl
  | some o => rfl
end Go.Proofs.Ytlbcfjblpopcnaa
set_option linter.unusedVariables false
set_option linter.unusedSimpArgs false
namespace Go.Proofs.Ytlbcfjblpopcnaa
open Go Go.Proofs.YtlbcfjblpopcnaaL
theorem strings_refl {l : List (List UInt8)} (h : l.length ≤ 1000000) : slices_Equal_string l l = some true := by
  unfold slices_Equal_string
  rw [if_neg (by simp)]
  have := loopO_up (step := slices_Equal_string.l1 l l) (fun k => (k : Int)) l.length (b := .inl ()) (fun k hk => ?_) ?_
  · have this : loopO (slices_Equal_string.l1 l l) 0 = some (.inl ()) := this
    rw [this]; rfl
  · unfold slices_Equal_string.l1
    simp only [lt_of_len hk, if_true, idx_nat hk, Option.bind_some, bne_self_eq_false, Bool.false_eq_true, if_false, letV_of, wcast hk (by omega)]
  · unfold slices_Equal_string.l1
    simp only [not_lt_len, Bool.false_eq_true, if_false]
theorem field_refl {n : Nat} {y : fold_Field} (h : GF n y) (hn : n ≤ 1000000) : fold_equalFields y y = some true := by
  unfold fold_equalFields
  have := h.len
  simp only [beq_self_eq_true, if_true, decide_true, strings_refl (show y.Elems.length ≤ 1000000 by omega), Option.bind_some, fold_equalFields.j1]
theorem fields_refl {n : Nat} {l : List fold_Field} (h : ∀ y ∈ l, GF n y) (hl : l.length ≤ n) (hn : n ≤ 1000000) : slices_EqualFunc_Field l l (fun p => fold_equalFields p.1 p.2) = some true := by
  unfold slices_EqualFunc_Field
  rw [if_neg (by simp)]
  have := loopO_up (step := slices_EqualFunc_Field.l1 l l (fun p => fold_equalFields p.1 p.2)) (fun k => (k : Int)) l.length (b := .inl ()) (fun k hk => ?_) ?_
  · have this : loopO (slices_EqualFunc_Field.l1 l l (fun p => fold_equalFields p.1 p.2)) 0 = some (.inl ()) := this
    rw [this]; rfl
  · unfold slices_EqualFunc_Field.l1
    simp only [lt_of_len hk, if_true, idx_nat hk, Option.bind_some, field_refl (h _ (List.getElem_mem hk)) hn, Bool.not_true, Bool.false_eq_true, if_false, letV_of, wcast hk (by omega)]
  · unfold slices_EqualFunc_Field.l1
    simp only [not_lt_len, Bool.false_eq_true, if_false]
theorem object_refl {n : Nat} {o : fold_Object} (h : ∀ y ∈ o.Fields, GF n y) (hl : o.Fields.length ≤ n) (hn : n ≤ 1000000) : fold_equalObjects o o = some true := by
  unfold fold_equalObjects
  simp only [beq_self_eq_true, if_true, fields_refl h hl hn, Option.bind_some, fold_equalObjects.j1]
theorem Equal_refl {n : Nat} {t : fold_Store} (h : GD n t.Objects) (hn : n ≤ 1000000) : fold_Equal t t = some true := by
  unfold fold_Equal slices_EqualFunc_Object
  have hlen := h.len
  rw [if_neg (by simp)]
  have := loopO_up (step := slices_EqualFunc_Object.l1 t.Objects t.Objects (fun p => fold_equalObjects p.1 p.2)) (fun k => (k : Int)) t.Objects.length (b := .inl ()) (fun k hk => ?_) ?_
  · have this : loopO (slices_EqualFunc_Object.l1 t.Objects t.Objects (fun p => fold_equalObjects p.1 p.2)) 0 = some (.inl ()) := this
    rw [this]; rfl
  · have hm := List.getElem_mem hk
    unfold slices_EqualFunc_Object.l1
    simp only [lt_of_len hk, if_true, idx_nat hk, Option.bind_some, object_refl (h.good _ hm) (h.flen _ hm) hn, Bool.not_true, Bool.false_eq_true, if_false, letV_of, wcast hk (by omega)]
  · unfold slices_EqualFunc_Object.l1
    simp only [not_lt_len, Bool.false_eq_true, if_false]
def wU : api_Update := ⟨101, 1, 0, [⟨3, [120], [99], 2, []⟩]⟩
def wV : api_Update := ⟨102, 1, 0, [⟨3, [120], [99], 3, []⟩, ⟨4, [97], [115], 0, [113]⟩]⟩
def wT : List fold_Object := [⟨[97], [⟨[115], ⟨false, 0, 0, 0, 0, []⟩, false, 0, 0, [[113]], false⟩]⟩, ⟨[120], [⟨[99], ⟨false, 0, 0, 0, 0, []⟩, false, 0, 5, [], false⟩]⟩]
theorem wU_ef : ∀ e ∈ wU.Effects, EF e := by
  intro e he
  simp [wU] at he
  subst he
  exact ⟨by decide, by decide, by decide⟩
theorem wV_ef : ∀ e ∈ wV.Effects, EF e := by
  intro e he
  simp [wV] at he
  rcases he with rfl | rfl <;> exact ⟨by decide, by decide, by decide⟩
theorem awake_true : eslaw30_awake = some true := by
  unfold eslaw30_awake
  obtain ⟨e1, g1⟩ := Apply_eq (n := 0) (t := ⟨[]⟩) (u := wV) (GD_nil 0) wV_ef (by decide)
  have e1 : fold_Apply (⟨[]⟩ : fold_Store) (⟨102, 1, 0, [(⟨3, ([120] : List UInt8), ([99] : List UInt8), 3, []⟩ : api_Effect), (⟨4, ([97] : List UInt8), ([115] : List UInt8), 0, ([113] : List UInt8)⟩ : api_Effect)]⟩ : api_Update) = some ⟨appT wV []⟩ := e1
  obtain ⟨e2, g2⟩ := Apply_eq (t := ⟨appT wV []⟩) (u := wU) g1 wU_ef (by decide)
  have ew : appT wU (appT wV []) = wT := by decide
  have ew2 : foldT [wU, wV] [] = wT := by decide
  rw [ew] at e2 g2
  have e2 : fold_Apply ⟨appT wV []⟩ (⟨101, 1, 0, [(⟨3, ([120] : List UInt8), ([99] : List UInt8), 2, []⟩ : api_Effect)]⟩ : api_Update) = some ⟨wT⟩ := e2
  rw [e1, Option.bind_some, e2, Option.bind_some]
  obtain ⟨e3, _⟩ := Fold_eq (s := [wU, wV]) (by
    intro u hu
    simp at hu
    rcases hu with rfl | rfl
    · exact wU_ef
    · exact wV_ef) (by decide) (by decide)
  rw [ew2] at e3
  have e3 : fold_Fold ([(⟨101, 1, 0, [(⟨3, ([120] : List UInt8), ([99] : List UInt8), 2, []⟩ : api_Effect)]⟩ : api_Update), (⟨102, 1, 0, [(⟨3, ([120] : List UInt8), ([99] : List UInt8), 3, []⟩ : api_Effect), (⟨4, ([97] : List UInt8), ([115] : List UInt8), 0, ([113] : List UInt8)⟩ : api_Effect)]⟩ : api_Update)]) = some ⟨wT⟩ := e3
  have e4 := Find_eq (t := ⟨wT⟩) g2 (by decide) [120]
  have e5 : (get ON_ wT [120]).getD ⟨[120], []⟩ = ⟨[120], [⟨[99], ⟨false, 0, 0, 0, 0, []⟩, false, 0, 5, [], false⟩]⟩ := by decide
  rw [show (⟨wT⟩ : fold_Store).Objects = wT from rfl, e5] at e4
  have e6 := FieldOf_eq (n := 1) (o := ⟨[120], [⟨[99], ⟨false, 0, 0, 0, 0, []⟩, false, 0, 5, [], false⟩]⟩) (by decide) (by
    intro y hy
    simp at hy
    subst hy
    exact ⟨by decide, List.Pairwise.nil, by decide, by simp, by decide⟩) (by decide) [99]
  have e7 : (get FN_ [⟨[99], ⟨false, 0, 0, 0, 0, []⟩, false, 0, 5, [], false⟩] [99]).getD { fold_zero with Name := [99] } = ⟨[99], ⟨false, 0, 0, 0, 0, []⟩, false, 0, 5, [], false⟩ := by decide
  rw [show (⟨[120], [⟨[99], ⟨false, 0, 0, 0, 0, []⟩, false, 0, 5, [], false⟩]⟩ : fold_Object).Fields = [⟨[99], ⟨false, 0, 0, 0, 0, []⟩, false, 0, 5, [], false⟩] from rfl, e7] at e6
  have e8 := Equal_refl (t := ⟨wT⟩) g2 (by decide)
  have e9 : fold_Equal ⟨wT⟩ ⟨[]⟩ = some false := by
    unfold fold_Equal slices_EqualFunc_Object
    rw [if_pos (by decide)]
    rfl
  have e10 : fold_Hash ⟨[]⟩ = some 14695981039346656037 := by
    unfold fold_Hash
    rw [loopO_done (b := 14695981039346656037) (by unfold fold_Hash.l3; rfl)]
    rfl
  rw [if_pos (by decide)]
  rw [show idx (⟨wT⟩ : fold_Store).Objects 0 = some ⟨[97], [⟨[115], ⟨false, 0, 0, 0, 0, []⟩, false, 0, 0, [[113]], false⟩]⟩ from rfl, Option.bind_some, if_pos (by decide), e4, Option.bind_some, e6, Option.bind_some, if_pos (by decide), e3, Option.bind_some, e8, Option.bind_some, if_pos rfl, e9, Option.bind_some, if_pos (by decide), e10, Option.bind_some]
  rfl
end Go.Proofs.Ytlbcfjblpopcnaa
set_option linter.unusedVariables false
set_option linter.unusedSimpArgs false
namespace Go.Proofs.Ytlbcfjblpopcnaa
open Go Go.Proofs.YtlbcfjblpopcnaaL
theorem rstrings_refl {l : List (List UInt8)} (h : l.length ≤ 1000000) : esref32_EqualStrings l l = some true := by
  unfold esref32_EqualStrings
  rw [if_neg (by simp)]
  have := loopO_up (step := esref32_EqualStrings.l1 l l) (fun k => (k : Int)) l.length (b := .inl ()) (fun k hk => ?_) ?_
  · have this : loopO (esref32_EqualStrings.l1 l l) 0 = some (.inl ()) := this
    rw [this]; rfl
  · unfold esref32_EqualStrings.l1
    simp only [lt_of_len hk, if_true, idx_nat hk, Option.bind_some, bne_self_eq_false, Bool.false_eq_true, if_false, letV_of, wcast hk (by omega)]
  · unfold esref32_EqualStrings.l1
    simp only [not_lt_len, Bool.false_eq_true, if_false]
theorem rfield_refl {n : Nat} {y : fold_Field} (h : GF n y) (hn : n ≤ 1000000) : esref32_EqualField y y = some true := by
  unfold esref32_EqualField
  have := h.len
  simp only [beq_self_eq_true, if_true, decide_true, rstrings_refl (show y.Elems.length ≤ 1000000 by omega), Option.bind_some, esref32_EqualField.j1]
theorem robject_refl {n : Nat} {o : fold_Object} (h : ∀ y ∈ o.Fields, GF n y) (hl : o.Fields.length ≤ n) (hn : n ≤ 1000000) : esref32_EqualObject o o = some true := by
  unfold esref32_EqualObject
  rw [if_neg (by simp)]
  unfold esref32_EqualObject.j2
  rw [if_neg (by simp)]
  have := loopO_up (step := esref32_EqualObject.l1 o o) (fun k => (k : Int)) o.Fields.length (b := .inl ()) (fun k hk => ?_) ?_
  · have this : loopO (esref32_EqualObject.l1 o o) 0 = some (.inl ()) := this
    rw [this]; rfl
  · unfold esref32_EqualObject.l1
    simp only [lt_of_len hk, if_true, idx_nat hk, Option.bind_some, rfield_refl (h _ (List.getElem_mem hk)) hn, Bool.not_true, Bool.false_eq_true, if_false, letV_of, wcast hk (by omega)]
  · unfold esref32_EqualObject.l1
    simp only [not_lt_len, Bool.false_eq_true, if_false]
theorem rEqual_refl {n : Nat} {t : fold_Store} (h : GD n t.Objects) (hn : n ≤ 1000000) : esref32_Equal t t = some true := by
  unfold esref32_Equal
  have hlen := h.len
  rw [if_neg (by simp)]
  have := loopO_up (step := esref32_Equal.l1 t t) (fun k => (k : Int)) t.Objects.length (b := .inl ()) (fun k hk => ?_) ?_
  · have this : loopO (esref32_Equal.l1 t t) 0 = some (.inl ()) := this
    rw [this]; rfl
  · have hm := List.getElem_mem hk
    unfold esref32_Equal.l1
    simp only [lt_of_len hk, if_true, idx_nat hk, Option.bind_some, robject_refl (h.good _ hm) (h.flen _ hm) hn, Bool.not_true, Bool.false_eq_true, if_false, letV_of, wcast hk (by omega)]
  · unfold esref32_Equal.l1
    simp only [not_lt_len, Bool.false_eq_true, if_false]
end Go.Proofs.Ytlbcfjblpopcnaa
set_option linter.unusedVariables false
set_option linter.unusedSimpArgs false
namespace Go.Proofs.Ytlbcfjblpopcnaa
open Go Go.Proofs.YtlbcfjblpopcnaaL
theorem w8n (v : Nat) : IntKind.u8.wrap (v : Int) = ((v % 256 : Nat) : Int) := by
  simp only [IntKind.wrap, IntKind.bits, IntKind.signed]
  simp
theorem wu64n (v : Nat) (h : v < 18446744073709551616) : IntKind.u64.wrap (v : Int) = (v : Int) := by
  simp only [IntKind.wrap, IntKind.bits, IntKind.signed]; simp; omega
theorem wu64_lt (x : Int) : ∃ v : Nat, IntKind.u64.wrap x = (v : Int) ∧ v < 18446744073709551616 := by
  refine ⟨(IntKind.u64.wrap x).toNat, ?_, ?_⟩ <;> simp only [IntKind.wrap, IntKind.bits, IntKind.signed] <;> simp <;> omega
theorem or8 : ∀ m : Nat, m < 256 → bitsOf .or .u8 (m : Int) 128 = ((m % 128 + 128 : Nat) : Int) := by decide +kernel
theorem shr7 (v : Nat) : shrI .u64 (v : Int) 7 = ((v / 128 : Nat) : Int) := by
  unfold shrI
  show (v : Int).fdiv (2 ^ 7) = _
  rw [Int.fdiv_eq_ediv_of_nonneg _ (by decide)]
  rfl
def vlI : Nat → Nat → List Int
  | 0, _ => []
  | f + 1, v => if 128 ≤ v then ((v % 128 + 128 : Nat) : Int) :: vlI f (v / 128) else []
def vla : Nat → Nat → Nat
  | 0, v => v
  | f + 1, v => if 128 ≤ v then vla f (v / 128) else v
def vu (v : Nat) : List Int := vlI 9 v ++ [IntKind.u8.wrap (vla 9 v : Int)]
theorem vlI_len : ∀ f v, (vlI f v).length ≤ f
  | 0, _ => Nat.le_refl 0
  | f + 1, v => by
    unfold vlI
    split
    · have := vlI_len f (v / 128)
      simp only [List.length_cons]
      omega
    · simp
theorem vu_len (v : Nat) : (vu v).length ≤ 10 ∧ 0 < (vu v).length := by
  have := vlI_len 9 v
  unfold vu
  simp only [List.length_append, List.length_singleton]
  omega
theorem wuint_loop : ∀ (f v : Nat) (acc : List Int), v < 128 ^ (f + 1) → acc.length + f ≤ 1000000000000 → loopO wire_AppendUint.l1 ((v : Int), acc) = some ((vla f v : Int), acc ++ vlI f v)
  | 0, v, acc, hv, _ => by
    rw [loopO_done (b := ((v : Int), acc))]
    · simp [vla, vlI]
    · unfold wire_AppendUint.l1
      dsimp only
      rw [if_neg (by simp; omega)]
  | f + 1, v, acc, hv, hl => by
    unfold vla vlI
    by_cases h : 128 ≤ v
    · rw [loopO_next (s' := (((v / 128 : Nat) : Int), acc ++ [((v % 128 + 128 : Nat) : Int)]))]
      · rw [wuint_loop f (v / 128) _ (by rw [Nat.pow_succ] at hv; exact Nat.div_lt_of_lt_mul (by omega)) (by simp; omega), if_pos h, if_pos h, List.append_assoc]
        rfl
      · unfold wire_AppendUint.l1
        dsimp only
        rw [if_pos (by simp; omega), w8n, or8 _ (Nat.mod_lt _ (by decide)), letV_of, app_of (by simp; omega), Option.bind_some, shr7, show v % 256 % 128 = v % 128 by omega]
    · rw [loopO_done (b := ((v : Int), acc)), if_neg h, if_neg h, List.append_nil]
      unfold wire_AppendUint.l1
      dsimp only
      rw [if_neg (by simp; omega)]
theorem wuint_eq {x : List Int} {v : Nat} (hv : v < 18446744073709551616) (hx : x.length ≤ 100000000000) : wire_AppendUint x (v : Int) = some (x ++ vu v) := by
  unfold wire_AppendUint
  rw [wuint_loop 9 v [] (Nat.lt_of_lt_of_le hv (by decide)) (by simp), Option.bind_some]
  show wire_AppendUint.j1 x (vla 9 v : Int) ([] ++ vlI 9 v) = _
  have hl := vlI_len 9 v
  unfold wire_AppendUint.j1
  rw [List.nil_append, app_of (by simp; omega), Option.bind_some, cut_of (Int.le_refl 0) (by omega) (Int.le_refl _), Option.bind_some, if_pos (by simp)]
  have e : (x.take (x.length : Int).toNat).drop (0 : Int).toNat = x := by simp
  rw [e, app_of (by simp only [List.length_append, List.length_singleton]; omega)]
  rfl
def strB (s : List UInt8) : List Int := vu s.length ++ sby s
theorem strB_len (s : List UInt8) : (strB s).length ≤ 10 + s.length := by
  have := (vu_len s.length).1
  unfold strB sby
  rw [List.length_append, List.length_map]
  omega
theorem wstr_eq {x : List Int} {s : List UInt8} (hs : s.length ≤ 1000) (hx : x.length ≤ 90000000000) : wire_AppendString x s = some (x ++ strB s) := by
  unfold wire_AppendString
  have hl := (vu_len s.length).1
  rw [letV_of, wu64n _ (by omega), wuint_eq (by omega) (by omega), Option.bind_some, app_of (by unfold sby; simp only [List.length_append, List.length_map]; omega)]
  simp [strB]
def boolB (b : Bool) : List Int := [if b then 1 else 0]
theorem wbool_eq {x : List Int} {b : Bool} (hx : x.length ≤ 90000000000) : wire_AppendBool x b = some (x ++ boolB b) := by
  have hc : cut x 0 (x.length : Int) = some x := by
    rw [cut_of (Int.le_refl 0) (by omega) (Int.le_refl _)]
    simp
  unfold wire_AppendBool
  cases b with
  | true =>
    rw [if_pos rfl, hc, Option.bind_some, app_of (by simp only [List.length_singleton]; omega)]
    rfl
  | false =>
    rw [if_neg (by simp), hc, Option.bind_some, app_of (by simp only [List.length_singleton]; omega)]
    rfl
def zzI (n : Int) : Int := bitsOf .xor .u64 (shlI .u64 (IntKind.u64.wrap n) 1) (IntKind.u64.wrap (shrI .i64 n 63))
def zz (n : Int) : Nat := (zzI n).toNat
theorem zz_lt (n : Int) : zzI n = (zz n : Int) ∧ zz n < 18446744073709551616 := by
  obtain ⟨v, h1, h2⟩ := wu64_lt (((BitVec.ofInt 64 (shlI .u64 (IntKind.u64.wrap n) 1) ^^^ BitVec.ofInt 64 (IntKind.u64.wrap (shrI .i64 n 63))).toNat : Nat) : Int)
  have h3 : zzI n = (v : Int) := h1
  unfold zz
  rw [h3]
  exact ⟨rfl, h2⟩
theorem wint_eq {x : List Int} {n : Int} (hx : x.length ≤ 90000000000) : wire_AppendInt x n = some (x ++ vu (zz n)) := by
  unfold wire_AppendInt
  obtain ⟨h1, h2⟩ := zz_lt n
  simp only [letV_of]
  have e : bitsOf .xor .u64 (shlI .u64 (IntKind.u64.wrap n) 1) (IntKind.u64.wrap (shrI .i64 n 63)) = (zz n : Int) := h1
  rw [e, wuint_eq h2 (by omega)]
  rfl
def uN (x : Int) : Nat := (IntKind.u64.wrap x).toNat
theorem uN_eq (x : Int) : IntKind.u64.wrap x = (uN x : Int) ∧ uN x < 18446744073709551616 := by
  obtain ⟨v, h1, h2⟩ := wu64_lt x
  unfold uN
  rw [h1]
  exact ⟨rfl, h2⟩
def headB (nm : List UInt8) (f : fold_Field) : List Int :=
  strB nm ++ (strB f.Name ++ (boolB f.Register.Set ++ (vu (uN f.Register.Tag) ++ (vu (uN f.Register.Client) ++ (vu (uN f.Register.Seq) ++ (vu (zz f.Register.N) ++ (strB f.Register.S ++ (boolB f.HasMax ++ (vu (zz f.Max) ++ (vu (zz f.Sum) ++ vu f.Elems.length))))))))))
def fieldB (nm : List UInt8) (f : fold_Field) : List Int := headB nm f ++ (f.Elems.flatMap strB ++ boolB f.Flag)
theorem boolB_len (b : Bool) : (boolB b).length = 1 := rfl
theorem headB_len {nm : List UInt8} {f : fold_Field} (h1 : nm.length ≤ 1000) (h2 : f.Name.length ≤ 1000) (h3 : f.Register.S.length ≤ 1000) : (headB nm f).length ≤ 10000 := by
  unfold headB
  simp only [List.length_append, boolB_len]
  have a := strB_len nm
  have b := strB_len f.Name
  have c := strB_len f.Register.S
  have d1 := (vu_len (uN f.Register.Tag)).1
  have d2 := (vu_len (uN f.Register.Client)).1
  have d3 := (vu_len (uN f.Register.Seq)).1
  have d4 := (vu_len (zz f.Register.N)).1
  have d5 := (vu_len (zz f.Max)).1
  have d6 := (vu_len (zz f.Sum)).1
  have d7 := (vu_len f.Elems.length).1
  omega
theorem elems_len : ∀ l : List (List UInt8), (∀ s ∈ l, s.length ≤ 1000) → (l.flatMap strB).length ≤ 1010 * l.length
  | [], _ => by simp
  | s :: l, h => by
    have h1 := strB_len s
    have h2 := h s (by simp)
    have h3 := elems_len l fun q hq => h q (by simp [hq])
    rw [List.flatMap_cons, List.length_append, List.length_cons]
    omega
theorem fieldB_len {n : Nat} {nm : List UInt8} {f : fold_Field} (h1 : nm.length ≤ 1000) (g : GF n f) (hn : n ≤ 1000000) : (fieldB nm f).length ≤ 2000000000 := by
  have a := headB_len h1 g.name g.reg
  have b := elems_len f.Elems g.els
  have c := g.len
  unfold fieldB
  simp only [List.length_append, boolB_len]
  omega
theorem appendField_eq {n : Nat} {nm : List UInt8} {f : fold_Field} (h1 : nm.length ≤ 1000) (g : GF n f) (hn : n ≤ 1000000) : fold_appendField [] nm f = some (fieldB nm f) := by
  unfold fold_appendField
  have a := strB_len nm
  have b := strB_len f.Name
  have c := strB_len f.Register.S
  have g1 := g.name
  have g2 := g.reg
  have g3 := g.len
  have d1 := (vu_len (uN f.Register.Tag)).1
  have d2 := (vu_len (uN f.Register.Client)).1
  have d3 := (vu_len (uN f.Register.Seq)).1
  have d4 := (vu_len (zz f.Register.N)).1
  have d5 := (vu_len (zz f.Max)).1
  have d6 := (vu_len (zz f.Sum)).1
  have d7 := (vu_len f.Elems.length).1
  rw [wstr_eq h1 (by simp), Option.bind_some, wstr_eq g1 (by simp only [List.length_append, List.length_nil]; omega), Option.bind_some, wbool_eq (by simp only [List.length_append, List.length_nil]; omega), Option.bind_some]
  obtain ⟨x0, hx0⟩ : ∃ x0, x0 = [] ++ strB nm ++ strB f.Name ++ boolB f.Register.Set := ⟨_, rfl⟩
  have l0 : x0.length ≤ 3000 := by rw [hx0]; simp only [List.length_append, List.length_nil, boolB_len]; omega
  rw [← hx0]
  obtain ⟨t1, t2⟩ := uN_eq f.Register.Tag
  obtain ⟨c1, c2⟩ := uN_eq f.Register.Client
  obtain ⟨s1, s2⟩ := uN_eq f.Register.Seq
  have key : loopO (fold_appendField.l2 f) (x0, 0) = some (x0 ++ vu (uN f.Register.Tag) ++ vu (uN f.Register.Client) ++ vu (uN f.Register.Seq)) := by
    rw [loopO_next (s' := (x0 ++ vu (uN f.Register.Tag), 1)) (by
      unfold fold_appendField.l2
      dsimp only
      rw [if_pos (by decide), show idx [f.Register.Tag, f.Register.Client, f.Register.Seq] 0 = some f.Register.Tag from rfl, Option.bind_some, t1, wuint_eq t2 (by omega)]
      rfl)]
    rw [loopO_next (s' := (x0 ++ vu (uN f.Register.Tag) ++ vu (uN f.Register.Client), 2)) (by
      unfold fold_appendField.l2
      dsimp only
      rw [if_pos (by decide), show idx [f.Register.Tag, f.Register.Client, f.Register.Seq] 1 = some f.Register.Client from rfl, Option.bind_some, c1, wuint_eq c2 (by simp only [List.length_append]; omega)]
      rfl)]
    rw [loopO_next (s' := (x0 ++ vu (uN f.Register.Tag) ++ vu (uN f.Register.Client) ++ vu (uN f.Register.Seq), 3)) (by
      unfold fold_appendField.l2
      dsimp only
      rw [if_pos (by decide), show idx [f.Register.Tag, f.Register.Client, f.Register.Seq] 2 = some f.Register.Seq from rfl, Option.bind_some, s1, wuint_eq s2 (by simp only [List.length_append]; omega)]
      rfl)]
    exact loopO_done (by unfold fold_appendField.l2; rfl)
  rw [key, Option.bind_some]
  obtain ⟨x1, hx1⟩ : ∃ x1, x1 = x0 ++ vu (uN f.Register.Tag) ++ vu (uN f.Register.Client) ++ vu (uN f.Register.Seq) := ⟨_, rfl⟩
  have l1 : x1.length ≤ 3030 := by rw [hx1]; simp only [List.length_append]; omega
  rw [← hx1]
  unfold fold_appendField.j2
  rw [wint_eq (by omega), Option.bind_some, wstr_eq g2 (by simp only [List.length_append]; omega), Option.bind_some, wbool_eq (by simp only [List.length_append]; omega), Option.bind_some,
    wint_eq (by simp only [List.length_append, boolB_len]; omega), Option.bind_some, wint_eq (by simp only [List.length_append, boolB_len]; omega), Option.bind_some, letV_of, wu64n _ (by omega), wuint_eq (by omega) (by simp only [List.length_append, boolB_len]; omega), Option.bind_some]
  obtain ⟨x2, hx2⟩ : ∃ x2, x2 = x1 ++ vu (zz f.Register.N) ++ strB f.Register.S ++ boolB f.HasMax ++ vu (zz f.Max) ++ vu (zz f.Sum) ++ vu f.Elems.length := ⟨_, rfl⟩
  have l2 : x2.length ≤ 5000 := by rw [hx2]; simp only [List.length_append, boolB_len]; omega
  rw [← hx2]
  have key2 : loopO (fold_appendField.l1 f) (x2, 0) = some (x2 ++ f.Elems.flatMap strB) := by
    have := loopO_up (step := fold_appendField.l1 f) (fun k => (x2 ++ (f.Elems.take k).flatMap strB, (k : Int))) f.Elems.length (b := x2 ++ f.Elems.flatMap strB) (fun k hk => ?_) ?_
    · simpa using this
    · have h3 := elems_len (f.Elems.take k) (fun s hs => g.els s (List.mem_of_mem_take hs))
      have h4 : (f.Elems.take k).length ≤ n := by rw [List.length_take]; omega
      unfold fold_appendField.l1
      dsimp only
      rw [if_pos (lt_of_len hk), idx_nat hk, Option.bind_some, wstr_eq (g.els _ (List.getElem_mem hk)) (by rw [List.length_append]; omega), Option.bind_some, letV_of, wcast hk (by omega), take_snoc hk, List.flatMap_append]
      simp
    · unfold fold_appendField.l1
      dsimp only
      rw [if_neg (by simp), List.take_length]
  have h5 := elems_len f.Elems g.els
  rw [key2, Option.bind_some]
  unfold fold_appendField.j1
  rw [wbool_eq (by rw [List.length_append]; omega), Option.bind_some, hx2, hx1, hx0]
  simp [fieldB, headB, List.append_assoc]
def hashB (h c : Int) : Int := IntKind.u64.wrap (bitsOf .xor .u64 h (IntKind.u64.wrap c) * 1099511628211)
def storeB (objs : List fold_Object) : List Int := objs.flatMap fun o => o.Fields.flatMap fun f => fieldB o.Name f
theorem hash_loop {l : List Int} (hl : l.length ≤ 3000000000) (h : Int) : loopO (fold_Hash.l1 l) (h, 0) = some (l.foldl hashB h) := by
  have := loopO_up (step := fold_Hash.l1 l) (fun k => ((l.take k).foldl hashB h, (k : Int))) l.length (b := l.foldl hashB h) (fun k hk => ?_) ?_
  · exact this
  · unfold fold_Hash.l1
    simp only [lt_of_len hk, if_true, idx_nat hk, Option.bind_some, letV_of, wcast hk (by omega), take_snoc hk, List.foldl_append, List.foldl_cons, List.foldl_nil]
    rfl
  · unfold fold_Hash.l1
    simp only [not_lt_len, Bool.false_eq_true, if_false, List.take_length]
theorem Hash_eq {n : Nat} {t : fold_Store} (g : GD n t.Objects) (hn : n ≤ 1000000) : fold_Hash t = some ((storeB t.Objects).foldl hashB 14695981039346656037) := by
  unfold fold_Hash
  have hlen := g.len
  have key : loopO (fold_Hash.l3 t) (14695981039346656037, 0) = some ((storeB t.Objects).foldl hashB 14695981039346656037) := by
    have := loopO_up (step := fold_Hash.l3 t) (fun k => ((storeB (t.Objects.take k)).foldl hashB 14695981039346656037, (k : Int))) t.Objects.length (b := (storeB t.Objects).foldl hashB 14695981039346656037) (fun k hk => ?_) ?_
    · exact this
    · have hm := List.getElem_mem hk
      have hfl := g.flen _ hm
      obtain ⟨o, ho⟩ : ∃ o, o = t.Objects[k] := ⟨_, rfl⟩
      have inner : ∀ h : Int, loopO (fold_Hash.l2 o) (h, 0) = some ((o.Fields.flatMap fun f => fieldB o.Name f).foldl hashB h) := by
        intro h
        rw [← ho] at hm hfl
        have := loopO_up (step := fold_Hash.l2 o) (fun j => (((o.Fields.take j).flatMap fun f => fieldB o.Name f).foldl hashB h, (j : Int))) o.Fields.length (b := (o.Fields.flatMap fun f => fieldB o.Name f).foldl hashB h) (fun j hj => ?_) ?_
        · exact this
        · have hg := g.good _ hm _ (List.getElem_mem hj)
          unfold fold_Hash.l2
          simp only [lt_of_len hj, if_true, idx_nat hj, Option.bind_some]
          rw [appendField_eq (g.name _ hm) hg hn, Option.bind_some, hash_loop (by have := fieldB_len (nm := o.Name) (g.name _ hm) hg hn; omega), Option.bind_some]
          unfold fold_Hash.j3
          rw [letV_of, wcast hj (by omega), take_snoc hj, List.flatMap_append, List.foldl_append]
          simp
        · unfold fold_Hash.l2
          simp only [not_lt_len, Bool.false_eq_true, if_false, List.take_length]
      unfold fold_Hash.l3
      simp only [lt_of_len hk, if_true, idx_nat hk, Option.bind_some]
      rw [← ho, inner, Option.bind_some]
      unfold fold_Hash.j2
      rw [letV_of, wcast hk (by omega), take_snoc hk]
      unfold storeB
      rw [List.flatMap_append, List.foldl_append, ← ho]
      simp
    · unfold fold_Hash.l3
      simp only [not_lt_len, Bool.false_eq_true, if_false, List.take_length]
  rw [key]
  rfl
end Go.Proofs.Ytlbcfjblpopcnaa
set_option linter.unusedVariables false
set_option linter.unusedSimpArgs false
namespace Go.Proofs.Ytlbcfjblpopcnaa
open Go Go.Proofs.YtlbcfjblpopcnaaL
abbrev inr (n : Int) : Prop := -9223372036854775808 ≤ n ∧ n ≤ 9223372036854775807
theorem shl1 (a : Int) : shlI .u64 a 1 = IntKind.u64.wrap (a * 2) := rfl
theorem wu64s {x : Int} (h0 : 0 ≤ x) (h1 : x < 18446744073709551616) : IntKind.u64.wrap x = x := by
  simp only [IntKind.wrap, IntKind.bits, IntKind.signed]; simp; omega
theorem wu64m (x : Int) : IntKind.u64.wrap x = x % 18446744073709551616 := by
  simp only [IntKind.wrap, IntKind.bits, IntKind.signed]; simp
theorem zz_eq {n : Int} (h : inr n) : esref03_Zigzag n = some (zz n : Int) := by
  rw [← (zz_lt n).1]
  unfold esref03_Zigzag zzI
  obtain ⟨h1, h2⟩ := h
  have xor : ∀ a b : Int, bitsOf .xor .u64 a b = IntKind.u64.wrap (((BitVec.ofInt 64 a ^^^ BitVec.ofInt 64 b).toNat : Nat) : Int) := fun a b => rfl
  have shr : shrI .i64 n 63 = n.fdiv (2 ^ 63) := rfl
  rw [xor, shr, Int.fdiv_eq_ediv_of_nonneg _ (by decide), shl1]
  by_cases h0 : 0 ≤ n
  · rw [if_pos (by simpa using h0), letV_of]
    congr 1
    have e0 : n / 2 ^ 63 = 0 := Int.ediv_eq_zero_of_lt h0 (by omega)
    rw [e0, wu64s (x := 0) (by decide) (by decide), wu64s h0 (by omega), wu64s (x := n * 2) (by omega) (by omega)]
    have : BitVec.ofInt 64 0 = 0#64 := rfl
    rw [this, BitVec.xor_zero, BitVec.toNat_ofInt]
    have e1 : (n * 2 % ((2 ^ 64 : Nat) : Int)).toNat = (n * 2).toNat := by
      congr 1
      exact Int.emod_eq_of_lt (by omega) (by omega)
    rw [e1, Int.toNat_of_nonneg (by omega), wu64s (by omega) (by omega)]
  · rw [if_neg (by simpa using h0), letV_of, letV_of, letV_of, letV_of]
    congr 1
    have e0 : n / 2 ^ 63 = -1 := by omega
    rw [e0]
    have e1 : BitVec.ofInt 64 (IntKind.u64.wrap (-1)) = BitVec.allOnes 64 := by decide
    rw [e1, BitVec.xor_allOnes, BitVec.toNat_not, BitVec.toNat_ofInt]
    rw [w64 (x := n + 1) (by omega) (by omega), w64 (x := 0 - (n + 1)) (by omega) (by omega), wu64s (x := 0 - (n + 1)) (by omega) (by omega), wu64s (x := (0 - (n + 1)) * 2) (by omega) (by omega), wu64s (x := (0 - (n + 1)) * 2 + 1) (by omega) (by omega)]
    have e2 : IntKind.u64.wrap (IntKind.u64.wrap n * 2) = 18446744073709551616 + 2 * n := by
      rw [wu64m, wu64m]
      omega
    rw [e2]
    have e3 : ((18446744073709551616 + 2 * n) % ((2 ^ 64 : Nat) : Int)).toNat = (18446744073709551616 + 2 * n).toNat := by
      congr 1
      exact Int.emod_eq_of_lt (by omega) (by omega)
    rw [e3]
    have e4 : ((2 ^ 64 - 1 - (18446744073709551616 + 2 * n).toNat : Nat) : Int) = (0 - (n + 1)) * 2 + 1 := by omega
    rw [e4, wu64s (by omega) (by omega)]
theorem ruint_loop : ∀ (f v : Nat) (acc : List Int), v < 128 ^ (f + 1) → v < 18446744073709551616 → acc.length + f ≤ 1000000000000 → loopO esref03_AppendUint.l1 ((v : Int), acc) = some ((vla f v : Int), acc ++ vlI f v)
  | 0, v, acc, hv, _, hl => by
    rw [loopO_done (b := ((v : Int), acc))]
    · simp [vla, vlI]
    · unfold esref03_AppendUint.l1
      dsimp only
      rw [if_neg (by simp; omega)]
  | f + 1, v, acc, hv, hv2, hl => by
    unfold vla vlI
    by_cases h : 128 ≤ v
    · rw [loopO_next (s' := (((v / 128 : Nat) : Int), acc ++ [((v % 128 + 128 : Nat) : Int)]))]
      · rw [ruint_loop f (v / 128) _ (by rw [Nat.pow_succ] at hv; exact Nat.div_lt_of_lt_mul (by omega)) (by omega) (by simp; omega), if_pos h, if_pos h, List.append_assoc]
        rfl
      · unfold esref03_AppendUint.l1
        dsimp only
        have t1 : Int.tmod (v : Int) 128 = ((v % 128 : Nat) : Int) := rfl
        have t2 : Int.tdiv (v : Int) 128 = ((v / 128 : Nat) : Int) := rfl
        rw [if_pos (by simp; omega), t1, w8n, letV_of, show ((v % 128 % 256 : Nat) : Int) + 128 = ((v % 128 % 256 + 128 : Nat) : Int) by omega, w8n, letV_of, app_of (by simp; omega), Option.bind_some, t2, wu64n _ (by omega), letV_of]
        congr 5
        congr 1
        omega
    · rw [loopO_done (b := ((v : Int), acc)), if_neg h, if_neg h, List.append_nil]
      unfold esref03_AppendUint.l1
      dsimp only
      rw [if_neg (by simp; omega)]
theorem ruint_eq {x : List Int} {v : Nat} (hv : v < 18446744073709551616) (hx : x.length ≤ 100000000000) : esref03_AppendUint x (v : Int) = some (x ++ vu v) := by
  unfold esref03_AppendUint
  have hl := vlI_len 9 v
  rw [app_of (by simp; omega), Option.bind_some, List.nil_append, ruint_loop 9 v x (Nat.lt_of_lt_of_le hv (by decide)) hv (by omega), Option.bind_some]
  show esref03_AppendUint.j1 (vla 9 v : Int) (x ++ vlI 9 v) = _
  unfold esref03_AppendUint.j1
  rw [app_of (by simp; omega), Option.bind_some, List.append_assoc]
  rfl
theorem rstr_eq {x : List Int} {s : List UInt8} (hs : s.length ≤ 1000) (hx : x.length ≤ 90000000000) : esref03_AppendString x s = some (x ++ strB s) := by
  unfold esref03_AppendString
  have hl := (vu_len s.length).1
  rw [letV_of, wu64n _ (by omega), ruint_eq (by omega) (by omega), Option.bind_some, app_of (by unfold sby; simp only [List.length_append, List.length_map]; omega)]
  simp [strB]
theorem rbool_eq {x : List Int} {b : Bool} (hx : x.length ≤ 90000000000) : esref03_AppendBool x b = some (x ++ boolB b) := by
  unfold esref03_AppendBool
  cases b with
  | true =>
    rw [if_pos rfl, app_of (by simp; omega), Option.bind_some, List.nil_append, app_of (by simp only [List.length_singleton]; omega)]
    rfl
  | false =>
    rw [if_neg (by simp), app_of (by simp; omega), Option.bind_some, List.nil_append, app_of (by simp only [List.length_singleton]; omega)]
    rfl
theorem rint_eq {x : List Int} {n : Int} (h : inr n) (hx : x.length ≤ 90000000000) : esref03_AppendInt x n = some (x ++ vu (zz n)) := by
  unfold esref03_AppendInt
  obtain ⟨h1, h2⟩ := zz_lt n
  rw [zz_eq h, Option.bind_some, ruint_eq h2 (by omega)]
  rfl
structure RF (f : fold_Field) : Prop where
  reg : inr f.Register.N
  max : inr f.Max
  sum : inr f.Sum
theorem rfield_eq {n : Nat} {o : fold_Object} {x : List Int} {k : Nat} (hk : k < o.Fields.length) (hkl : o.Fields.length ≤ 1000000000) (h1 : o.Name.length ≤ 1000) (g : GF n o.Fields[k]) (hr : RF o.Fields[k]) (hn : n ≤ 1000000) (hx : x.length ≤ 50000000000) :
    esref32_Hash.l3 o (x, (k : Int)) = some (.inl (x ++ fieldB o.Name o.Fields[k], ((k + 1 : Nat) : Int))) := by
  unfold esref32_Hash.l3
  simp only [lt_of_len hk, if_true, idx_nat hk, Option.bind_some]
  obtain ⟨f, hf⟩ : ∃ f, f = o.Fields[k] := ⟨_, rfl⟩
  rw [← hf] at g hr ⊢
  have a := strB_len o.Name
  have b := strB_len f.Name
  have c := strB_len f.Register.S
  have g1 := g.name
  have g2 := g.reg
  have g3 := g.len
  have d1 := (vu_len (uN f.Register.Tag)).1
  have d2 := (vu_len (uN f.Register.Client)).1
  have d3 := (vu_len (uN f.Register.Seq)).1
  have d4 := (vu_len (zz f.Register.N)).1
  have d5 := (vu_len (zz f.Max)).1
  have d6 := (vu_len (zz f.Sum)).1
  have d7 := (vu_len f.Elems.length).1
  obtain ⟨t1, t2⟩ := uN_eq f.Register.Tag
  obtain ⟨c1, c2⟩ := uN_eq f.Register.Client
  obtain ⟨s1, s2⟩ := uN_eq f.Register.Seq
  rw [rstr_eq h1 (by omega), Option.bind_some, rstr_eq g1 (by simp only [List.length_append]; omega), Option.bind_some, rbool_eq (by simp only [List.length_append]; omega), Option.bind_some]
  obtain ⟨x0, hx0⟩ : ∃ x0, x0 = x ++ strB o.Name ++ strB f.Name ++ boolB f.Register.Set := ⟨_, rfl⟩
  have l0 : x0.length ≤ 50000003000 := by rw [hx0]; simp only [List.length_append, boolB_len]; omega
  rw [← hx0, letV_of, t1, ruint_eq t2 (by omega), Option.bind_some, letV_of, c1, ruint_eq c2 (by simp only [List.length_append]; omega), Option.bind_some, letV_of, s1, ruint_eq s2 (by simp only [List.length_append]; omega), Option.bind_some]
  obtain ⟨x1, hx1⟩ : ∃ x1, x1 = x0 ++ vu (uN f.Register.Tag) ++ vu (uN f.Register.Client) ++ vu (uN f.Register.Seq) := ⟨_, rfl⟩
  have l1 : x1.length ≤ 50000003030 := by rw [hx1]; simp only [List.length_append]; omega
  rw [← hx1, rint_eq hr.reg (by omega), Option.bind_some, rstr_eq g2 (by simp only [List.length_append]; omega), Option.bind_some, rbool_eq (by simp only [List.length_append]; omega), Option.bind_some,
    rint_eq hr.max (by simp only [List.length_append, boolB_len]; omega), Option.bind_some, rint_eq hr.sum (by simp only [List.length_append, boolB_len]; omega), Option.bind_some, letV_of, wu64n _ (by omega), ruint_eq (by omega) (by simp only [List.length_append, boolB_len]; omega), Option.bind_some]
  obtain ⟨x2, hx2⟩ : ∃ x2, x2 = x1 ++ vu (zz f.Register.N) ++ strB f.Register.S ++ boolB f.HasMax ++ vu (zz f.Max) ++ vu (zz f.Sum) ++ vu f.Elems.length := ⟨_, rfl⟩
  have l2 : x2.length ≤ 50000005000 := by rw [hx2]; simp only [List.length_append, boolB_len]; omega
  rw [← hx2]
  have key2 : loopO (esref32_Hash.l2 f) (x2, 0) = some (x2 ++ f.Elems.flatMap strB) := by
    have := loopO_up (step := esref32_Hash.l2 f) (fun k => (x2 ++ (f.Elems.take k).flatMap strB, (k : Int))) f.Elems.length (b := x2 ++ f.Elems.flatMap strB) (fun k hk => ?_) ?_
    · simpa using this
    · have h3 := elems_len (f.Elems.take k) (fun s hs => g.els s (List.mem_of_mem_take hs))
      have h4 : (f.Elems.take k).length ≤ n := by rw [List.length_take]; omega
      unfold esref32_Hash.l2
      dsimp only
      rw [if_pos (lt_of_len hk), idx_nat hk, Option.bind_some, rstr_eq (g.els _ (List.getElem_mem hk)) (by rw [List.length_append]; omega), Option.bind_some, letV_of, wcast hk (by omega), take_snoc hk, List.flatMap_append]
      simp
    · unfold esref32_Hash.l2
      dsimp only
      rw [if_neg (by simp), List.take_length]
  have h5 := elems_len f.Elems g.els
  rw [key2, Option.bind_some]
  unfold esref32_Hash.j5
  rw [rbool_eq (by rw [List.length_append]; omega), Option.bind_some]
  unfold esref32_Hash.j4
  rw [letV_of, wcast hk (by omega), hx2, hx1, hx0]
  simp [fieldB, headB, List.append_assoc]
theorem flat_len {α : Type} {g : α → List Int} {B : Nat} : ∀ l : List α, (∀ a ∈ l, (g a).length ≤ B) → (l.flatMap g).length ≤ B * l.length
  | [], _ => by simp
  | a :: l, h => by
    have h1 := h a (by simp)
    have h2 := flat_len l fun b hb => h b (by simp [hb])
    rw [List.flatMap_cons, List.length_append, List.length_cons, Nat.mul_add, Nat.mul_one]
    omega
theorem fieldB_len2 {n : Nat} {nm : List UInt8} {f : fold_Field} (h1 : nm.length ≤ 1000) (g : GF n f) (hn : n ≤ 200) : (fieldB nm f).length ≤ 220000 := by
  have a := headB_len h1 g.name g.reg
  have b := elems_len f.Elems g.els
  have c := g.len
  unfold fieldB
  simp only [List.length_append, boolB_len]
  omega
theorem rhash_loop {l : List Int} (hl : l.length ≤ 30000000000) (h : Int) : loopO (esref32_Hash.l1 l) (h, 0) = some (l.foldl hashB h) := by
  have := loopO_up (step := esref32_Hash.l1 l) (fun k => ((l.take k).foldl hashB h, (k : Int))) l.length (b := l.foldl hashB h) (fun k hk => ?_) ?_
  · exact this
  · unfold esref32_Hash.l1
    simp only [lt_of_len hk, if_true, idx_nat hk, Option.bind_some, letV_of, take_snoc hk, List.foldl_append, List.foldl_cons, List.foldl_nil]
    rw [w64 (x := (k : Int) + 1) (by omega) (by omega)]
    rfl
  · unfold esref32_Hash.l1
    simp only [not_lt_len, Bool.false_eq_true, if_false, List.take_length]
theorem rHash_eq {n : Nat} {t : fold_Store} (g : GD n t.Objects) (hn : n ≤ 200) (hr : ∀ o ∈ t.Objects, ∀ y ∈ o.Fields, RF y) : esref32_Hash t = fold_Hash t := by
  rw [Hash_eq g (by omega)]
  unfold esref32_Hash
  have hlen := g.len
  have hob : ∀ o ∈ t.Objects, ∀ m, ((o.Fields.take m).flatMap fun f => fieldB o.Name f).length ≤ 44000000 := by
    intro o ho m
    have h1 := flat_len (g := fun f => fieldB o.Name f) (B := 220000) (o.Fields.take m) fun f hf => fieldB_len2 (g.name o ho) (g.good o ho f (List.mem_of_mem_take hf)) hn
    have h2 := g.flen o ho
    have h3 : (o.Fields.take m).length ≤ 200 := by rw [List.length_take]; omega
    have := Nat.mul_le_mul_left 220000 h3
    omega
  have hst : ∀ m, (storeB (t.Objects.take m)).length ≤ 8800000000 := by
    intro m
    have h1 := flat_len (g := fun o : fold_Object => o.Fields.flatMap fun f => fieldB o.Name f) (B := 44000000) (t.Objects.take m) fun o ho => by
      have := hob o (List.mem_of_mem_take ho) o.Fields.length
      rwa [List.take_length] at this
    have h3 : (t.Objects.take m).length ≤ 200 := by rw [List.length_take]; omega
    have := Nat.mul_le_mul_left 44000000 h3
    unfold storeB
    omega
  have key : loopO (esref32_Hash.l4 t) ([], 0) = some (storeB t.Objects) := by
    have := loopO_up (step := esref32_Hash.l4 t) (fun k => (storeB (t.Objects.take k), (k : Int))) t.Objects.length (b := storeB t.Objects) (fun k hk => ?_) ?_
    · exact this
    · have hm := List.getElem_mem hk
      have hfl := g.flen _ hm
      have hs0 := hst k
      obtain ⟨o, ho⟩ : ∃ o, o = t.Objects[k] := ⟨_, rfl⟩
      have inner : loopO (esref32_Hash.l3 o) (storeB (t.Objects.take k), 0) = some (storeB (t.Objects.take k) ++ o.Fields.flatMap fun f => fieldB o.Name f) := by
        rw [← ho] at hm hfl
        have := loopO_up (step := esref32_Hash.l3 o) (fun j => (storeB (t.Objects.take k) ++ (o.Fields.take j).flatMap fun f => fieldB o.Name f, (j : Int))) o.Fields.length (b := storeB (t.Objects.take k) ++ o.Fields.flatMap fun f => fieldB o.Name f) (fun j hj => ?_) ?_
        · simpa using this
        · have hj2 := List.getElem_mem hj
          have := hob o hm j
          rw [rfield_eq hj (by omega) (g.name _ hm) (g.good _ hm _ hj2) (hr _ hm _ hj2) (by omega) (by rw [List.length_append]; omega), take_snoc hj, List.flatMap_append]
          simp
        · unfold esref32_Hash.l3
          simp only [not_lt_len, Bool.false_eq_true, if_false, List.take_length]
      unfold esref32_Hash.l4
      simp only [lt_of_len hk, if_true, idx_nat hk, Option.bind_some]
      rw [← ho, inner, Option.bind_some]
      unfold esref32_Hash.j3
      rw [letV_of, wcast hk (by omega), take_snoc hk]
      unfold storeB
      rw [List.flatMap_append, ← ho]
      simp
    · unfold esref32_Hash.l4
      simp only [not_lt_len, Bool.false_eq_true, if_false, List.take_length]
  rw [key, Option.bind_some]
  unfold esref32_Hash.j2
  have hs := hst t.Objects.length
  rw [List.take_length] at hs
  rw [rhash_loop (by omega), Option.bind_some]
  rfl
end Go.Proofs.Ytlbcfjblpopcnaa
set_option linter.unusedVariables false
set_option linter.unusedSimpArgs false
namespace Go.Proofs.Ytlbcfjblpopcnaa
open Go Go.Proofs.YtlbcfjblpopcnaaL
theorem rInsert_eq {x : List (List UInt8)} {s : List UInt8} (ha : Asc x) (hl : x.length ≤ 1000000000) : esref32_Insert x s = some (insS x s) := by
  unfold esref32_Insert
  have hp := posS_le x s
  obtain ⟨p, hpe⟩ : ∃ p, p = posS x s := ⟨_, rfl⟩
  have gD : ∀ k (h : k < x.length), x.getD k s = x[k] := fun k h => by simp [h]
  have key : loopO (esref32_Insert.l1 x s) 0 = some (p : Int) := by
    have := loopO_up (step := esref32_Insert.l1 x s) (fun k => (k : Int)) p (b := (p : Int)) (fun k hk => ?_) ?_
    · exact this
    · have hkx : k < x.length := by omega
      have h1 := posS_lt x s k (by omega)
      rw [gD k hkx] at h1
      unfold esref32_Insert.l1
      simp only [lt_of_len hkx, if_true, idx_nat hkx, Option.bind_some, h1]
      unfold esref32_Insert.j4
      rw [if_pos rfl, letV_of, wcast hkx (by omega)]
    · unfold esref32_Insert.l1
      by_cases hpx : p < x.length
      · have h1 := posS_ge x s ha p (by omega)
        rw [gD p hpx] at h1
        simp only [lt_of_len hpx, if_true, idx_nat hpx, Option.bind_some, h1]
        unfold esref32_Insert.j4
        rw [if_neg (by simp)]
      · rw [if_neg (by simp; omega)]
        unfold esref32_Insert.j4
        rw [if_neg (by simp)]
  rw [key, Option.bind_some, insS_pos, ← hpe]
  have no : esref32_Insert.j2 x s (p : Int) false = some (x.take p ++ s :: x.drop p) := by
    unfold esref32_Insert.j2
    rw [if_neg (by simp), cut_of (by omega) (by omega) (by omega), Option.bind_some]
    simp only [Int.toNat_zero, List.drop_zero, Int.toNat_natCast]
    have hlt : (x.take p).length ≤ x.length := by rw [List.length_take]; omega
    rw [app_of (by rw [List.length_nil]; omega), Option.bind_some, List.nil_append, app_of (by rw [List.length_singleton]; omega), Option.bind_some, cut_of (by omega) (by omega) (by omega), Option.bind_some]
    simp only [Int.toNat_natCast, List.take_length]
    rw [app_of (by simp only [List.length_append, List.length_singleton, List.length_drop]; omega), Option.bind_some]
    unfold esref32_Insert.j1
    rw [List.append_assoc]
    rfl
  unfold esref32_Insert.j3
  by_cases hpx : p < x.length
  · rw [if_pos (by simpa using hpx), idx_nat hpx, Option.bind_some]
    by_cases he : x[p] = s
    · rw [if_pos ⟨hpx, by rw [gD p hpx]; exact he⟩, show (x[p] == s) = true by simp [he]]
      unfold esref32_Insert.j2
      rw [if_pos rfl, app_of (by rw [List.length_nil]; omega), Option.bind_some, List.nil_append]
    · rw [if_neg (fun h => he (by rw [← gD p hpx]; exact h.2)), show (x[p] == s) = false by simpa using he, no]
  · rw [if_neg (by simpa using hpx), if_neg (fun h => hpx h.1), no]
theorem rbefore_eq (u : api_Update) (r : fold_Register) : (if r.Set then esref32_before r u.Tag u.Client u.Seq else some true) = some (newerS u r) := by
  unfold newerS esref32_before
  cases r.Set with
  | false => rfl
  | true =>
    simp only [if_true, Bool.not_true, Bool.false_or]
    by_cases h1 : r.Tag = u.Tag
    · rw [if_neg (by simpa using h1)]
      by_cases h2 : r.Client = u.Client
      · rw [if_neg (by simpa using h2)]
        congr 1
        rw [Bool.eq_iff_iff, decide_eq_true_eq, decide_eq_true_eq]
        constructor
        · intro h; omega
        · intro h; omega
      · rw [if_pos (by simpa using h2)]
        congr 1
        rw [Bool.eq_iff_iff, decide_eq_true_eq, decide_eq_true_eq]
        constructor
        · intro h; omega
        · intro h; omega
    · rw [if_pos (by simpa using h1)]
      congr 1
      rw [Bool.eq_iff_iff, decide_eq_true_eq, decide_eq_true_eq]
      constructor
      · intro h; omega
      · intro h; omega
theorem r32_fld_eq {n : Nat} {u : api_Update} {e : api_Effect} {f : fold_Field} (h : GF n f) (hn : n ≤ 1000000) : r32_fld u e f = some (updF u e f) := by
  unfold r32_fld updF
  rw [rbefore_eq, Option.bind_some]
  have hl := h.len
  rw [rInsert_eq h.asc (by omega), Option.bind_some]
  by_cases h1 : e.Kind = 1
  · rw [if_pos h1, if_pos h1]
  rw [if_neg h1, if_neg h1]
  by_cases h2 : e.Kind = 2
  · rw [if_pos h2, if_pos h2]
    cases hm : f.HasMax with
    | false => simp
    | true =>
      by_cases hx : f.Max < e.N
      · simp [hx]
      · simp only [Bool.not_true, hx, decide_false, Bool.or_false, Bool.false_eq_true, if_false]
        rw [← hm]
  rw [if_neg h2, if_neg h2]
  by_cases h3 : e.Kind = 3
  · rw [if_pos h3, if_pos h3]
  rw [if_neg h3, if_neg h3]
  by_cases h4 : e.Kind = 4
  · rw [if_pos h4, if_pos h4]
  rw [if_neg h4, if_neg h4]
  by_cases h5 : e.Kind = 5
  · rw [if_pos h5, if_pos h5]
  rw [if_neg h5, if_neg h5]
theorem r32_eff_eq {n : Nat} {u : api_Update} {objs : List fold_Object} {e : api_Effect} (h : GD n objs) (hn : n ≤ 100000) (he : EF e) : r32_eff u objs e = some (effT u objs e) := by
  have hlen := h.len
  have hok : r32_ok objs := ⟨h.asc, by omega, fun o ho => ⟨by have := h.flen o ho; omega, h.fasc o ho⟩⟩
  unfold r32_eff
  rw [if_pos hok, r32_ins_eq]
  have g1 : get ON_ (insT objs e.Object e.Field) e.Object = some (inObj e.Object e.Field (fun o => o.getD { fold_zero with Name := e.Field }) (get ON_ objs e.Object)) := by
    unfold insT
    rw [get_upd (inObj_key _ _ _) _ h.asc, if_pos rfl]
  obtain ⟨fs, hfs⟩ : ∃ fs, fs = ((get ON_ objs e.Object).map (·.Fields)).getD [] := ⟨_, rfl⟩
  have hsa : SA FN_ fs := by
    rw [hfs]
    cases hg : get ON_ objs e.Object with
    | none => exact .nil
    | some o => exact h.fasc o (get_mem hg)
  have hgood : ∀ y ∈ fs, GF n y := by
    intro y hy
    rw [hfs] at hy
    cases hg : get ON_ objs e.Object with
    | none => rw [hg] at hy; simp at hy
    | some o => rw [hg] at hy; exact h.good o (get_mem hg) y hy
  have g1' : ((insT objs e.Object e.Field).find? fun o => o.Name == e.Object) = some ⟨e.Object, upd FN_ e.Field (fun o => o.getD { fold_zero with Name := e.Field }) fs⟩ := by
    rw [hfs]
    exact g1
  rw [g1', Option.bind_some]
  have g2 : get FN_ (upd FN_ e.Field (fun o => o.getD { fold_zero with Name := e.Field }) fs) e.Field = some ((get FN_ fs e.Field).getD { fold_zero with Name := e.Field }) := by
    rw [get_upd (insF_key _) _ hsa, if_pos rfl]
  have g2' : ((upd FN_ e.Field (fun o => o.getD { fold_zero with Name := e.Field }) fs).find? fun y => y.Name == e.Field) = some ((get FN_ fs e.Field).getD { fold_zero with Name := e.Field }) := g2
  simp only [g2', Option.bind_some]
  have hy : GF n ((get FN_ fs e.Field).getD { fold_zero with Name := e.Field }) := by
    cases hg : get FN_ fs e.Field with
    | none => exact GF_named (GF_zero n) he.fld
    | some y => exact hgood y (get_mem hg)
  have hyn : ((get FN_ fs e.Field).getD { fold_zero with Name := e.Field }).Name = e.Field := by
    cases hg : get FN_ fs e.Field with
    | none => rfl
    | some y => exact get_key hg
  rw [r32_fld_eq hy (by omega), Option.bind_some]
  congr 1
  rw [r32_upd_eq, r32_upd_eq]
  unfold insT effT
  have hk1 : ∀ o : Option fold_Object, (∀ a, o = some a → ON_ a = e.Object) → ON_ ((fun _ => (⟨e.Object, upd FN_ e.Field (fun _ => updF u e ((get FN_ fs e.Field).getD { fold_zero with Name := e.Field })) (upd FN_ e.Field (fun o => o.getD { fold_zero with Name := e.Field }) fs)⟩ : fold_Object)) o) = e.Object := fun _ _ => rfl
  have := upd_upd (g := fun _ => (⟨e.Object, upd FN_ e.Field (fun _ => updF u e ((get FN_ fs e.Field).getD { fold_zero with Name := e.Field })) (upd FN_ e.Field (fun o => o.getD { fold_zero with Name := e.Field }) fs)⟩ : fold_Object)) hk1 (inObj_key e.Object e.Field (fun o => o.getD { fold_zero with Name := e.Field })) h.asc
  refine this.trans ?_
  refine upd_congr (g := fun _ => (⟨e.Object, upd FN_ e.Field (fun _ => updF u e ((get FN_ fs e.Field).getD { fold_zero with Name := e.Field })) (upd FN_ e.Field (fun o => o.getD { fold_zero with Name := e.Field }) fs)⟩ : fold_Object)) (g' := inObj e.Object e.Field (inFld u e)) (fun _ _ => rfl) h.asc ?_ (inObj_key _ _ _)
  show (⟨e.Object, _⟩ : fold_Object) = ⟨e.Object, upd FN_ e.Field (inFld u e) (((get ON_ objs e.Object).map (·.Fields)).getD [])⟩
  rw [← hfs]
  congr 1
  have hk2 : ∀ o : Option fold_Field, (∀ a, o = some a → FN_ a = e.Field) → FN_ ((fun _ => updF u e ((get FN_ fs e.Field).getD { fold_zero with Name := e.Field })) o) = e.Field := fun _ _ => (updF_name _ _ _).trans hyn
  refine (upd_upd hk2 (insF_key e.Field) hsa).trans ?_
  refine upd_congr (fun _ _ => (updF_name _ _ _).trans hyn) hsa ?_ (inFld_key u e)
  unfold inFld
  cases hg : get FN_ fs e.Field with
  | none => rfl
  | some y =>
    have hk := get_key hg
    show updF u e y = updF u e { y with Name := e.Field }
    congr 1
    rw [← hk]
theorem eff_GD {n : Nat} {u : api_Update} {objs : List fold_Object} {e : api_Effect} (h : GD n objs) (hn : n + 1 ≤ 1000000) (he : EF e) : GD (n + 1) (effT u objs e) :=
  (Apply_eq (t := ⟨objs⟩) (u := { u with Effects := [e] }) h (fun q hq => by simp at hq; subst hq; exact he) hn).2
theorem rcopy_fields {n : Nat} {t : fold_Store} (h : GD n t.Objects) (hn : n ≤ 1000000) {k : Nat} (hk : k < t.Objects.length) : loopO (esref32_Copy.l1 t (k : Int)) (0, []) = some t.Objects[k].Fields := by
  have hm := List.getElem_mem hk
  have hfl := h.flen _ hm
  have := loopO_up (step := esref32_Copy.l1 t (k : Int)) (fun j => ((j : Int), t.Objects[k].Fields.take j)) t.Objects[k].Fields.length (b := t.Objects[k].Fields) (fun j hj => ?_) ?_
  · exact this
  · have hg := (h.good _ hm _ (List.getElem_mem hj)).len
    unfold esref32_Copy.l1
    simp only [idx_nat hk, Option.bind_some, lt_of_len hj, if_true, idx_nat hj]
    rw [app_of (by simp only [List.length_nil]; omega), Option.bind_some, List.nil_append, app_of (by simp only [List.length_take, List.length_singleton]; omega), Option.bind_some, letV_of, wcast hj (by omega), take_snoc hj]
  · unfold esref32_Copy.l1
    simp only [idx_nat hk, Option.bind_some, not_lt_len, Bool.false_eq_true, if_false, List.take_length]
theorem rCopy_eq {n : Nat} {t : fold_Store} (h : GD n t.Objects) (hn : n ≤ 1000000) : esref32_Copy t = some t := by
  unfold esref32_Copy
  have hlen := h.len
  have : loopO (esref32_Copy.l2 t) (0, []) = some t.Objects := by
    have := loopO_up (step := esref32_Copy.l2 t) (fun k => ((k : Int), t.Objects.take k)) t.Objects.length (b := t.Objects) (fun k hk => ?_) ?_
    · exact this
    · unfold esref32_Copy.l2
      simp only [lt_of_len hk, if_true, idx_nat hk, Option.bind_some]
      rw [rcopy_fields h hn hk, Option.bind_some]
      unfold esref32_Copy.j3
      rw [app_of (by simp only [List.length_take, List.length_singleton]; omega), Option.bind_some]
      unfold esref32_Copy.j2
      rw [letV_of, wcast hk (by omega), take_snoc hk]
    · unfold esref32_Copy.l2
      simp only [not_lt_len, Bool.false_eq_true, if_false, List.take_length]
  rw [this]
  rfl
theorem rApply_eq {n : Nat} {t : fold_Store} {u : api_Update} (h : GD n t.Objects) (he : ∀ e ∈ u.Effects, EF e) (hn : n + u.Effects.length ≤ 100000) :
    esref32_Apply t u = some ⟨appT u t.Objects⟩ := by
  unfold esref32_Apply
  rw [rCopy_eq h (by omega), Option.bind_some]
  have : loopO (esref32_Apply.l1 u) (0, t.Objects) = some (appT u t.Objects) := by
    have key := loopO_inv (step := esref32_Apply.l1 u) (I := fun k s => s.1 = (k : Int) ∧ s.2 = (u.Effects.take k).foldl (effT u) t.Objects ∧ GD (n + k) s.2) u.Effects.length (s0 := ((0 : Int), t.Objects)) (Q := fun b => b = appT u t.Objects) ⟨rfl, rfl, h⟩ ?_ ?_
    · obtain ⟨b, e1, rfl⟩ := key
      exact e1
    · rintro k ⟨i, o⟩ hk ⟨hi, ho, hg⟩
      dsimp only at hi ho hg
      subst hi
      have hek := he _ (List.getElem_mem hk)
      refine ⟨(((k + 1 : Nat) : Int), effT u o u.Effects[k]), ?_, rfl, ?_, eff_GD (n := n + k) hg (by omega) hek⟩
      · unfold esref32_Apply.l1
        simp only [lt_of_len hk, if_true, idx_nat hk, Option.bind_some]
        rw [r32_eff_eq hg (by omega) hek, Option.bind_some, letV_of, wcast hk (by omega)]
      · show effT u o u.Effects[k] = _
        rw [ho, take_snoc hk, List.foldl_append]
        rfl
    · rintro ⟨i, o⟩ ⟨hi, ho, hg⟩
      dsimp only at hi ho hg
      subst hi
      rw [List.take_length] at ho
      refine ⟨o, ?_, ho⟩
      unfold esref32_Apply.l1
      simp only [not_lt_len, Bool.false_eq_true, if_false]
  rw [this]
  rfl
theorem rFold_eq {s : List api_Update} (he : ∀ u ∈ s, ∀ e ∈ u.Effects, EF e) (hn : effN s ≤ 90000) (hl : s.length ≤ 1000000) : esref32_Fold s = some ⟨foldT s []⟩ := by
  unfold esref32_Fold
  have hsum : ∀ k, k ≤ s.length → effN (s.take k) ≤ effN s := by
    intro k hk
    unfold effN
    have : s.map (fun u => u.Effects.length) = (s.take k).map (fun u => u.Effects.length) ++ (s.drop k).map (fun u => u.Effects.length) := by rw [← List.map_append, List.take_append_drop]
    rw [this, List.sum_append]
    omega
  have : loopO (esref32_Fold.l1 s) (0, []) = some (foldT s []) := by
    have := loopO_up (step := esref32_Fold.l1 s) (fun k => ((k : Int), foldT (s.take k) [])) s.length (b := foldT s []) (fun k hk => ?_) ?_
    · exact this
    · have h1 := hsum (k + 1) hk
      have es : effN (s.take (k + 1)) = effN (s.take k) + s[k].Effects.length := by
        unfold effN
        rw [take_snoc hk, List.map_append, List.sum_append]
        simp
      obtain ⟨_, hg⟩ := Fold_eq (s := s.take k) (fun u hu => he u (List.mem_of_mem_take hu)) (by omega) (by rw [List.length_take]; omega)
      unfold esref32_Fold.l1
      simp only [lt_of_len hk, if_true, idx_nat hk, Option.bind_some]
      rw [rApply_eq (t := ⟨foldT (s.take k) []⟩) hg (he _ (List.getElem_mem hk)) (by omega), Option.bind_some, letV_of, wcast hk (by omega), take_snoc hk]
      unfold foldT
      rw [List.foldl_append]
      rfl
    · unfold esref32_Fold.l1
      simp only [not_lt_len, Bool.false_eq_true, if_false, List.take_length]
  rw [this]
  rfl
end Go.Proofs.Ytlbcfjblpopcnaa
set_option linter.unusedVariables false
set_option linter.unusedSimpArgs false
namespace Go.Proofs.Ytlbcfjblpopcnaa
open Go Go.Proofs.YtlbcfjblpopcnaaL
theorem inr_wrap (x : Int) : inr (IntKind.i64.wrap x) := by
  unfold inr
  simp only [IntKind.wrap, IntKind.bits, IntKind.signed]
  constructor <;> simp <;> omega
abbrev EN (l : List api_Effect) : Prop := ∀ e ∈ l, inr e.N
abbrev UN (s : List api_Update) : Prop := ∀ u ∈ s, EN u.Effects
theorem mem_upd3 {α : Type} {key : α → List UInt8} {k : List UInt8} {g : Option α → α} : ∀ {l : List α} {a : α}, a ∈ upd key k g l → a ∈ l ∨ a = g none ∨ ∃ b ∈ l, a = g (some b)
  | [], a, h => by simp [upd] at h; exact .inr (.inl h)
  | b :: l, a, h => by
    unfold upd at h
    split at h
    · rcases List.mem_cons.1 h with h | h
      · exact .inl (by simp [h])
      · rcases mem_upd3 h with h | h | ⟨c, hc, h⟩
        · exact .inl (by simp [h])
        · exact .inr (.inl h)
        · exact .inr (.inr ⟨c, by simp [hc], h⟩)
    · split at h
      · rcases List.mem_cons.1 h with h | h
        · exact .inr (.inr ⟨b, by simp, h⟩)
        · exact .inl (by simp [h])
      · rcases List.mem_cons.1 h with h | h
        · exact .inr (.inl h)
        · exact .inl h
theorem RF_upd {u : api_Update} {e : api_Effect} {f : fold_Field} (h : RF f) (he : inr e.N) : RF (updF u e f) := by
  unfold updF
  split
  · split
    · exact ⟨he, h.max, h.sum⟩
    · exact h
  · split
    · split
      · exact ⟨h.reg, he, h.sum⟩
      · exact h
    · split
      · exact ⟨h.reg, h.max, inr_wrap _⟩
      · split
        · exact ⟨h.reg, h.max, h.sum⟩
        · split
          · exact ⟨h.reg, h.max, h.sum⟩
          · exact h
theorem RF_zero : RF fold_zero := by
  have h0 : inr 0 := by unfold inr; decide
  exact ⟨h0, h0, h0⟩
theorem RF_named {f : fold_Field} (h : RF f) (k : List UInt8) : RF { f with Name := k } := ⟨h.reg, h.max, h.sum⟩
abbrev OF (objs : List fold_Object) : Prop := ∀ o ∈ objs, ∀ y ∈ o.Fields, RF y
theorem OF_eff {u : api_Update} {e : api_Effect} {objs : List fold_Object} (h : OF objs) (he : inr e.N) : OF (effT u objs e) := by
  intro o ho
  have fl : ∀ fs : List fold_Field, (∀ y ∈ fs, RF y) → ∀ y ∈ upd FN_ e.Field (inFld u e) fs, RF y := by
    intro fs hfs y hy
    rcases mem_upd3 hy with hy | hy | ⟨b, hb, hy⟩
    · exact hfs y hy
    · rw [hy]; exact RF_upd (RF_named RF_zero _) he
    · rw [hy]; exact RF_upd (RF_named (hfs b hb) _) he
  unfold effT at ho
  rcases mem_upd3 ho with ho | ho | ⟨b, hb, ho⟩
  · exact h o ho
  · rw [ho]; exact fl [] (by simp)
  · rw [ho]; exact fl b.Fields (h b hb)
theorem OF_app {u : api_Update} : ∀ (es : List api_Effect) {objs : List fold_Object}, EN es → OF objs → OF (es.foldl (effT u) objs)
  | [], _, _, h => h
  | e :: es, objs, he, h => OF_app es (fun q hq => he q (by simp [hq])) (OF_eff h (he e (by simp)))
theorem OF_fold : ∀ (s : List api_Update) {objs : List fold_Object}, UN s → OF objs → OF (foldT s objs)
  | [], _, _, h => h
  | u :: s, objs, hu, h => OF_fold s (fun q hq => hu q (by simp [hq])) (OF_app u.Effects (hu u (by simp)) h)
theorem VE_ex (e : api_Effect) : ∃ r, esref14_ValidateEffect e = some r ∧ (r = 0 → EF e) := by
  have j1 : ∀ b, ∃ r, esref14_ValidateEffect.j1 b = some r := by
    intro b; unfold esref14_ValidateEffect.j1; split <;> exact ⟨_, rfl⟩
  have j2 : ∀ b, ∃ r, esref14_ValidateEffect.j2 e b = some r := by
    intro b; unfold esref14_ValidateEffect.j2
    split
    · exact ⟨_, rfl⟩
    · split
      · exact j1 _
      · split
        · exact j1 _
        · split <;> exact j1 _
  have j3 : ∀ b, ∃ r, esref14_ValidateEffect.j3 e b = some r := by
    intro b; unfold esref14_ValidateEffect.j3
    split
    · exact ⟨_, rfl⟩
    · split
      · exact j2 _
      · split <;> exact j2 _
  have j4 : ∀ b, ∃ r, esref14_ValidateEffect.j4 e b = some r ∧ (r = 0 → b = false) := by
    intro b; unfold esref14_ValidateEffect.j4
    cases b with
    | true => exact ⟨3, rfl, fun h => absurd h (by decide)⟩
    | false =>
      rw [if_neg (by simp)]
      split
      · split
        · obtain ⟨r, h⟩ := j3 true; exact ⟨r, h, fun _ => rfl⟩
        · obtain ⟨r, h⟩ := j3 (decide (1000000 < e.N)); exact ⟨r, h, fun _ => rfl⟩
      · obtain ⟨r, h⟩ := j3 false; exact ⟨r, h, fun _ => rfl⟩
  have j5 : ∀ b, ∃ r, esref14_ValidateEffect.j5 e b = some r ∧ (r = 0 → EF e) := by
    intro b; unfold esref14_ValidateEffect.j5
    cases b with
    | true => exact ⟨2, rfl, fun h => absurd h (by decide)⟩
    | false =>
      rw [if_neg (by simp)]
      by_cases h1 : (16 : Int) < (e.Object.length : Int)
      · rw [if_pos (by simpa using h1)]
        obtain ⟨r, h, h2⟩ := j4 true; exact ⟨r, h, fun h0 => by have := h2 h0; cases this⟩
      · rw [if_neg (by simpa using h1)]
        by_cases h2 : (16 : Int) < (e.Field.length : Int)
        · rw [if_pos (by simpa using h2)]
          obtain ⟨r, h, h2⟩ := j4 true; exact ⟨r, h, fun h0 => by have := h2 h0; cases this⟩
        · rw [if_neg (by simpa using h2)]
          obtain ⟨r, h, h3⟩ := j4 (decide ((32 : Int) < (e.S.length : Int)))
          refine ⟨r, h, fun h0 => ⟨by omega, by omega, ?_⟩⟩
          have := h3 h0
          have : ¬ (32 : Int) < (e.S.length : Int) := by simpa using this
          omega
  have j6 : ∀ b, ∃ r, esref14_ValidateEffect.j6 e b = some r ∧ (r = 0 → EF e) := by
    intro b; unfold esref14_ValidateEffect.j6
    cases b with
    | true => exact ⟨10, rfl, fun h => absurd h (by decide)⟩
    | false =>
      rw [if_neg (by simp)]
      split <;> exact j5 _
  unfold esref14_ValidateEffect
  split <;> exact j6 _
theorem Commutes_ex {u : api_Update} (hl : u.Effects.length ≤ 4) : ∃ b, esref14_Commutes u = some b := by
  unfold esref14_Commutes
  have key : ∃ b, loopO (esref14_Commutes.l1 u) 0 = some b ∧ True := by
    refine loopO_ex (fun k s => s = (k : Int)) u.Effects.length rfl ?_ ?_
    · rintro k s hk rfl
      unfold esref14_Commutes.l1
      simp only [lt_of_len hk, if_true, idx_nat hk, Option.bind_some]
      split
      · exact .inr ⟨_, rfl, trivial⟩
      · rw [letV_of, wcast hk (by omega)]
        exact .inl ⟨_, rfl, rfl⟩
    · rintro s rfl
      unfold esref14_Commutes.l1
      simp only [not_lt_len, Bool.false_eq_true, if_false]
      exact ⟨_, rfl, trivial⟩
  obtain ⟨b, e, _⟩ := key
  rw [e, Option.bind_some]
  cases b <;> exact ⟨_, rfl⟩
structure VU (u : api_Update) : Prop where
  len : u.Effects.length ≤ 4
  ef : ∀ e ∈ u.Effects, EF e
theorem VU_ex (u : api_Update) : ∃ r, esref14_ValidateUpdate u = some r ∧ (r = 0 → VU u) := by
  have j1 : ∀ b, ∃ r, esref14_ValidateUpdate.j1 b = some r := by
    intro b; unfold esref14_ValidateUpdate.j1; split <;> exact ⟨_, rfl⟩
  have j2 : u.Effects.length ≤ 4 → ∃ r, esref14_ValidateUpdate.j2 u = some r := by
    intro hl
    unfold esref14_ValidateUpdate.j2
    obtain ⟨b, hb⟩ := Commutes_ex hl
    rw [hb, Option.bind_some]
    split
    · split
      · exact j1 _
      · rw [Option.bind_some]
        split <;> exact j1 _
    · rw [Option.bind_some]
      split <;> exact j1 _
  have j3 : ∀ b, ∃ r, esref14_ValidateUpdate.j3 u b = some r ∧ (r = 0 → VU u) := by
    intro b; unfold esref14_ValidateUpdate.j3
    cases b with
    | true => exact ⟨9, rfl, fun h => absurd h (by decide)⟩
    | false =>
      rw [if_neg (by simp)]
      split
      · exact ⟨2, rfl, fun h => absurd h (by decide)⟩
      · by_cases h4 : (4 : Int) < (u.Effects.length : Int)
        · rw [if_pos (by simpa using h4)]
          exact ⟨3, rfl, fun h => absurd h (by decide)⟩
        · rw [if_neg (by simpa using h4)]
          have hl : u.Effects.length ≤ 4 := by omega
          have key : ∃ b, loopO (esref14_ValidateUpdate.l1 u) 0 = some b ∧ (match b with | .inl _ => VU u | .inr r => r ≠ 0) := by
            refine loopO_ex (fun k s => s = (k : Int) ∧ ∀ i, i < k → (h : i < u.Effects.length) → EF u.Effects[i]) u.Effects.length ⟨rfl, fun i h => absurd h (by omega)⟩ ?_ ?_
            · rintro k s hk ⟨rfl, hi⟩
              unfold esref14_ValidateUpdate.l1
              simp only [lt_of_len hk, if_true, idx_nat hk, Option.bind_some]
              obtain ⟨r, hr, hr0⟩ := VE_ex u.Effects[k]
              rw [hr, Option.bind_some]
              by_cases h0 : r = 0
              · rw [if_neg (by simp [h0]), letV_of, wcast hk (by omega)]
                refine .inl ⟨_, rfl, rfl, fun i h1 h2 => ?_⟩
                by_cases he : i = k
                · subst he; exact hr0 h0
                · exact hi i (by omega) h2
              · rw [if_pos (by simpa using h0)]
                exact .inr ⟨_, rfl, h0⟩
            · rintro s ⟨rfl, hi⟩
              unfold esref14_ValidateUpdate.l1
              simp only [not_lt_len, Bool.false_eq_true, if_false]
              refine ⟨_, rfl, hl, fun e he => ?_⟩
              obtain ⟨i, h1, rfl⟩ := List.getElem_of_mem he
              exact hi i h1 h1
          obtain ⟨b, e, hb⟩ := key
          rw [e, Option.bind_some]
          cases b with
          | inl _ => obtain ⟨r, hr⟩ := j2 hl; exact ⟨r, hr, fun _ => hb⟩
          | inr r => exact ⟨r, rfl, fun h => absurd h hb⟩
  unfold esref14_ValidateUpdate
  have hc : ∃ b, esref06_Client u.Client = some b := by unfold esref06_Client esref06_Client.j1; split <;> exact ⟨_, rfl⟩
  obtain ⟨b, hb⟩ := hc
  rw [hb, Option.bind_some]
  split
  · exact j3 _
  · split
    · exact j3 _
    · split
      · exact j3 _
      · split <;> exact j3 _
theorem VS_ex {s : List api_Update} (hl : s.length ≤ 48) : ∃ r, esref14_ValidateState s = some r ∧ (r = 0 → ∀ u ∈ s, VU u) := by
  unfold esref14_ValidateState
  have key : ∃ b, loopO (esref14_ValidateState.l1 s) 0 = some b ∧ (match b with | .inl _ => ∀ u ∈ s, VU u | .inr r => r ≠ 0) := by
    refine loopO_ex (fun k t => t = (k : Int) ∧ ∀ i, i < k → (h : i < s.length) → VU s[i]) s.length ⟨rfl, fun i h => absurd h (by omega)⟩ ?_ ?_
    · rintro k t hk ⟨rfl, hi⟩
      obtain ⟨r, hr, hr0⟩ := VU_ex s[k]
      unfold esref14_ValidateState.l1
      simp only [lt_of_len hk, if_true, idx_nat hk, Option.bind_some]
      rw [hr, Option.bind_some]
      by_cases h0 : r = 0
      rotate_left 0
      · rw [if_neg (by simp [h0])]
        have next : ∀ b, (∃ s', esref14_ValidateState.j2 (k : Int) b = some (.inl s') ∧ (s' = ((k + 1 : Nat) : Int) ∧ ∀ i, i < k + 1 → (h : i < s.length) → VU s[i])) ∨ ∃ b', esref14_ValidateState.j2 (k : Int) b = some (.inr b') ∧ (match b' with | .inl _ => ∀ u ∈ s, VU u | .inr r => r ≠ 0) := by
          intro b
          unfold esref14_ValidateState.j2
          cases b with
          | true => rw [if_pos rfl]; exact .inr ⟨_, rfl, fun h => absurd h (by decide)⟩
          | false =>
            rw [if_neg (by simp), letV_of, wcast hk (by omega)]
            refine .inl ⟨_, rfl, rfl, fun i h1 h2 => ?_⟩
            by_cases he : i = k
            · subst he; exact hr0 h0
            · exact hi i (by omega) h2
        have j3 : ∀ b, (∃ s', esref14_ValidateState.j3 s (k : Int) b = some (.inl s') ∧ (s' = ((k + 1 : Nat) : Int) ∧ ∀ i, i < k + 1 → (h : i < s.length) → VU s[i])) ∨ ∃ b', esref14_ValidateState.j3 s (k : Int) b = some (.inr b') ∧ (match b' with | .inl _ => ∀ u ∈ s, VU u | .inr r => r ≠ 0) := by
          intro b
          unfold esref14_ValidateState.j3
          cases b with
          | true => rw [if_pos rfl]; exact .inr ⟨_, rfl, fun h => absurd h (by decide)⟩
          | false =>
            rw [if_neg (by simp)]
            simp only [idx_nat hk, Option.bind_some, letV_of]
            split
            · by_cases hk0 : k = 0
              · rw [if_pos (by simp [hk0])]
                exact next _
              · rw [if_neg (by simpa using hk0), w64 (x := (k : Int) - 1) (by omega) (by omega), show (k : Int) - 1 = ((k - 1 : Nat) : Int) by omega]
                simp only [idx_nat (show k - 1 < s.length by omega), Option.bind_some]
                split <;> exact next _
            · exact next _
        by_cases hk0 : 0 < k
        · rw [if_pos (by simpa using hk0), letV_of, w64 (x := (k : Int) - 1) (by omega) (by omega), show (k : Int) - 1 = ((k - 1 : Nat) : Int) by omega]
          simp only [idx_nat (show k - 1 < s.length by omega), Option.bind_some]
          have hc : ∃ c, esref14_CompareUpdate s[k - 1] s[k] = some c := by
            have c1 : ∀ b, ∃ r, esref14_CompareUpdate.j1 b = some r := by
              intro b; unfold esref14_CompareUpdate.j1; split <;> exact ⟨_, rfl⟩
            have c2 : ∀ b, ∃ r, esref14_CompareUpdate.j2 s[k - 1] s[k] b = some r := by
              intro b; unfold esref14_CompareUpdate.j2
              split
              · exact ⟨_, rfl⟩
              · split <;> exact c1 _
            unfold esref14_CompareUpdate
            split
            · exact c2 _
            · split <;> exact c2 _
          obtain ⟨c, hc⟩ := hc
          rw [hc, Option.bind_some]
          exact j3 _
        · rw [if_neg (by simpa using hk0)]
          exact j3 _
      · rw [if_pos (by simpa using h0)]
        exact .inr ⟨_, rfl, h0⟩
    · rintro t ⟨rfl, hi⟩
      unfold esref14_ValidateState.l1
      simp only [not_lt_len, Bool.false_eq_true, if_false]
      refine ⟨_, rfl, fun u hu => ?_⟩
      obtain ⟨i, h1, rfl⟩ := List.getElem_of_mem hu
      exact hi i h1 h1
  obtain ⟨b, e, hb⟩ := key
  rw [e, Option.bind_some]
  cases b with
  | inl _ => exact ⟨0, rfl, fun _ => hb⟩
  | inr r => exact ⟨r, rfl, fun h => absurd h hb⟩
theorem VS_effN : ∀ {s : List api_Update}, (∀ u ∈ s, VU u) → effN s ≤ 4 * s.length
  | [], _ => Nat.le_refl 0
  | u :: s, h => by
    have h1 := (h u (by simp)).len
    have h2 := VS_effN (s := s) fun v hv => h v (by simp [hv])
    unfold effN at h2 ⊢
    rw [List.map_cons, List.sum_cons, List.length_cons]
    omega
def WE_ : api_Effect → Prop := wIso (fun x : api_Effect => (x.Kind, x.Object, x.Field, x.N, x.S)) (wPair (wInt .i64) (wPair wStr (wPair wStr (wPair (wInt .i64) wStr))))
def WU_ : api_Update → Prop := wIso (fun x : api_Update => (x.Client, x.Seq, x.Tag, x.Effects)) (wPair (wInt .i64) (wPair (wInt .i64) (wPair (wInt .i64) (wSlice WE_))))
theorem WE_N {e : api_Effect} (h : WE_ e) : inr e.N := by
  have h : (Lit.int .i64 e.N).wf = true := h.2.2.2.1
  have h1 : (decide (IntKind.i64.min ≤ e.N) && decide (e.N ≤ IntKind.i64.max)) = true := h
  rw [Bool.and_eq_true, decide_eq_true_eq, decide_eq_true_eq] at h1
  exact h1
theorem foldState_wf (s : List api_Update) (hw : wSlice WU_ s) : eslaw30_FoldState s = some true := by
  unfold eslaw30_FoldState
  have inv : eslaw30_FoldState.j2 s true = some true := by
    unfold eslaw30_FoldState.j2
    rw [if_pos rfl, awake_true]
    rfl
  by_cases h48 : (48 : Int) < (s.length : Int)
  · rw [if_pos (by simpa using h48), inv]
  rw [if_neg (by simpa using h48)]
  have hl : s.length ≤ 48 := by omega
  obtain ⟨r, hr, hr0⟩ := VS_ex hl
  rw [hr, Option.bind_some]
  by_cases h0 : r = 0
  · have hv := hr0 h0
    have hn := VS_effN hv
    have hun : UN s := fun u hu e he => WE_N (((hw.2 u hu).2.2.2).2 e he)
    obtain ⟨e1, g⟩ := Fold_eq (s := s) (fun u hu => (hv u hu).ef) (by omega) (by omega)
    have e2 := rFold_eq (s := s) (fun u hu => (hv u hu).ef) (by omega) (by omega)
    have hof : OF (foldT s []) := OF_fold s hun (fun o ho => by simp at ho)
    rw [show (r != 0) = false by simp [h0]]
    unfold eslaw30_FoldState.j2
    rw [if_neg (by simp), e1, Option.bind_some, e2, Option.bind_some, rEqual_refl (t := ⟨foldT s []⟩) g (by omega), Option.bind_some, if_pos rfl, rHash_eq (t := ⟨foldT s []⟩) g (by omega) hof, Hash_eq (t := ⟨foldT s []⟩) g (by omega), Option.bind_some, Option.bind_some, if_pos (by simp), awake_true]
    rfl
  · rw [show (r != 0) = true by simpa using h0, inv]
end Go.Proofs.Ytlbcfjblpopcnaa
