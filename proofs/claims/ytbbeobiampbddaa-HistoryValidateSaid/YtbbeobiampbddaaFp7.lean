import Derived.Test.YtbbeobiampbddaaFh
import Derived.Test.YtbbeobiampbddaaFp2
import Derived.Test.YtbbeobiampbddaaFp3
import Derived.Test.YtbbeobiampbddaaFp6
set_option linter.unusedVariables false
set_option linter.unusedSimpArgs false
namespace Go.Proofs.Ytbbeobiampbddaa
open Go Go.RowKit Go.Proofs.YtbbeobiampbddaaL
set_option maxRecDepth 100000
set_option maxHeartbeats 4000000
/-! elasticstore/elasticstorelaw38.HistoryValidate: function 3 -/
theorem eslaw38_HistoryValidate.calls {ok : Nat → Prop} {w0 : World} {x1 : history_History} {v2 : Value} {r : Bool} (hf : eslaw38_HistoryValidate x1 = some r) (i0 : (vl t_history_History x1 v2).holds ok w0) :
    Calls Try.prog 3 #[v2] w0 fun e w' => ∃ v, e = .returned v ∧ ∃ y : Unit, v = .bool r ∧ St ok (bz w0) w' [] [] := by
  unfold eslaw38_HistoryValidate at hf
  refine calls_of_W (fn := Try.f3) (N := 16) Try.func3 rfl Try.ntmps3 rfl ?_
  have hs : St ok (bz w0) w0 [vl t_history_History x1 v2] [] := St.init (All.cons i0 All.nil)
  clear i0
  obtain ⟨cs3, hl4, rfl⟩ := hs.aggv (n := 1) 0 rfl rfl rfl
  refine W.seqK fun K5 hK5 => ?_
  refine W.region ?_
  refine WL.box (vs := cs3) hs rfl rfl (fun g6 w hs => ?_)
  refine WL.assign (v := .bool false) rfl ?_
  refine WL.nil ?_
  refine hK5 _ _ ?_
  refine W.seqK fun K7 hK7 => ?_
  refine W.seqK fun K8 hK8 => ?_
  refine W.region ?_
  refine WL.fieldAddr (m := 0) rfl FA24_0 rfl ?_
  refine WL.loadF (z := x1.Operations) F_history_History_Operations hs 0 rfl 0 rfl rfl TI22 (.inr rfl) rfl rfl (fun v9 hs => ?_)
  obtain ⟨a10, c11, rfl⟩ := hs.slice 0 rfl
  refine WL.len (v := .slice a10 (x1.Operations).length c11) rfl (len_slice UN22) ?_
  refine WL.bin (v := .bool (decide (30 < ((x1.Operations).length : Int)))) rfl rfl (ib_gtr _ _ _) ?_
  refine WL.nil ?_
  refine hK8 _ _ ?_
  rcases iteE hf with ⟨hc12, hf⟩ | ⟨hc12, hf⟩
  {
  refine W.cond_true (bool_tr rfl hc12) ?_
  refine W.seqK fun K13 hK13 => ?_
  refine W.region ?_
  obtain ⟨x14, hxx14, hf⟩ := bindE hf
  refine WL.call (vs := []) hs FN10 trivial (fun ok hA => eslaw38_awake.calls hxx14) ?_
  rintro _ w hs
  refine WL.assign (v := .bool x14) rfl ?_
  refine WL.nil ?_
  refine hK13 _ _ ?_
  refine W.ret ?_
  have hr := Option.some.inj hf; subst hr
  exact ⟨_, resOk_one rfl rfl, (), rfl, (hs.mask []).pick []⟩ }
  {
  refine W.cond_false (bool_tr rfl hc12) ?_
  refine W.skip ?_
  refine hK7 _ _ ?_
  refine W.seqK fun K15 hK15 => ?_
  have Jk18 : ∀ (x17 : Bool) (ρ : Env) (w : World), ρ 2 = .bool x17 → St ok (bz w0) w [] [] → eslaw38_HistoryValidate.j1 x17 = some r → K15 ρ w := by
    intro x17 ρ w h16_2 hs hf
    refine hK15 _ _ ?_
    unfold eslaw38_HistoryValidate.j1 at hf
    refine W.ret ?_
    have hr := Option.some.inj hf; subst hr
    exact ⟨_, resOk_one rfl h16_2, (), rfl, (hs.mask []).pick []⟩
  obtain ⟨x19, hxx19, hf⟩ := bindE hf
  obtain ⟨x20, hxx20, hf⟩ := bindE hf
  rcases iteE hf with ⟨hc21, hf⟩ | ⟨hc21, hf⟩
  {
  obtain ⟨x22, hxx22, hf⟩ := bindE hf
  refine W.any (by kernel_rfl) 8 1 [true, true, true, true, true, true, true, true, false] rfl rfl (poAt [pv (.agg cs3.toArray), pv (.int .i64 x19), pv (.agg cs3.toArray), pv (.int .i64 x20), pv (.bool (x19 == x20)), pv (.bool (x19 == x20)), pv (.bool x22), pv (.bool x22)]) (Λ := [blk g6 24 cs3]) hs (by kernel_rfl) (by kernel_rfl) (by kernel_rfl) ⟨⟨⟨⟨⟨⟨⟨⟨trivial, ?_⟩, ?_⟩, ?_⟩, ?_⟩, ?_⟩, ?_⟩, ?_⟩, ?_⟩ ?_
  {
  intro ρ w Γx Λx hs hu hp
  refine WL.loadAll hs (Λx.length + 0) (getApp rfl) TI24 (hu 1 rfl) hl4 ?_
  exact WL.nil ⟨rfl, _, rfl, rfl, hs.cutG 0 0⟩ }
  {
  intro ρ w Γx Λx hs hu hp
  have e23 : ρ 8 = .agg cs3.toArray := (hp 0 rfl).1
  refine WL.call (vs := [.agg cs3.toArray]) hs FN11 ⟨e23, trivial⟩ (fun ok hA => history_Validate.calls (x1 := x1) hxx19 (hA.get (Γx.length + 1) (getApp rfl))) ?_
  rintro _ w hs
  exact WL.nil ⟨rfl, _, rfl, rfl, hs.cutG 0 0⟩ }
  {
  intro ρ w Γx Λx hs hu hp
  refine WL.loadAll hs (Λx.length + 0) (getApp rfl) TI24 (hu 1 rfl) hl4 ?_
  exact WL.nil ⟨rfl, _, rfl, rfl, hs.cutG 0 0⟩ }
  {
  intro ρ w Γx Λx hs hu hp
  have e24 : ρ 10 = .agg cs3.toArray := (hp 2 rfl).1
  refine WL.call (vs := [.agg cs3.toArray]) hs FN12 ⟨e24, trivial⟩ (fun ok hA => esref39_Validate.calls (x1 := x1) hxx20 (hA.get (Γx.length + 1) (getApp rfl))) ?_
  rintro _ w hs
  exact WL.nil ⟨rfl, _, rfl, rfl, hs.cutG 0 0⟩ }
  {
  intro ρ w Γx Λx hs hu hp
  have e25 : ρ 9 = .int .i64 x19 := (hp 1 rfl).1
  have e26 : ρ 11 = .int .i64 x20 := (hp 3 rfl).1
  refine WL.bin (v := .bool (x19 == x20)) e25 e26 (ib_eql _ _ _) ?_
  exact WL.nil ⟨rfl, _, rfl, rfl, hs.cutG 0 0⟩ }
  {
  intro ρ w Γx Λx hs hu hp
  have e27 : ρ 12 = .bool (x19 == x20) := (hp 4 rfl).1
  refine WL.move (v := .bool (x19 == x20)) e27 ?_
  exact WL.nil ⟨rfl, _, rfl, rfl, hs.cutG 0 0⟩ }
  {
  intro ρ w Γx Λx hs hu hp
  have e28 : ρ 13 = .bool (x19 == x20) := (hp 5 rfl).1
  refine WL.call (vs := []) hs FN10 trivial (fun ok hA => eslaw38_awake.calls hxx22) ?_ (hg := (wanted_of rfl rfl (bool_tr e28 hc21)).trans rfl)
  rintro _ w hs
  exact WL.nil ⟨rfl, _, rfl, rfl, hs.cutG 0 0⟩ }
  {
  intro ρ w Γx Λx hs hu hp
  have e29 : ρ 13 = .bool (x19 == x20) := (hp 5 rfl).1
  have e30 : ρ 14 = .bool x22 := (hp 6 rfl).1
  refine WL.pickT (v := .bool x22) (bool_tr e29 hc21) e30 ?_
  exact WL.nil ⟨rfl, _, rfl, rfl, hs.cutG 0 0⟩ }
  {
  intro ρ w hs hu31 hp
  obtain ⟨⟨⟨⟨⟨⟨⟨⟨_, hp0_⟩, hp1_⟩, hp2_⟩, hp3_⟩, hp4_⟩, hp5_⟩, hp6_⟩, hp7_⟩ := hp
  have hs : St ok (bz w0) w [vl (tSlice t_history_Operation) x1.Operations (.slice a10 (x1.Operations).length c11), vl t_history_History x1 (.agg cs3.toArray)] [blk g6 24 cs3] := hs
  have e32 : ρ 15 = .bool x22 := hp7_
  have e33 : ρ 14 = .bool x22 := hp6_
  have e34 : ρ 13 = .bool (x19 == x20) := hp5_
  have e35 : ρ 12 = .bool (x19 == x20) := hp4_
  have e36 : ρ 11 = .int .i64 x20 := hp3_
  have e37 : ρ 10 = .agg cs3.toArray := hp2_
  have e38 : ρ 9 = .int .i64 x19 := hp1_
  have e39 : ρ 8 = .agg cs3.toArray := hp0_
  refine WA.step [8] (by kernel_rfl) (by simp) ⟨?_, trivial⟩
  refine WL.assign (v := .bool x22) e32 ?_
  refine WL.nil ⟨rfl, _, rfl, ?_⟩
  refine WA.done (by kernel_rfl) ?_
  exact Jk18 x22 _ _ rfl ((hs.mask []).pick []) hf } }
  {
  refine W.any (by kernel_rfl) 8 1 [true, true, true, true, true, true, true, true, false] rfl rfl (poAt [pv (.agg cs3.toArray), pv (.int .i64 x19), pv (.agg cs3.toArray), pv (.int .i64 x20), pv (.bool (x19 == x20)), pv (.bool (x19 == x20)), pv (undef), pv (.bool false)]) (Λ := [blk g6 24 cs3]) hs (by kernel_rfl) (by kernel_rfl) (by kernel_rfl) ⟨⟨⟨⟨⟨⟨⟨⟨trivial, ?_⟩, ?_⟩, ?_⟩, ?_⟩, ?_⟩, ?_⟩, ?_⟩, ?_⟩ ?_
  {
  intro ρ w Γx Λx hs hu hp
  refine WL.loadAll hs (Λx.length + 0) (getApp rfl) TI24 (hu 1 rfl) hl4 ?_
  exact WL.nil ⟨rfl, _, rfl, rfl, hs.cutG 0 0⟩ }
  {
  intro ρ w Γx Λx hs hu hp
  have e40 : ρ 8 = .agg cs3.toArray := (hp 0 rfl).1
  refine WL.call (vs := [.agg cs3.toArray]) hs FN11 ⟨e40, trivial⟩ (fun ok hA => history_Validate.calls (x1 := x1) hxx19 (hA.get (Γx.length + 1) (getApp rfl))) ?_
  rintro _ w hs
  exact WL.nil ⟨rfl, _, rfl, rfl, hs.cutG 0 0⟩ }
  {
  intro ρ w Γx Λx hs hu hp
  refine WL.loadAll hs (Λx.length + 0) (getApp rfl) TI24 (hu 1 rfl) hl4 ?_
  exact WL.nil ⟨rfl, _, rfl, rfl, hs.cutG 0 0⟩ }
  {
  intro ρ w Γx Λx hs hu hp
  have e41 : ρ 10 = .agg cs3.toArray := (hp 2 rfl).1
  refine WL.call (vs := [.agg cs3.toArray]) hs FN12 ⟨e41, trivial⟩ (fun ok hA => esref39_Validate.calls (x1 := x1) hxx20 (hA.get (Γx.length + 1) (getApp rfl))) ?_
  rintro _ w hs
  exact WL.nil ⟨rfl, _, rfl, rfl, hs.cutG 0 0⟩ }
  {
  intro ρ w Γx Λx hs hu hp
  have e42 : ρ 9 = .int .i64 x19 := (hp 1 rfl).1
  have e43 : ρ 11 = .int .i64 x20 := (hp 3 rfl).1
  refine WL.bin (v := .bool (x19 == x20)) e42 e43 (ib_eql _ _ _) ?_
  exact WL.nil ⟨rfl, _, rfl, rfl, hs.cutG 0 0⟩ }
  {
  intro ρ w Γx Λx hs hu hp
  have e44 : ρ 12 = .bool (x19 == x20) := (hp 4 rfl).1
  refine WL.move (v := .bool (x19 == x20)) e44 ?_
  exact WL.nil ⟨rfl, _, rfl, rfl, hs.cutG 0 0⟩ }
  {
  intro ρ w Γx Λx hs hu hp
  have e45 : ρ 13 = .bool (x19 == x20) := (hp 5 rfl).1
  refine WL.pass ((wanted_of rfl rfl (bool_tr e45 hc21)).trans rfl) rfl ?_
  exact WL.nil ⟨rfl, _, rfl, rfl, hs.cutG 0 0⟩ }
  {
  intro ρ w Γx Λx hs hu hp
  have e46 : ρ 13 = .bool (x19 == x20) := (hp 5 rfl).1
  have e47 : ρ 14 = undef := (hp 6 rfl).1
  refine WL.pickF (v := .bool false) (bool_tr e46 hc21) rfl ?_
  exact WL.nil ⟨rfl, _, rfl, rfl, hs.cutG 0 0⟩ }
  {
  intro ρ w hs hu48 hp
  obtain ⟨⟨⟨⟨⟨⟨⟨⟨_, hp0_⟩, hp1_⟩, hp2_⟩, hp3_⟩, hp4_⟩, hp5_⟩, hp6_⟩, hp7_⟩ := hp
  have hs : St ok (bz w0) w [vl (tSlice t_history_Operation) x1.Operations (.slice a10 (x1.Operations).length c11), vl t_history_History x1 (.agg cs3.toArray)] [blk g6 24 cs3] := hs
  have e49 : ρ 15 = .bool false := hp7_
  have e50 : ρ 14 = undef := hp6_
  have e51 : ρ 13 = .bool (x19 == x20) := hp5_
  have e52 : ρ 12 = .bool (x19 == x20) := hp4_
  have e53 : ρ 11 = .int .i64 x20 := hp3_
  have e54 : ρ 10 = .agg cs3.toArray := hp2_
  have e55 : ρ 9 = .int .i64 x19 := hp1_
  have e56 : ρ 8 = .agg cs3.toArray := hp0_
  refine WA.step [8] (by kernel_rfl) (by simp) ⟨?_, trivial⟩
  refine WL.assign (v := .bool false) e49 ?_
  refine WL.nil ⟨rfl, _, rfl, ?_⟩
  refine WA.done (by kernel_rfl) ?_
  exact Jk18 false _ _ rfl ((hs.mask []).pick []) hf } } }
end Go.Proofs.Ytbbeobiampbddaa
