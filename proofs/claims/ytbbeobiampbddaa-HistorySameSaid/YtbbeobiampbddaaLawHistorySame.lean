/- HistorySame: for every input the law returns true, and each argument reads as it did. -/
import Derived.Test.YtbbeobiampbddaaRows
import Derived.Test.YtbbeobiampbddaaLr
import Derived.Test.YtbbeobiampbddaaFp13
import Derived.Test.YtbbeobiampbddaaP38n
import Derived.WalkKit
import Derived.ProofKit
import Derived.OpenShut
import Derived.ShutString
import Derived.ChangeOld
import Derived.Below
set_option linter.unusedVariables false
set_option linter.unusedSimpArgs false
set_option maxRecDepth 100000
namespace Go.Proofs.Ytbbeobiampbddaa
open Go Go.RowKit Go.ChangeShapes Go.WideShapes Go.ChangeAt Go.Proofs.YtbbeobiampbddaaL
open Go.ChangeMaps (open_string shut_string)
theorem HistorySame.own : ownKnob Try.prog.godebug = none := by kernel_rfl
theorem HistorySame.laidOut : laidOutB Try.prog = true := by kernel_rfl
def W_history_Value : history_Value → Prop := wIso (fun x : history_Value => (x.Object, x.Field, x.Set, x.N, x.S, x.HasMax, x.Max, x.Sum, x.Elems, x.Flag)) (wPair wStr (wPair wStr (wPair wBool (wPair (wInt .i64) (wPair wStr (wPair wBool (wPair (wInt .i64) (wPair (wInt .i64) (wPair (wSlice wStr) wBool)))))))))
theorem RD68 : RdAt Try.prog 68 t_history_Value W_history_Value := rdStruct (B := tPair tStr (tPair tStr (tPair tBool (tPair (tInt .i64) (tPair tStr (tPair tBool (tPair (tInt .i64) (tPair (tInt .i64) (tPair (tSlice tStr) tBool))))))))) (V := wPair wStr (wPair wStr (wPair wBool (wPair (wInt .i64) (wPair wStr (wPair wBool (wPair (wInt .i64) (wPair (wInt .i64) (wPair (wSlice wStr) wBool))))))))) (fun x : history_Value => (x.Object, x.Field, x.Set, x.N, x.S, x.HasMax, x.Max, x.Sum, x.Elems, x.Flag)) (fun y => (⟨y.1, y.2.1, y.2.2.1, y.2.2.2.1, y.2.2.2.2.1, y.2.2.2.2.2.1, y.2.2.2.2.2.2.1, y.2.2.2.2.2.2.2.1, y.2.2.2.2.2.2.2.2.1, y.2.2.2.2.2.2.2.2.2⟩ : history_Value)) (fun _ => rfl) Try.underlying68 (RdF.cons (off' := 1) (rdStr Try.underlying9) rfl (by kernel_rfl) (RdF.cons (off' := 2) (rdStr Try.underlying9) rfl (by kernel_rfl) (RdF.cons (off' := 3) (rdBool Try.underlying4) rfl (by kernel_rfl) (RdF.cons (off' := 4) (rdInt Try.underlying2) rfl (by kernel_rfl) (RdF.cons (off' := 5) (rdStr Try.underlying9) rfl (by kernel_rfl) (RdF.cons (off' := 6) (rdBool Try.underlying4) rfl (by kernel_rfl) (RdF.cons (off' := 7) (rdInt Try.underlying2) rfl (by kernel_rfl) (RdF.cons (off' := 8) (rdInt Try.underlying2) rfl (by kernel_rfl) (RdF.cons (off' := 9) (rdSlice Try.underlying59 (rdStr Try.underlying9) (by kernel_rfl) (by decide)) rfl (by kernel_rfl) (RdF.one (rdBool Try.underlying4) rfl (by kernel_rfl)) rfl rfl) rfl rfl) rfl rfl) rfl rfl) rfl rfl) rfl rfl) rfl rfl) rfl rfl) rfl rfl) (by kernel_rfl)
theorem HistorySame.walk (x0 : List history_Value) (x1 : List history_Value) {a0 : Option Addr} {c0 : Nat} {a1 : Option Addr} {c1 : Nat} (hw0 : (wSlice W_history_Value) x0) (hw1 : (wSlice W_history_Value) x1)  (W : World) (i0 : (vl (tSlice t_history_Value) x0 (.slice a0 x0.length c0)).holds (fun b => b < W.heap.size) W) (i1 : (vl (tSlice t_history_Value) x1 (.slice a1 x1.length c1)).holds (fun b => b < W.heap.size) W) : Calls Try.prog 8 #[.slice a0 x0.length c0, .slice a1 x1.length c1] W fun e w' => e = .returned (.bool true) ∧ Below W.heap.size W w' := by
  refine (eslaw38_HistorySame.calls (historySame_wf x0 x1 hw0 hw1) i0 i1).mono ?_
  rintro e w' ⟨v, rfl, _, rfl, hs⟩
  exact ⟨rfl, hs.1.nil_below⟩
theorem HistorySame.lifted (os : Os) (started : os.Started) (H : Type) (enc : TypeId × Value → H) :
    ReturnsInHanded {} Try.checked os 8 .any (Rows.historySameSpec.pre6 enc Try.prog Try.f8 Rows.historySameRow.domain false) (Rows.historySameSpec.post enc Try.prog Try.f8 false true false false) := by
  refine returnsInHanded_of_change (C := Try.checked) HistorySame.own started (by kernel_rfl) Try.func8
    (ChangeSpec.witness6 (enc := enc) (C := Try.checked) false ⟨#[], #[.slice none 0 0, .slice none 0 0], []⟩ 8 (by kernel_rfl) (by kernel_rfl) (by kernel_rfl) (by kernel_rfl)) ?_
  intro W base args ds gs before hval0 hW hcnd _
  have hval : ∀ (j : Nat) t v, Try.f8.params[j]? = some t → args[j]? = some v → Value.okWide Try.prog W .any base t v := hval0
  have hW' := hW
  obtain ⟨p, q, hA0, hV, rfl, hfz, hnd⟩ := hW
  have hA : DataW.TrodAll enc Try.prog W 0 (fun _ => true) true Try.f8.params.toList args.toList ds p := hA0
  rw [Try.params8] at hA hval
  obtain ⟨v0, vs0, d0, ds0, p0, q0, hargs, rfl, rfl, h0, r0⟩ := trodAll_cons hA
  obtain ⟨v1, vs1, d1, ds1, p1, q1, rfl, rfl, rfl, h1, r1⟩ := trodAll_cons r0
  obtain ⟨rfl, rfl, rfl⟩ := trodAll_nil r1
  obtain rfl : args = #[v0, v1] := by cases args; simp_all
  obtain ⟨rfl, rfl⟩ := trodVars_none hV
  obtain ⟨a0, len0, c0, rfl⟩ := okWide_slice Try.underlying31 (hval 0 31 v0 rfl rfl)
  have k0 := h0
  have lt0 : ∀ x ∈ p0, x.block < W.heap.size := by obtain ⟨m, hm⟩ := k0; exact DataW.trod_lt m _ _ _ hm
  obtain ⟨x0, rfl, i0, hw0⟩ := arg_slice (rdSlice Try.underlying31 RD68 (by kernel_rfl) (by decide)) h0
  obtain ⟨a1, len1, c1, rfl⟩ := okWide_slice Try.underlying31 (hval 1 31 v1 rfl rfl)
  have k1 := h1
  have lt1 : ∀ x ∈ p1, x.block < W.heap.size := by obtain ⟨m, hm⟩ := k1; exact DataW.trod_lt m _ _ _ hm
  obtain ⟨x1, rfl, i1, hw1⟩ := arg_slice (rdSlice Try.underlying31 RD68 (by kernel_rfl) (by decide)) h1
  clear hA0 hval0
  refine (HistorySame.walk x0 x1 hw0 hw1 W i0 i1).mono fun e W' ⟨he, bel⟩ => ?_
  subst he
  exact ⟨_, rfl, _, _, _, [], _, [], hW', trodAll_mk1 (shut_bool Try.underlying4 _), (trodAll_cons_mk (Below.trod HistorySame.laidOut (by kernel_rfl) (of_decide_eq_true (by kernel_rfl)) k0 bel lt0) (trodAll_cons_mk (Below.trod HistorySame.laidOut (by kernel_rfl) (of_decide_eq_true (by kernel_rfl)) k1 bel lt1) trodAll_mk0)), rfl, bel.frame _, fun h => by cases h⟩
theorem HistorySame.proved : Rows.HistorySameSaid :=
  OpenClaim.holds_of_wide 8 Try.f8 rfl rfl rfl rfl rfl rfl rfl ⟨rfl, rfl, rfl, rfl, rfl⟩ rfl rfl rfl rfl rfl (by kernel_rfl) Try.func8 (by kernel_rfl)
    (of_decide_eq_true (by kernel_rfl)) (by unfold Func.isWrapper; first | (rw [if_pos (by decide +kernel)]; kernel_rfl) | (rw [if_neg (by decide +kernel)]; exact ⟨rfl, rfl⟩))
    (fun os started H enc _ => HistorySame.lifted os started H enc)
end Go.Proofs.Ytbbeobiampbddaa
#print axioms Go.Proofs.Ytbbeobiampbddaa.HistorySame.proved
