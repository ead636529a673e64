/- HistoryValidate: for every input the law returns true, and each argument reads as it did. -/
import Derived.Test.YtbbeobiampbddaaRows
import Derived.Test.YtbbeobiampbddaaLr
import Derived.Test.YtbbeobiampbddaaFp7
import Derived.Test.YtbbeobiampbddaaP38h
import Derived.WalkKit
import Derived.ProofKit
import Derived.OpenShut
import Derived.ShutString
import Derived.ChangeOld
import Derived.Below
set_option linter.unusedVariables false
set_option linter.unusedSimpArgs false
set_option maxRecDepth 100000
namespace Go.Proofs.Ytbbeobiampbddaa
open Go Go.RowKit Go.ChangeShapes Go.WideShapes Go.ChangeAt Go.Proofs.YtbbeobiampbddaaL
open Go.ChangeMaps (open_string shut_string)
theorem HistoryValidate.own : ownKnob Try.prog.godebug = none := by kernel_rfl
theorem HistoryValidate.laidOut : laidOutB Try.prog = true := by kernel_rfl
def W_api_Effect : api_Effect → Prop := wIso (fun x : api_Effect => (x.Kind, x.Object, x.Field, x.N, x.S)) (wPair (wInt .i64) (wPair wStr (wPair wStr (wPair (wInt .i64) wStr))))
theorem RD72 : RdAt Try.prog 72 t_api_Effect W_api_Effect := rdStruct (B := tPair (tInt .i64) (tPair tStr (tPair tStr (tPair (tInt .i64) tStr)))) (V := wPair (wInt .i64) (wPair wStr (wPair wStr (wPair (wInt .i64) wStr)))) (fun x : api_Effect => (x.Kind, x.Object, x.Field, x.N, x.S)) (fun y => (⟨y.1, y.2.1, y.2.2.1, y.2.2.2.1, y.2.2.2.2⟩ : api_Effect)) (fun _ => rfl) Try.underlying72 (RdF.cons (off' := 1) (rdInt Try.underlying3) rfl (by kernel_rfl) (RdF.cons (off' := 2) (rdStr Try.underlying9) rfl (by kernel_rfl) (RdF.cons (off' := 3) (rdStr Try.underlying9) rfl (by kernel_rfl) (RdF.cons (off' := 4) (rdInt Try.underlying2) rfl (by kernel_rfl) (RdF.one (rdStr Try.underlying9) rfl (by kernel_rfl)) rfl rfl) rfl rfl) rfl rfl) rfl rfl) (by kernel_rfl)
def W_history_Value : history_Value → Prop := wIso (fun x : history_Value => (x.Object, x.Field, x.Set, x.N, x.S, x.HasMax, x.Max, x.Sum, x.Elems, x.Flag)) (wPair wStr (wPair wStr (wPair wBool (wPair (wInt .i64) (wPair wStr (wPair wBool (wPair (wInt .i64) (wPair (wInt .i64) (wPair (wSlice wStr) wBool)))))))))
theorem RD68 : RdAt Try.prog 68 t_history_Value W_history_Value := rdStruct (B := tPair tStr (tPair tStr (tPair tBool (tPair (tInt .i64) (tPair tStr (tPair tBool (tPair (tInt .i64) (tPair (tInt .i64) (tPair (tSlice tStr) tBool))))))))) (V := wPair wStr (wPair wStr (wPair wBool (wPair (wInt .i64) (wPair wStr (wPair wBool (wPair (wInt .i64) (wPair (wInt .i64) (wPair (wSlice wStr) wBool))))))))) (fun x : history_Value => (x.Object, x.Field, x.Set, x.N, x.S, x.HasMax, x.Max, x.Sum, x.Elems, x.Flag)) (fun y => (⟨y.1, y.2.1, y.2.2.1, y.2.2.2.1, y.2.2.2.2.1, y.2.2.2.2.2.1, y.2.2.2.2.2.2.1, y.2.2.2.2.2.2.2.1, y.2.2.2.2.2.2.2.2.1, y.2.2.2.2.2.2.2.2.2⟩ : history_Value)) (fun _ => rfl) Try.underlying68 (RdF.cons (off' := 1) (rdStr Try.underlying9) rfl (by kernel_rfl) (RdF.cons (off' := 2) (rdStr Try.underlying9) rfl (by kernel_rfl) (RdF.cons (off' := 3) (rdBool Try.underlying4) rfl (by kernel_rfl) (RdF.cons (off' := 4) (rdInt Try.underlying2) rfl (by kernel_rfl) (RdF.cons (off' := 5) (rdStr Try.underlying9) rfl (by kernel_rfl) (RdF.cons (off' := 6) (rdBool Try.underlying4) rfl (by kernel_rfl) (RdF.cons (off' := 7) (rdInt Try.underlying2) rfl (by kernel_rfl) (RdF.cons (off' := 8) (rdInt Try.underlying2) rfl (by kernel_rfl) (RdF.cons (off' := 9) (rdSlice Try.underlying59 (rdStr Try.underlying9) (by kernel_rfl) (by decide)) rfl (by kernel_rfl) (RdF.one (rdBool Try.underlying4) rfl (by kernel_rfl)) rfl rfl) rfl rfl) rfl rfl) rfl rfl) rfl rfl) rfl rfl) rfl rfl) rfl rfl) rfl rfl) (by kernel_rfl)
def W_history_Operation : history_Operation → Prop := wIso (fun x : history_Operation => (x.Process, x.Kind, x.Effects, x.Result, x.Call, x.Return)) (wPair (wInt .i64) (wPair (wInt .i64) (wPair (wSlice W_api_Effect) (wPair (wSlice W_history_Value) (wPair (wInt .i64) (wInt .i64))))))
theorem RD35 : RdAt Try.prog 35 t_history_Operation W_history_Operation := rdStruct (B := tPair (tInt .i64) (tPair (tInt .i64) (tPair (tSlice t_api_Effect) (tPair (tSlice t_history_Value) (tPair (tInt .i64) (tInt .i64)))))) (V := wPair (wInt .i64) (wPair (wInt .i64) (wPair (wSlice W_api_Effect) (wPair (wSlice W_history_Value) (wPair (wInt .i64) (wInt .i64)))))) (fun x : history_Operation => (x.Process, x.Kind, x.Effects, x.Result, x.Call, x.Return)) (fun y => (⟨y.1, y.2.1, y.2.2.1, y.2.2.2.1, y.2.2.2.2.1, y.2.2.2.2.2⟩ : history_Operation)) (fun _ => rfl) Try.underlying35 (RdF.cons (off' := 1) (rdInt Try.underlying3) rfl (by kernel_rfl) (RdF.cons (off' := 2) (rdInt Try.underlying3) rfl (by kernel_rfl) (RdF.cons (off' := 3) (rdSlice Try.underlying30 RD72 (by kernel_rfl) (by decide)) rfl (by kernel_rfl) (RdF.cons (off' := 4) (rdSlice Try.underlying31 RD68 (by kernel_rfl) (by decide)) rfl (by kernel_rfl) (RdF.cons (off' := 5) (rdInt Try.underlying3) rfl (by kernel_rfl) (RdF.one (rdInt Try.underlying3) rfl (by kernel_rfl)) rfl rfl) rfl rfl) rfl rfl) rfl rfl) rfl rfl) (by kernel_rfl)
def W_history_History : history_History → Prop := wIso (fun x : history_History => x.Operations) (wSlice W_history_Operation)
theorem RD24 : RdAt Try.prog 24 t_history_History W_history_History := rdStruct (B := tSlice t_history_Operation) (V := wSlice W_history_Operation) (fun x : history_History => x.Operations) (fun y => (⟨y⟩ : history_History)) (fun _ => rfl) Try.underlying24 (RdF.one (rdSlice Try.underlying22 RD35 (by kernel_rfl) (by decide)) rfl (by kernel_rfl)) (by kernel_rfl)
theorem HistoryValidate.walk (x0 : history_History) {v0 : Value}   (W : World) (i0 : (vl t_history_History x0 v0).holds (fun b => b < W.heap.size) W) : Calls Try.prog 3 #[v0] W fun e w' => e = .returned (.bool true) ∧ Below W.heap.size W w' := by
  refine (eslaw38_HistoryValidate.calls (historyValidate_true x0) i0).mono ?_
  rintro e w' ⟨v, rfl, _, rfl, hs⟩
  exact ⟨rfl, hs.1.nil_below⟩
theorem HistoryValidate.lifted (os : Os) (started : os.Started) (H : Type) (enc : TypeId × Value → H) :
    ReturnsInHanded {} Try.checked os 3 .any (Rows.historyValidateSpec.pre6 enc Try.prog Try.f3 Rows.historyValidateRow.domain false) (Rows.historyValidateSpec.post enc Try.prog Try.f3 false true false false) := by
  refine returnsInHanded_of_change (C := Try.checked) HistoryValidate.own started (by kernel_rfl) Try.func3
    (ChangeSpec.witness6 (enc := enc) (C := Try.checked) false ⟨#[], #[.agg #[.slice none 0 0]], []⟩ 8 (by kernel_rfl) (by kernel_rfl) (by kernel_rfl) (by kernel_rfl)) ?_
  intro W base args ds gs before hval0 hW hcnd _
  have hval : ∀ (j : Nat) t v, Try.f3.params[j]? = some t → args[j]? = some v → Value.okWide Try.prog W .any base t v := hval0
  have hW' := hW
  obtain ⟨p, q, hA0, hV, rfl, hfz, hnd⟩ := hW
  have hA : DataW.TrodAll enc Try.prog W 0 (fun _ => true) true Try.f3.params.toList args.toList ds p := hA0
  rw [Try.params3] at hA hval
  obtain ⟨v0, vs0, d0, ds0, p0, q0, hargs, rfl, rfl, h0, r0⟩ := trodAll_cons hA
  obtain ⟨rfl, rfl, rfl⟩ := trodAll_nil r0
  obtain rfl : args = #[v0] := by cases args; simp_all
  obtain ⟨rfl, rfl⟩ := trodVars_none hV
  obtain ⟨cs0, rfl, _⟩ := okWide_struct Try.underlying24 (hval 0 24 v0 rfl rfl)
  have k0 := h0
  have lt0 : ∀ x ∈ p0, x.block < W.heap.size := by obtain ⟨m, hm⟩ := k0; exact DataW.trod_lt m _ _ _ hm
  obtain ⟨x0, i0, hw0⟩ := arg_struct (T := t_history_History) rfl RD24 h0
  clear hA0 hval0
  refine (HistoryValidate.walk x0 W i0).mono fun e W' ⟨he, bel⟩ => ?_
  subst he
  exact ⟨_, rfl, _, _, _, [], _, [], hW', trodAll_mk1 (shut_bool Try.underlying4 _), (trodAll_cons_mk (Below.trod HistoryValidate.laidOut (by kernel_rfl) (of_decide_eq_true (by kernel_rfl)) k0 bel lt0) trodAll_mk0), rfl, bel.frame _, fun h => by cases h⟩
theorem HistoryValidate.proved : Rows.HistoryValidateSaid :=
  OpenClaim.holds_of_wide 3 Try.f3 rfl rfl rfl rfl rfl rfl rfl ⟨rfl, rfl, rfl, rfl, rfl⟩ rfl rfl rfl rfl rfl (by kernel_rfl) Try.func3 (by kernel_rfl)
    (of_decide_eq_true (by kernel_rfl)) (by unfold Func.isWrapper; first | (rw [if_pos (by decide +kernel)]; kernel_rfl) | (rw [if_neg (by decide +kernel)]; exact ⟨rfl, rfl⟩))
    (fun os started H enc _ => HistoryValidate.lifted os started H enc)
end Go.Proofs.Ytbbeobiampbddaa
#print axioms Go.Proofs.Ytbbeobiampbddaa.HistoryValidate.proved
