/- FoldState: for every input the law returns true, and each argument reads as it did. -/
import Derived.Test.YtlbcfjblpopcnaaRows
import Derived.Test.YtlbcfjblpopcnaaQFU0
import Derived.Test.YtlbcfjblpopcnaaQFU6
import Derived.WalkKit
import Derived.ProofKit
import Derived.OpenShut
import Derived.ShutString
import Derived.ChangeOld
import Derived.Below
set_option linter.unusedVariables false
set_option linter.unusedSimpArgs false
set_option maxRecDepth 100000
namespace Go.Proofs.Ytlbcfjblpopcnaa
open Go Go.RowKit Go.ChangeShapes Go.WideShapes Go.ChangeAt Go.Proofs.YtlbcfjblpopcnaaL
open Go.ChangeMaps (open_string shut_string)
theorem FoldState.own : ownKnob Try.prog.godebug = none := by kernel_rfl
theorem FoldState.laidOut : laidOutB Try.prog = true := by kernel_rfl
def W_api_Effect : api_Effect → Prop := wIso (fun x : api_Effect => (x.Kind, x.Object, x.Field, x.N, x.S)) (wPair (wInt .i64) (wPair wStr (wPair wStr (wPair (wInt .i64) wStr))))
theorem RD67 : RdAt Try.prog 67 t_api_Effect W_api_Effect := rdStruct (B := tPair (tInt .i64) (tPair tStr (tPair tStr (tPair (tInt .i64) tStr)))) (V := wPair (wInt .i64) (wPair wStr (wPair wStr (wPair (wInt .i64) wStr)))) (fun x : api_Effect => (x.Kind, x.Object, x.Field, x.N, x.S)) (fun y => (⟨y.1, y.2.1, y.2.2.1, y.2.2.2.1, y.2.2.2.2⟩ : api_Effect)) (fun _ => rfl) Try.underlying67 (RdF.cons (off' := 1) (rdInt Try.underlying3) rfl (by kernel_rfl) (RdF.cons (off' := 2) (rdStr Try.underlying9) rfl (by kernel_rfl) (RdF.cons (off' := 3) (rdStr Try.underlying9) rfl (by kernel_rfl) (RdF.cons (off' := 4) (rdInt Try.underlying2) rfl (by kernel_rfl) (RdF.one (rdStr Try.underlying9) rfl (by kernel_rfl)) rfl rfl) rfl rfl) rfl rfl) rfl rfl) (by kernel_rfl)
def W_api_Update : api_Update → Prop := wIso (fun x : api_Update => (x.Client, x.Seq, x.Tag, x.Effects)) (wPair (wInt .i64) (wPair (wInt .i64) (wPair (wInt .i64) (wSlice W_api_Effect))))
theorem RD41 : RdAt Try.prog 41 t_api_Update W_api_Update := rdStruct (B := tPair (tInt .i64) (tPair (tInt .i64) (tPair (tInt .i64) (tSlice t_api_Effect)))) (V := wPair (wInt .i64) (wPair (wInt .i64) (wPair (wInt .i64) (wSlice W_api_Effect)))) (fun x : api_Update => (x.Client, x.Seq, x.Tag, x.Effects)) (fun y => (⟨y.1, y.2.1, y.2.2.1, y.2.2.2⟩ : api_Update)) (fun _ => rfl) Try.underlying41 (RdF.cons (off' := 1) (rdInt Try.underlying3) rfl (by kernel_rfl) (RdF.cons (off' := 2) (rdInt Try.underlying3) rfl (by kernel_rfl) (RdF.cons (off' := 3) (rdInt Try.underlying3) rfl (by kernel_rfl) (RdF.one (rdSlice Try.underlying39 RD67 (by kernel_rfl) (by decide)) rfl (by kernel_rfl)) rfl rfl) rfl rfl) rfl rfl) (by kernel_rfl)
theorem FoldState.walk (x0 : List api_Update) {a0 : Option Addr} {c0 : Nat} (hw0 : (wSlice W_api_Update) x0)  (W : World) (i0 : (vl (tSlice t_api_Update) x0 (.slice a0 x0.length c0)).holds (fun b => b < W.heap.size) W) : Calls Try.prog 3 #[.slice a0 x0.length c0] W fun e w' => e = .returned (.bool true) ∧ Below W.heap.size W w' := by
  refine (eslaw30_FoldState.calls (foldState_wf x0 hw0) i0).mono ?_
  rintro e w' ⟨v, rfl, _, rfl, hs⟩
  exact ⟨rfl, hs.1.nil_below⟩
theorem FoldState.lifted (os : Os) (started : os.Started) (H : Type) (enc : TypeId × Value → H) :
    ReturnsInHanded {} Try.checked os 3 .any (Rows.foldStateSpec.pre6 enc Try.prog Try.f3 Rows.foldStateRow.domain false) (Rows.foldStateSpec.post enc Try.prog Try.f3 false true false false) := by
  refine returnsInHanded_of_change (C := Try.checked) FoldState.own started (by kernel_rfl) Try.func3
    (ChangeSpec.witness6 (enc := enc) (C := Try.checked) false ⟨#[], #[.slice none 0 0], []⟩ 8 (by kernel_rfl) (by kernel_rfl) (by kernel_rfl) (by kernel_rfl)) ?_
  intro W base args ds gs before hval0 hW hcnd _
  have hval : ∀ (j : Nat) t v, Try.f3.params[j]? = some t → args[j]? = some v → Value.okWide Try.prog W .any base t v := hval0
  have hW' := hW
  obtain ⟨p, q, hA0, hV, rfl, hfz, hnd⟩ := hW
  have hA : DataW.TrodAll enc Try.prog W 0 (fun _ => true) true Try.f3.params.toList args.toList ds p := hA0
  rw [Try.params3] at hA hval
  obtain ⟨v0, vs0, d0, ds0, p0, q0, hargs, rfl, rfl, h0, r0⟩ := trodAll_cons hA
  obtain ⟨rfl, rfl, rfl⟩ := trodAll_nil r0
  obtain rfl : args = #[v0] := by cases args; simp_all
  obtain ⟨rfl, rfl⟩ := trodVars_none hV
  obtain ⟨a0, len0, c0, rfl⟩ := okWide_slice Try.underlying23 (hval 0 23 v0 rfl rfl)
  have k0 := h0
  have lt0 : ∀ x ∈ p0, x.block < W.heap.size := by obtain ⟨m, hm⟩ := k0; exact DataW.trod_lt m _ _ _ hm
  obtain ⟨x0, rfl, i0, hw0⟩ := arg_slice (rdSlice Try.underlying23 RD41 (by kernel_rfl) (by decide)) h0
  clear hA0 hval0
  refine (FoldState.walk x0 hw0 W i0).mono fun e W' ⟨he, bel⟩ => ?_
  subst he
  exact ⟨_, rfl, _, _, _, [], _, [], hW', trodAll_mk1 (shut_bool Try.underlying4 _), (trodAll_cons_mk (Below.trod FoldState.laidOut (by kernel_rfl) (of_decide_eq_true (by kernel_rfl)) k0 bel lt0) trodAll_mk0), rfl, bel.frame _, fun h => by cases h⟩
theorem FoldState.proved : Rows.FoldStateSaid :=
  OpenClaim.holds_of_wide 3 Try.f3 rfl rfl rfl rfl rfl rfl rfl ⟨rfl, rfl, rfl, rfl, rfl⟩ rfl rfl rfl rfl rfl (by kernel_rfl) Try.func3 (by kernel_rfl)
    (of_decide_eq_true (by kernel_rfl)) (by unfold Func.isWrapper; first | (rw [if_pos (by decide +kernel)]; kernel_rfl) | (rw [if_neg (by decide +kernel)]; exact ⟨rfl, rfl⟩))
    (fun os started H enc _ => FoldState.lifted os started H enc)
end Go.Proofs.Ytlbcfjblpopcnaa
#print axioms Go.Proofs.Ytlbcfjblpopcnaa.FoldState.proved
