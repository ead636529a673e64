/- FoldApply: for every input the law returns true, and each argument reads as it did. -/
import Derived.Test.YtlbcfjblpopcnaaRows
import Derived.Test.YtlbcfjblpopcnaaQFY1
import Derived.Test.YtlbcfjblpopcnaaQFY5
import Derived.Test.YtlbcfjblpopcnaaQFY6
import Derived.WalkKit
import Derived.ProofKit
import Derived.OpenShut
import Derived.ShutString
import Derived.ChangeOld
import Derived.Below
set_option linter.unusedVariables false
set_option linter.unusedSimpArgs false
set_option maxRecDepth 100000
namespace Go.Proofs.Ytlbcfjblpopcnaa
open Go Go.RowKit Go.ChangeShapes Go.WideShapes Go.ChangeAt Go.Proofs.YtlbcfjblpopcnaaL
open Go.ChangeMaps (open_string shut_string)
theorem FoldApply.own : ownKnob Try.prog.godebug = none := by kernel_rfl
theorem FoldApply.laidOut : laidOutB Try.prog = true := by kernel_rfl
def W_api_Effect : api_Effect → Prop := wIso (fun x : api_Effect => (x.Kind, x.Object, x.Field, x.N, x.S)) (wPair (wInt .i64) (wPair wStr (wPair wStr (wPair (wInt .i64) wStr))))
theorem RD67 : RdAt Try.prog 67 t_api_Effect W_api_Effect := rdStruct (B := tPair (tInt .i64) (tPair tStr (tPair tStr (tPair (tInt .i64) tStr)))) (V := wPair (wInt .i64) (wPair wStr (wPair wStr (wPair (wInt .i64) wStr)))) (fun x : api_Effect => (x.Kind, x.Object, x.Field, x.N, x.S)) (fun y => (⟨y.1, y.2.1, y.2.2.1, y.2.2.2.1, y.2.2.2.2⟩ : api_Effect)) (fun _ => rfl) Try.underlying67 (RdF.cons (off' := 1) (rdInt Try.underlying3) rfl (by kernel_rfl) (RdF.cons (off' := 2) (rdStr Try.underlying9) rfl (by kernel_rfl) (RdF.cons (off' := 3) (rdStr Try.underlying9) rfl (by kernel_rfl) (RdF.cons (off' := 4) (rdInt Try.underlying2) rfl (by kernel_rfl) (RdF.one (rdStr Try.underlying9) rfl (by kernel_rfl)) rfl rfl) rfl rfl) rfl rfl) rfl rfl) (by kernel_rfl)
def W_api_Update : api_Update → Prop := wIso (fun x : api_Update => (x.Client, x.Seq, x.Tag, x.Effects)) (wPair (wInt .i64) (wPair (wInt .i64) (wPair (wInt .i64) (wSlice W_api_Effect))))
theorem RD41 : RdAt Try.prog 41 t_api_Update W_api_Update := rdStruct (B := tPair (tInt .i64) (tPair (tInt .i64) (tPair (tInt .i64) (tSlice t_api_Effect)))) (V := wPair (wInt .i64) (wPair (wInt .i64) (wPair (wInt .i64) (wSlice W_api_Effect)))) (fun x : api_Update => (x.Client, x.Seq, x.Tag, x.Effects)) (fun y => (⟨y.1, y.2.1, y.2.2.1, y.2.2.2⟩ : api_Update)) (fun _ => rfl) Try.underlying41 (RdF.cons (off' := 1) (rdInt Try.underlying3) rfl (by kernel_rfl) (RdF.cons (off' := 2) (rdInt Try.underlying3) rfl (by kernel_rfl) (RdF.cons (off' := 3) (rdInt Try.underlying3) rfl (by kernel_rfl) (RdF.one (rdSlice Try.underlying39 RD67 (by kernel_rfl) (by decide)) rfl (by kernel_rfl)) rfl rfl) rfl rfl) rfl rfl) (by kernel_rfl)
theorem FoldApply.walk (x0 : List Int) (x1 : api_Update) {a0 : Option Addr} {c0 : Nat} {v1 : Value}   (W : World) (i0 : (vl (tSlice (tInt .i64)) x0 (.slice a0 x0.length c0)).holds (fun b => b < W.heap.size) W) (i1 : (vl t_api_Update x1 v1).holds (fun b => b < W.heap.size) W) : Calls Try.prog 5 #[.slice a0 x0.length c0, v1] W fun e w' => e = .returned (.bool true) ∧ Below W.heap.size W w' := by
  refine (eslaw30_FoldApply.calls (foldApply_true x0 x1) i0 i1).mono ?_
  rintro e w' ⟨v, rfl, _, rfl, hs⟩
  exact ⟨rfl, hs.1.nil_below⟩
theorem FoldApply.lifted (os : Os) (started : os.Started) (H : Type) (enc : TypeId × Value → H) :
    ReturnsInHanded {} Try.checked os 5 .any (Rows.foldApplySpec.pre6 enc Try.prog Try.f5 Rows.foldApplyRow.domain false) (Rows.foldApplySpec.post enc Try.prog Try.f5 false true false false) := by
  refine returnsInHanded_of_change (C := Try.checked) FoldApply.own started (by kernel_rfl) Try.func5
    (ChangeSpec.witness6 (enc := enc) (C := Try.checked) false ⟨#[], #[.slice none 0 0, .agg #[.int .i64 0, .int .i64 0, .int .i64 0, .slice none 0 0]], []⟩ 8 (by kernel_rfl) (by kernel_rfl) (by kernel_rfl) (by kernel_rfl)) ?_
  intro W base args ds gs before hval0 hW hcnd _
  have hval : ∀ (j : Nat) t v, Try.f5.params[j]? = some t → args[j]? = some v → Value.okWide Try.prog W .any base t v := hval0
  have hW' := hW
  obtain ⟨p, q, hA0, hV, rfl, hfz, hnd⟩ := hW
  have hA : DataW.TrodAll enc Try.prog W 0 (fun _ => true) true Try.f5.params.toList args.toList ds p := hA0
  rw [Try.params5] at hA hval
  obtain ⟨v0, vs0, d0, ds0, p0, q0, hargs, rfl, rfl, h0, r0⟩ := trodAll_cons hA
  obtain ⟨v1, vs1, d1, ds1, p1, q1, rfl, rfl, rfl, h1, r1⟩ := trodAll_cons r0
  obtain ⟨rfl, rfl, rfl⟩ := trodAll_nil r1
  obtain rfl : args = #[v0, v1] := by cases args; simp_all
  obtain ⟨rfl, rfl⟩ := trodVars_none hV
  obtain ⟨a0, len0, c0, rfl⟩ := okWide_slice Try.underlying35 (hval 0 35 v0 rfl rfl)
  have k0 := h0
  have lt0 : ∀ x ∈ p0, x.block < W.heap.size := by obtain ⟨m, hm⟩ := k0; exact DataW.trod_lt m _ _ _ hm
  obtain ⟨x0, rfl, i0, hw0⟩ := arg_slice (rdSlice Try.underlying35 (rdInt Try.underlying3) (by kernel_rfl) (by decide)) h0
  obtain ⟨cs1, rfl, _⟩ := okWide_struct Try.underlying41 (hval 1 41 v1 rfl rfl)
  have k1 := h1
  have lt1 : ∀ x ∈ p1, x.block < W.heap.size := by obtain ⟨m, hm⟩ := k1; exact DataW.trod_lt m _ _ _ hm
  obtain ⟨x1, i1, hw1⟩ := arg_struct (T := t_api_Update) rfl RD41 h1
  clear hA0 hval0
  refine (FoldApply.walk x0 x1 W i0 i1).mono fun e W' ⟨he, bel⟩ => ?_
  subst he
  exact ⟨_, rfl, _, _, _, [], _, [], hW', trodAll_mk1 (shut_bool Try.underlying4 _), (trodAll_cons_mk (Below.trod FoldApply.laidOut (by kernel_rfl) (of_decide_eq_true (by kernel_rfl)) k0 bel lt0) (trodAll_cons_mk (Below.trod FoldApply.laidOut (by kernel_rfl) (of_decide_eq_true (by kernel_rfl)) k1 bel lt1) trodAll_mk0)), rfl, bel.frame _, fun h => by cases h⟩
theorem FoldApply.proved : Rows.FoldApplySaid :=
  OpenClaim.holds_of_wide 5 Try.f5 rfl rfl rfl rfl rfl rfl rfl ⟨rfl, rfl, rfl, rfl, rfl⟩ rfl rfl rfl rfl rfl (by kernel_rfl) Try.func5 (by kernel_rfl)
    (of_decide_eq_true (by kernel_rfl)) (by unfold Func.isWrapper; first | (rw [if_pos (by decide +kernel)]; kernel_rfl) | (rw [if_neg (by decide +kernel)]; exact ⟨rfl, rfl⟩))
    (fun os started H enc _ => FoldApply.lifted os started H enc)
end Go.Proofs.Ytlbcfjblpopcnaa
#print axioms Go.Proofs.Ytlbcfjblpopcnaa.FoldApply.proved
