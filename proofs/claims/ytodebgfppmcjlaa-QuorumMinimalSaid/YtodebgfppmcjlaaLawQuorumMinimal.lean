/- QuorumMinimal: for every input the law returns true, and each argument reads as it did. -/
import Derived.Test.YtodebgfppmcjlaaRows
import Derived.Test.YtodebgfppmcjlaaLr
import Derived.Test.YtodebgfppmcjlaaFp9
import Derived.Test.YtodebgfppmcjlaaP04l
import Derived.WalkKit
import Derived.ProofKit
import Derived.OpenShut
import Derived.ShutString
import Derived.ChangeOld
import Derived.Below
set_option linter.unusedVariables false
set_option linter.unusedSimpArgs false
set_option maxRecDepth 100000
namespace Go.Proofs.Ytodebgfppmcjlaa
open Go Go.RowKit Go.ChangeShapes Go.WideShapes Go.ChangeAt Go.Proofs.YtodebgfppmcjlaaL
open Go.ChangeMaps (open_string shut_string)
theorem QuorumMinimal.own : ownKnob Try.prog.godebug = none := by kernel_rfl
theorem QuorumMinimal.laidOut : laidOutB Try.prog = true := by kernel_rfl
def W_api_Member : api_Member → Prop := wIso (fun x : api_Member => (x.Server, x.Weight)) (wPair (wInt .i64) (wInt .i64))
theorem RD44 : RdAt Try.prog 44 t_api_Member W_api_Member := rdStruct (B := tPair (tInt .i64) (tInt .i64)) (V := wPair (wInt .i64) (wInt .i64)) (fun x : api_Member => (x.Server, x.Weight)) (fun y => (⟨y.1, y.2⟩ : api_Member)) (fun _ => rfl) Try.underlying44 (RdF.cons (off' := 1) (rdInt Try.underlying3) rfl (by kernel_rfl) (RdF.one (rdInt Try.underlying3) rfl (by kernel_rfl)) rfl rfl) (by kernel_rfl)
def W_api_Rule : api_Rule → Prop := wIso (fun x : api_Rule => (x.Kind, x.Columns, x.Faulty)) (wPair (wInt .i64) (wPair (wInt .i64) (wInt .i64)))
theorem RD23 : RdAt Try.prog 23 t_api_Rule W_api_Rule := rdStruct (B := tPair (tInt .i64) (tPair (tInt .i64) (tInt .i64))) (V := wPair (wInt .i64) (wPair (wInt .i64) (wInt .i64))) (fun x : api_Rule => (x.Kind, x.Columns, x.Faulty)) (fun y => (⟨y.1, y.2.1, y.2.2⟩ : api_Rule)) (fun _ => rfl) Try.underlying23 (RdF.cons (off' := 1) (rdInt Try.underlying3) rfl (by kernel_rfl) (RdF.cons (off' := 2) (rdInt Try.underlying3) rfl (by kernel_rfl) (RdF.one (rdInt Try.underlying3) rfl (by kernel_rfl)) rfl rfl) rfl rfl) (by kernel_rfl)
def W_api_View : api_View → Prop := wIso (fun x : api_View => (x.Members, x.Rule)) (wPair (wSlice W_api_Member) W_api_Rule)
theorem RD26 : RdAt Try.prog 26 t_api_View W_api_View := rdStruct (B := tPair (tSlice t_api_Member) t_api_Rule) (V := wPair (wSlice W_api_Member) W_api_Rule) (fun x : api_View => (x.Members, x.Rule)) (fun y => (⟨y.1, y.2⟩ : api_View)) (fun _ => rfl) Try.underlying26 (RdF.cons (off' := 1) (rdSlice Try.underlying24 RD44 (by kernel_rfl) (by decide)) rfl (by kernel_rfl) (RdF.one RD23 rfl (by kernel_rfl)) rfl rfl) (by kernel_rfl)
theorem QuorumMinimal.walk (x0 : api_View) {v0 : Value}   (W : World) (i0 : (vl t_api_View x0 v0).holds (fun b => b < W.heap.size) W) : Calls Try.prog 5 #[v0] W fun e w' => e = .returned (.bool true) ∧ Below W.heap.size W w' := by
  refine (eslaw04_QuorumMinimal.calls (minimal_true x0) i0).mono ?_
  rintro e w' ⟨v, rfl, _, rfl, hs⟩
  exact ⟨rfl, hs.1.nil_below⟩
theorem QuorumMinimal.lifted (os : Os) (started : os.Started) (H : Type) (enc : TypeId × Value → H) :
    ReturnsInHanded {} Try.checked os 5 .any (Rows.quorumMinimalSpec.pre6 enc Try.prog Try.f5 Rows.quorumMinimalRow.domain false) (Rows.quorumMinimalSpec.post enc Try.prog Try.f5 false true false false) := by
  refine returnsInHanded_of_change (C := Try.checked) QuorumMinimal.own started (by kernel_rfl) Try.func5
    (ChangeSpec.witness6 (enc := enc) (C := Try.checked) false ⟨#[], #[.agg #[.slice none 0 0, .int .i64 0, .int .i64 0, .int .i64 0]], []⟩ 8 (by kernel_rfl) (by kernel_rfl) (by kernel_rfl) (by kernel_rfl)) ?_
  intro W base args ds gs before hval0 hW hcnd _
  have hval : ∀ (j : Nat) t v, Try.f5.params[j]? = some t → args[j]? = some v → Value.okWide Try.prog W .any base t v := hval0
  have hW' := hW
  obtain ⟨p, q, hA0, hV, rfl, hfz, hnd⟩ := hW
  have hA : DataW.TrodAll enc Try.prog W 0 (fun _ => true) true Try.f5.params.toList args.toList ds p := hA0
  rw [Try.params5] at hA hval
  obtain ⟨v0, vs0, d0, ds0, p0, q0, hargs, rfl, rfl, h0, r0⟩ := trodAll_cons hA
  obtain ⟨rfl, rfl, rfl⟩ := trodAll_nil r0
  obtain rfl : args = #[v0] := by cases args; simp_all
  obtain ⟨rfl, rfl⟩ := trodVars_none hV
  obtain ⟨cs0, rfl, _⟩ := okWide_struct Try.underlying26 (hval 0 26 v0 rfl rfl)
  have k0 := h0
  have lt0 : ∀ x ∈ p0, x.block < W.heap.size := by obtain ⟨m, hm⟩ := k0; exact DataW.trod_lt m _ _ _ hm
  obtain ⟨x0, i0, hw0⟩ := arg_struct (T := t_api_View) rfl RD26 h0
  clear hA0 hval0
  refine (QuorumMinimal.walk x0 W i0).mono fun e W' ⟨he, bel⟩ => ?_
  subst he
  exact ⟨_, rfl, _, _, _, [], _, [], hW', trodAll_mk1 (shut_bool Try.underlying4 _), (trodAll_cons_mk (Below.trod QuorumMinimal.laidOut (by kernel_rfl) (of_decide_eq_true (by kernel_rfl)) k0 bel lt0) trodAll_mk0), rfl, bel.frame _, fun h => by cases h⟩
theorem QuorumMinimal.proved : Rows.QuorumMinimalSaid :=
  OpenClaim.holds_of_wide 5 Try.f5 rfl rfl rfl rfl rfl rfl rfl ⟨rfl, rfl, rfl, rfl, rfl⟩ rfl rfl rfl rfl rfl (by kernel_rfl) Try.func5 (by kernel_rfl)
    (of_decide_eq_true (by kernel_rfl)) (by unfold Func.isWrapper; first | (rw [if_pos (by decide +kernel)]; kernel_rfl) | (rw [if_neg (by decide +kernel)]; exact ⟨rfl, rfl⟩))
    (fun os started H enc _ => QuorumMinimal.lifted os started H enc)
end Go.Proofs.Ytodebgfppmcjlaa
#print axioms Go.Proofs.Ytodebgfppmcjlaa.QuorumMinimal.proved
