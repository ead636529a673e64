/- NetworkCounts: for every input the law returns true, and each argument reads as it did. -/
import Derived.Test.YtahobbichanccaaRows
import Derived.Test.YtahobbichanccaaLr
import Derived.Test.YtahobbichanccaaFp16
import Derived.Test.YtahobbichanccaaP34g
import Derived.WalkKit
import Derived.ProofKit
import Derived.OpenShut
import Derived.ShutString
import Derived.ChangeOld
import Derived.Below
set_option linter.unusedVariables false
set_option linter.unusedSimpArgs false
set_option maxRecDepth 100000
namespace Go.Proofs.Ytahobbichanccaa
open Go Go.RowKit Go.ChangeShapes Go.WideShapes Go.ChangeAt Go.Proofs.YtahobbichanccaaL
open Go.ChangeMaps (open_string shut_string)
theorem NetworkCounts.own : ownKnob Try.prog.godebug = none := by kernel_rfl
theorem NetworkCounts.laidOut : laidOutB Try.prog = true := by kernel_rfl
def W_network_Side : network_Side → Prop := wIso (fun x : network_Side => (x.Process, x.Side)) (wPair (wInt .i64) (wInt .i64))
theorem RD69 : RdAt Try.prog 69 t_network_Side W_network_Side := rdStruct (B := tPair (tInt .i64) (tInt .i64)) (V := wPair (wInt .i64) (wInt .i64)) (fun x : network_Side => (x.Process, x.Side)) (fun y => (⟨y.1, y.2⟩ : network_Side)) (fun _ => rfl) Try.underlying69 (RdF.cons (off' := 1) (rdInt Try.underlying3) rfl (by kernel_rfl) (RdF.one (rdInt Try.underlying3) rfl (by kernel_rfl)) rfl rfl) (by kernel_rfl)
def W_elasticstorelaw34_Act : elasticstorelaw34_Act → Prop := wIso (fun x : elasticstorelaw34_Act => (x.Kind, x.N, x.M, x.Sides)) (wPair (wInt .i64) (wPair (wInt .i64) (wPair (wInt .i64) (wSlice W_network_Side))))
theorem RD33 : RdAt Try.prog 33 t_elasticstorelaw34_Act W_elasticstorelaw34_Act := rdStruct (B := tPair (tInt .i64) (tPair (tInt .i64) (tPair (tInt .i64) (tSlice t_network_Side)))) (V := wPair (wInt .i64) (wPair (wInt .i64) (wPair (wInt .i64) (wSlice W_network_Side)))) (fun x : elasticstorelaw34_Act => (x.Kind, x.N, x.M, x.Sides)) (fun y => (⟨y.1, y.2.1, y.2.2.1, y.2.2.2⟩ : elasticstorelaw34_Act)) (fun _ => rfl) Try.underlying33 (RdF.cons (off' := 1) (rdInt Try.underlying3) rfl (by kernel_rfl) (RdF.cons (off' := 2) (rdInt Try.underlying3) rfl (by kernel_rfl) (RdF.cons (off' := 3) (rdInt Try.underlying3) rfl (by kernel_rfl) (RdF.one (rdSlice Try.underlying23 RD69 (by kernel_rfl) (by decide)) rfl (by kernel_rfl)) rfl rfl) rfl rfl) rfl rfl) (by kernel_rfl)
theorem NetworkCounts.walk (x0 : List elasticstorelaw34_Act) {a0 : Option Addr} {c0 : Nat}   (W : World) (i0 : (vl (tSlice t_elasticstorelaw34_Act) x0 (.slice a0 x0.length c0)).holds (fun b => b < W.heap.size) W) : Calls Try.prog 7 #[.slice a0 x0.length c0] W fun e w' => e = .returned (.bool true) ∧ Below W.heap.size W w' := by
  refine (eslaw34_NetworkCounts.calls (counts_true x0) i0).mono ?_
  rintro e w' ⟨v, rfl, _, rfl, hs⟩
  exact ⟨rfl, hs.1.nil_below⟩
theorem NetworkCounts.lifted (os : Os) (started : os.Started) (H : Type) (enc : TypeId × Value → H) :
    ReturnsInHanded {} Try.checked os 7 .any (Rows.networkCountsSpec.pre6 enc Try.prog Try.f7 Rows.networkCountsRow.domain false) (Rows.networkCountsSpec.post enc Try.prog Try.f7 false true false false) := by
  refine returnsInHanded_of_change (C := Try.checked) NetworkCounts.own started (by kernel_rfl) Try.func7
    (ChangeSpec.witness6 (enc := enc) (C := Try.checked) false ⟨#[], #[.slice none 0 0], []⟩ 8 (by kernel_rfl) (by kernel_rfl) (by kernel_rfl) (by kernel_rfl)) ?_
  intro W base args ds gs before hval0 hW hcnd _
  have hval : ∀ (j : Nat) t v, Try.f7.params[j]? = some t → args[j]? = some v → Value.okWide Try.prog W .any base t v := hval0
  have hW' := hW
  obtain ⟨p, q, hA0, hV, rfl, hfz, hnd⟩ := hW
  have hA : DataW.TrodAll enc Try.prog W 0 (fun _ => true) true Try.f7.params.toList args.toList ds p := hA0
  rw [Try.params7] at hA hval
  obtain ⟨v0, vs0, d0, ds0, p0, q0, hargs, rfl, rfl, h0, r0⟩ := trodAll_cons hA
  obtain ⟨rfl, rfl, rfl⟩ := trodAll_nil r0
  obtain rfl : args = #[v0] := by cases args; simp_all
  obtain ⟨rfl, rfl⟩ := trodVars_none hV
  obtain ⟨a0, len0, c0, rfl⟩ := okWide_slice Try.underlying22 (hval 0 22 v0 rfl rfl)
  have k0 := h0
  have lt0 : ∀ x ∈ p0, x.block < W.heap.size := by obtain ⟨m, hm⟩ := k0; exact DataW.trod_lt m _ _ _ hm
  obtain ⟨x0, rfl, i0, hw0⟩ := arg_slice (rdSlice Try.underlying22 RD33 (by kernel_rfl) (by decide)) h0
  clear hA0 hval0
  refine (NetworkCounts.walk x0 W i0).mono fun e W' ⟨he, bel⟩ => ?_
  subst he
  exact ⟨_, rfl, _, _, _, [], _, [], hW', trodAll_mk1 (shut_bool Try.underlying4 _), (trodAll_cons_mk (Below.trod NetworkCounts.laidOut (by kernel_rfl) (of_decide_eq_true (by kernel_rfl)) k0 bel lt0) trodAll_mk0), rfl, bel.frame _, fun h => by cases h⟩
theorem NetworkCounts.proved : Rows.NetworkCountsSaid :=
  OpenClaim.holds_of_wide 7 Try.f7 rfl rfl rfl rfl rfl rfl rfl ⟨rfl, rfl, rfl, rfl, rfl⟩ rfl rfl rfl rfl rfl (by kernel_rfl) Try.func7 (by kernel_rfl)
    (of_decide_eq_true (by kernel_rfl)) (by unfold Func.isWrapper; first | (rw [if_pos (by decide +kernel)]; kernel_rfl) | (rw [if_neg (by decide +kernel)]; exact ⟨rfl, rfl⟩))
    (fun os started H enc _ => NetworkCounts.lifted os started H enc)
end Go.Proofs.Ytahobbichanccaa
#print axioms Go.Proofs.Ytahobbichanccaa.NetworkCounts.proved
