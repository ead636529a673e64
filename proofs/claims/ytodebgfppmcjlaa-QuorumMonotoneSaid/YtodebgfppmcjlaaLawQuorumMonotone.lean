/- QuorumMonotone: for every input the law returns true, and each argument reads as it did. -/
import Derived.Test.YtodebgfppmcjlaaRows
import Derived.Test.YtodebgfppmcjlaaLr
import Derived.Test.YtodebgfppmcjlaaFp10
import Derived.Test.YtodebgfppmcjlaaP04o
import Derived.WalkKit
import Derived.ProofKit
import Derived.OpenShut
import Derived.ShutString
import Derived.ChangeOld
import Derived.Below
set_option linter.unusedVariables false
set_option linter.unusedSimpArgs false
set_option maxRecDepth 100000
namespace Go.Proofs.Ytodebgfppmcjlaa
open Go Go.RowKit Go.ChangeShapes Go.WideShapes Go.ChangeAt Go.Proofs.YtodebgfppmcjlaaL
open Go.ChangeMaps (open_string shut_string)
theorem QuorumMonotone.own : ownKnob Try.prog.godebug = none := by kernel_rfl
theorem QuorumMonotone.laidOut : laidOutB Try.prog = true := by kernel_rfl
theorem QuorumMonotone.walk (x0 : Int) (x1 : Int) (x2 : List Int) (x3 : List Int) {a2 : Option Addr} {c2 : Nat} {a3 : Option Addr} {c3 : Nat}   (W : World) (i2 : (vl (tSlice (tInt .i64)) x2 (.slice a2 x2.length c2)).holds (fun b => b < W.heap.size) W) (i3 : (vl (tSlice (tInt .i64)) x3 (.slice a3 x3.length c3)).holds (fun b => b < W.heap.size) W) : Calls Try.prog 6 #[.int .i64 x0, .int .i64 x1, .slice a2 x2.length c2, .slice a3 x3.length c3] W fun e w' => e = .returned (.bool true) ∧ Below W.heap.size W w' := by
  refine (eslaw04_QuorumMonotone.calls (monotone_true x0 x1 x2 x3) i2 i3).mono ?_
  rintro e w' ⟨v, rfl, _, rfl, hs⟩
  exact ⟨rfl, hs.1.nil_below⟩
theorem QuorumMonotone.lifted (os : Os) (started : os.Started) (H : Type) (enc : TypeId × Value → H) :
    ReturnsInHanded {} Try.checked os 6 .any (Rows.quorumMonotoneSpec.pre6 enc Try.prog Try.f6 Rows.quorumMonotoneRow.domain false) (Rows.quorumMonotoneSpec.post enc Try.prog Try.f6 false true false false) := by
  refine returnsInHanded_of_change (C := Try.checked) QuorumMonotone.own started (by kernel_rfl) Try.func6
    (ChangeSpec.witness6 (enc := enc) (C := Try.checked) false ⟨#[], #[.int .i64 0, .int .i64 0, .slice none 0 0, .slice none 0 0], []⟩ 8 (by kernel_rfl) (by kernel_rfl) (by kernel_rfl) (by kernel_rfl)) ?_
  intro W base args ds gs before hval0 hW hcnd _
  have hval : ∀ (j : Nat) t v, Try.f6.params[j]? = some t → args[j]? = some v → Value.okWide Try.prog W .any base t v := hval0
  have hW' := hW
  obtain ⟨p, q, hA0, hV, rfl, hfz, hnd⟩ := hW
  have hA : DataW.TrodAll enc Try.prog W 0 (fun _ => true) true Try.f6.params.toList args.toList ds p := hA0
  rw [Try.params6] at hA hval
  obtain ⟨v0, vs0, d0, ds0, p0, q0, hargs, rfl, rfl, h0, r0⟩ := trodAll_cons hA
  obtain ⟨v1, vs1, d1, ds1, p1, q1, rfl, rfl, rfl, h1, r1⟩ := trodAll_cons r0
  obtain ⟨v2, vs2, d2, ds2, p2, q2, rfl, rfl, rfl, h2, r2⟩ := trodAll_cons r1
  obtain ⟨v3, vs3, d3, ds3, p3, q3, rfl, rfl, rfl, h3, r3⟩ := trodAll_cons r2
  obtain ⟨rfl, rfl, rfl⟩ := trodAll_nil r3
  obtain rfl : args = #[v0, v1, v2, v3] := by cases args; simp_all
  obtain ⟨rfl, rfl⟩ := trodVars_none hV
  obtain ⟨x0, rfl, rfl, rfl, hw0⟩ := open_int Try.underlying3 (hval 0 3 v0 rfl rfl) h0
  obtain ⟨x1, rfl, rfl, rfl, hw1⟩ := open_int Try.underlying3 (hval 1 3 v1 rfl rfl) h1
  obtain ⟨a2, len2, c2, rfl⟩ := okWide_slice Try.underlying33 (hval 2 33 v2 rfl rfl)
  have k2 := h2
  have lt2 : ∀ x ∈ p2, x.block < W.heap.size := by obtain ⟨m, hm⟩ := k2; exact DataW.trod_lt m _ _ _ hm
  obtain ⟨x2, rfl, i2, hw2⟩ := arg_slice (rdSlice Try.underlying33 (rdInt Try.underlying3) (by kernel_rfl) (by decide)) h2
  obtain ⟨a3, len3, c3, rfl⟩ := okWide_slice Try.underlying33 (hval 3 33 v3 rfl rfl)
  have k3 := h3
  have lt3 : ∀ x ∈ p3, x.block < W.heap.size := by obtain ⟨m, hm⟩ := k3; exact DataW.trod_lt m _ _ _ hm
  obtain ⟨x3, rfl, i3, hw3⟩ := arg_slice (rdSlice Try.underlying33 (rdInt Try.underlying3) (by kernel_rfl) (by decide)) h3
  clear hA0 hval0
  refine (QuorumMonotone.walk x0 x1 x2 x3 W i2 i3).mono fun e W' ⟨he, bel⟩ => ?_
  subst he
  exact ⟨_, rfl, _, _, _, [], _, [], hW', trodAll_mk1 (shut_bool Try.underlying4 _), (trodAll_cons_mk (shut_int Try.underlying3 hw0) (trodAll_cons_mk (shut_int Try.underlying3 hw1) (trodAll_cons_mk (Below.trod QuorumMonotone.laidOut (by kernel_rfl) (of_decide_eq_true (by kernel_rfl)) k2 bel lt2) (trodAll_cons_mk (Below.trod QuorumMonotone.laidOut (by kernel_rfl) (of_decide_eq_true (by kernel_rfl)) k3 bel lt3) trodAll_mk0)))), rfl, bel.frame _, fun h => by cases h⟩
theorem QuorumMonotone.proved : Rows.QuorumMonotoneSaid :=
  OpenClaim.holds_of_wide 6 Try.f6 rfl rfl rfl rfl rfl rfl rfl ⟨rfl, rfl, rfl, rfl, rfl⟩ rfl rfl rfl rfl rfl (by kernel_rfl) Try.func6 (by kernel_rfl)
    (of_decide_eq_true (by kernel_rfl)) (by unfold Func.isWrapper; first | (rw [if_pos (by decide +kernel)]; kernel_rfl) | (rw [if_neg (by decide +kernel)]; exact ⟨rfl, rfl⟩))
    (fun os started H enc _ => QuorumMonotone.lifted os started H enc)
end Go.Proofs.Ytodebgfppmcjlaa
#print axioms Go.Proofs.Ytodebgfppmcjlaa.QuorumMonotone.proved
