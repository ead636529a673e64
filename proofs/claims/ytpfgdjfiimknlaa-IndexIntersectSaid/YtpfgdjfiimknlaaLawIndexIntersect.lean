/- IndexIntersect: for every input the law returns true, and each argument reads as it did. -/
import Derived.Test.YtpfgdjfiimknlaaRows
import Derived.Test.YtpfgdjfiimknlaaQII0
import Derived.Test.YtpfgdjfiimknlaaQII4
import Derived.WalkKit
import Derived.ProofKit
import Derived.OpenShut
import Derived.ShutString
import Derived.ChangeOld
import Derived.Below
set_option linter.unusedVariables false
set_option linter.unusedSimpArgs false
set_option maxRecDepth 100000
namespace Go.Proofs.Ytpfgdjfiimknlaa
open Go Go.RowKit Go.ChangeShapes Go.WideShapes Go.ChangeAt Go.Proofs.YtpfgdjfiimknlaaL
open Go.ChangeMaps (open_string shut_string)
theorem IndexIntersect.own : ownKnob Try.prog.godebug = none := by kernel_rfl
theorem IndexIntersect.laidOut : laidOutB Try.prog = true := by kernel_rfl
theorem IndexIntersect.walk (x0 : List (List UInt8)) (x1 : List (List UInt8)) {a0 : Option Addr} {c0 : Nat} {a1 : Option Addr} {c1 : Nat}   (W : World) (i0 : (vl (tSlice tStr) x0 (.slice a0 x0.length c0)).holds (fun b => b < W.heap.size) W) (i1 : (vl (tSlice tStr) x1 (.slice a1 x1.length c1)).holds (fun b => b < W.heap.size) W) : Calls Try.prog 4 #[.slice a0 x0.length c0, .slice a1 x1.length c1] W fun e w' => e = .returned (.bool true) ∧ Below W.heap.size W w' := by
  refine (eslaw32_IndexIntersect.calls (indexIntersect_true x0 x1) i0 i1).mono ?_
  rintro e w' ⟨v, rfl, _, rfl, hs⟩
  exact ⟨rfl, hs.1.nil_below⟩
theorem IndexIntersect.lifted (os : Os) (started : os.Started) (H : Type) (enc : TypeId × Value → H) :
    ReturnsInHanded {} Try.checked os 4 .any (Rows.indexIntersectSpec.pre6 enc Try.prog Try.f4 Rows.indexIntersectRow.domain false) (Rows.indexIntersectSpec.post enc Try.prog Try.f4 false true false false) := by
  refine returnsInHanded_of_change (C := Try.checked) IndexIntersect.own started (by kernel_rfl) Try.func4
    (ChangeSpec.witness6 (enc := enc) (C := Try.checked) false ⟨#[], #[.slice none 0 0, .slice none 0 0], []⟩ 8 (by kernel_rfl) (by kernel_rfl) (by kernel_rfl) (by kernel_rfl)) ?_
  intro W base args ds gs before hval0 hW hcnd _
  have hval : ∀ (j : Nat) t v, Try.f4.params[j]? = some t → args[j]? = some v → Value.okWide Try.prog W .any base t v := hval0
  have hW' := hW
  obtain ⟨p, q, hA0, hV, rfl, hfz, hnd⟩ := hW
  have hA : DataW.TrodAll enc Try.prog W 0 (fun _ => true) true Try.f4.params.toList args.toList ds p := hA0
  rw [Try.params4] at hA hval
  obtain ⟨v0, vs0, d0, ds0, p0, q0, hargs, rfl, rfl, h0, r0⟩ := trodAll_cons hA
  obtain ⟨v1, vs1, d1, ds1, p1, q1, rfl, rfl, rfl, h1, r1⟩ := trodAll_cons r0
  obtain ⟨rfl, rfl, rfl⟩ := trodAll_nil r1
  obtain rfl : args = #[v0, v1] := by cases args; simp_all
  obtain ⟨rfl, rfl⟩ := trodVars_none hV
  obtain ⟨a0, len0, c0, rfl⟩ := okWide_slice Try.underlying32 (hval 0 32 v0 rfl rfl)
  have k0 := h0
  have lt0 : ∀ x ∈ p0, x.block < W.heap.size := by obtain ⟨m, hm⟩ := k0; exact DataW.trod_lt m _ _ _ hm
  obtain ⟨x0, rfl, i0, hw0⟩ := arg_slice (rdSlice Try.underlying32 (rdStr Try.underlying9) (by kernel_rfl) (by decide)) h0
  obtain ⟨a1, len1, c1, rfl⟩ := okWide_slice Try.underlying32 (hval 1 32 v1 rfl rfl)
  have k1 := h1
  have lt1 : ∀ x ∈ p1, x.block < W.heap.size := by obtain ⟨m, hm⟩ := k1; exact DataW.trod_lt m _ _ _ hm
  obtain ⟨x1, rfl, i1, hw1⟩ := arg_slice (rdSlice Try.underlying32 (rdStr Try.underlying9) (by kernel_rfl) (by decide)) h1
  clear hA0 hval0
  refine (IndexIntersect.walk x0 x1 W i0 i1).mono fun e W' ⟨he, bel⟩ => ?_
  subst he
  exact ⟨_, rfl, _, _, _, [], _, [], hW', trodAll_mk1 (shut_bool Try.underlying4 _), (trodAll_cons_mk (Below.trod IndexIntersect.laidOut (by kernel_rfl) (of_decide_eq_true (by kernel_rfl)) k0 bel lt0) (trodAll_cons_mk (Below.trod IndexIntersect.laidOut (by kernel_rfl) (of_decide_eq_true (by kernel_rfl)) k1 bel lt1) trodAll_mk0)), rfl, bel.frame _, fun h => by cases h⟩
theorem IndexIntersect.proved : Rows.IndexIntersectSaid :=
  OpenClaim.holds_of_wide 4 Try.f4 rfl rfl rfl rfl rfl rfl rfl ⟨rfl, rfl, rfl, rfl, rfl⟩ rfl rfl rfl rfl rfl (by kernel_rfl) Try.func4 (by kernel_rfl)
    (of_decide_eq_true (by kernel_rfl)) (by unfold Func.isWrapper; first | (rw [if_pos (by decide +kernel)]; kernel_rfl) | (rw [if_neg (by decide +kernel)]; exact ⟨rfl, rfl⟩))
    (fun os started H enc _ => IndexIntersect.lifted os started H enc)
end Go.Proofs.Ytpfgdjfiimknlaa
#print axioms Go.Proofs.Ytpfgdjfiimknlaa.IndexIntersect.proved
