/- FoldSome: for every input the law returns true, and each argument reads as it did. -/
import Derived.Test.YtlbcfjblpopcnaaRows
import Derived.Test.YtlbcfjblpopcnaaQFS1
import Derived.Test.YtlbcfjblpopcnaaQFS5
import Derived.Test.YtlbcfjblpopcnaaQFS6
import Derived.WalkKit
import Derived.ProofKit
import Derived.OpenShut
import Derived.ShutString
import Derived.ChangeOld
import Derived.Below
set_option linter.unusedVariables false
set_option linter.unusedSimpArgs false
set_option maxRecDepth 100000
namespace Go.Proofs.Ytlbcfjblpopcnaa
open Go Go.RowKit Go.ChangeShapes Go.WideShapes Go.ChangeAt Go.Proofs.YtlbcfjblpopcnaaL
open Go.ChangeMaps (open_string shut_string)
theorem FoldSome.own : ownKnob Try.prog.godebug = none := by kernel_rfl
theorem FoldSome.laidOut : laidOutB Try.prog = true := by kernel_rfl
theorem FoldSome.walk (x0 : List Int) (x1 : Int) {a0 : Option Addr} {c0 : Nat}   (W : World) (i0 : (vl (tSlice (tInt .i64)) x0 (.slice a0 x0.length c0)).holds (fun b => b < W.heap.size) W) : Calls Try.prog 4 #[.slice a0 x0.length c0, .int .i64 x1] W fun e w' => e = .returned (.bool true) ∧ Below W.heap.size W w' := by
  refine (eslaw30_FoldSome.calls (foldSome_true x0 x1) i0).mono ?_
  rintro e w' ⟨v, rfl, _, rfl, hs⟩
  exact ⟨rfl, hs.1.nil_below⟩
theorem FoldSome.lifted (os : Os) (started : os.Started) (H : Type) (enc : TypeId × Value → H) :
    ReturnsInHanded {} Try.checked os 4 .any (Rows.foldSomeSpec.pre6 enc Try.prog Try.f4 Rows.foldSomeRow.domain false) (Rows.foldSomeSpec.post enc Try.prog Try.f4 false true false false) := by
  refine returnsInHanded_of_change (C := Try.checked) FoldSome.own started (by kernel_rfl) Try.func4
    (ChangeSpec.witness6 (enc := enc) (C := Try.checked) false ⟨#[], #[.slice none 0 0, .int .i64 0], []⟩ 8 (by kernel_rfl) (by kernel_rfl) (by kernel_rfl) (by kernel_rfl)) ?_
  intro W base args ds gs before hval0 hW hcnd _
  have hval : ∀ (j : Nat) t v, Try.f4.params[j]? = some t → args[j]? = some v → Value.okWide Try.prog W .any base t v := hval0
  have hW' := hW
  obtain ⟨p, q, hA0, hV, rfl, hfz, hnd⟩ := hW
  have hA : DataW.TrodAll enc Try.prog W 0 (fun _ => true) true Try.f4.params.toList args.toList ds p := hA0
  rw [Try.params4] at hA hval
  obtain ⟨v0, vs0, d0, ds0, p0, q0, hargs, rfl, rfl, h0, r0⟩ := trodAll_cons hA
  obtain ⟨v1, vs1, d1, ds1, p1, q1, rfl, rfl, rfl, h1, r1⟩ := trodAll_cons r0
  obtain ⟨rfl, rfl, rfl⟩ := trodAll_nil r1
  obtain rfl : args = #[v0, v1] := by cases args; simp_all
  obtain ⟨rfl, rfl⟩ := trodVars_none hV
  obtain ⟨a0, len0, c0, rfl⟩ := okWide_slice Try.underlying35 (hval 0 35 v0 rfl rfl)
  have k0 := h0
  have lt0 : ∀ x ∈ p0, x.block < W.heap.size := by obtain ⟨m, hm⟩ := k0; exact DataW.trod_lt m _ _ _ hm
  obtain ⟨x0, rfl, i0, hw0⟩ := arg_slice (rdSlice Try.underlying35 (rdInt Try.underlying3) (by kernel_rfl) (by decide)) h0
  obtain ⟨x1, rfl, rfl, rfl, hw1⟩ := open_int Try.underlying3 (hval 1 3 v1 rfl rfl) h1
  clear hA0 hval0
  refine (FoldSome.walk x0 x1 W i0).mono fun e W' ⟨he, bel⟩ => ?_
  subst he
  exact ⟨_, rfl, _, _, _, [], _, [], hW', trodAll_mk1 (shut_bool Try.underlying4 _), (trodAll_cons_mk (Below.trod FoldSome.laidOut (by kernel_rfl) (of_decide_eq_true (by kernel_rfl)) k0 bel lt0) (trodAll_cons_mk (shut_int Try.underlying3 hw1) trodAll_mk0)), rfl, bel.frame _, fun h => by cases h⟩
theorem FoldSome.proved : Rows.FoldSomeSaid :=
  OpenClaim.holds_of_wide 4 Try.f4 rfl rfl rfl rfl rfl rfl rfl ⟨rfl, rfl, rfl, rfl, rfl⟩ rfl rfl rfl rfl rfl (by kernel_rfl) Try.func4 (by kernel_rfl)
    (of_decide_eq_true (by kernel_rfl)) (by unfold Func.isWrapper; first | (rw [if_pos (by decide +kernel)]; kernel_rfl) | (rw [if_neg (by decide +kernel)]; exact ⟨rfl, rfl⟩))
    (fun os started H enc _ => FoldSome.lifted os started H enc)
end Go.Proofs.Ytlbcfjblpopcnaa
#print axioms Go.Proofs.Ytlbcfjblpopcnaa.FoldSome.proved
