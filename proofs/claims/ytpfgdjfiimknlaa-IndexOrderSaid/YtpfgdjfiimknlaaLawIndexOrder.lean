/- IndexOrder: for every input the law returns true, and each argument reads as it did. -/
import Derived.Test.YtpfgdjfiimknlaaRows
import Derived.Test.YtpfgdjfiimknlaaQIO0
import Derived.Test.YtpfgdjfiimknlaaQIO4
import Derived.WalkKit
import Derived.ProofKit
import Derived.OpenShut
import Derived.ShutString
import Derived.ChangeOld
import Derived.Below
set_option linter.unusedVariables false
set_option linter.unusedSimpArgs false
set_option maxRecDepth 100000
namespace Go.Proofs.Ytpfgdjfiimknlaa
open Go Go.RowKit Go.ChangeShapes Go.WideShapes Go.ChangeAt Go.Proofs.YtpfgdjfiimknlaaL
open Go.ChangeMaps (open_string shut_string)
theorem IndexOrder.own : ownKnob Try.prog.godebug = none := by kernel_rfl
theorem IndexOrder.laidOut : laidOutB Try.prog = true := by kernel_rfl
def W_index_Key : index_Key → Prop := wIso (fun x : index_Key => (x.f_Type, x.N, x.S)) (wPair (wInt .i64) (wPair (wInt .i64) wStr))
theorem RD23 : RdAt Try.prog 23 t_index_Key W_index_Key := rdStruct (B := tPair (tInt .i64) (tPair (tInt .i64) tStr)) (V := wPair (wInt .i64) (wPair (wInt .i64) wStr)) (fun x : index_Key => (x.f_Type, x.N, x.S)) (fun y => (⟨y.1, y.2.1, y.2.2⟩ : index_Key)) (fun _ => rfl) Try.underlying23 (RdF.cons (off' := 1) (rdInt Try.underlying3) rfl (by kernel_rfl) (RdF.cons (off' := 2) (rdInt Try.underlying2) rfl (by kernel_rfl) (RdF.one (rdStr Try.underlying9) rfl (by kernel_rfl)) rfl rfl) rfl rfl) (by kernel_rfl)
theorem IndexOrder.walk (x0 : index_Key) (x1 : index_Key) (x2 : index_Key) {v0 : Value} {v1 : Value} {v2 : Value}   (W : World) (i0 : (vl t_index_Key x0 v0).holds (fun b => b < W.heap.size) W) (i1 : (vl t_index_Key x1 v1).holds (fun b => b < W.heap.size) W) (i2 : (vl t_index_Key x2 v2).holds (fun b => b < W.heap.size) W) : Calls Try.prog 3 #[v0, v1, v2] W fun e w' => e = .returned (.bool true) ∧ Below W.heap.size W w' := by
  refine (eslaw32_IndexOrder.calls (indexOrder_true x0 x1 x2) i0 i1 i2).mono ?_
  rintro e w' ⟨v, rfl, _, rfl, hs⟩
  exact ⟨rfl, hs.1.nil_below⟩
theorem IndexOrder.lifted (os : Os) (started : os.Started) (H : Type) (enc : TypeId × Value → H) :
    ReturnsInHanded {} Try.checked os 3 .any (Rows.indexOrderSpec.pre6 enc Try.prog Try.f3 Rows.indexOrderRow.domain false) (Rows.indexOrderSpec.post enc Try.prog Try.f3 false true false false) := by
  refine returnsInHanded_of_change (C := Try.checked) IndexOrder.own started (by kernel_rfl) Try.func3
    (ChangeSpec.witness6 (enc := enc) (C := Try.checked) false ⟨#[], #[.agg #[.int .i64 0, .int .i64 0, .string ByteArray.empty], .agg #[.int .i64 0, .int .i64 0, .string ByteArray.empty], .agg #[.int .i64 0, .int .i64 0, .string ByteArray.empty]], []⟩ 8 (by kernel_rfl) (by kernel_rfl) (by kernel_rfl) (by kernel_rfl)) ?_
  intro W base args ds gs before hval0 hW hcnd _
  have hval : ∀ (j : Nat) t v, Try.f3.params[j]? = some t → args[j]? = some v → Value.okWide Try.prog W .any base t v := hval0
  have hW' := hW
  obtain ⟨p, q, hA0, hV, rfl, hfz, hnd⟩ := hW
  have hA : DataW.TrodAll enc Try.prog W 0 (fun _ => true) true Try.f3.params.toList args.toList ds p := hA0
  rw [Try.params3] at hA hval
  obtain ⟨v0, vs0, d0, ds0, p0, q0, hargs, rfl, rfl, h0, r0⟩ := trodAll_cons hA
  obtain ⟨v1, vs1, d1, ds1, p1, q1, rfl, rfl, rfl, h1, r1⟩ := trodAll_cons r0
  obtain ⟨v2, vs2, d2, ds2, p2, q2, rfl, rfl, rfl, h2, r2⟩ := trodAll_cons r1
  obtain ⟨rfl, rfl, rfl⟩ := trodAll_nil r2
  obtain rfl : args = #[v0, v1, v2] := by cases args; simp_all
  obtain ⟨rfl, rfl⟩ := trodVars_none hV
  obtain ⟨cs0, rfl, _⟩ := okWide_struct Try.underlying23 (hval 0 23 v0 rfl rfl)
  have k0 := h0
  have lt0 : ∀ x ∈ p0, x.block < W.heap.size := by obtain ⟨m, hm⟩ := k0; exact DataW.trod_lt m _ _ _ hm
  obtain ⟨x0, i0, hw0⟩ := arg_struct (T := t_index_Key) rfl RD23 h0
  obtain ⟨cs1, rfl, _⟩ := okWide_struct Try.underlying23 (hval 1 23 v1 rfl rfl)
  have k1 := h1
  have lt1 : ∀ x ∈ p1, x.block < W.heap.size := by obtain ⟨m, hm⟩ := k1; exact DataW.trod_lt m _ _ _ hm
  obtain ⟨x1, i1, hw1⟩ := arg_struct (T := t_index_Key) rfl RD23 h1
  obtain ⟨cs2, rfl, _⟩ := okWide_struct Try.underlying23 (hval 2 23 v2 rfl rfl)
  have k2 := h2
  have lt2 : ∀ x ∈ p2, x.block < W.heap.size := by obtain ⟨m, hm⟩ := k2; exact DataW.trod_lt m _ _ _ hm
  obtain ⟨x2, i2, hw2⟩ := arg_struct (T := t_index_Key) rfl RD23 h2
  clear hA0 hval0
  refine (IndexOrder.walk x0 x1 x2 W i0 i1 i2).mono fun e W' ⟨he, bel⟩ => ?_
  subst he
  exact ⟨_, rfl, _, _, _, [], _, [], hW', trodAll_mk1 (shut_bool Try.underlying4 _), (trodAll_cons_mk (Below.trod IndexOrder.laidOut (by kernel_rfl) (of_decide_eq_true (by kernel_rfl)) k0 bel lt0) (trodAll_cons_mk (Below.trod IndexOrder.laidOut (by kernel_rfl) (of_decide_eq_true (by kernel_rfl)) k1 bel lt1) (trodAll_cons_mk (Below.trod IndexOrder.laidOut (by kernel_rfl) (of_decide_eq_true (by kernel_rfl)) k2 bel lt2) trodAll_mk0))), rfl, bel.frame _, fun h => by cases h⟩
theorem IndexOrder.proved : Rows.IndexOrderSaid :=
  OpenClaim.holds_of_wide 3 Try.f3 rfl rfl rfl rfl rfl rfl rfl ⟨rfl, rfl, rfl, rfl, rfl⟩ rfl rfl rfl rfl rfl (by kernel_rfl) Try.func3 (by kernel_rfl)
    (of_decide_eq_true (by kernel_rfl)) (by unfold Func.isWrapper; first | (rw [if_pos (by decide +kernel)]; kernel_rfl) | (rw [if_neg (by decide +kernel)]; exact ⟨rfl, rfl⟩))
    (fun os started H enc _ => IndexOrder.lifted os started H enc)
end Go.Proofs.Ytpfgdjfiimknlaa
#print axioms Go.Proofs.Ytpfgdjfiimknlaa.IndexOrder.proved
