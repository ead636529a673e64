/- HistoryChanged: for every input the law returns true, and each argument reads as it did. -/
import Derived.Test.YtbbeobiampbddaaRows
import Derived.Test.YtbbeobiampbddaaQHC0
import Derived.Test.YtbbeobiampbddaaQHC6
import Derived.WalkKit
import Derived.ProofKit
import Derived.OpenShut
import Derived.ShutString
import Derived.ChangeOld
import Derived.Below
set_option linter.unusedVariables false
set_option linter.unusedSimpArgs false
set_option maxRecDepth 100000
namespace Go.Proofs.Ytbbeobiampbddaa
open Go Go.RowKit Go.ChangeShapes Go.WideShapes Go.ChangeAt Go.Proofs.YtbbeobiampbddaaL
open Go.ChangeMaps (open_string shut_string)
theorem HistoryChanged.own : ownKnob Try.prog.godebug = none := by kernel_rfl
theorem HistoryChanged.laidOut : laidOutB Try.prog = true := by kernel_rfl
def W_api_Effect : api_Effect → Prop := wIso (fun x : api_Effect => (x.Kind, x.Object, x.Field, x.N, x.S)) (wPair (wInt .i64) (wPair wStr (wPair wStr (wPair (wInt .i64) wStr))))
theorem RD72 : RdAt Try.prog 72 t_api_Effect W_api_Effect := rdStruct (B := tPair (tInt .i64) (tPair tStr (tPair tStr (tPair (tInt .i64) tStr)))) (V := wPair (wInt .i64) (wPair wStr (wPair wStr (wPair (wInt .i64) wStr)))) (fun x : api_Effect => (x.Kind, x.Object, x.Field, x.N, x.S)) (fun y => (⟨y.1, y.2.1, y.2.2.1, y.2.2.2.1, y.2.2.2.2⟩ : api_Effect)) (fun _ => rfl) Try.underlying72 (RdF.cons (off' := 1) (rdInt Try.underlying3) rfl (by kernel_rfl) (RdF.cons (off' := 2) (rdStr Try.underlying9) rfl (by kernel_rfl) (RdF.cons (off' := 3) (rdStr Try.underlying9) rfl (by kernel_rfl) (RdF.cons (off' := 4) (rdInt Try.underlying2) rfl (by kernel_rfl) (RdF.one (rdStr Try.underlying9) rfl (by kernel_rfl)) rfl rfl) rfl rfl) rfl rfl) rfl rfl) (by kernel_rfl)
def W_history_Value : history_Value → Prop := wIso (fun x : history_Value => (x.Object, x.Field, x.Set, x.N, x.S, x.HasMax, x.Max, x.Sum, x.Elems, x.Flag)) (wPair wStr (wPair wStr (wPair wBool (wPair (wInt .i64) (wPair wStr (wPair wBool (wPair (wInt .i64) (wPair (wInt .i64) (wPair (wSlice wStr) wBool)))))))))
theorem RD68 : RdAt Try.prog 68 t_history_Value W_history_Value := rdStruct (B := tPair tStr (tPair tStr (tPair tBool (tPair (tInt .i64) (tPair tStr (tPair tBool (tPair (tInt .i64) (tPair (tInt .i64) (tPair (tSlice tStr) tBool))))))))) (V := wPair wStr (wPair wStr (wPair wBool (wPair (wInt .i64) (wPair wStr (wPair wBool (wPair (wInt .i64) (wPair (wInt .i64) (wPair (wSlice wStr) wBool))))))))) (fun x : history_Value => (x.Object, x.Field, x.Set, x.N, x.S, x.HasMax, x.Max, x.Sum, x.Elems, x.Flag)) (fun y => (⟨y.1, y.2.1, y.2.2.1, y.2.2.2.1, y.2.2.2.2.1, y.2.2.2.2.2.1, y.2.2.2.2.2.2.1, y.2.2.2.2.2.2.2.1, y.2.2.2.2.2.2.2.2.1, y.2.2.2.2.2.2.2.2.2⟩ : history_Value)) (fun _ => rfl) Try.underlying68 (RdF.cons (off' := 1) (rdStr Try.underlying9) rfl (by kernel_rfl) (RdF.cons (off' := 2) (rdStr Try.underlying9) rfl (by kernel_rfl) (RdF.cons (off' := 3) (rdBool Try.underlying4) rfl (by kernel_rfl) (RdF.cons (off' := 4) (rdInt Try.underlying2) rfl (by kernel_rfl) (RdF.cons (off' := 5) (rdStr Try.underlying9) rfl (by kernel_rfl) (RdF.cons (off' := 6) (rdBool Try.underlying4) rfl (by kernel_rfl) (RdF.cons (off' := 7) (rdInt Try.underlying2) rfl (by kernel_rfl) (RdF.cons (off' := 8) (rdInt Try.underlying2) rfl (by kernel_rfl) (RdF.cons (off' := 9) (rdSlice Try.underlying59 (rdStr Try.underlying9) (by kernel_rfl) (by decide)) rfl (by kernel_rfl) (RdF.one (rdBool Try.underlying4) rfl (by kernel_rfl)) rfl rfl) rfl rfl) rfl rfl) rfl rfl) rfl rfl) rfl rfl) rfl rfl) rfl rfl) rfl rfl) (by kernel_rfl)
theorem HistoryChanged.walk (x0 : List Int) (x1 : Int) (x2 : Int) (x3 : Int) (x4 : List api_Effect) (x5 : List history_Value) {a0 : Option Addr} {c0 : Nat} {a4 : Option Addr} {c4 : Nat} {a5 : Option Addr} {c5 : Nat}   (W : World) (i0 : (vl (tSlice (tInt .i64)) x0 (.slice a0 x0.length c0)).holds (fun b => b < W.heap.size) W) (i4 : (vl (tSlice t_api_Effect) x4 (.slice a4 x4.length c4)).holds (fun b => b < W.heap.size) W) (i5 : (vl (tSlice t_history_Value) x5 (.slice a5 x5.length c5)).holds (fun b => b < W.heap.size) W) : Calls Try.prog 4 #[.slice a0 x0.length c0, .int .i64 x1, .int .i64 x2, .int .i64 x3, .slice a4 x4.length c4, .slice a5 x5.length c5] W fun e w' => e = .returned (.bool true) ∧ Below W.heap.size W w' := by
  refine (eslaw38_HistoryChanged.calls (historyChanged_true x0 x1 x2 x3 x4 x5) i0 i4 i5).mono ?_
  rintro e w' ⟨v, rfl, _, rfl, hs⟩
  exact ⟨rfl, hs.1.nil_below⟩
theorem HistoryChanged.lifted (os : Os) (started : os.Started) (H : Type) (enc : TypeId × Value → H) :
    ReturnsInHanded {} Try.checked os 4 .any (Rows.historyChangedSpec.pre6 enc Try.prog Try.f4 Rows.historyChangedRow.domain false) (Rows.historyChangedSpec.post enc Try.prog Try.f4 false true false false) := by
  refine returnsInHanded_of_change (C := Try.checked) HistoryChanged.own started (by kernel_rfl) Try.func4
    (ChangeSpec.witness6 (enc := enc) (C := Try.checked) false ⟨#[], #[.slice none 0 0, .int .i64 0, .int .i64 0, .int .i64 0, .slice none 0 0, .slice none 0 0], []⟩ 8 (by kernel_rfl) (by kernel_rfl) (by kernel_rfl) (by kernel_rfl)) ?_
  intro W base args ds gs before hval0 hW hcnd _
  have hval : ∀ (j : Nat) t v, Try.f4.params[j]? = some t → args[j]? = some v → Value.okWide Try.prog W .any base t v := hval0
  have hW' := hW
  obtain ⟨p, q, hA0, hV, rfl, hfz, hnd⟩ := hW
  have hA : DataW.TrodAll enc Try.prog W 0 (fun _ => true) true Try.f4.params.toList args.toList ds p := hA0
  rw [Try.params4] at hA hval
  obtain ⟨v0, vs0, d0, ds0, p0, q0, hargs, rfl, rfl, h0, r0⟩ := trodAll_cons hA
  obtain ⟨v1, vs1, d1, ds1, p1, q1, rfl, rfl, rfl, h1, r1⟩ := trodAll_cons r0
  obtain ⟨v2, vs2, d2, ds2, p2, q2, rfl, rfl, rfl, h2, r2⟩ := trodAll_cons r1
  obtain ⟨v3, vs3, d3, ds3, p3, q3, rfl, rfl, rfl, h3, r3⟩ := trodAll_cons r2
  obtain ⟨v4, vs4, d4, ds4, p4, q4, rfl, rfl, rfl, h4, r4⟩ := trodAll_cons r3
  obtain ⟨v5, vs5, d5, ds5, p5, q5, rfl, rfl, rfl, h5, r5⟩ := trodAll_cons r4
  obtain ⟨rfl, rfl, rfl⟩ := trodAll_nil r5
  obtain rfl : args = #[v0, v1, v2, v3, v4, v5] := by cases args; simp_all
  obtain ⟨rfl, rfl⟩ := trodVars_none hV
  obtain ⟨a0, len0, c0, rfl⟩ := okWide_slice Try.underlying29 (hval 0 29 v0 rfl rfl)
  have k0 := h0
  have lt0 : ∀ x ∈ p0, x.block < W.heap.size := by obtain ⟨m, hm⟩ := k0; exact DataW.trod_lt m _ _ _ hm
  obtain ⟨x0, rfl, i0, hw0⟩ := arg_slice (rdSlice Try.underlying29 (rdInt Try.underlying3) (by kernel_rfl) (by decide)) h0
  obtain ⟨x1, rfl, rfl, rfl, hw1⟩ := open_int Try.underlying3 (hval 1 3 v1 rfl rfl) h1
  obtain ⟨x2, rfl, rfl, rfl, hw2⟩ := open_int Try.underlying3 (hval 2 3 v2 rfl rfl) h2
  obtain ⟨x3, rfl, rfl, rfl, hw3⟩ := open_int Try.underlying3 (hval 3 3 v3 rfl rfl) h3
  obtain ⟨a4, len4, c4, rfl⟩ := okWide_slice Try.underlying30 (hval 4 30 v4 rfl rfl)
  have k4 := h4
  have lt4 : ∀ x ∈ p4, x.block < W.heap.size := by obtain ⟨m, hm⟩ := k4; exact DataW.trod_lt m _ _ _ hm
  obtain ⟨x4, rfl, i4, hw4⟩ := arg_slice (rdSlice Try.underlying30 RD72 (by kernel_rfl) (by decide)) h4
  obtain ⟨a5, len5, c5, rfl⟩ := okWide_slice Try.underlying31 (hval 5 31 v5 rfl rfl)
  have k5 := h5
  have lt5 : ∀ x ∈ p5, x.block < W.heap.size := by obtain ⟨m, hm⟩ := k5; exact DataW.trod_lt m _ _ _ hm
  obtain ⟨x5, rfl, i5, hw5⟩ := arg_slice (rdSlice Try.underlying31 RD68 (by kernel_rfl) (by decide)) h5
  clear hA0 hval0
  refine (HistoryChanged.walk x0 x1 x2 x3 x4 x5 W i0 i4 i5).mono fun e W' ⟨he, bel⟩ => ?_
  subst he
  exact ⟨_, rfl, _, _, _, [], _, [], hW', trodAll_mk1 (shut_bool Try.underlying4 _), (trodAll_cons_mk (Below.trod HistoryChanged.laidOut (by kernel_rfl) (of_decide_eq_true (by kernel_rfl)) k0 bel lt0) (trodAll_cons_mk (shut_int Try.underlying3 hw1) (trodAll_cons_mk (shut_int Try.underlying3 hw2) (trodAll_cons_mk (shut_int Try.underlying3 hw3) (trodAll_cons_mk (Below.trod HistoryChanged.laidOut (by kernel_rfl) (of_decide_eq_true (by kernel_rfl)) k4 bel lt4) (trodAll_cons_mk (Below.trod HistoryChanged.laidOut (by kernel_rfl) (of_decide_eq_true (by kernel_rfl)) k5 bel lt5) trodAll_mk0)))))), rfl, bel.frame _, fun h => by cases h⟩
theorem HistoryChanged.proved : Rows.HistoryChangedSaid :=
  OpenClaim.holds_of_wide 4 Try.f4 rfl rfl rfl rfl rfl rfl rfl ⟨rfl, rfl, rfl, rfl, rfl⟩ rfl rfl rfl rfl rfl (by kernel_rfl) Try.func4 (by kernel_rfl)
    (of_decide_eq_true (by kernel_rfl)) (by unfold Func.isWrapper; first | (rw [if_pos (by decide +kernel)]; kernel_rfl) | (rw [if_neg (by decide +kernel)]; exact ⟨rfl, rfl⟩))
    (fun os started H enc _ => HistoryChanged.lifted os started H enc)
end Go.Proofs.Ytbbeobiampbddaa
#print axioms Go.Proofs.Ytbbeobiampbddaa.HistoryChanged.proved
