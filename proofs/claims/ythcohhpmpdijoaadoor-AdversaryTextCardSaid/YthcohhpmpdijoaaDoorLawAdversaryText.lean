/- AdversaryText: for every input the law returns true, and each argument reads as it did. -/
import Derived.Test.YthcohhpmpdijoaaDoorRows
import Derived.Test.YthcohhpmpdijoaaDoorQAT0
import Derived.Test.YthcohhpmpdijoaaDoorQAT3
import Derived.WalkKit
import Derived.ProofKit
import Derived.OpenShut
import Derived.ShutString
import Derived.ChangeOld
import Derived.Below
import Derived.Test.YthcohhpmpdijoaaDoorCards
import Derived.LaidMore
import Derived.Lay
import Derived.SevenTiedAt
set_option linter.unusedVariables false
set_option linter.unusedSimpArgs false
set_option maxRecDepth 100000
namespace Go.Proofs.YthcohhpmpdijoaaDoor
open Go Go.RowKit Go.ChangeShapes Go.WideShapes Go.ChangeAt Go.Proofs.YthcohhpmpdijoaaDoorL
open Go.ChangeMaps (open_string shut_string)
theorem AdversaryText.own : ownKnob Tryd.prog.godebug = none := by kernel_rfl
theorem AdversaryText.laidOut : laidOutB Tryd.prog = true := by kernel_rfl
theorem AdversaryText.walk (x0 : List Int) (x1 : Int) (x2 : Int) (x3 : List UInt8) {a0 : Option Addr} {c0 : Nat} {mxl : Int}   (W : World) (i0 : (vl (tSlice (tInt .i64)) x0 (.slice a0 x0.length c0)).holds (fun b => b < W.heap.size) W) (gk0 : (pl (tSlice tStr) words_ (⟨0, 0, none⟩)).holds (fun b => b < W.heap.size) W) (gk1 : (vl (tTab Tryd.prog "internal/strconv.uint64pow10" 1 GN1 Go.Lib.pow10Tab) () (.int .i64 0)).holds (fun b => b < W.heap.size) W) (gk2 : (pl (tInt .i64) mxl (⟨2, 0, none⟩)).holds (fun b => b < W.heap.size) W) (gk3 : (pl tErr true (⟨3, 0, none⟩)).holds (fun b => b < W.heap.size) W) (gk4 : (pl tErr true (⟨4, 0, none⟩)).holds (fun b => b < W.heap.size) W) : Calls Tryd.prog 3 #[.slice a0 x0.length c0, .int .i64 x1, .int .i64 x2, bstr x3] W fun e w' => e = .returned (.bool true) ∧ Below W.heap.size W w' := by
  refine (eslaw36_AdversaryText.calls (adversaryText_true x0 x1 x2 x3) i0 gk0 gk1 gk2 gk3 gk4).mono ?_
  rintro e w' ⟨v, rfl, _, rfl, hs⟩
  exact ⟨rfl, hs.1.nil_below⟩
theorem AdversaryText.lifted (os : Os) (started : os.Started) (H : Type) (enc : TypeId × Value → H) :
    ReturnsInHanded {} Tryd.checked os 3 .any (fun w args => (Rows.adversaryTextSpec.pre enc Tryd.prog Tryd.f3 Rows.adversaryTextRow.domain false w args ∧ laidMetH Tryd.prog Rows.adversaryTextRow.laid w) ∧ sizedMet enc Tryd.prog Tryd.f3 (OpenSpec.ofChange Rows.adversaryTextSpec) false w args) (Rows.adversaryTextSpec.post enc Tryd.prog Tryd.f3 false true false false) := by
  refine returns_and_shaped (C := Tryd.checked) (X := fun w _ => laidMetH Tryd.prog Rows.adversaryTextRow.laid w) (fun _ _ _ hh h => h.of_heap hh) AdversaryText.own started (by kernel_rfl) Tryd.func3
    (ChangeSpec.witness_shaped (enc := enc) (C := Tryd.checked) (os := os) (X := fun w _ => laidMetH Tryd.prog Rows.adversaryTextRow.laid w) false (World.laidAll Tryd.prog os Rows.adversaryTextRow.laid) #[.slice none 0 0, .int .i64 0, .int .i64 0, .string ByteArray.empty] 8 (World.laidAll_os _ _ _)
      (World.shaped_of_ZipB (by kernel_rfl) (by kernel_rfl)) (by kernel_rfl) (by kernel_rfl) (by kernel_rfl)
      (by rw [MakeChecks.laidMetH_plain _ _ _ (by kernel_rfl)]; exact laidMet_laidAll _ (by kernel_rfl) (by kernel_rfl))) ?_
  intro W base args ds gs before hval0 hW hcnd _ hlaid hshape _
  rw [MakeChecks.laidMetH_plain _ _ _ (by kernel_rfl)] at hlaid
  obtain ⟨_, hL, _⟩ := hlaid
  obtain ⟨mxl, hmxl⟩ := Go.Proofs.cell_of_shapedOpen_int (g := 2) (zero := #[.int .i64 0]) (t := 3) hshape (of_decide_eq_true (by kernel_rfl)) (by kernel_rfl) rfl (by kernel_rfl) (by kernel_rfl) Tryd.underlying3
  have hval : ∀ (j : Nat) t v, Tryd.f3.params[j]? = some t → args[j]? = some v → Value.okWide Tryd.prog W .any base t v := hval0
  have hW' := hW
  obtain ⟨p, q, hA0, hV, rfl, hfz, hnd⟩ := hW
  have hA : DataW.TrodAll enc Tryd.prog W 0 (fun _ => true) true Tryd.f3.params.toList args.toList ds p := hA0
  rw [Tryd.params3] at hA hval
  obtain ⟨v0, vs0, d0, ds0, p0, q0, hargs, rfl, rfl, h0, r0⟩ := trodAll_cons hA
  obtain ⟨v1, vs1, d1, ds1, p1, q1, rfl, rfl, rfl, h1, r1⟩ := trodAll_cons r0
  obtain ⟨v2, vs2, d2, ds2, p2, q2, rfl, rfl, rfl, h2, r2⟩ := trodAll_cons r1
  obtain ⟨v3, vs3, d3, ds3, p3, q3, rfl, rfl, rfl, h3, r3⟩ := trodAll_cons r2
  obtain ⟨rfl, rfl, rfl⟩ := trodAll_nil r3
  obtain rfl : args = #[v0, v1, v2, v3] := by cases args; simp_all
  obtain ⟨rfl, rfl⟩ := trodVars_none hV
  obtain ⟨a0, len0, c0, rfl⟩ := okWide_slice Tryd.underlying22 (hval 0 22 v0 rfl rfl)
  have k0 := h0
  have lt0 : ∀ x ∈ p0, x.block < W.heap.size := by obtain ⟨m, hm⟩ := k0; exact DataW.trod_lt m _ _ _ hm
  obtain ⟨x0, rfl, i0, hw0⟩ := arg_slice (rdSlice Tryd.underlying22 (rdInt Tryd.underlying3) (by kernel_rfl) (by decide)) h0
  obtain ⟨x1, rfl, rfl, rfl, hw1⟩ := open_int Tryd.underlying3 (hval 1 3 v1 rfl rfl) h1
  obtain ⟨x2, rfl, rfl, rfl, hw2⟩ := open_int Tryd.underlying3 (hval 2 3 v2 rfl rfl) h2
  have k3 := h3
  have lt3 : ∀ x ∈ p3, x.block < W.heap.size := by obtain ⟨m, hm⟩ := k3; exact DataW.trod_lt m _ _ _ hm
  obtain ⟨x3, rfl, hw3⟩ := arg_str Tryd.underlying9 (hval 3 9 v3 rfl rfl) h3
  clear hA0 hval0
  have gk0 := (laid_strs (g := 0) (ss := words_) (by kernel_rfl) (t := 34) (by kernel_rfl) Tryd.underlying34 (by kernel_rfl) (by kernel_rfl) (by unfold words_; simp) (laidAt hL 6 (n := "elasticstore/adversary.words") rfl))
  have gk1 := (laid_tab (g := 1) (zs := Go.Lib.pow10Tab) GN1 (t := 132) (by kernel_rfl) Tryd.underlying132 (by kernel_rfl) (by kernel_rfl) (by kernel_rfl) (laidAt hL 2 (n := "internal/strconv.uint64pow10") rfl))
  have gk2 := (shaped_int (n := "") _ hmxl)
  have gk3 := (laid_err (g := 3) (by kernel_rfl) (t := 86) (by kernel_rfl) Tryd.underlying86 (laidAt hL 5 (n := "strconv.ErrSyntax") rfl))
  have gk4 := (laid_err (g := 4) (by kernel_rfl) (t := 86) (by kernel_rfl) Tryd.underlying86 (laidAt hL 4 (n := "strconv.ErrRange") rfl))
  refine (AdversaryText.walk x0 x1 x2 x3 W i0 gk0 gk1 gk2 gk3 gk4).mono fun e W' ⟨he, bel⟩ => ?_
  subst he
  exact ⟨_, rfl, _, _, _, [], _, [], hW', trodAll_mk1 (shut_bool Tryd.underlying4 _), (trodAll_cons_mk (Below.trod AdversaryText.laidOut (by kernel_rfl) (of_decide_eq_true (by kernel_rfl)) k0 bel lt0) (trodAll_cons_mk (shut_int Tryd.underlying3 hw1) (trodAll_cons_mk (shut_int Tryd.underlying3 hw2) (trodAll_cons_mk (Below.trod AdversaryText.laidOut (by kernel_rfl) (of_decide_eq_true (by kernel_rfl)) k3 bel lt3) trodAll_mk0)))), rfl, bel.frame _, fun h => by cases h⟩
theorem AdversaryText.proved : Rows.AdversaryTextSaid :=
  OpenClaim.holds_of_wide 3 Tryd.f3 rfl rfl rfl rfl rfl rfl rfl ⟨rfl, rfl, rfl, rfl, rfl⟩ rfl rfl rfl rfl rfl (by kernel_rfl) Tryd.func3 (by kernel_rfl)
    (of_decide_eq_true (by kernel_rfl)) (by unfold Func.isWrapper; first | (rw [if_pos (by decide +kernel)]; kernel_rfl) | (rw [if_neg (by decide +kernel)]; exact ⟨rfl, rfl⟩))
    (fun os started H enc _ => AdversaryText.lifted os started H enc)
theorem AdversaryText.card : Rows.AdversaryTextCardSaid :=
  Claim7.holds_tied_plain_at .later [] [.data, .data, .data, .data, .sentinel, .sentinel, .data, .pinned] true (true, "99a037601a6c0c9fddd68af27d5c1968b59244d69a6e0caced632f70837005b0") true AdversaryText.proved (fun _ h => by cases h) (by kernel_rfl) (fun _ h => by cases h) adversaryText_row_tie rfl ⟨rfl, rfl⟩ (by kernel_rfl) rfl
    (fun f fn hf hfn => by
      obtain rfl : f = 3 := Option.some.inj ((show Tryd.prog.funcNamed "elasticstore/elasticstorelaw36.AdversaryText" = some 3 by kernel_rfl).symm.trans hf) |>.symm
      obtain rfl : fn = Tryd.f3 := (Option.some.inj (Tryd.func3.symm.trans hfn)).symm
      exact ⟨by kernel_rfl, fun j t ht => by
        rw [Tryd.params3] at ht
        have hm : t ∈ [22, 3, 3, 9] := by simpa using Array.mem_of_getElem? ht
        have hall : ([22, 3, 3, 9].all fun u => !Tryd.prog.wantsStandIn u) = true := by kernel_rfl
        exact (show Tryd.prog.wantsStandIn t = false by simpa using List.all_eq_true.1 hall t hm)⟩)
    (by kernel_rfl)
#print axioms AdversaryText.card
end Go.Proofs.YthcohhpmpdijoaaDoor
#print axioms Go.Proofs.YthcohhpmpdijoaaDoor.AdversaryText.proved
