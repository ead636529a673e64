/- AdversaryRaw: for every input the law returns true, and each argument reads as it did. -/
import Derived.Test.YthcohhpmpdijoaaGreatDoorRows
import Derived.Test.YthcohhpmpdijoaaGreatDoorQAR1
import Derived.Test.YthcohhpmpdijoaaGreatDoorQAR3
import Derived.WalkKit
import Derived.ProofKit
import Derived.OpenShut
import Derived.ShutString
import Derived.ChangeOld
import Derived.Below
import Derived.Test.YthcohhpmpdijoaaGreatDoorCards
import Derived.LaidMore
import Derived.Lay
import Derived.SevenTiedAt
set_option linter.unusedVariables false
set_option linter.unusedSimpArgs false
set_option maxRecDepth 100000
namespace Go.Proofs.YthcohhpmpdijoaaGreatDoor
open Go Go.RowKit Go.ChangeShapes Go.WideShapes Go.ChangeAt Go.Proofs.YthcohhpmpdijoaaGreatDoorL
open Go.ChangeMaps (open_string shut_string)
theorem AdversaryRaw.own : ownKnob Tryz.prog.godebug = none := by kernel_rfl
theorem AdversaryRaw.laidOut : laidOutB Tryz.prog = true := by kernel_rfl
def W_adversary_Rule : adversary_Rule → Prop := wIso (fun x : adversary_Rule => (x.Kind, x.Arg)) (wPair (wInt .i64) (wInt .i64))
theorem RD38 : RdAt Tryz.prog 38 t_adversary_Rule W_adversary_Rule := rdStruct (B := tPair (tInt .i64) (tInt .i64)) (V := wPair (wInt .i64) (wInt .i64)) (fun x : adversary_Rule => (x.Kind, x.Arg)) (fun y => (⟨y.1, y.2⟩ : adversary_Rule)) (fun _ => rfl) Tryz.underlying38 (RdF.cons (off' := 1) (rdInt Tryz.underlying3) rfl (by kernel_rfl) (RdF.one (rdInt Tryz.underlying3) rfl (by kernel_rfl)) rfl rfl) (by kernel_rfl)
theorem AdversaryRaw.walk (x0 : List adversary_Rule) (x1 : List Int) (x2 : Int) {a0 : Option Addr} {c0 : Nat} {a1 : Option Addr} {c1 : Nat} {mxl : Int}   (W : World) (i0 : (vl (tSlice t_adversary_Rule) x0 (.slice a0 x0.length c0)).holds (fun b => b < W.heap.size) W) (i1 : (vl (tSlice (tInt .i64)) x1 (.slice a1 x1.length c1)).holds (fun b => b < W.heap.size) W) (gk0 : (pl (tSlice tStr) words_ (⟨0, 0, none⟩)).holds (fun b => b < W.heap.size) W) (gk1 : (vl (tTab Tryz.prog "internal/strconv.uint64pow10" 1 GN1 Go.Lib.pow10Tab) () (.int .i64 0)).holds (fun b => b < W.heap.size) W) (gk2 : (pl (tInt .i64) mxl (⟨2, 0, none⟩)).holds (fun b => b < W.heap.size) W) (gk3 : (pl tErr true (⟨3, 0, none⟩)).holds (fun b => b < W.heap.size) W) (gk4 : (pl tErr true (⟨4, 0, none⟩)).holds (fun b => b < W.heap.size) W) : Calls Tryz.prog 3 #[.slice a0 x0.length c0, .slice a1 x1.length c1, .int .i64 x2] W fun e w' => e = .returned (.bool true) ∧ Below W.heap.size W w' := by
  refine (eslaw36_AdversaryRaw.calls (adversaryRaw_true x0 x1 x2) i0 i1 gk0 gk1 gk2 gk3 gk4).mono ?_
  rintro e w' ⟨v, rfl, _, rfl, hs⟩
  exact ⟨rfl, hs.1.nil_below⟩
theorem AdversaryRaw.lifted (os : Os) (started : os.Started) (H : Type) (enc : TypeId × Value → H) :
    ReturnsInHanded {} Tryz.checked os 3 .any (fun w args => (Rows.adversaryRawSpec.pre enc Tryz.prog Tryz.f3 Rows.adversaryRawRow.domain false w args ∧ laidMetH Tryz.prog Rows.adversaryRawRow.laid w) ∧ sizedMet enc Tryz.prog Tryz.f3 (OpenSpec.ofChange Rows.adversaryRawSpec) false w args) (Rows.adversaryRawSpec.post enc Tryz.prog Tryz.f3 false true false false) := by
  refine returns_and_shaped (C := Tryz.checked) (X := fun w _ => laidMetH Tryz.prog Rows.adversaryRawRow.laid w) (fun _ _ _ hh h => h.of_heap hh) AdversaryRaw.own started (by kernel_rfl) Tryz.func3
    (ChangeSpec.witness_shaped (enc := enc) (C := Tryz.checked) (os := os) (X := fun w _ => laidMetH Tryz.prog Rows.adversaryRawRow.laid w) false (World.laidAll Tryz.prog os Rows.adversaryRawRow.laid) #[.slice none 0 0, .slice none 0 0, .int .i64 0] 8 (World.laidAll_os _ _ _)
      (World.shaped_of_ZipB (by kernel_rfl) (by kernel_rfl)) (by kernel_rfl) (by kernel_rfl) (by kernel_rfl)
      (by rw [MakeChecks.laidMetH_plain _ _ _ (by kernel_rfl)]; exact laidMet_laidAll _ (by kernel_rfl) (by kernel_rfl))) ?_
  intro W base args ds gs before hval0 hW hcnd _ hlaid hshape _
  rw [MakeChecks.laidMetH_plain _ _ _ (by kernel_rfl)] at hlaid
  obtain ⟨_, hL, _⟩ := hlaid
  obtain ⟨mxl, hmxl⟩ := Go.Proofs.cell_of_shapedOpen_int (g := 2) (zero := #[.int .i64 0]) (t := 3) hshape (of_decide_eq_true (by kernel_rfl)) (by kernel_rfl) rfl (by kernel_rfl) (by kernel_rfl) Tryz.underlying3
  have hval : ∀ (j : Nat) t v, Tryz.f3.params[j]? = some t → args[j]? = some v → Value.okWide Tryz.prog W .any base t v := hval0
  have hW' := hW
  obtain ⟨p, q, hA0, hV, rfl, hfz, hnd⟩ := hW
  have hA : DataW.TrodAll enc Tryz.prog W 0 (fun _ => true) true Tryz.f3.params.toList args.toList ds p := hA0
  rw [Tryz.params3] at hA hval
  obtain ⟨v0, vs0, d0, ds0, p0, q0, hargs, rfl, rfl, h0, r0⟩ := trodAll_cons hA
  obtain ⟨v1, vs1, d1, ds1, p1, q1, rfl, rfl, rfl, h1, r1⟩ := trodAll_cons r0
  obtain ⟨v2, vs2, d2, ds2, p2, q2, rfl, rfl, rfl, h2, r2⟩ := trodAll_cons r1
  obtain ⟨rfl, rfl, rfl⟩ := trodAll_nil r2
  obtain rfl : args = #[v0, v1, v2] := by cases args; simp_all
  obtain ⟨rfl, rfl⟩ := trodVars_none hV
  obtain ⟨a0, len0, c0, rfl⟩ := okWide_slice Tryz.underlying22 (hval 0 22 v0 rfl rfl)
  have k0 := h0
  have lt0 : ∀ x ∈ p0, x.block < W.heap.size := by obtain ⟨m, hm⟩ := k0; exact DataW.trod_lt m _ _ _ hm
  obtain ⟨x0, rfl, i0, hw0⟩ := arg_slice (rdSlice Tryz.underlying22 RD38 (by kernel_rfl) (by decide)) h0
  obtain ⟨a1, len1, c1, rfl⟩ := okWide_slice Tryz.underlying23 (hval 1 23 v1 rfl rfl)
  have k1 := h1
  have lt1 : ∀ x ∈ p1, x.block < W.heap.size := by obtain ⟨m, hm⟩ := k1; exact DataW.trod_lt m _ _ _ hm
  obtain ⟨x1, rfl, i1, hw1⟩ := arg_slice (rdSlice Tryz.underlying23 (rdInt Tryz.underlying3) (by kernel_rfl) (by decide)) h1
  obtain ⟨x2, rfl, rfl, rfl, hw2⟩ := open_int Tryz.underlying3 (hval 2 3 v2 rfl rfl) h2
  clear hA0 hval0
  have gk0 := (laid_strs (g := 0) (ss := words_) (by kernel_rfl) (t := 74) (by kernel_rfl) Tryz.underlying74 (by kernel_rfl) (by kernel_rfl) (by unfold words_; simp) (laidAt hL 6 (n := "elasticstore/adversary.words") rfl))
  have gk1 := (laid_tab (g := 1) (zs := Go.Lib.pow10Tab) GN1 (t := 153) (by kernel_rfl) Tryz.underlying153 (by kernel_rfl) (by kernel_rfl) (by kernel_rfl) (laidAt hL 2 (n := "internal/strconv.uint64pow10") rfl))
  have gk2 := (shaped_int (n := "") _ hmxl)
  have gk3 := (laid_err (g := 3) (by kernel_rfl) (t := 96) (by kernel_rfl) Tryz.underlying96 (laidAt hL 5 (n := "strconv.ErrSyntax") rfl))
  have gk4 := (laid_err (g := 4) (by kernel_rfl) (t := 96) (by kernel_rfl) Tryz.underlying96 (laidAt hL 4 (n := "strconv.ErrRange") rfl))
  refine (AdversaryRaw.walk x0 x1 x2 W i0 i1 gk0 gk1 gk2 gk3 gk4).mono fun e W' ⟨he, bel⟩ => ?_
  subst he
  exact ⟨_, rfl, _, _, _, [], _, [], hW', trodAll_mk1 (shut_bool Tryz.underlying4 _), (trodAll_cons_mk (Below.trod AdversaryRaw.laidOut (by kernel_rfl) (of_decide_eq_true (by kernel_rfl)) k0 bel lt0) (trodAll_cons_mk (Below.trod AdversaryRaw.laidOut (by kernel_rfl) (of_decide_eq_true (by kernel_rfl)) k1 bel lt1) (trodAll_cons_mk (shut_int Tryz.underlying3 hw2) trodAll_mk0))), rfl, bel.frame _, fun h => by cases h⟩
theorem AdversaryRaw.proved : Rows.AdversaryRawSaid :=
  OpenClaim.holds_of_wide 3 Tryz.f3 rfl rfl rfl rfl rfl rfl rfl ⟨rfl, rfl, rfl, rfl, rfl⟩ rfl rfl rfl rfl rfl (by kernel_rfl) Tryz.func3 (by kernel_rfl)
    (of_decide_eq_true (by kernel_rfl)) (by unfold Func.isWrapper; first | (rw [if_pos (by decide +kernel)]; kernel_rfl) | (rw [if_neg (by decide +kernel)]; exact ⟨rfl, rfl⟩))
    (fun os started H enc _ => AdversaryRaw.lifted os started H enc)
theorem AdversaryRaw.card : Rows.AdversaryRawCardSaid :=
  Claim7.holds_tied_plain_at .later [] [.data, .data, .data, .data, .sentinel, .sentinel, .data, .pinned] true (true, "35353eea666f82868b48a6b1b9703c98a76bae94ce2dc82210fdad916f13ae1c") true AdversaryRaw.proved (fun _ h => by cases h) (by kernel_rfl) (fun _ h => by cases h) adversaryRaw_row_tie rfl ⟨rfl, rfl⟩ (by kernel_rfl) rfl
    (fun f fn hf hfn => by
      obtain rfl : f = 3 := Option.some.inj ((show Tryz.prog.funcNamed "elasticstore/elasticstorelaw36.AdversaryRaw" = some 3 by kernel_rfl).symm.trans hf) |>.symm
      obtain rfl : fn = Tryz.f3 := (Option.some.inj (Tryz.func3.symm.trans hfn)).symm
      exact ⟨by kernel_rfl, fun j t ht => by
        rw [Tryz.params3] at ht
        have hm : t ∈ [22, 23, 3] := by simpa using Array.mem_of_getElem? ht
        have hall : ([22, 23, 3].all fun u => !Tryz.prog.wantsStandIn u) = true := by kernel_rfl
        exact (show Tryz.prog.wantsStandIn t = false by simpa using List.all_eq_true.1 hall t hm)⟩)
    (by kernel_rfl)
#print axioms AdversaryRaw.card
end Go.Proofs.YthcohhpmpdijoaaGreatDoor
#print axioms Go.Proofs.YthcohhpmpdijoaaGreatDoor.AdversaryRaw.proved
