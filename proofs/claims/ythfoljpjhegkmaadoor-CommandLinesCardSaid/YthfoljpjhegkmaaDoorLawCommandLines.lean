/- CommandLines: for every input the law returns true, and each argument reads as it did. -/
import Derived.Test.YthfoljpjhegkmaaDoorRows
import Derived.Test.YthfoljpjhegkmaaDoorLr
import Derived.Test.YthfoljpjhegkmaaDoorFp16
import Derived.Test.YthfoljpjhegkmaaDoorP08k
import Derived.WalkKit
import Derived.ProofKit
import Derived.OpenShut
import Derived.ShutString
import Derived.ChangeOld
import Derived.Below
import Derived.Test.YthfoljpjhegkmaaDoorCards
import Derived.Test.YthfoljpjhegkmaaDoorTie
import Derived.LaidMore
import Derived.Lay
import Derived.SevenTiedAt
set_option linter.unusedVariables false
set_option linter.unusedSimpArgs false
set_option maxRecDepth 100000
namespace Go.Proofs.YthfoljpjhegkmaaDoor
open Go Go.RowKit Go.ChangeShapes Go.WideShapes Go.ChangeAt Go.Proofs.YthfoljpjhegkmaaDoorL
open Go.ChangeMaps (open_string shut_string)
theorem CommandLines.own : ownKnob Tryd.prog.godebug = none := by kernel_rfl
theorem CommandLines.laidOut : laidOutB Tryd.prog = true := by kernel_rfl
def W_api_WeightEntry : api_WeightEntry → Prop := wIso (fun x : api_WeightEntry => (x.Server, x.Weight, x.Version, x.Admin, x.Number)) (wPair (wInt .i64) (wPair (wInt .i64) (wPair (wInt .i64) (wPair (wInt .i64) (wInt .i64)))))
theorem RD59 : RdAt Tryd.prog 59 t_api_WeightEntry W_api_WeightEntry := rdStruct (B := tPair (tInt .i64) (tPair (tInt .i64) (tPair (tInt .i64) (tPair (tInt .i64) (tInt .i64))))) (V := wPair (wInt .i64) (wPair (wInt .i64) (wPair (wInt .i64) (wPair (wInt .i64) (wInt .i64))))) (fun x : api_WeightEntry => (x.Server, x.Weight, x.Version, x.Admin, x.Number)) (fun y => (⟨y.1, y.2.1, y.2.2.1, y.2.2.2.1, y.2.2.2.2⟩ : api_WeightEntry)) (fun _ => rfl) Tryd.underlying59 (RdF.cons (off' := 1) (rdInt Tryd.underlying3) rfl (by kernel_rfl) (RdF.cons (off' := 2) (rdInt Tryd.underlying3) rfl (by kernel_rfl) (RdF.cons (off' := 3) (rdInt Tryd.underlying3) rfl (by kernel_rfl) (RdF.cons (off' := 4) (rdInt Tryd.underlying3) rfl (by kernel_rfl) (RdF.one (rdInt Tryd.underlying3) rfl (by kernel_rfl)) rfl rfl) rfl rfl) rfl rfl) rfl rfl) (by kernel_rfl)
def W_api_Rule : api_Rule → Prop := wIso (fun x : api_Rule => (x.Kind, x.Columns, x.Faulty)) (wPair (wInt .i64) (wPair (wInt .i64) (wInt .i64)))
theorem RD24 : RdAt Tryd.prog 24 t_api_Rule W_api_Rule := rdStruct (B := tPair (tInt .i64) (tPair (tInt .i64) (tInt .i64))) (V := wPair (wInt .i64) (wPair (wInt .i64) (wInt .i64))) (fun x : api_Rule => (x.Kind, x.Columns, x.Faulty)) (fun y => (⟨y.1, y.2.1, y.2.2⟩ : api_Rule)) (fun _ => rfl) Tryd.underlying24 (RdF.cons (off' := 1) (rdInt Tryd.underlying3) rfl (by kernel_rfl) (RdF.cons (off' := 2) (rdInt Tryd.underlying3) rfl (by kernel_rfl) (RdF.one (rdInt Tryd.underlying3) rfl (by kernel_rfl)) rfl rfl) rfl rfl) (by kernel_rfl)
def W_api_Summary : api_Summary → Prop := wIso (fun x : api_Summary => (x.Joined, x.Removed, x.Weights, x.Rule, x.Version, x.Admin, x.Number)) (wPair (wSlice (wInt .i64)) (wPair (wSlice (wInt .i64)) (wPair (wSlice W_api_WeightEntry) (wPair W_api_Rule (wPair (wInt .i64) (wPair (wInt .i64) (wInt .i64)))))))
theorem RD36 : RdAt Tryd.prog 36 t_api_Summary W_api_Summary := rdStruct (B := tPair (tSlice (tInt .i64)) (tPair (tSlice (tInt .i64)) (tPair (tSlice t_api_WeightEntry) (tPair t_api_Rule (tPair (tInt .i64) (tPair (tInt .i64) (tInt .i64))))))) (V := wPair (wSlice (wInt .i64)) (wPair (wSlice (wInt .i64)) (wPair (wSlice W_api_WeightEntry) (wPair W_api_Rule (wPair (wInt .i64) (wPair (wInt .i64) (wInt .i64))))))) (fun x : api_Summary => (x.Joined, x.Removed, x.Weights, x.Rule, x.Version, x.Admin, x.Number)) (fun y => (⟨y.1, y.2.1, y.2.2.1, y.2.2.2.1, y.2.2.2.2.1, y.2.2.2.2.2.1, y.2.2.2.2.2.2⟩ : api_Summary)) (fun _ => rfl) Tryd.underlying36 (RdF.cons (off' := 1) (rdSlice Tryd.underlying33 (rdInt Tryd.underlying3) (by kernel_rfl) (by decide)) rfl (by kernel_rfl) (RdF.cons (off' := 2) (rdSlice Tryd.underlying33 (rdInt Tryd.underlying3) (by kernel_rfl) (by decide)) rfl (by kernel_rfl) (RdF.cons (off' := 3) (rdSlice Tryd.underlying34 RD59 (by kernel_rfl) (by decide)) rfl (by kernel_rfl) (RdF.cons (off' := 6) RD24 rfl (by kernel_rfl) (RdF.cons (off' := 7) (rdInt Tryd.underlying3) rfl (by kernel_rfl) (RdF.cons (off' := 8) (rdInt Tryd.underlying3) rfl (by kernel_rfl) (RdF.one (rdInt Tryd.underlying3) rfl (by kernel_rfl)) rfl rfl) rfl rfl) rfl rfl) rfl rfl) rfl rfl) rfl rfl) (by kernel_rfl)
theorem CommandLines.walk (x0 : List UInt8) (x1 : List UInt8) (x2 : api_Summary) {v2 : Value} (hw0 : (wStr) x0) (hw1 : (wStr) x1) (hw2 : (W_api_Summary) x2)  (W : World) (i2 : (vl t_api_Summary x2 v2).holds (fun b => b < W.heap.size) W) : Calls Tryd.prog 7 #[bstr x0, bstr x1, v2] W fun e w' => e = .returned (.bool true) ∧ Below W.heap.size W w' := by
  refine (eslaw08_CommandLines.calls (commandLines_wf x0 x1 x2 hw0 hw1 hw2) i2).mono ?_
  rintro e w' ⟨v, rfl, _, rfl, hs⟩
  exact ⟨rfl, hs.1.nil_below⟩
theorem CommandLines.lifted (os : Os) (started : os.Started) (H : Type) (enc : TypeId × Value → H) :
    ReturnsInHanded {} Tryd.checked os 7 .any (fun w args => (Rows.commandLinesSpec.pre enc Tryd.prog Tryd.f7 Rows.commandLinesRow.domain false w args ∧ laidMetH Tryd.prog Rows.commandLinesRow.laid w) ∧ sizedMet enc Tryd.prog Tryd.f7 (OpenSpec.ofChange Rows.commandLinesSpec) false w args) (Rows.commandLinesSpec.post enc Tryd.prog Tryd.f7 false true false false) := by
  refine returnsInHanded_of_change_and (C := Tryd.checked) (X := fun w _ => laidMetH Tryd.prog Rows.commandLinesRow.laid w) (fun _ _ _ hh h => h.of_heap hh) CommandLines.own started (by kernel_rfl) Tryd.func7
    (ChangeSpec.witness_shaped (enc := enc) (C := Tryd.checked) (os := os) (X := fun w _ => laidMetH Tryd.prog Rows.commandLinesRow.laid w) false (World.laidAll Tryd.prog os Rows.commandLinesRow.laid) #[.string ByteArray.empty, .string ByteArray.empty, .agg #[.slice none 0 0, .slice none 0 0, .slice none 0 0, .int .i64 0, .int .i64 0, .int .i64 0, .int .i64 0, .int .i64 0, .int .i64 0]] 8 (World.laidAll_os _ _ _)
      (World.shaped_of_ZipB (by kernel_rfl) (by kernel_rfl)) (by kernel_rfl) (by kernel_rfl) (by kernel_rfl)
      (by rw [MakeChecks.laidMetH_plain _ _ _ (by kernel_rfl)]; exact laidMet_laidAll _ (by kernel_rfl) (by kernel_rfl))) ?_
  intro W base args ds gs before hval0 hW hcnd _ _ _
  have hval : ∀ (j : Nat) t v, Tryd.f7.params[j]? = some t → args[j]? = some v → Value.okWide Tryd.prog W .any base t v := hval0
  have hW' := hW
  obtain ⟨p, q, hA0, hV, rfl, hfz, hnd⟩ := hW
  have hA : DataW.TrodAll enc Tryd.prog W 0 (fun _ => true) true Tryd.f7.params.toList args.toList ds p := hA0
  rw [Tryd.params7] at hA hval
  obtain ⟨v0, vs0, d0, ds0, p0, q0, hargs, rfl, rfl, h0, r0⟩ := trodAll_cons hA
  obtain ⟨v1, vs1, d1, ds1, p1, q1, rfl, rfl, rfl, h1, r1⟩ := trodAll_cons r0
  obtain ⟨v2, vs2, d2, ds2, p2, q2, rfl, rfl, rfl, h2, r2⟩ := trodAll_cons r1
  obtain ⟨rfl, rfl, rfl⟩ := trodAll_nil r2
  obtain rfl : args = #[v0, v1, v2] := by cases args; simp_all
  obtain ⟨rfl, rfl⟩ := trodVars_none hV
  have k0 := h0
  have lt0 : ∀ x ∈ p0, x.block < W.heap.size := by obtain ⟨m, hm⟩ := k0; exact DataW.trod_lt m _ _ _ hm
  obtain ⟨x0, rfl, hw0⟩ := arg_str Tryd.underlying9 (hval 0 9 v0 rfl rfl) h0
  have k1 := h1
  have lt1 : ∀ x ∈ p1, x.block < W.heap.size := by obtain ⟨m, hm⟩ := k1; exact DataW.trod_lt m _ _ _ hm
  obtain ⟨x1, rfl, hw1⟩ := arg_str Tryd.underlying9 (hval 1 9 v1 rfl rfl) h1
  obtain ⟨cs2, rfl, _⟩ := okWide_struct Tryd.underlying36 (hval 2 36 v2 rfl rfl)
  have k2 := h2
  have lt2 : ∀ x ∈ p2, x.block < W.heap.size := by obtain ⟨m, hm⟩ := k2; exact DataW.trod_lt m _ _ _ hm
  obtain ⟨x2, i2, hw2⟩ := arg_struct (T := t_api_Summary) rfl RD36 h2
  clear hA0 hval0
  refine (CommandLines.walk x0 x1 x2 hw0 hw1 hw2 W i2).mono fun e W' ⟨he, bel⟩ => ?_
  subst he
  exact ⟨_, rfl, _, _, _, [], _, [], hW', trodAll_mk1 (shut_bool Tryd.underlying4 _), (trodAll_cons_mk (Below.trod CommandLines.laidOut (by kernel_rfl) (of_decide_eq_true (by kernel_rfl)) k0 bel lt0) (trodAll_cons_mk (Below.trod CommandLines.laidOut (by kernel_rfl) (of_decide_eq_true (by kernel_rfl)) k1 bel lt1) (trodAll_cons_mk (Below.trod CommandLines.laidOut (by kernel_rfl) (of_decide_eq_true (by kernel_rfl)) k2 bel lt2) trodAll_mk0))), rfl, bel.frame _, fun h => by cases h⟩
theorem CommandLines.proved : Rows.CommandLinesSaid :=
  OpenClaim.holds_of_wide 7 Tryd.f7 rfl rfl rfl rfl rfl rfl rfl ⟨rfl, rfl, rfl, rfl, rfl⟩ rfl rfl rfl rfl rfl (by kernel_rfl) Tryd.func7 (by kernel_rfl)
    (of_decide_eq_true (by kernel_rfl)) (by unfold Func.isWrapper; first | (rw [if_pos (by decide +kernel)]; kernel_rfl) | (rw [if_neg (by decide +kernel)]; exact ⟨rfl, rfl⟩))
    (fun os started H enc _ => CommandLines.lifted os started H enc)
theorem CommandLines.card : Rows.CommandLinesCardSaid :=
  Claim7.holds_tied_plain_at .later [] [.data, .data, .data, .data, .pinned] true (true, "58be2c9ebddf49e02b6d417d92b95a12714b12f6f48de324fb84d4bb0241d6ed") false CommandLines.proved (fun _ h => by cases h) (by kernel_rfl) (fun _ h => by cases h) commandLines_row_tie rfl ⟨rfl, rfl⟩ (by kernel_rfl) rfl
    (fun f fn hf hfn => by
      obtain rfl : f = 7 := Option.some.inj ((show Tryd.prog.funcNamed "elasticstore/elasticstorelaw08.CommandLines" = some 7 by kernel_rfl).symm.trans hf) |>.symm
      obtain rfl : fn = Tryd.f7 := (Option.some.inj (Tryd.func7.symm.trans hfn)).symm
      exact ⟨by kernel_rfl, fun j t ht => by
        rw [Tryd.params7] at ht
        have hm : t ∈ [9, 9, 36] := by simpa using Array.mem_of_getElem? ht
        have hall : ([9, 9, 36].all fun u => !Tryd.prog.wantsStandIn u) = true := by kernel_rfl
        exact (show Tryd.prog.wantsStandIn t = false by simpa using List.all_eq_true.1 hall t hm)⟩)
    (by kernel_rfl)
#print axioms CommandLines.card
end Go.Proofs.YthfoljpjhegkmaaDoor
#print axioms Go.Proofs.YthfoljpjhegkmaaDoor.CommandLines.proved
