/- CommandFormat: for every input the law returns true, and each argument reads as it did. -/
import Derived.Test.YthfoljpjhegkmaaDoorRows
import Derived.Test.YthfoljpjhegkmaaDoorLr
import Derived.Test.YthfoljpjhegkmaaDoorFp10
import Derived.Test.YthfoljpjhegkmaaDoorP08j
import Derived.WalkKit
import Derived.ProofKit
import Derived.OpenShut
import Derived.ShutString
import Derived.ChangeOld
import Derived.Below
import Derived.Test.YthfoljpjhegkmaaDoorCards
import Derived.Test.YthfoljpjhegkmaaDoorTie
import Derived.LaidMore
import Derived.Lay
import Derived.SevenTiedAt
set_option linter.unusedVariables false
set_option linter.unusedSimpArgs false
set_option maxRecDepth 100000
namespace Go.Proofs.YthfoljpjhegkmaaDoor
open Go Go.RowKit Go.ChangeShapes Go.WideShapes Go.ChangeAt Go.Proofs.YthfoljpjhegkmaaDoorL
open Go.ChangeMaps (open_string shut_string)
theorem CommandFormat.own : ownKnob Tryd.prog.godebug = none := by kernel_rfl
theorem CommandFormat.laidOut : laidOutB Tryd.prog = true := by kernel_rfl
def W_api_Rule : api_Rule → Prop := wIso (fun x : api_Rule => (x.Kind, x.Columns, x.Faulty)) (wPair (wInt .i64) (wPair (wInt .i64) (wInt .i64)))
theorem RD24 : RdAt Tryd.prog 24 t_api_Rule W_api_Rule := rdStruct (B := tPair (tInt .i64) (tPair (tInt .i64) (tInt .i64))) (V := wPair (wInt .i64) (wPair (wInt .i64) (wInt .i64))) (fun x : api_Rule => (x.Kind, x.Columns, x.Faulty)) (fun y => (⟨y.1, y.2.1, y.2.2⟩ : api_Rule)) (fun _ => rfl) Tryd.underlying24 (RdF.cons (off' := 1) (rdInt Tryd.underlying3) rfl (by kernel_rfl) (RdF.cons (off' := 2) (rdInt Tryd.underlying3) rfl (by kernel_rfl) (RdF.one (rdInt Tryd.underlying3) rfl (by kernel_rfl)) rfl rfl) rfl rfl) (by kernel_rfl)
def W_api_Change : api_Change → Prop := wIso (fun x : api_Change => (x.Kind, x.Server, x.Weight, x.Version, x.Rule)) (wPair (wInt .i64) (wPair (wInt .i64) (wPair (wInt .i64) (wPair (wInt .i64) W_api_Rule))))
theorem RD26 : RdAt Tryd.prog 26 t_api_Change W_api_Change := rdStruct (B := tPair (tInt .i64) (tPair (tInt .i64) (tPair (tInt .i64) (tPair (tInt .i64) t_api_Rule)))) (V := wPair (wInt .i64) (wPair (wInt .i64) (wPair (wInt .i64) (wPair (wInt .i64) W_api_Rule)))) (fun x : api_Change => (x.Kind, x.Server, x.Weight, x.Version, x.Rule)) (fun y => (⟨y.1, y.2.1, y.2.2.1, y.2.2.2.1, y.2.2.2.2⟩ : api_Change)) (fun _ => rfl) Tryd.underlying26 (RdF.cons (off' := 1) (rdInt Tryd.underlying3) rfl (by kernel_rfl) (RdF.cons (off' := 2) (rdInt Tryd.underlying3) rfl (by kernel_rfl) (RdF.cons (off' := 3) (rdInt Tryd.underlying3) rfl (by kernel_rfl) (RdF.cons (off' := 4) (rdInt Tryd.underlying3) rfl (by kernel_rfl) (RdF.one RD24 rfl (by kernel_rfl)) rfl rfl) rfl rfl) rfl rfl) rfl rfl) (by kernel_rfl)
theorem CommandFormat.walk (x0 : api_Change) {v0 : Value}   (W : World) (i0 : (vl t_api_Change x0 v0).holds (fun b => b < W.heap.size) W) : Calls Tryd.prog 4 #[v0] W fun e w' => e = .returned (.bool true) ∧ Below W.heap.size W w' := by
  refine (eslaw08_CommandFormat.calls (commandFormat_true x0) i0).mono ?_
  rintro e w' ⟨v, rfl, _, rfl, hs⟩
  exact ⟨rfl, hs.1.nil_below⟩
theorem CommandFormat.lifted (os : Os) (started : os.Started) (H : Type) (enc : TypeId × Value → H) :
    ReturnsInHanded {} Tryd.checked os 4 .any (fun w args => (Rows.commandFormatSpec.pre enc Tryd.prog Tryd.f4 Rows.commandFormatRow.domain false w args ∧ laidMetH Tryd.prog Rows.commandFormatRow.laid w) ∧ sizedMet enc Tryd.prog Tryd.f4 (OpenSpec.ofChange Rows.commandFormatSpec) false w args) (Rows.commandFormatSpec.post enc Tryd.prog Tryd.f4 false true false false) := by
  refine returnsInHanded_of_change_and (C := Tryd.checked) (X := fun w _ => laidMetH Tryd.prog Rows.commandFormatRow.laid w) (fun _ _ _ hh h => h.of_heap hh) CommandFormat.own started (by kernel_rfl) Tryd.func4
    (ChangeSpec.witness_shaped (enc := enc) (C := Tryd.checked) (os := os) (X := fun w _ => laidMetH Tryd.prog Rows.commandFormatRow.laid w) false (World.laidAll Tryd.prog os Rows.commandFormatRow.laid) #[.agg #[.int .i64 0, .int .i64 0, .int .i64 0, .int .i64 0, .int .i64 0, .int .i64 0, .int .i64 0]] 8 (World.laidAll_os _ _ _)
      (World.shaped_of_ZipB (by kernel_rfl) (by kernel_rfl)) (by kernel_rfl) (by kernel_rfl) (by kernel_rfl)
      (by rw [MakeChecks.laidMetH_plain _ _ _ (by kernel_rfl)]; exact laidMet_laidAll _ (by kernel_rfl) (by kernel_rfl))) ?_
  intro W base args ds gs before hval0 hW hcnd _ _ _
  have hval : ∀ (j : Nat) t v, Tryd.f4.params[j]? = some t → args[j]? = some v → Value.okWide Tryd.prog W .any base t v := hval0
  have hW' := hW
  obtain ⟨p, q, hA0, hV, rfl, hfz, hnd⟩ := hW
  have hA : DataW.TrodAll enc Tryd.prog W 0 (fun _ => true) true Tryd.f4.params.toList args.toList ds p := hA0
  rw [Tryd.params4] at hA hval
  obtain ⟨v0, vs0, d0, ds0, p0, q0, hargs, rfl, rfl, h0, r0⟩ := trodAll_cons hA
  obtain ⟨rfl, rfl, rfl⟩ := trodAll_nil r0
  obtain rfl : args = #[v0] := by cases args; simp_all
  obtain ⟨rfl, rfl⟩ := trodVars_none hV
  obtain ⟨cs0, rfl, _⟩ := okWide_struct Tryd.underlying26 (hval 0 26 v0 rfl rfl)
  have k0 := h0
  have lt0 : ∀ x ∈ p0, x.block < W.heap.size := by obtain ⟨m, hm⟩ := k0; exact DataW.trod_lt m _ _ _ hm
  obtain ⟨x0, i0, hw0⟩ := arg_struct (T := t_api_Change) rfl RD26 h0
  clear hA0 hval0
  refine (CommandFormat.walk x0 W i0).mono fun e W' ⟨he, bel⟩ => ?_
  subst he
  exact ⟨_, rfl, _, _, _, [], _, [], hW', trodAll_mk1 (shut_bool Tryd.underlying4 _), (trodAll_cons_mk (Below.trod CommandFormat.laidOut (by kernel_rfl) (of_decide_eq_true (by kernel_rfl)) k0 bel lt0) trodAll_mk0), rfl, bel.frame _, fun h => by cases h⟩
theorem CommandFormat.proved : Rows.CommandFormatSaid :=
  OpenClaim.holds_of_wide 4 Tryd.f4 rfl rfl rfl rfl rfl rfl rfl ⟨rfl, rfl, rfl, rfl, rfl⟩ rfl rfl rfl rfl rfl (by kernel_rfl) Tryd.func4 (by kernel_rfl)
    (of_decide_eq_true (by kernel_rfl)) (by unfold Func.isWrapper; first | (rw [if_pos (by decide +kernel)]; kernel_rfl) | (rw [if_neg (by decide +kernel)]; exact ⟨rfl, rfl⟩))
    (fun os started H enc _ => CommandFormat.lifted os started H enc)
theorem CommandFormat.card : Rows.CommandFormatCardSaid :=
  Claim7.holds_tied_plain_at .later [] [.data, .data, .data, .data, .pinned] true (true, "58be2c9ebddf49e02b6d417d92b95a12714b12f6f48de324fb84d4bb0241d6ed") false CommandFormat.proved (fun _ h => by cases h) (by kernel_rfl) (fun _ h => by cases h) commandFormat_row_tie rfl ⟨rfl, rfl⟩ (by kernel_rfl) rfl
    (fun f fn hf hfn => by
      obtain rfl : f = 4 := Option.some.inj ((show Tryd.prog.funcNamed "elasticstore/elasticstorelaw08.CommandFormat" = some 4 by kernel_rfl).symm.trans hf) |>.symm
      obtain rfl : fn = Tryd.f4 := (Option.some.inj (Tryd.func4.symm.trans hfn)).symm
      exact ⟨by kernel_rfl, fun j t ht => by
        rw [Tryd.params4] at ht
        have hm : t ∈ [26] := by simpa using Array.mem_of_getElem? ht
        have hall : ([26].all fun u => !Tryd.prog.wantsStandIn u) = true := by kernel_rfl
        exact (show Tryd.prog.wantsStandIn t = false by simpa using List.all_eq_true.1 hall t hm)⟩)
    (by kernel_rfl)
#print axioms CommandFormat.card
end Go.Proofs.YthfoljpjhegkmaaDoor
#print axioms Go.Proofs.YthfoljpjhegkmaaDoor.CommandFormat.proved
