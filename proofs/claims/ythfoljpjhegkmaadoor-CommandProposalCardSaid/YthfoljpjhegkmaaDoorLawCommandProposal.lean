/- CommandProposal: for every input the law returns true, and each argument reads as it did. -/
import Derived.Test.YthfoljpjhegkmaaDoorRows
import Derived.Test.YthfoljpjhegkmaaDoorLr
import Derived.Test.YthfoljpjhegkmaaDoorFp15
import Derived.Test.YthfoljpjhegkmaaDoorP08q
import Derived.WalkKit
import Derived.ProofKit
import Derived.OpenShut
import Derived.ShutString
import Derived.ChangeOld
import Derived.Below
import Derived.Test.YthfoljpjhegkmaaDoorCards
import Derived.Test.YthfoljpjhegkmaaDoorTie
import Derived.LaidMore
import Derived.Lay
import Derived.SevenTiedAt
set_option linter.unusedVariables false
set_option linter.unusedSimpArgs false
set_option maxRecDepth 100000
namespace Go.Proofs.YthfoljpjhegkmaaDoor
open Go Go.RowKit Go.ChangeShapes Go.WideShapes Go.ChangeAt Go.Proofs.YthfoljpjhegkmaaDoorL
open Go.ChangeMaps (open_string shut_string)
theorem CommandProposal.own : ownKnob Tryd.prog.godebug = none := by kernel_rfl
theorem CommandProposal.laidOut : laidOutB Tryd.prog = true := by kernel_rfl
theorem CommandProposal.walk (x0 : Int) (x1 : List Int) (x2 : List Int) {a1 : Option Addr} {c1 : Nat} {a2 : Option Addr} {c2 : Nat} (hw0 : (wInt .i64) x0) (hw1 : (wSlice (wInt .i64)) x1) (hw2 : (wSlice (wInt .u8)) x2) (hz1 : x1.length * 8 ≤ 140737488351232) (hz2 : x2.length * 1 ≤ 140737488351232)  (W : World) (i1 : (vl (tSlice (tInt .i64)) x1 (.slice a1 x1.length c1)).holds (fun b => b < W.heap.size) W) (i2 : (vl (tSlice (tInt .u8)) x2 (.slice a2 x2.length c2)).holds (fun b => b < W.heap.size) W) : Calls Tryd.prog 6 #[.int .i64 x0, .slice a1 x1.length c1, .slice a2 x2.length c2] W fun e w' => e = .returned (.bool true) ∧ Below W.heap.size W w' := by
  refine (eslaw08_CommandProposal.calls (commandProposal_wf x0 x1 x2 hw0 hw1 hw2 hz1 hz2) i1 i2).mono ?_
  rintro e w' ⟨v, rfl, _, rfl, hs⟩
  exact ⟨rfl, hs.1.nil_below⟩
theorem CommandProposal.lifted (os : Os) (started : os.Started) (H : Type) (enc : TypeId × Value → H) :
    ReturnsInHanded {} Tryd.checked os 6 .any (fun w args => (Rows.commandProposalSpec.pre enc Tryd.prog Tryd.f6 Rows.commandProposalRow.domain false w args ∧ laidMetH Tryd.prog Rows.commandProposalRow.laid w) ∧ sizedMet enc Tryd.prog Tryd.f6 (OpenSpec.ofChange Rows.commandProposalSpec) false w args) (Rows.commandProposalSpec.post enc Tryd.prog Tryd.f6 false true false false) := by
  refine returnsInHanded_of_change_and (C := Tryd.checked) (X := fun w _ => laidMetH Tryd.prog Rows.commandProposalRow.laid w) (fun _ _ _ hh h => h.of_heap hh) CommandProposal.own started (by kernel_rfl) Tryd.func6
    (ChangeSpec.witness_shaped (enc := enc) (C := Tryd.checked) (os := os) (X := fun w _ => laidMetH Tryd.prog Rows.commandProposalRow.laid w) false (World.laidAll Tryd.prog os Rows.commandProposalRow.laid) #[.int .i64 0, .slice none 0 0, .slice none 0 0] 8 (World.laidAll_os _ _ _)
      (World.shaped_of_ZipB (by kernel_rfl) (by kernel_rfl)) (by kernel_rfl) (by kernel_rfl) (by kernel_rfl)
      (by rw [MakeChecks.laidMetH_plain _ _ _ (by kernel_rfl)]; exact laidMet_laidAll _ (by kernel_rfl) (by kernel_rfl))) ?_
  intro W base args ds gs before hval0 hW hcnd hsz _ _
  have hval : ∀ (j : Nat) t v, Tryd.f6.params[j]? = some t → args[j]? = some v → Value.okWide Tryd.prog W .any base t v := hval0
  have hW' := hW
  obtain ⟨p, q, hA0, hV, rfl, hfz, hnd⟩ := hW
  have hA : DataW.TrodAll enc Tryd.prog W 0 (fun _ => true) true Tryd.f6.params.toList args.toList ds p := hA0
  rw [Tryd.params6] at hA hval
  obtain ⟨v0, vs0, d0, ds0, p0, q0, hargs, rfl, rfl, h0, r0⟩ := trodAll_cons hA
  obtain ⟨v1, vs1, d1, ds1, p1, q1, rfl, rfl, rfl, h1, r1⟩ := trodAll_cons r0
  obtain ⟨v2, vs2, d2, ds2, p2, q2, rfl, rfl, rfl, h2, r2⟩ := trodAll_cons r1
  obtain ⟨rfl, rfl, rfl⟩ := trodAll_nil r2
  obtain rfl : args = #[v0, v1, v2] := by cases args; simp_all
  obtain ⟨rfl, rfl⟩ := trodVars_none hV
  obtain ⟨x0, rfl, rfl, rfl, hw0⟩ := open_int Tryd.underlying3 (hval 0 3 v0 rfl rfl) h0
  obtain ⟨a1, len1, c1, rfl⟩ := okWide_slice Tryd.underlying33 (hval 1 33 v1 rfl rfl)
  have k1 := h1
  have lt1 : ∀ x ∈ p1, x.block < W.heap.size := by obtain ⟨m, hm⟩ := k1; exact DataW.trod_lt m _ _ _ hm
  obtain ⟨x1, rfl, i1, hw1⟩ := arg_slice (rdSlice Tryd.underlying33 (rdInt Tryd.underlying3) (by kernel_rfl) (by decide)) h1
  obtain ⟨a2, len2, c2, rfl⟩ := okWide_slice Tryd.underlying43 (hval 2 43 v2 rfl rfl)
  have k2 := h2
  have lt2 : ∀ x ∈ p2, x.block < W.heap.size := by obtain ⟨m, hm⟩ := k2; exact DataW.trod_lt m _ _ _ hm
  obtain ⟨x2, rfl, i2, hw2⟩ := arg_slice (rdSlice Tryd.underlying43 (rdInt Tryd.underlying5) (by kernel_rfl) (by decide)) h2
  have hz1 : x1.length * 8 ≤ 140737488351232 := arg_len hsz (j := 1) (by rw [Tryd.params6]; rfl) rfl Tryd.underlying33 (by kernel_rfl) k1
  have hz2 : x2.length * 1 ≤ 140737488351232 := arg_len hsz (j := 2) (by rw [Tryd.params6]; rfl) rfl Tryd.underlying43 (by kernel_rfl) k2
  clear hA0 hval0
  refine (CommandProposal.walk x0 x1 x2 hw0 hw1 hw2 hz1 hz2 W i1 i2).mono fun e W' ⟨he, bel⟩ => ?_
  subst he
  exact ⟨_, rfl, _, _, _, [], _, [], hW', trodAll_mk1 (shut_bool Tryd.underlying4 _), (trodAll_cons_mk (shut_int Tryd.underlying3 hw0) (trodAll_cons_mk (Below.trod CommandProposal.laidOut (by kernel_rfl) (of_decide_eq_true (by kernel_rfl)) k1 bel lt1) (trodAll_cons_mk (Below.trod CommandProposal.laidOut (by kernel_rfl) (of_decide_eq_true (by kernel_rfl)) k2 bel lt2) trodAll_mk0))), rfl, bel.frame _, fun h => by cases h⟩
theorem CommandProposal.proved : Rows.CommandProposalSaid :=
  OpenClaim.holds_of_wide 6 Tryd.f6 rfl rfl rfl rfl rfl rfl rfl ⟨rfl, rfl, rfl, rfl, rfl⟩ rfl rfl rfl rfl rfl (by kernel_rfl) Tryd.func6 (by kernel_rfl)
    (of_decide_eq_true (by kernel_rfl)) (by unfold Func.isWrapper; first | (rw [if_pos (by decide +kernel)]; kernel_rfl) | (rw [if_neg (by decide +kernel)]; exact ⟨rfl, rfl⟩))
    (fun os started H enc _ => CommandProposal.lifted os started H enc)
theorem CommandProposal.card : Rows.CommandProposalCardSaid :=
  Claim7.holds_tied_plain_at .later [] [.data, .data, .data, .data, .pinned] true (true, "58be2c9ebddf49e02b6d417d92b95a12714b12f6f48de324fb84d4bb0241d6ed") false CommandProposal.proved (fun _ h => by cases h) (by kernel_rfl) (fun _ h => by cases h) commandProposal_row_tie rfl ⟨rfl, rfl⟩ (by kernel_rfl) rfl
    (fun f fn hf hfn => by
      obtain rfl : f = 6 := Option.some.inj ((show Tryd.prog.funcNamed "elasticstore/elasticstorelaw08.CommandProposal" = some 6 by kernel_rfl).symm.trans hf) |>.symm
      obtain rfl : fn = Tryd.f6 := (Option.some.inj (Tryd.func6.symm.trans hfn)).symm
      exact ⟨by kernel_rfl, fun j t ht => by
        rw [Tryd.params6] at ht
        have hm : t ∈ [3, 33, 43] := by simpa using Array.mem_of_getElem? ht
        have hall : ([3, 33, 43].all fun u => !Tryd.prog.wantsStandIn u) = true := by kernel_rfl
        exact (show Tryd.prog.wantsStandIn t = false by simpa using List.all_eq_true.1 hall t hm)⟩)
    (by kernel_rfl)
#print axioms CommandProposal.card
end Go.Proofs.YthfoljpjhegkmaaDoor
#print axioms Go.Proofs.YthfoljpjhegkmaaDoor.CommandProposal.proved
