/- slices.Compare on lists of numbers, which leaves the world as it is. -/
import Derived.Test.YtodebgfppmcjlaaFk
import Derived.Test.YtodebgfppmcjlaaLq
import Derived.Test.YtodebgfppmcjlaaPl
import Derived.Test.YtodebgfppmcjlaaLu
import Derived.Test.YtodebgfppmcjlaaFj
import Derived.WalkKit
set_option linter.unusedVariables false
set_option linter.unusedSimpArgs false
namespace Go.Proofs.Ytodebgfppmcjlaa
open Go Go.RowKit Go.Shelf Go.Sort Go.Lib Go.Proofs.YtodebgfppmcjlaaL
theorem cmp52 (x y : Int) (W : World) : Calls Try.prog 52 #[.int .i64 x, .int .i64 y] W fun e w' => e = .returned (.int .i64 (cmpI x y)) ∧ w' = W := by
  unfold cmpI
  by_cases h1 : x < y
  · rw [if_pos h1]
    go_enter Try.func52, Try.ntmps52
    go_wp2
    go_ret
    exact ⟨rfl, rfl⟩
  · rw [if_neg h1]
    by_cases h2 : y < x
    · rw [if_pos h2]
      go_enter Try.func52, Try.ntmps52
      go_wp2
      go_ret
      exact ⟨rfl, rfl⟩
    · rw [if_neg h2]
      go_enter Try.func52, Try.ntmps52
      go_wp2
      go_ret
      exact ⟨rfl, rfl⟩
theorem FN52h : FN Try.prog 52 := fun _ _ => by kernel_rfl
theorem WL.callQ {P : Program} {N : Nat} {Q : QE} {ρ : Env} {w : World} {d : Option Tmp} {ty : TypeId} {pos : String} {aft : Array Edge} {gd : Option (Nat × Bool)} {ops : Array Oper} {rest : List Oper} {f : FuncId} {args : List Operand} {ats : Array TypeId} {vs : List Value} {u : Value} (hf : FN P f) (ha : Evs ρ args vs)
    (hc : Calls P f vs.toArray w fun e w' => e = .returned u ∧ w' = w) (K : WL P N ops Q rest (putE ρ d u) w)
    (hg : wantedE ops ρ ⟨d, .call { callee := .value (.func f), args := args.toArray, argTypes := ats }, ty, pos, aft, gd⟩ = true := by rfl) (hd : fits N d = true := by rfl) :
    WL P N ops Q (⟨d, .call { callee := .value (.func f), args := args.toArray, argTypes := ats }, ty, pos, aft, gd⟩ :: rest) ρ w := by
  refine WL.enter hg hd (w' := w) (f := f) (args := vs.toArray) (R := fun v w' => v = u ∧ w' = w) ?_ (hc.mono ?_) ?_
  · show (invoke (.fn (.func f) #[]) (#[] ++ args.toArray.map ρ.ev)).run P w = _
    rw [List.map_toArray, ha.map]
    simpa [invoke] using hf vs.toArray w
  · rintro e w' ⟨rfl, rfl⟩
    exact ⟨_, rfl, rfl, rfl⟩
  · rintro v w' ⟨rfl, rfl⟩
    exact K
set_option maxRecDepth 100000
def cmpL.j1 (x1 : List Int) (x4 : List Int) : Option Int := (if (decide ((x1.length : Int) < (x4.length : Int))) then some (-1) else some 0)
def cmpL.l1 (x1 : List Int) (x4 : List Int) : Int → Option ((Int) ⊕ (Unit ⊕ Int)) := fun x18 =>
  (if (decide (x18 < (x1.length : Int))) then ((idx x1 x18).bind fun x25 =>
  (if (decide ((x4.length : Int) ≤ x18)) then some (.inr (.inr 1)) else ((idx x4 x18).bind fun x33 =>
  (letV (cmpI x25 x33) fun x37 =>
  (if (x37 != 0) then some (.inr (.inr x37)) else (letV (IntKind.i64.wrap (x18 + 1)) fun x41 =>
  some (.inl x41))))))) else some (.inr (.inl ())))
noncomputable def cmpL (x1 : List Int) (x4 : List Int) : Option Int :=
  ((loopO (cmpL.l1 x1 x4) 0).bind fun b => match b with | .inl _ => cmpL.j1 x1 x4 | .inr x42 => some x42)
theorem cmpL_calls {ok : Nat → Prop} {w0 : World} {x1 : List Int} {x4 : List Int} {a2 : Option Addr} {c3 : Nat} {a5 : Option Addr} {c6 : Nat} {r : Int} (hf : cmpL x1 x4 = some r) (i0 : (vl (tSlice (tInt .i64)) x1 (.slice a2 x1.length c3)).holds ok w0) (i1 : (vl (tSlice (tInt .i64)) x4 (.slice a5 x4.length c6)).holds ok w0) :
    Calls Try.prog 37 #[.slice a2 x1.length c3, .slice a5 x4.length c6] w0 fun e w' => ∃ v, e = .returned v ∧ (v = .int .i64 r ∧ w' = w0) := by
  unfold cmpL at hf
  refine calls_of_W (fn := Try.f37) (N := 36) Try.func37 rfl Try.ntmps37 rfl ?_
  have hs : St ok (bz w0) w0 [vl (tSlice (tInt .i64)) x1 (.slice a2 x1.length c3), vl (tSlice (tInt .i64)) x4 (.slice a5 x4.length c6)] [] := St.init (All.cons i0 (All.cons i1 All.nil))
  clear i0 i1
  refine W.seqK fun K7 hK7 => ?_
  refine W.region ?_
  refine WL.assign (v := .int .i64 0) rfl ?_
  refine WL.nil ?_
  refine hK7 _ _ ?_
  refine W.seqK fun K8 hK8 => ?_
  have Jk10 : ∀ (ρ : Env), ρ 0 = .slice a2 x1.length c3 → ρ 1 = .slice a5 x4.length c6 → cmpL.j1 x1 x4 = some r → K8 ρ w0 := by
    intro ρ h9_0 h9_1 hf
    refine hK8 _ _ ?_
    unfold cmpL.j1 at hf
    refine W.seqK fun K11 hK11 => ?_
    refine W.seqK fun K12 hK12 => ?_
    refine W.region ?_
    refine WL.move (v := .slice a2 x1.length c3) h9_0 ?_
    refine WL.len (v := .slice a2 x1.length c3) rfl (len_slice UN33) ?_
    refine WL.move (v := .slice a5 x4.length c6) h9_1 ?_
    refine WL.len (v := .slice a5 x4.length c6) rfl (len_slice UN33) ?_
    refine WL.bin (v := .bool (decide ((x1.length : Int) < (x4.length : Int)))) rfl rfl (ib_lss _ _ _) ?_
    refine WL.nil ?_
    refine hK12 _ _ ?_
    rcases iteE hf with ⟨hc13, hf⟩ | ⟨hc13, hf⟩
    · refine W.cond_true (bool_tr rfl hc13) ?_
      refine W.seqK fun K14 hK14 => ?_
      refine W.region ?_
      refine WL.assign (v := .int .i64 (-1)) rfl ?_
      refine WL.nil ?_
      refine hK14 _ _ ?_
      refine W.ret ?_
      have hr := Option.some.inj hf; subst hr
      exact ⟨_, resOk_one rfl rfl, rfl, rfl⟩
    · refine W.cond_false (bool_tr rfl hc13) ?_
      refine W.skip ?_
      refine hK11 _ _ ?_
      refine W.seqK fun K15 hK15 => ?_
      refine W.region ?_
      refine WL.assign (v := .int .i64 0) rfl ?_
      refine WL.nil ?_
      refine hK15 _ _ ?_
      refine W.ret ?_
      have hr := Option.some.inj hf; subst hr
      exact ⟨_, resOk_one rfl rfl, rfl, rfl⟩
  refine W.seqK fun K16 hK16 => ?_
  refine W.region ?_
  refine WL.move (v := .slice a2 x1.length c3) rfl ?_
  refine WL.len (v := .slice a2 x1.length c3) rfl (len_slice UN33) ?_
  refine WL.move (v := .int .i64 0) rfl ?_
  refine WL.nil ?_
  refine hK16 _ _ ?_
  refine W.block ?_
  obtain ⟨bs19, hbs19, hfs19⟩ := bindE hf
  refine W.loop hbs19 (fun s ρ w => match s with | x18 => ρ 0 = .slice a2 x1.length c3 ∧ ρ 1 = .slice a5 x4.length c6 ∧ ρ 9 = .slice a2 x1.length c3 ∧ ρ 10 = .int .i64 (x1.length : Int) ∧ ρ 11 = .int .i64 x18 ∧ w = w0) ⟨rfl, rfl, rfl, rfl, rfl, rfl⟩ ?_
  intro x18 ρ w os19 hI hf hbbs19
  obtain ⟨h17_0, h17_1, h17_9, h17_10, h17_11, rfl⟩ := hI
  unfold cmpL.l1 at hf
  refine W.seqK fun K20 hK20 => ?_
  refine W.region ?_
  refine WL.bin (v := .bool (decide (x18 < (x1.length : Int)))) h17_11 h17_10 (ib_lss _ _ _) ?_
  refine WL.nil ?_
  refine hK20 _ _ ?_
  refine W.seqK fun K21 hK21 => ?_
  rcases iteE hf with ⟨hc22, hf⟩ | ⟨hc22, hf⟩
  · refine W.cond_true (bool_tr rfl hc22) ?_
    refine W.skip ?_
    refine hK21 _ _ ?_
    refine W.seqK fun K23 hK23 => ?_
    refine W.block ?_
    refine W.seqK fun K24 hK24 => ?_
    refine W.region ?_
    refine WL.move (v := .int .i64 x18) h17_11 ?_
    obtain ⟨x25, hxx25, hf⟩ := bindE hf
    refine WL.indexAddr hs 0 rfl UN33 TI3 h17_9 h17_11 hxx25 (fun ad26 hs => ?_)
    refine WL.loadP hs 0 rfl TI3 (.inr rfl) rfl (fun v27 hs => ?_)
    obtain rfl := hs.int 0 rfl
    refine WL.assign (v := .int .i64 x18) rfl ?_
    refine WL.assign (v := .int .i64 x25) rfl ?_
    refine WL.nil ?_
    refine hK24 _ _ ?_
    refine W.seqK fun K28 hK28 => ?_
    refine W.seqK fun K29 hK29 => ?_
    refine W.region ?_
    refine WL.move (v := .int .i64 x18) rfl ?_
    refine WL.move (v := .slice a5 x4.length c6) h17_1 ?_
    refine WL.len (v := .slice a5 x4.length c6) rfl (len_slice UN33) ?_
    refine WL.bin (v := .bool (decide ((x4.length : Int) ≤ x18))) rfl rfl (ib_geq _ _ _) ?_
    refine WL.nil ?_
    refine hK29 _ _ ?_
    rcases iteE hf with ⟨hc30, hf⟩ | ⟨hc30, hf⟩
    · refine W.cond_true (bool_tr rfl hc30) ?_
      refine W.seqK fun K31 hK31 => ?_
      refine W.region ?_
      refine WL.assign (v := .int .i64 1) rfl ?_
      refine WL.nil ?_
      refine hK31 _ _ ?_
      refine W.ret ?_
      have hr := Option.some.inj hf; subst hr
      have hr := hbbs19 _ rfl; subst hr
      have hf := hfs19
      have hr := Option.some.inj hf; subst hr
      exact ⟨_, resOk_one rfl rfl, rfl, rfl⟩
    · refine W.cond_false (bool_tr rfl hc30) ?_
      refine W.skip ?_
      refine hK28 _ _ ?_
      refine W.seqK fun K32 hK32 => ?_
      refine W.region ?_
      refine WL.move (v := .slice a5 x4.length c6) h17_1 ?_
      refine WL.move (v := .int .i64 x18) rfl ?_
      obtain ⟨x33, hxx33, hf⟩ := bindE hf
      refine WL.indexAddr hs 3 rfl UN33 TI3 rfl rfl hxx33 (fun ad34 hs => ?_)
      refine WL.loadP hs 0 rfl TI3 (.inr rfl) rfl (fun v35 hs => ?_)
      obtain rfl := hs.int 0 rfl
      refine WL.assign (v := .int .i64 x33) rfl ?_
      refine WL.nil ?_
      refine hK32 _ _ ?_
      refine W.seqK fun K36 hK36 => ?_
      refine W.region ?_
      refine WL.move (v := .int .i64 x25) rfl ?_
      refine WL.move (v := .int .i64 x33) rfl ?_
      obtain ⟨x37, hxx37, hf⟩ := letE hf
      refine WL.callQ (u := .int .i64 x37) (vs := [.int .i64 x25, .int .i64 x33]) FN52h ⟨rfl, ⟨rfl, trivial⟩⟩ (by rw [← hxx37]; exact cmp52 x25 x33 _) ?_
      refine WL.assign (v := .int .i64 x37) rfl ?_
      refine WL.nil ?_
      refine hK36 _ _ ?_
      refine W.seqK fun K38 hK38 => ?_
      refine W.region ?_
      refine WL.move (v := .int .i64 x37) rfl ?_
      refine WL.bin (v := .bool (x37 != 0)) rfl rfl (ib_neq _ _ _) ?_
      refine WL.nil ?_
      refine hK38 _ _ ?_
      rcases iteE hf with ⟨hc39, hf⟩ | ⟨hc39, hf⟩
      · refine W.cond_true (bool_tr rfl hc39) ?_
        refine W.seqK fun K40 hK40 => ?_
        refine W.region ?_
        refine WL.move (v := .int .i64 x37) rfl ?_
        refine WL.assign (v := .int .i64 x37) rfl ?_
        refine WL.nil ?_
        refine hK40 _ _ ?_
        refine W.ret ?_
        have hr := Option.some.inj hf; subst hr
        have hr := hbbs19 _ rfl; subst hr
        have hf := hfs19
        have hr := Option.some.inj hf; subst hr
        exact ⟨_, resOk_one rfl rfl, rfl, rfl⟩
      · refine W.cond_false (bool_tr rfl hc39) ?_
        refine W.skip ?_
        refine hK23 _ _ ?_
        refine W.region ?_
        obtain ⟨x41, ex41, hf⟩ := letE hf
        refine WL.bin (v := .int .i64 x41) h17_11 rfl (ib_as ex41 (ib_add _ _ _)) ?_
        refine WL.move (v := .int .i64 x41) rfl ?_
        refine WL.nil ?_
        exact ⟨_, (Option.some.inj hf).symm, h17_0, h17_1, h17_9, h17_10, rfl, rfl⟩
  · refine W.cond_false (bool_tr rfl hc22) ?_
    refine W.exit ?_
    have hr := Option.some.inj hf; subst hr
    have hr := hbbs19 _ rfl; subst hr
    have hf := hfs19
    exact Jk10 _ h17_0 h17_1 hf

theorem cmpL_eq (xs ys : List Int) (h : xs.length ≤ 140737488355328) : cmpL xs ys = some (cmpInts xs ys) := by
  unfold cmpL
  have key : ∃ b : Unit ⊕ Int, loopO (cmpL.l1 xs ys) 0 = some b ∧ (match b with | .inl _ => if xs.length < ys.length then -1 else 0 | .inr v => v) = cmpInts xs ys := by
    refine loopO_ex (fun k s => s = (k : Int) ∧ k ≤ ys.length ∧ cmpInts xs ys = cmpInts (xs.drop k) (ys.drop k)) xs.length ⟨rfl, Nat.zero_le _, rfl⟩ (fun k s hk hI => ?_) (fun s hI => ?_)
    · obtain ⟨rfl, hky, hI⟩ := hI
      simp only [cmpL.l1]
      rw [if_pos (by simpa using hk), idx_nat hk]
      simp only [Option.bind_some, letV_of]
      rw [List.drop_eq_getElem_cons hk] at hI
      rcases Nat.lt_or_ge k ys.length with hy | hy
      · rw [if_neg (by simpa using hy), idx_nat hy]
        simp only [Option.bind_some]
        rw [List.drop_eq_getElem_cons hy, cmpInts] at hI
        by_cases h1 : xs[k] < ys[k]
        · rw [if_pos h1] at hI
          have : cmpI xs[k] ys[k] = -1 := by unfold cmpI; rw [if_pos h1]
          rw [this]
          exact .inr ⟨_, rfl, hI.symm⟩
        · rw [if_neg h1] at hI
          by_cases h2 : ys[k] < xs[k]
          · rw [if_pos h2] at hI
            have : cmpI xs[k] ys[k] = 1 := by unfold cmpI; rw [if_neg h1, if_pos h2]
            rw [this]
            exact .inr ⟨_, rfl, hI.symm⟩
          · rw [if_neg h2] at hI
            have : cmpI xs[k] ys[k] = 0 := by unfold cmpI; rw [if_neg h1, if_neg h2]
            rw [this, if_neg (by simp), w64n (by omega)]
            exact .inl ⟨_, rfl, rfl, by omega, hI⟩
      · rw [if_pos (by simpa using hy)]
        rw [List.drop_of_length_le hy, cmpInts] at hI
        exact .inr ⟨_, rfl, hI.symm⟩
    · obtain ⟨rfl, hky, hI⟩ := hI
      simp only [cmpL.l1]
      rw [if_neg (by simp)]
      refine ⟨_, rfl, ?_⟩
      rw [List.drop_length] at hI
      rw [hI]
      rcases Nat.lt_or_ge xs.length ys.length with hy | hy
      · rw [if_pos hy, List.drop_eq_getElem_cons hy]
        rfl
      · rw [if_neg (by omega), List.drop_of_length_le hy]
        rfl
  obtain ⟨b, hb, hq⟩ := key
  rw [hb, ← hq]
  cases b with
  | inl u =>
    simp only [Option.bind_some, cmpL.j1]
    by_cases hl : xs.length < ys.length
    · rw [if_pos (by simpa using hl), if_pos hl]
    · rw [if_neg (by simpa using hl), if_neg hl]
  | inr v => rfl
theorem ltInts_cons (x y : Int) (xs ys : List Int) : ltInts (x :: xs) (y :: ys) = true ↔ x < y ∨ (x = y ∧ ltInts xs ys = true) := by
  unfold ltInts
  rw [cmpInts]
  by_cases h1 : x < y
  · simp [h1]
  · by_cases h2 : y < x
    · rw [if_neg h1, if_pos h2]
      simp only [decide_eq_true_eq]
      omega
    · have : x = y := by omega
      simp [this]
theorem ltInts_nil_cons (y : Int) (ys : List Int) : ltInts [] (y :: ys) = true := rfl
theorem ltInts_right_nil (xs : List Int) : ltInts xs [] = false := by cases xs <;> rfl
theorem swo_ints : SWO ltInts where
  irrefl x := by
    induction x with
    | nil => rfl
    | cons x xs ih =>
      cases h : ltInts (x :: xs) (x :: xs) with
      | false => rfl
      | true => rw [ltInts_cons] at h; rw [ih] at h; simp at h
  trans x y z := by
    induction x generalizing y z with
    | nil =>
      intro h1 h2
      cases z with
      | nil => rw [ltInts_right_nil] at h2; cases h2
      | cons z zs => rfl
    | cons x xs ih =>
      cases y with
      | nil => intro h1; rw [ltInts_right_nil] at h1; cases h1
      | cons y ys =>
        cases z with
        | nil => intro _ h2; rw [ltInts_right_nil] at h2; cases h2
        | cons z zs =>
          simp only [ltInts_cons]
          rintro (h1 | ⟨rfl, h1⟩) (h2 | ⟨rfl, h2⟩)
          · exact .inl (by omega)
          · exact .inl h1
          · exact .inl h2
          · exact .inr ⟨rfl, ih _ _ h1 h2⟩
  ntrans x y z := by
    intro h1 h2
    cases h3 : ltInts x z with
    | false => rfl
    | true =>
      exfalso
      induction x generalizing y z with
      | nil =>
        cases z with
        | nil => cases h3
        | cons z zs =>
          cases y with
          | nil => rw [ltInts_nil_cons] at h2; cases h2
          | cons y ys => rw [ltInts_nil_cons] at h1; cases h1
      | cons x xs ih =>
        cases z with
        | nil => rw [ltInts_right_nil] at h3; cases h3
        | cons z zs =>
          cases y with
          | nil => rw [ltInts_nil_cons] at h2; cases h2
          | cons y ys =>
            have h1' : ¬ (x < y ∨ (x = y ∧ ltInts xs ys = true)) := fun h => by rw [(ltInts_cons x y xs ys).2 h] at h1; cases h1
            have h2' : ¬ (y < z ∨ (y = z ∧ ltInts ys zs = true)) := fun h => by rw [(ltInts_cons y z ys zs).2 h] at h2; cases h2
            rw [ltInts_cons] at h3
            rcases h3 with h3 | ⟨rfl, h3⟩
            · omega
            · have e1 : x = y := by omega
              subst e1
              refine ih ys zs ?_ ?_ h3
              · cases h : ltInts xs ys with
                | false => rfl
                | true => exact absurd (.inr ⟨rfl, h⟩) h1'
              · cases h : ltInts ys zs with
                | false => rfl
                | true => exact absurd (.inr ⟨rfl, h⟩) h2'
def srtL_ren : Go.Shelf.Ren := ⟨fun | 6 => 36 | 15 => 51 | 14 => 50 | 28 => 63 | 29 => 64 | 20 => 55 | 21 => 56 | 22 => 57 | 23 => 58 | 24 => 59 | 25 => 60 | 26 => 61 | 27 => 62 | 46 => 69 | 47 => 70 | 48 => 71 | 49 => 72 | 50 => 73 | 57 => 74 | n => n, fun | 22 => 36 | 24 => 33 | 25 => 59 | 3 => 3 | 39 => 56 | 0 => 0 | 53 => 87 | 55 => 89 | 4 => 4 | 46 => 80 | 45 => 79 | 50 => 84 | 5 => 5 | 9 => 9 | 66 => 91 | 70 => 95 | 76 => 97 | 77 => 98 | n => n, fun | n => n⟩
theorem srtL : Go.Proofs.SlLaysF.n6 Try.prog srtL_ren := {
  mixed := by kernel_rfl
  f6 := ⟨Try.f36.name, by decide, Try.func36.trans (congrArg some (by kernel_rfl))⟩
  f14 := ⟨Try.f50.name, by decide, Try.func50.trans (congrArg some (by kernel_rfl))⟩
  f15 := Try.func51.trans (congrArg some (by kernel_rfl))
  f20 := ⟨Try.f55.name, by decide, Try.func55.trans (congrArg some (by kernel_rfl))⟩
  f21 := ⟨Try.f56.name, by decide, Try.func56.trans (congrArg some (by kernel_rfl))⟩
  f22 := ⟨Try.f57.name, by decide, Try.func57.trans (congrArg some (by kernel_rfl))⟩
  f23 := ⟨Try.f58.name, by decide, Try.func58.trans (congrArg some (by kernel_rfl))⟩
  f24 := ⟨Try.f59.name, by decide, Try.func59.trans (congrArg some (by kernel_rfl))⟩
  f25 := ⟨Try.f60.name, by decide, Try.func60.trans (congrArg some (by kernel_rfl))⟩
  f26 := ⟨Try.f61.name, by decide, Try.func61.trans (congrArg some (by kernel_rfl))⟩
  f27 := ⟨Try.f62.name, by decide, Try.func62.trans (congrArg some (by kernel_rfl))⟩
  f28 := Try.func63.trans (congrArg some (by kernel_rfl))
  f29 := Try.func64.trans (congrArg some (by kernel_rfl))
  f46 := ⟨Try.f69.name, by decide, Try.func69.trans (congrArg some (by kernel_rfl))⟩
  f47 := Try.func70.trans (congrArg some (by kernel_rfl))
  f48 := Try.func71.trans (congrArg some (by kernel_rfl))
  f49 := ⟨Try.f72.name, by decide, Try.func72.trans (congrArg some (by kernel_rfl))⟩
  f50 := ⟨Try.f73.name, by decide, Try.func73.trans (congrArg some (by kernel_rfl))⟩
  f57 := ⟨Try.f74.name, by decide, Try.func74.trans (congrArg some (by kernel_rfl))⟩
  t0 := Try.underlying0
  a0 := Try.isAgg0
  z0 := Try.sizeOf0
  v0 := Try.zeroValue0
  t3 := Try.underlying3
  a3 := Try.isAgg3
  z3 := Try.sizeOf3
  v3 := Try.zeroValue3
  t4 := Try.underlying4
  a4 := Try.isAgg4
  z4 := Try.sizeOf4
  v4 := Try.zeroValue4
  t5 := Try.underlying5
  a5 := Try.isAgg5
  z5 := Try.sizeOf5
  v5 := Try.zeroValue5
  t9 := Try.underlying9
  a9 := Try.isAgg9
  z9 := Try.sizeOf9
  v9 := Try.zeroValue9
  t22 := Try.underlying36
  a22 := Try.isAgg36
  z22 := Try.sizeOf36
  v22 := Try.zeroValue36
  a24 := Try.isAgg33
  z24 := Try.sizeOf33
  t25 := Try.underlying59
  a25 := Try.isAgg59
  z25 := Try.sizeOf59
  v25 := Try.zeroValue59
  t39 := Try.underlying56
  a39 := Try.isAgg56
  z39 := Try.sizeOf56
  v39 := Try.zeroValue56
  t45 := Try.underlying79
  a45 := Try.isAgg79
  z45 := Try.sizeOf79
  v45 := Try.zeroValue79
  t46 := Try.underlying80
  a46 := Try.isAgg80
  z46 := Try.sizeOf80
  v46 := Try.zeroValue80
  t50 := Try.underlying84
  a50 := Try.isAgg84
  z50 := Try.sizeOf84
  v50 := Try.zeroValue84
  t53 := Try.underlying87
  a53 := Try.isAgg87
  z53 := Try.sizeOf87
  v53 := Try.zeroValue87
  t55 := Try.underlying89
  a55 := Try.isAgg89
  z55 := Try.sizeOf89
  v55 := Try.zeroValue89
  t66 := Try.underlying91
  a66 := Try.isAgg91
  z66 := Try.sizeOf91
  v66 := Try.zeroValue91
  t70 := Try.underlying95
  a70 := Try.isAgg95
  z70 := Try.sizeOf95
  v70 := Try.zeroValue95
  t76 := Try.underlying97
  a76 := Try.isAgg97
  z76 := Try.sizeOf97
  v76 := Try.zeroValue97
  t77 := Try.underlying98
  a77 := Try.isAgg98
  z77 := Try.sizeOf98
  v77 := Try.zeroValue98 }

theorem ltOf_ints : Go.Proofs.ltOf cmpInts = ltInts := rfl
theorem slices_SortFunc_sl.calls {ok : Nat → Prop} {w0 : World} {F : Base} {x1 : List (List Int)} {a0 : Option Addr} {n0 c0 : Nat} {r : List (List Int)} (hf : slices_SortFunc_sl x1 = some r) (hs : St ok F w0 [] [own (tSlice (tInt .i64)) 33 (.slice a0 n0 c0) x1]) :
    Calls Try.prog 36 #[.slice a0 n0 c0, .func (.func 37) #[] #[]] w0 fun e w' => ∃ v, e = .returned v ∧ ∃ y : Unit, v = .tuple #[] ∧ St ok F w' [] [own (tSlice (tInt .i64)) 33 (.slice a0 n0 c0) r] := by
  obtain ⟨h1, h2⟩ := guardE hf
  refine sort_callsS srtL cmpInts (by rw [ltOf_ints]; exact swo_ints) 37 (fun _ _ => by kernel_rfl) (fun l => l.length ≤ 140737488355328) (by simp) (fun ok W xs ys a a' c c' gx gy hx hy => ?_) hs (by rw [ltOf_ints]; exact h2) (fun x hx => by simpa using List.all_eq_true.1 h1 x hx)
  refine (cmpL_calls (cmpL_eq xs ys gx) hx hy).mono ?_
  rintro e w' ⟨v, rfl, rfl, rfl⟩
  exact ⟨rfl, rfl⟩

end Go.Proofs.Ytodebgfppmcjlaa
