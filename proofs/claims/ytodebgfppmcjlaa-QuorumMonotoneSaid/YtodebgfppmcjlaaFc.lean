/- quorum.count, which leaves the world as it is. -/
import Derived.Test.YtodebgfppmcjlaaFk
import Derived.Test.YtodebgfppmcjlaaPl
set_option linter.unusedVariables false
set_option linter.unusedSimpArgs false
namespace Go.Proofs.Ytodebgfppmcjlaa
open Go Go.RowKit Go.Proofs.YtodebgfppmcjlaaL
set_option maxRecDepth 100000
theorem count_q {ok : Nat → Prop} {w0 : World} {x1 : List Bool} {a2 : Option Addr} {c3 : Nat} {r : Int} (hf : quorum_count x1 = some r) (i0 : (vl (tSlice tBool) x1 (.slice a2 x1.length c3)).holds ok w0) :
    Calls Try.prog 47 #[.slice a2 x1.length c3] w0 fun e w' => ∃ v, e = .returned v ∧ (v = .int .i64 r ∧ w' = w0) := by
  unfold quorum_count at hf
  refine calls_of_W (fn := Try.f47) (N := 17) Try.func47 rfl Try.ntmps47 rfl ?_
  have hs : St ok (bz w0) w0 [vl (tSlice tBool) x1 (.slice a2 x1.length c3)] [] := St.init (All.cons i0 All.nil)
  clear i0
  refine W.seqK fun K4 hK4 => ?_
  refine W.region ?_
  refine WL.assign (v := .int .i64 0) rfl ?_
  refine WL.nil ?_
  refine hK4 _ _ ?_
  refine W.seqK fun K5 hK5 => ?_
  refine W.region ?_
  refine WL.assign (v := .int .i64 0) rfl ?_
  refine WL.nil ?_
  refine hK5 _ _ ?_
  refine W.seqK fun K6 hK6 => ?_
  have Jk9 : ∀ (x8 : Int) (ρ : Env) (w : World), ρ 3 = .int .i64 x8 → w0 = w → quorum_count.j1 x8 = some r → K6 ρ w := by
    intro x8 ρ w h7_3 hw hf
    obtain rfl := hw
    refine hK6 _ _ ?_
    unfold quorum_count.j1 at hf
    refine W.seqK fun K10 hK10 => ?_
    refine W.region ?_
    refine WL.move (v := .int .i64 x8) h7_3 ?_
    refine WL.assign (v := .int .i64 x8) rfl ?_
    refine WL.nil ?_
    refine hK10 _ _ ?_
    refine W.ret ?_
    have hr := Option.some.inj hf; subst hr
    exact ⟨_, resOk_one rfl rfl, rfl, rfl⟩
  refine W.seqK fun K11 hK11 => ?_
  refine W.region ?_
  refine WL.move (v := .slice a2 x1.length c3) rfl ?_
  refine WL.len (v := .slice a2 x1.length c3) rfl (len_slice UN52) ?_
  refine WL.move (v := .int .i64 0) rfl ?_
  refine WL.nil ?_
  refine hK11 _ _ ?_
  refine W.block ?_
  obtain ⟨bs15, hbs15, hfs15⟩ := bindE hf
  refine W.loop hbs15 (fun s ρ w => match s with | (x13, x14) => ρ 3 = .int .i64 x13 ∧ ρ 6 = .slice a2 x1.length c3 ∧ ρ 7 = .int .i64 (x1.length : Int) ∧ ρ 8 = .int .i64 x14 ∧ w0 = w) ⟨rfl, rfl, rfl, rfl, rfl⟩ ?_
  intro s ρ w os15 hI hf hbbs15
  obtain ⟨x13, x14⟩ := s
  obtain ⟨h12_3, h12_6, h12_7, h12_8, rfl⟩ := hI
  unfold quorum_count.l1 at hf
  refine W.seqK fun K16 hK16 => ?_
  refine W.region ?_
  refine WL.bin (v := .bool (decide (x14 < (x1.length : Int)))) h12_8 h12_7 (ib_lss _ _ _) ?_
  refine WL.nil ?_
  refine hK16 _ _ ?_
  refine W.seqK fun K17 hK17 => ?_
  rcases iteE hf with ⟨hc18, hf⟩ | ⟨hc18, hf⟩
  · refine W.cond_true (bool_tr rfl hc18) ?_
    refine W.skip ?_
    refine hK17 _ _ ?_
    refine W.seqK fun K19 hK19 => ?_
    have Jk22 : ∀ (x21 : Int) (ρ : Env) (w : World), ρ 3 = .int .i64 x21 → ρ 6 = .slice a2 x1.length c3 → ρ 7 = .int .i64 (x1.length : Int) → ρ 8 = .int .i64 x14 → w0 = w → quorum_count.j2 x14 x21 = some os15 → K19 ρ w := by
      intro x21 ρ w h20_3 h20_6 h20_7 h20_8 hw hf
      obtain rfl := hw
      refine hK19 _ _ ?_
      unfold quorum_count.j2 at hf
      refine W.region ?_
      obtain ⟨x23, ex23, hf⟩ := letE hf
      refine WL.bin (v := .int .i64 x23) h20_8 rfl (ib_as ex23 (ib_add _ _ _)) ?_
      refine WL.move (v := .int .i64 x23) rfl ?_
      refine WL.nil ?_
      exact ⟨_, (Option.some.inj hf).symm, h20_3, h20_6, h20_7, rfl, rfl⟩
    refine W.block ?_
    refine W.seqK fun K24 hK24 => ?_
    refine W.region ?_
    obtain ⟨x25, hxx25, hf⟩ := bindE hf
    refine WL.indexAddr hs 0 rfl UN52 TI4 h12_6 h12_8 hxx25 (fun ad26 hs => ?_)
    refine WL.loadP hs 0 rfl TI4 (.inr rfl) rfl (fun v27 hs => ?_)
    obtain rfl := hs.bool 0 rfl
    refine WL.assign (v := .bool x25) rfl ?_
    refine WL.nil ?_
    refine hK24 _ _ ?_
    refine W.seqK fun K28 hK28 => ?_
    refine W.region ?_
    refine WL.move (v := .bool x25) rfl ?_
    refine WL.nil ?_
    refine hK28 _ _ ?_
    rcases iteE hf with ⟨hc29, hf⟩ | ⟨hc29, hf⟩
    · refine W.cond_true (bool_tr rfl hc29) ?_
      refine W.region ?_
      refine WL.move (v := .int .i64 x13) h12_3 ?_
      obtain ⟨x30, ex30, hf⟩ := letE hf
      refine WL.bin (v := .int .i64 x30) rfl rfl (ib_as ex30 (ib_add _ _ _)) ?_
      refine WL.assign (v := .int .i64 x30) rfl ?_
      refine WL.nil ?_
      exact Jk22 x30 _ _ rfl h12_6 h12_7 h12_8 rfl hf
    · refine W.cond_false (bool_tr rfl hc29) ?_
      refine W.skip ?_
      exact Jk22 x13 _ _ h12_3 h12_6 h12_7 h12_8 rfl hf
  · refine W.cond_false (bool_tr rfl hc18) ?_
    refine W.exit ?_
    have hr := Option.some.inj hf; subst hr
    have hr := hbbs15 _ rfl; subst hr
    have hf := hfs15
    exact Jk9 x13 _ _ h12_3 rfl hf
theorem count_eq (xs : List Bool) (h : xs.length ≤ 140737488355328) : quorum_count xs = some (xs.count true : Nat) := by
  unfold quorum_count
  have hl := loopO_up (step := quorum_count.l1 xs) (fun k => (((xs.take k).count true : Nat), (k : Int))) xs.length (b := ((xs.count true : Nat) : Int)) (fun k hk => ?_) ?_
  · have e : ((((xs.take 0).count true : Nat) : Int), ((0 : Nat) : Int)) = (0, 0) := rfl
    rw [e] at hl
    rw [hl]
    rfl
  · simp only [quorum_count.l1, quorum_count.j2]
    have hb := List.count_le_length (a := true) (l := xs.take k)
    rw [List.length_take] at hb
    rw [if_pos (by simpa using hk), idx_nat hk]
    simp only [Option.bind_some, letV_of]
    rw [take_snoc hk, List.count_append, w64n (by omega), w64n (by omega)]
    cases xs[k] <;> simp
  · simp only [quorum_count.l1]
    rw [if_neg (by simp), List.take_of_length_le (Nat.le_refl _)]
end Go.Proofs.Ytodebgfppmcjlaa
