/- quorum.grid: a range over slices.Chunk. -/
import Derived.RangeFuncFrom
import Derived.RangeFuncBox
import Derived.RangeFuncLeaves
import Derived.Shelf.Abstract
import Derived.WalkKit
import Derived.OwnWalkIn
import Derived.TacticsInMore
import Derived.LoopNIn
import Derived.LoopIn
import Derived.BigRegionIn
import Derived.Test.YtodebgfppmcjlaaFk
import Derived.Test.YtodebgfppmcjlaaPl
set_option linter.unusedVariables false
set_option linter.unusedSimpArgs false
namespace Go.Proofs.Ytodebgfppmcjlaa
open Go Go.RowKit Go.Shelf Go.Proofs.YtodebgfppmcjlaaL
attribute [local go_sem] Oper.semAt_some

/-- The chunk that begins at k. -/
def chv (b off c len k : Nat) : Value := .slice (some ⟨b, off + k, none⟩) (min c (len - k)) (min c (len - k))
/-- Where the chunks begin. -/
abbrev Chs (c len : Nat) : Type := { k : Nat // k < len ∧ c ∣ k }
def upC (c len : Nat) (hc : 0 < c) : (m : Nat) → (m - 1) * c < len ∨ m = 0 → List (Chs c len)
  | 0, _ => []
  | m + 1, h => upC c len hc m (by
      rcases Nat.eq_zero_or_pos m with h0 | h0
      · exact .inr h0
      · left
        have h1 : m * c < len := by simpa using h
        have : (m - 1) * c ≤ m * c := Nat.mul_le_mul_right _ (by omega)
        omega) ++ [⟨m * c, by simpa using h, Nat.dvd_mul_left c m⟩]

/-- What a round keeps: the iterator's own two variables. -/
structure Kq (Bs Bn : Nat) (A B : World) : Prop where
  size : A.heap.size ≤ B.heap.size
  s : B.cell? ⟨Bs, 0, none⟩ = A.cell? ⟨Bs, 0, none⟩
  n : B.cell? ⟨Bn, 0, none⟩ = A.cell? ⟨Bn, 0, none⟩
theorem Kq.refl (Bs Bn : Nat) (A : World) : Kq Bs Bn A A := ⟨Nat.le_refl _, rfl, rfl⟩
theorem Kq.trans {Bs Bn : Nat} {A B C : World} (h : Kq Bs Bn A B) (k : Kq Bs Bn B C) : Kq Bs Bn A C := ⟨Nat.le_trans h.size k.size, k.s.trans h.s, k.n.trans h.n⟩
theorem Kq.drew {Bs Bn : Nat} {A B : World} (h : Kq Bs Bn A B) : Kq Bs Bn A B.drew := ⟨h.size, h.s, h.n⟩
theorem upC_length (c len : Nat) (hc : 0 < c) (m : Nat) (h : (m - 1) * c < len ∨ m = 0) : (upC c len hc m h).length = m := by
  induction m with
  | zero => rfl
  | succ m ih => rw [upC, List.length_append, ih]; rfl
set_option maxRecDepth 100000 in
set_option maxHeartbeats 4000000 in
theorem chunk1_in (F : Fence) (n : Nat) (h68 : F.fn 68) (hro : F.round = none) (hn : 1 ≤ n) (l Bs Bn b off len cap c : Nat) (hc0 : 0 < c) (hcl : c ≤ 4611686018427387904) (hreach : len ≤ 140737488355328) (hcap : len ≤ cap) (J Jx : List (Chs c len) → World → Prop)
    (hdr : ∀ s W, J s W → J s W.drew)
    (hY : ∀ pre x W, J pre W → pre.length < len → YieldAt F (n - 1) Try.prog l #[chv b off c len x.1] W fun e W' =>
      (e = .returned (.bool true) ∧ J (pre ++ [x]) W' ∧ Kq Bs Bn W W') ∨ (e = .returned (.bool false) ∧ Jx (pre ++ [x]) W'))
    (W : World) (hBs : W.cell? ⟨Bs, 0, none⟩ = some (.slice (some ⟨b, off, none⟩) len cap)) (hBn : W.cell? ⟨Bn, 0, none⟩ = some (.int .i64 c)) (h0 : J [] W) :
    CallsIn F n Try.prog 68 #[.func (.yield l) #[] #[], .pointer (some ⟨Bs, 0, none⟩), .pointer (some ⟨Bn, 0, none⟩)] W fun e W' => (∃ v, e = .returned v) ∧
      ((∃ m h, len ≤ m * c ∧ J (upC c len hc0 m h) W') ∨ (∃ m h, Jx (upC c len hc0 m h) W')) := by
  refine callsIn_of_wp Try.func68 rfl h68 ?_ hro
  simp only [Try.ntmps68, List.size_toArray, List.length_cons, List.length_nil, Nat.reduceAdd, Nat.reduceSub, Array.replicate_succ, Array.replicate_zero, List.push_toArray, List.append_toArray, List.nil_append, List.cons_append]
  gi_wp2
  gi_loopw [4] (fun i wr => ∃ (m : Nat) (h : (m - 1) * c < len ∨ m = 0), i = .int .i64 ((m * c : Nat) : Int) ∧ J (upC c len hc0 m h) wr ∧ Kq Bs Bn W wr)
    (fun i _ => len + c - (intOf i).toNat)
  case atStart => exact ⟨0, .inr rfl, by simp, h0, Kq.refl _ _ _⟩
  case round =>
    obtain ⟨m, h, rfl, hJs, hnx⟩ := hrel
    have hcs := hnx.s.trans hBs
    have hcn := hnx.n.trans hBn
    obtain ⟨i, hi⟩ : ∃ i, m * c = i := ⟨_, rfl⟩
    rw [hi]
    by_cases hlt : i < len
    · have hlt' : m * c < len := by omega
      obtain ⟨fn, tmps, assign, body, hy, hR⟩ := hY _ ⟨m * c, hlt', Nat.dvd_mul_left c m⟩ wr.drew (hdr _ _ hJs) (by
        rw [upC_length]
        have := Nat.le_mul_of_pos_right m hc0
        omega)
      have e0 : chv b off c len (m * c) = .slice (some ⟨b, off + i, none⟩) (((i : Int) + min (c : Int) ((len - i : Nat) : Int)).toNat - i) (((i : Int) + min (c : Int) ((len - i : Nat) : Int)).toNat - i) := by
        have : ((i : Int) + min (c : Int) ((len - i : Nat) : Int)).toNat - i = min c (len - i) := by omega
        rw [this, chv, hi]
      dsimp only at hy
      rw [e0] at hy
      gi_wp2
      gi_region
      all_goals gi_wp2
      all_goals
        refine hR.mono ?_
        rintro e W3 (⟨rfl, hJ3, hk3⟩ | ⟨rfl, hJx3⟩)
        · have hcn3 : W3.cell? ⟨Bn, 0, none⟩ = some (.int .i64 c) := hk3.n.trans hcn
          gi_wp2
          go_roundw
          case rel =>
            have e2 : ((i + c : Nat) : Int) = (((m + 1) * c : Nat) : Int) := by rw [Nat.add_mul, Nat.one_mul, hi]
            exact ⟨m + 1, .inl (by simpa using hlt'), by rw [← e2]; simp, hJ3, hnx.drew.trans hk3⟩
          case measure => simp [intOf]; omega
        · gi_wp2
          refine bodyPost_ret (results_none rfl _ _ _) rfl ?_
          exact ⟨⟨_, rfl⟩, .inr ⟨m + 1, .inl (by simpa using hlt'), hJx3⟩⟩
    · gi_wp2
      go_end0
      exact ⟨⟨_, rfl⟩, .inl ⟨m, h, by omega, hJs⟩⟩
set_option maxRecDepth 100000 in
set_option maxHeartbeats 1000000 in
/-- No element: no round. -/
theorem chunk0_in (F : Fence) (n : Nat) (h68 : F.fn 68) (hro : F.round = none) (l Bs Bn : Nat) (a : Option Addr) (cap c : Nat) (J : World → Prop) (W : World) (hBs : W.cell? ⟨Bs, 0, none⟩ = some (.slice a 0 cap)) (h0 : J W) :
    CallsIn F n Try.prog 68 #[.func (.yield l) #[] #[], .pointer (some ⟨Bs, 0, none⟩), .pointer (some ⟨Bn, 0, none⟩)] W fun e W' => (∃ v, e = .returned v) ∧ J W' := by
  refine callsIn_of_wp Try.func68 rfl h68 ?_ hro
  simp only [Try.ntmps68, List.size_toArray, List.length_cons, List.length_nil, Nat.reduceAdd, Nat.reduceSub, Array.replicate_succ, Array.replicate_zero, List.push_toArray, List.append_toArray, List.nil_append, List.cons_append]
  gi_wp2
  gi_loopw [4] (fun i wr => i = .int .i64 0 ∧ wr = W) (fun _ _ => 0)
  case atStart => exact ⟨rfl, rfl⟩
  case round =>
    obtain ⟨rfl, rfl⟩ := hrel
    gi_wp2
    go_end0
    exact ⟨⟨_, rfl⟩, h0⟩
set_option maxHeartbeats 1000000 in
theorem chunk_in (F : Fence) (n : Nat) (h54 : F.fn 54) (hro : F.round = none) (a : Option Addr) (len cap c : Nat) (hc : 1 ≤ c) (w : World) :
    CallsIn F n Try.prog 54 #[.slice a len cap, .int .i64 c] w fun e w' => e = .returned (.func (.func 68) #[] #[.pointer (some ⟨w.heap.size, 0, none⟩), .pointer (some ⟨w.heap.size + 1, 0, none⟩)]) ∧ w' = (w.alloc (.cells #[.slice a len cap] 52)).alloc (.cells #[.int .i64 c] 3) := by
  refine callsIn_of_wp Try.func54 rfl h54 ?_ hro
  simp only [Try.ntmps54, List.size_toArray, List.length_cons, List.length_nil, Nat.reduceAdd, Nat.reduceSub, Array.replicate_succ, Array.replicate_zero, List.push_toArray, List.append_toArray, List.nil_append, List.cons_append]
  gi_wp2
  go_ret
  exact ⟨rfl, rfl⟩
end Go.Proofs.Ytodebgfppmcjlaa
