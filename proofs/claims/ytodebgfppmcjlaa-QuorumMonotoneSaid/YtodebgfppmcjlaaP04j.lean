/- The quorum functions, as plain data: what minimal quorums have in common; who may be missing. -/
import Derived.Test.YtodebgfppmcjlaaP04i
set_option linter.unusedVariables false
set_option linter.unusedSimpArgs false
namespace Go.Proofs.Ytodebgfppmcjlaa
open Go Go.Proofs.YtodebgfppmcjlaaL Go.Sort

/-- The least of some numbers. -/
def MinOf (S : Int → Prop) (o : Int) : Prop := S o ∧ ∀ x, S x → o ≤ x
theorem MinOf.unique {S : Int → Prop} {a b : Int} (h : MinOf S a) (k : MinOf S b) : a = b := by
  have := h.2 b k.1
  have := k.2 a h.1
  omega
theorem MinOf.congr {S S' : Int → Prop} {a : Int} (h : MinOf S a) (e : ∀ x, S x ↔ S' x) : MinOf S' a :=
  ⟨(e _).1 h.1, fun x hx => h.2 x ((e x).2 hx)⟩
theorem MinOf.add {S S' : Int → Prop} {a n : Int} (h : MinOf S a) (e : ∀ x, S' x ↔ S x ∨ x = n) : MinOf S' (if n < a then n else a) := by
  refine ⟨(e _).2 ?_, fun x hx => ?_⟩
  · split
    · exact .inr rfl
    · exact .inl h.1
  · rcases (e x).1 hx with hx | rfl
    · have := h.2 x hx; split <;> omega
    · split <;> omega
theorem MinOf.one {S : Int → Prop} {n : Int} (e : ∀ x, S x ↔ x = n) : MinOf S n := ⟨(e _).2 rfl, fun x hx => by rw [(e x).1 hx]; exact Int.le_refl _⟩

theorem bv_succ (n m : Nat) : bv (n + 1) m = bv n m ++ [m.testBit n] := by simp [bv, List.range_succ]
theorem pc_eq {n m : Nat} (hn : n ≤ 8) (hm : m < 2 ^ n) : pc m = (bv n m).count true := by
  have : ∀ k, (bv (n + k) m).count true = (bv n m).count true := by
    intro k
    induction k with
    | zero => rfl
    | succ k ih =>
      rw [← Nat.add_assoc, bv_succ, List.count_append, ih]
      have : m.testBit (n + k) = false := Nat.testBit_lt_two_pow (Nat.lt_of_lt_of_le hm (Nat.pow_le_pow_right (by decide) (by omega)))
      rw [this]; simp
  have h := this (8 - n)
  rw [show n + (8 - n) = 8 by omega] at h
  exact h
theorem subL_count (l : List api_Member) (m : Nat) : (subL 0 l m).length = (bv l.length m).count true := by
  have : ∀ k, k ≤ l.length → (subL 0 (l.take k) m).length = (bv k m).count true := by
    intro k
    induction k with
    | zero => intro _; simp [subL, bv]
    | succ k ih =>
      intro hk
      rw [take_snoc hk, subL_snoc, List.length_append, ih (by omega), bv_succ, List.count_append, List.length_take, Nat.min_eq_left (by omega), Nat.zero_add]
      cases m.testBit k <;> simp
  have h := this l.length (Nat.le_refl _)
  rwa [List.take_length] at h
theorem sub_card {v : api_View} (hn : v.Members.length ≤ 8) {m : Nat} (hm : m < 2 ^ v.Members.length) : (sub v m).length = pc m := by
  rw [pc_eq hn hm]; exact subL_count _ _
theorem subL_filter (p : Int → Bool) (a b : Nat) : ∀ (l : List api_Member) (i : Nat), (∀ j (h : j < l.length), p l[j].Server = b.testBit (i + j)) → (subL i l a).filter p = subL i l (a &&& b)
  | [], i, _ => rfl
  | x :: l, i, h => by
    have h0 := h 0 (by simp)
    have ih := subL_filter p a b l (i + 1) fun j hj => by
      have := h (j + 1) (by simpa using hj)
      rw [show i + (j + 1) = i + 1 + j by omega] at this
      exact this
    simp only [List.getElem_cons_zero, Nat.add_zero] at h0
    rw [subL, subL, Nat.testBit_and]
    cases ha : a.testBit i <;> cases hb : b.testBit i <;> simp [ih, h0, hb]
theorem sub_filter {v : api_View} (h : VOk v) (a b : Nat) : (sub v a).filter (fun x => decide (x ∈ sub v b)) = sub v (a &&& b) := by
  refine subL_filter _ a b v.Members 0 fun j hj => ?_
  rw [Nat.zero_add, Bool.eq_iff_iff, decide_eq_true_iff]
  exact mem_sub h b j hj
theorem mins_lt {v : api_View} {a : Nat} (ha : a ∈ mins v) : a < 2 ^ v.Members.length := ((mem_mins v a _).1 ha).1
theorem pow_256 {v : api_View} (hn : v.Members.length ≤ 8) : 2 ^ v.Members.length ≤ 256 := Nat.pow_le_pow_right (n := 2) (by decide) hn

/-- What two minimal quorums have in common. -/
def Com (v : api_View) (x : Int) : Prop := ∃ a ∈ mins v, ∃ b ∈ mins v, x = (pc (a &&& b) : Int)
theorem ovl_walk (out : List Nat) (hlt : ∀ x ∈ out, x < 256) (hne : 0 < out.length) (hl : out.length ≤ 256) :
    ∃ o, loopO (quorum_Overlap.l2 (im out)) (0, 0) = some o ∧ MinOf (fun x => ∃ p, ∃ hp : p < out.length, ∃ q, ∃ hq : q ≤ p, x = (pc (out[p] &&& out[q]) : Int)) o := by
  refine loopO_inv (fun i s => ∃ least, s = (least, (i : Int)) ∧ ((i = 0 ∧ least = 0) ∨ MinOf (fun x => ∃ p, ∃ hp : p < out.length, p < i ∧ ∃ q, ∃ hq : q ≤ p, x = (pc (out[p] &&& out[q]) : Int)) least)) out.length ⟨0, rfl, .inl ⟨rfl, rfl⟩⟩ (fun i s hi hI => ?_) (fun s hI => ?_)
  · obtain ⟨least, rfl, hI⟩ := hI
    have hi' : i < (im out).length := by rwa [im_len]
    have hg : (im out)[i] = (out[i] : Int) := by simp [im]
    simp only [quorum_Overlap.l2]
    rw [if_pos (by rw [im_len]; simpa using hi), idx_nat hi', hg]
    simp only [Option.bind_some, letV_of, wcast hi (by omega)]
    rw [cut_of (by omega) (by omega) (by rw [im_len]; omega)]
    simp only [Option.bind_some, Int.toNat_natCast]
    have ecut : ((im out).take (i + 1)).drop (0 : Int).toNat = im (out.take (i + 1)) := by simp [im, List.map_take]
    rw [ecut]
    have hlen : (im (out.take (i + 1))).length = i + 1 := by rw [im_len, List.length_take]; omega
    have key : ∃ r, loopO (quorum_Overlap.l1 (i : Int) (out[i] : Int) (im (out.take (i + 1)))) (least, 0) = some r ∧ MinOf (fun x => (∃ p, ∃ hp : p < out.length, p < i ∧ ∃ q, ∃ hq : q ≤ p, x = (pc (out[p] &&& out[q]) : Int)) ∨ ∃ q, ∃ hq : q < i + 1, x = (pc (out[i] &&& out[q]) : Int)) r := by
      refine loopO_inv (fun k s => ∃ least, s = (least, (k : Int)) ∧ ((i = 0 ∧ k = 0 ∧ least = 0) ∨ MinOf (fun x => (∃ p, ∃ hp : p < out.length, p < i ∧ ∃ q, ∃ hq : q ≤ p, x = (pc (out[p] &&& out[q]) : Int)) ∨ ∃ q, ∃ hq : q < out.length, q < k ∧ x = (pc (out[i] &&& out[q]) : Int)) least)) (i + 1) ⟨least, rfl, ?_⟩ (fun k s hk hJ => ?_) (fun s hJ => ?_)
      · rcases hI with ⟨h1, h2⟩ | h1
        · exact .inl ⟨h1, rfl, h2⟩
        · refine .inr (h1.congr fun x => ⟨.inl, fun hx => hx.elim id fun ⟨q, hq, h0, _⟩ => by omega⟩)
      · obtain ⟨ls, rfl, hJ⟩ := hJ
        have hk' : k < (im (out.take (i + 1))).length := by omega
        have hko : k < out.length := by omega
        have hgk : (im (out.take (i + 1)))[k] = (out[k] : Int) := by simp [im]
        have hi2 := hlt out[i] (by simp)
        have hk2 := hlt out[k] (by simp)
        have hle : out[i] &&& out[k] ≤ out[i] := Nat.and_le_left
        simp only [quorum_Overlap.l1]
        rw [if_pos (by rw [hlen]; rw [decide_eq_true_iff]; omega), idx_nat hk', hgk]
        simp only [Option.bind_some, letV_of]
        rw [bAnd _ _ (by omega) (by omega), size_all _ (by omega)]
        simp only [Option.bind_some]
        have hj3 : ∀ y : Int, quorum_Overlap.j3 (k : Int) y = some (.inl (y, ((k + 1 : Nat) : Int))) := by
          intro y; simp only [quorum_Overlap.j3, letV_of, wcast (show k < i + 1 by omega) (by omega : i + 1 ≤ _)]
        have hS : ∀ x : Int, ((∃ p, ∃ hp : p < out.length, p < i ∧ ∃ q, ∃ hq : q ≤ p, x = (pc (out[p] &&& out[q]) : Int)) ∨ ∃ q, ∃ hq : q < out.length, q < k + 1 ∧ x = (pc (out[i] &&& out[q]) : Int)) ↔
            ((∃ p, ∃ hp : p < out.length, p < i ∧ ∃ q, ∃ hq : q ≤ p, x = (pc (out[p] &&& out[q]) : Int)) ∨ ∃ q, ∃ hq : q < out.length, q < k ∧ x = (pc (out[i] &&& out[q]) : Int)) ∨ x = (pc (out[i] &&& out[k]) : Int) := by
          intro x
          constructor
          · rintro (h | ⟨q, hq, h1, h2⟩)
            · exact .inl (.inl h)
            · by_cases e : q = k
              · subst e; exact .inr h2
              · exact .inl (.inr ⟨q, hq, by omega, h2⟩)
          · rintro ((h | ⟨q, hq, h1, h2⟩) | h)
            · exact .inl h
            · exact .inr ⟨q, hq, by omega, h2⟩
            · exact .inr ⟨k, hko, by omega, h⟩
        rcases hJ with ⟨h1, h2, h3⟩ | hJ
        · subst h1; subst h2
          rw [if_pos (by rfl), if_pos (by rfl)]
          simp only [quorum_Overlap.j4, if_true, hj3]
          refine ⟨_, rfl, _, rfl, .inr (MinOf.one fun x => (hS x).trans ⟨?_, .inr⟩)⟩
          rintro ((⟨p, hp, h0, _⟩ | ⟨q, hq, h0, _⟩) | h)
          · omega
          · omega
          · exact h
        · have hst : ∀ b : Bool, b = decide ((pc (out[i] &&& out[k]) : Int) < ls) → quorum_Overlap.j4 ls (k : Int) (pc (out[i] &&& out[k]) : Int) b = some (.inl ((if (pc (out[i] &&& out[k]) : Int) < ls then (pc (out[i] &&& out[k]) : Int) else ls), ((k + 1 : Nat) : Int))) := by
            rintro b rfl
            simp only [quorum_Overlap.j4, hj3]
            by_cases h : (pc (out[i] &&& out[k]) : Int) < ls <;> simp [h]
          have hres := hJ.add hS
          by_cases h0 : i = 0 ∧ k = 0
          · -- nothing is known yet: not so here
            exfalso
            rcases hJ.1 with ⟨p, hp, h1, _⟩ | ⟨q, hq, h1, _⟩
            · omega
            · omega
          · by_cases hi0 : i = 0
            · rw [if_pos (by rw [hi0]; rfl), if_neg (by simp; omega), hst _ rfl]
              exact ⟨_, rfl, _, rfl, .inr hres⟩
            · rw [if_neg (by simp; omega), hst _ rfl]
              exact ⟨_, rfl, _, rfl, .inr hres⟩
      · obtain ⟨ls, rfl, hJ⟩ := hJ
        simp only [quorum_Overlap.l1]
        rw [if_neg (by rw [hlen]; simp)]
        refine ⟨_, rfl, ?_⟩
        rcases hJ with ⟨_, h2, _⟩ | hJ
        · omega
        · exact hJ.congr fun x => ⟨fun hx => hx.imp id fun ⟨q, hq, h1, h2⟩ => ⟨q, h1, h2⟩, fun hx => hx.imp id fun ⟨q, h1, h2⟩ => ⟨q, by omega, h1, h2⟩⟩
    obtain ⟨r, hr, hm⟩ := key
    rw [hr]
    simp only [Option.bind_some, quorum_Overlap.j2, letV_of, wcast hi (by omega : out.length ≤ _)]
    refine ⟨_, rfl, r, rfl, .inr (hm.congr fun x => ⟨?_, ?_⟩)⟩
    · rintro (⟨p, hp, h1, h2⟩ | ⟨q, hq, h1⟩)
      · exact ⟨p, hp, by omega, h2⟩
      · exact ⟨i, hi, by omega, q, by omega, h1⟩
    · rintro ⟨p, hp, h1, q, hq, h2⟩
      by_cases e : p = i
      · subst e; exact .inr ⟨q, by omega, h2⟩
      · exact .inl ⟨p, hp, by omega, q, hq, h2⟩
  · obtain ⟨least, rfl, hI⟩ := hI
    simp only [quorum_Overlap.l2]
    rw [if_neg (by rw [im_len]; simp)]
    refine ⟨_, rfl, ?_⟩
    rcases hI with ⟨h1, _⟩ | hI
    · omega
    · exact hI.congr fun x => ⟨fun ⟨p, hp, _, h⟩ => ⟨p, hp, h⟩, fun ⟨p, hp, h⟩ => ⟨p, hp, hp, h⟩⟩
theorem Overlap_eq (v : api_View) (h : VOk v) (hn : v.Members.length ≤ 8) : ∃ o, quorum_Overlap v = some o ∧ ((mins v = [] ∧ o = 0) ∨ (mins v ≠ [] ∧ MinOf (Com v) o)) := by
  obtain ⟨out, ho, hnd, hmem⟩ := minimal_eq v h
  have hp := pow_256 hn
  have hperm : out.Perm (mins v) := (List.perm_ext_iff_of_nodup hnd (minsTo_nodup v _)).2 fun m => by rw [hmem, mem_mins]
  have hlt : ∀ x ∈ out, x < 256 := fun x hx => by have := ((hmem x).1 hx).1; omega
  have hl : out.length ≤ 256 := nodup_len _ _ hnd hlt
  unfold quorum_Overlap
  rw [ho]
  simp only [Option.bind_some]
  rcases List.eq_nil_or_concat out with e | ⟨w, s, e⟩
  · refine ⟨0, ?_, .inl ⟨?_, rfl⟩⟩
    · rw [loopO_done (b := 0) (by subst e; rfl)]
      rfl
    · rw [e] at hperm; exact hperm.symm.eq_nil
  · have hne : 0 < out.length := by rw [e]; simp
    obtain ⟨o, h1, h2⟩ := ovl_walk out hlt hne hl
    rw [h1]
    refine ⟨o, rfl, .inr ⟨fun e => ?_, h2.congr fun x => ⟨?_, ?_⟩⟩⟩
    · rw [e] at hperm
      have := hperm.eq_nil
      rw [this] at hne
      exact absurd hne (by simp)
    · rintro ⟨p, hp, q, hq, h⟩
      exact ⟨out[p], hperm.mem_iff.1 (by simp), out[q], hperm.mem_iff.1 (by simp), h⟩
    · rintro ⟨a, ha, b, hb, h⟩
      obtain ⟨p, hp, rfl⟩ := List.mem_iff_getElem.1 (hperm.mem_iff.2 ha)
      obtain ⟨q, hq, rfl⟩ := List.mem_iff_getElem.1 (hperm.mem_iff.2 hb)
      rcases Nat.le_total q p with h1 | h1
      · exact ⟨p, hp, q, h1, h⟩
      · exact ⟨q, hq, p, h1, by rw [h, Nat.and_comm]⟩
end Go.Proofs.Ytodebgfppmcjlaa
