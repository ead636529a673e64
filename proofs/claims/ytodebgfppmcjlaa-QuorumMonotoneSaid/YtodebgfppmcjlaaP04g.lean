/- The quorum functions, as plain data: the work list of minimal quorums. -/
import Derived.Test.YtodebgfppmcjlaaP04f
set_option linter.unusedVariables false
set_option linter.unusedSimpArgs false
namespace Go.Proofs.Ytodebgfppmcjlaa
open Go Go.Proofs.YtodebgfppmcjlaaL

theorem nodup_len : ∀ (N : Nat) (l : List Nat), l.Nodup → (∀ x ∈ l, x < N) → l.length ≤ N
  | 0, l, _, h => by
    cases l with
    | nil => simp
    | cons x l => have := h x (by simp); omega
  | N + 1, l, hn, h => by
    by_cases hN : N ∈ l
    · have h1 := nodup_len N (l.erase N) (hn.erase N) fun x hx => by
        have h2 := List.Nodup.mem_erase_iff hn |>.1 hx
        have := h x h2.2
        have := h2.1
        omega
      rw [List.length_erase_of_mem hN] at h1
      omega
    · have := nodup_len N l hn fun x hx => by
        have := h x hx
        have : x ≠ N := fun e => hN (e ▸ hx)
        omega
      omega
/-- The set without one member. -/
def drp (s i : Nat) : Nat := andN s (2 ^ i)
theorem drp_bit (s i j : Nat) : (drp s i).testBit j = (s.testBit j && !decide (i = j)) := by
  unfold drp; rw [andN_bit, Nat.testBit_two_pow]
theorem drp_le (s i : Nat) : drp s i ≤ s := andN_le s _
theorem drp_eq_iff (s i : Nat) : drp s i = s ↔ s.testBit i = false := by
  constructor
  · intro h
    have := drp_bit s i i
    rw [h] at this
    simpa using this
  · intro h
    apply Nat.eq_of_testBit_eq
    intro j
    rw [drp_bit]
    by_cases e : i = j
    · subst e; simp [h]
    · simp [e]
def isMin (v : api_View) (m : Nat) : Prop := Qm v m = true ∧ ∀ j, j < v.Members.length → m.testBit j = true → Qm v (drp m j) = false

def sm (seen : List Nat) : List (Int × Bool) := seen.map fun x : Nat => ((x : Int), true)
theorem sm_lookup (seen : List Nat) (x : Nat) : (List.lookup (x : Int) (sm seen)).getD false = decide (x ∈ seen) := by
  induction seen with
  | nil => rfl
  | cons y l ih =>
    unfold sm at ih ⊢
    rw [List.map_cons, List.lookup]
    by_cases h : x = y
    · subst h; simp
    · have : ((x : Int) == (y : Int)) = false := by simp only [beq_eq_false_iff_ne]; omega
      rw [this]
      simp only []
      rw [ih]
      simp [h]
theorem sm_mset (seen : List Nat) (x : Nat) (h : x ∉ seen) : mset (sm seen) (x : Int) true = sm (seen ++ [x]) := by
  induction seen with
  | nil => rfl
  | cons y l ih =>
    unfold sm at ih ⊢
    have h1 : ¬ x = y := fun e => h (by simp [e])
    rw [List.map_cons, mset, if_neg (by simp only [beq_iff_eq]; omega), ih (fun hm => h (by simp [hm]))]
    rfl
def im (l : List Nat) : List Int := l.map fun x : Nat => (x : Int)
theorem im_app (l k : List Nat) : im (l ++ k) = im l ++ im k := List.map_append
theorem im_len (l : List Nat) : (im l).length = l.length := List.length_map _

structure InI (v : api_View) (s : Nat) (seen0 work0 : List Nat) (i : Nat) (seen work : List Nat) (least : Bool) : Prop where
  new : ∃ new : List Nat, seen = seen0 ++ new ∧ work = work0 ++ new ∧ new.Nodup ∧ (∀ x ∈ new, x ∉ seen0 ∧ Qm v x = true ∧ x ≤ s)
  cl : ∀ j, j < i → s.testBit j = true → Qm v (drp s j) = true → drp s j ∈ seen
  lst : least = true ↔ ∀ j, j < i → s.testBit j = true → Qm v (drp s j) = false
theorem inner_eq (v : api_View) (h : VOk v) (s : Nat) (hs : s < 2 ^ v.Members.length) (seen0 work0 : List Nat) (hn0 : seen0.Nodup) (hlt : ∀ x ∈ seen0, x < 2 ^ v.Members.length) (hw : work0.Nodup) (hws : ∀ x ∈ work0, x ∈ seen0) :
    ∃ r, loopO (quorum_minimal.l1 v (s : Int)) (sm seen0, im work0, true, 0) = some r ∧ ∃ seen work least, r = (sm seen, im work, least) ∧ InI v s seen0 work0 v.Members.length seen work least := by
  have hn := h.n
  have hp : 2 ^ v.Members.length ≤ 2 ^ 12 := Nat.pow_le_pow_right (by decide) hn
  refine loopO_inv (fun i st => ∃ seen work least, st = (sm seen, im work, least, (i : Int)) ∧ InI v s seen0 work0 i seen work least) v.Members.length ⟨seen0, work0, true, rfl, ⟨[], by simp, by simp, by simp, by simp⟩, by simp, by simp⟩ (fun i st hi hI => ?_) (fun st hI => ?_)
  · obtain ⟨seen, work, least, rfl, hI⟩ := hI
    have hss : s < 18446744073709551616 := by omega
    have e2 : (2 : Nat) ^ i < 18446744073709551616 := by
      have : 2 ^ i ≤ 2 ^ 12 := Nat.pow_le_pow_right (by decide) (by omega)
      omega
    simp only [quorum_minimal.l1]
    rw [if_pos (by simpa using hi), if_pos (by omega)]
    simp only [letV_of, shl_nat i (by omega), bAndN s _ hss e2]
    rw [show andN s (2 ^ i) = drp s i from rfl]
    have hle := drp_le s i
    by_cases hb : s.testBit i = false
    · have e := (drp_eq_iff s i).2 hb
      rw [if_pos (by rw [e]; simp)]
      simp only [quorum_minimal.j4, if_true, quorum_minimal.j3, letV_of, wcast hi (by omega)]
      refine ⟨_, rfl, seen, work, least, rfl, hI.new, fun j hj h1 h2 => ?_, hI.lst.trans ⟨fun hh j hj h1 => ?_, fun hh j hj => hh j (by omega)⟩⟩
      · have : j ≠ i := by rintro rfl; rw [hb] at h1; cases h1
        exact hI.cl j (by omega) h1 h2
      · have : j ≠ i := by rintro rfl; rw [hb] at h1; cases h1
        exact hh j (by omega) h1
    · have hb : s.testBit i = true := by simpa using hb
      rw [if_neg (by
        intro e
        have e : drp s i = s := by have := eq_of_beq e; omega
        rw [(drp_eq_iff s i).1 e] at hb
        cases hb)]
      rw [holds_eq v _ h (by omega)]
      simp only [Option.bind_some]
      cases hq : Qm v (drp s i) with
      | false =>
        simp only [Bool.not_false, quorum_minimal.j4, if_true, quorum_minimal.j3, letV_of, wcast hi (by omega)]
        refine ⟨_, rfl, seen, work, least, rfl, hI.new, fun j hj h1 h2 => ?_, hI.lst.trans ⟨fun hh j hj h1 => ?_, fun hh j hj => hh j (by omega)⟩⟩
        · have : j ≠ i := by rintro rfl; rw [hq] at h2; cases h2
          exact hI.cl j (by omega) h1 h2
        · by_cases e : j = i
          · subst e; exact hq
          · exact hh j (by omega) h1
      | true =>
        simp only [Bool.not_true, quorum_minimal.j4, Bool.false_eq_true, if_false, letV_of, sm_lookup]
        have hlst : (false = true) ↔ ∀ j, j < i + 1 → s.testBit j = true → Qm v (drp s j) = false :=
          ⟨fun h => (by cases h), fun hh => by have := hh i (by omega) hb; rw [hq] at this; cases this⟩
        by_cases hm : drp s i ∈ seen
        · simp only [hm, decide_true, Bool.not_true, Bool.false_eq_true, if_false, quorum_minimal.j3, letV_of, wcast hi (by omega : v.Members.length ≤ _)]
          refine ⟨_, rfl, seen, work, false, rfl, hI.new, fun j hj h1 h2 => ?_, hlst⟩
          by_cases e : j = i
          · subst e; exact hm
          · exact hI.cl j (by omega) h1 h2
        · obtain ⟨new, rfl, rfl, hnn, hnew⟩ := hI.new
          have hlw : work0.length ≤ 2 ^ v.Members.length := nodup_len _ _ hw fun x hx => hlt x (hws x hx)
          have hln : new.length ≤ 2 ^ v.Members.length := nodup_len _ _ hnn fun x hx => by have := (hnew x hx).2.2; omega
          simp only [hm, decide_false, Bool.not_false, if_true]
          rw [sm_mset _ _ hm, app_of (by simp [im_len]; omega)]
          simp only [Option.bind_some, quorum_minimal.j3, letV_of, wcast hi (by omega : v.Members.length ≤ _)]
          refine ⟨_, rfl, seen0 ++ new ++ [drp s i], work0 ++ new ++ [drp s i], false, by simp [im_app, im], ⟨new ++ [drp s i], by simp, by simp, ?_, ?_⟩, fun j hj h1 h2 => ?_, hlst⟩
          · rw [List.nodup_append]
            refine ⟨hnn, by simp, fun a ha b hb => ?_⟩
            simp only [List.mem_singleton] at hb
            subst hb
            rintro rfl
            exact hm (by simp [ha])
          · intro x hx
            rcases List.mem_append.1 hx with hx | hx
            · exact hnew x hx
            · simp only [List.mem_singleton] at hx
              subst hx
              exact ⟨fun hx => hm (by simp [hx]), hq, hle⟩
          · by_cases e : j = i
            · subst e; simp
            · have := hI.cl j (by omega) h1 h2
              simp only [List.mem_append] at this ⊢
              exact .inl this
  · obtain ⟨seen, work, least, rfl, hI⟩ := hI
    simp only [quorum_minimal.l1]
    rw [if_neg (by simp)]
    exact ⟨_, rfl, seen, work, least, rfl, hI⟩

structure OutI (v : api_View) (seen out work : List Nat) : Prop where
  ns : seen.Nodup
  no : out.Nodup
  nw : work.Nodup
  lt : ∀ x ∈ seen, x < 2 ^ v.Members.length ∧ Qm v x = true
  ws : ∀ x ∈ work, x ∈ seen
  os : ∀ x ∈ out, x ∈ seen ∧ x ∉ work
  dn : ∀ x ∈ seen, x ∉ work → (∀ j, j < v.Members.length → x.testBit j = true → Qm v (drp x j) = true → drp x j ∈ seen) ∧ (x ∈ out ↔ isMin v x)
  all : 2 ^ v.Members.length - 1 ∈ seen
theorem minimal_walk (v : api_View) (h : VOk v) (hq : Qm v (2 ^ v.Members.length - 1) = true) : ∃ r, loopO (quorum_minimal.l2 v) (sm [2 ^ v.Members.length - 1], [], im [2 ^ v.Members.length - 1]) = some r ∧ ∃ seen out, r = (sm seen, im out) ∧ OutI v seen out [] := by
  have hn := h.n
  have hp : 2 ^ v.Members.length ≤ 2 ^ 12 := Nat.pow_le_pow_right (by decide) hn
  have hp1 : 1 ≤ 2 ^ v.Members.length := Nat.one_le_two_pow
  refine (loopO_mu (fun st => ∃ seen out work, st = (sm seen, im out, im work) ∧ OutI v seen out work) (fun st => 2 * (2 ^ v.Members.length - st.1.length) + st.2.2.length)
    ⟨[2 ^ v.Members.length - 1], [], [2 ^ v.Members.length - 1], rfl, by simp, by simp, by simp, by simp; exact ⟨by omega, hq⟩, by simp, by simp, by simp, by simp⟩ (fun st hI => ?_)
    (Q := fun r => ∃ seen out, r = (sm seen, im out) ∧ OutI v seen out []))
  obtain ⟨seen, out, work, rfl, hI⟩ := hI
  rcases List.eq_nil_or_concat work with rfl | ⟨w, s, rfl⟩
  · right
    simp only [quorum_minimal.l2]
    rw [if_neg (by simp [im])]
    exact ⟨_, rfl, seen, out, rfl, hI⟩
  left
  rw [List.concat_eq_append] at hI ⊢
  have hsw : s ∈ seen := hI.ws s (by simp)
  have hs := hI.lt s hsw
  have hlen : (im (w ++ [s])).length = w.length + 1 := by simp [im_len]
  have hnw := hI.nw
  rw [List.nodup_append] at hnw
  have hlw : (w ++ [s]).length ≤ 2 ^ v.Members.length := nodup_len _ _ hI.nw fun x hx => (hI.lt x (hI.ws x hx)).1
  have hlo : out.length ≤ 2 ^ v.Members.length := nodup_len _ _ hI.no fun x hx => (hI.lt x (hI.os x hx).1).1
  rw [List.length_append, List.length_singleton] at hlw
  obtain ⟨r, hr, seen', work', least, rfl, hin⟩ := inner_eq v h s hs.1 seen w hI.ns (fun x hx => (hI.lt x hx).1) hnw.1 fun x hx => hI.ws x (by simp [hx])
  simp only [quorum_minimal.l2]
  rw [if_pos (by rw [hlen, decide_eq_true_iff]; omega), show IntKind.i64.wrap (((im (w ++ [s])).length : Int) - 1) = (w.length : Int) by rw [hlen, w64 (by omega) (by omega)]; omega]
  simp only [letV_of]
  rw [idx_nat (by rw [hlen]; omega), cut_of (by omega) (by omega) (by rw [hlen]; omega)]
  simp only [Option.bind_some]
  have e1 : (im (w ++ [s]))[w.length]'(by rw [hlen]; omega) = (s : Int) := by simp [im]
  have e2 : (List.take (w.length : Int).toNat (im (w ++ [s]))).drop (0 : Int).toNat = im w := by simp [im]
  rw [e1, e2, hr]
  simp only [Option.bind_some]
  obtain ⟨new, rfl, rfl, hnn, hnew⟩ := hin.new
  have hwn : ∀ x ∈ w, x ∉ new := fun x hx hn => (hnew x hn).1 (hI.ws x (by simp [hx]))
  have hsnw : s ∉ w ++ new := by
    intro hx
    rcases List.mem_append.1 hx with hx | hx
    · exact hnw.2.2 s hx s (by simp) rfl
    · exact (hnew s hx).1 hsw
  have hOut : ∀ out', out'.Nodup → (∀ x, x ∈ out' ↔ x ∈ out ∨ x = s ∧ isMin v s) → OutI v (seen ++ new) out' (w ++ new) := by
    intro out' hno hmo
    refine ⟨?_, hno, ?_, ?_, ?_, ?_, ?_, by simp [hI.all]⟩
    · rw [List.nodup_append]
      exact ⟨hI.ns, hnn, fun a ha b hb e => (hnew b hb).1 (e ▸ ha)⟩
    · rw [List.nodup_append]
      exact ⟨hnw.1, hnn, fun a ha b hb e => hwn a ha (e ▸ hb)⟩
    · intro x hx
      rcases List.mem_append.1 hx with hx | hx
      · exact hI.lt x hx
      · exact ⟨by have := (hnew x hx).2.2; omega, (hnew x hx).2.1⟩
    · intro x hx
      rcases List.mem_append.1 hx with hx | hx
      · simp [hI.ws x (by simp [hx])]
      · simp [hx]
    · intro x hx
      rcases (hmo x).1 hx with hx | ⟨rfl, _⟩
      · have := hI.os x hx
        refine ⟨by simp [this.1], fun hm => ?_⟩
        rcases List.mem_append.1 hm with hm | hm
        · exact this.2 (by simp [hm])
        · exact (hnew x hm).1 this.1
      · exact ⟨by simp [hsw], hsnw⟩
    · intro x hx hxw
      have hx1 : x ∈ seen := by
        rcases List.mem_append.1 hx with hx | hx
        · exact hx
        · exact absurd (by simp [hx]) hxw
      by_cases e : x = s
      · subst e
        refine ⟨fun j hj h1 h2 => hin.cl j hj h1 h2, (hmo x).trans ⟨?_, fun hm => .inr ⟨rfl, hm⟩⟩⟩
        rintro (h1 | ⟨_, h1⟩)
        · exact absurd (by simp) (hI.os x h1).2
        · exact h1
      · have hd := hI.dn x hx1 (fun hm => by
          rcases List.mem_append.1 hm with hm | hm
          · exact hxw (by simp [hm])
          · exact e (by simpa using hm))
        refine ⟨fun j hj h1 h2 => by simp [hd.1 j hj h1 h2], (hmo x).trans ⟨?_, fun hm => .inl (hd.2.2 hm)⟩⟩
        rintro (h1 | ⟨h1, _⟩)
        · exact hd.2.1 h1
        · exact absurd h1 e
  have hμ : 2 * (2 ^ v.Members.length - (sm (seen ++ new)).length) + (im (w ++ new)).length < 2 * (2 ^ v.Members.length - (sm seen).length) + (im (w ++ [s])).length := by
    have hl : (seen ++ new).length ≤ 2 ^ v.Members.length := nodup_len _ _ (by
      rw [List.nodup_append]; exact ⟨hI.ns, hnn, fun a ha b hb e => (hnew b hb).1 (e ▸ ha)⟩) fun x hx => by
        rcases List.mem_append.1 hx with hx | hx
        · exact (hI.lt x hx).1
        · have := (hnew x hx).2.2; omega
    simp only [sm, im, List.length_map, List.length_append, List.length_singleton] at hl ⊢
    omega
  have hmin : least = true ↔ isMin v s := hin.lst.trans ⟨fun hh => ⟨hs.2, hh⟩, fun hh => hh.2⟩
  cases least with
  | true =>
    simp only [quorum_minimal.j2, if_true]
    rw [app_of (by simp [im_len]; omega)]
    simp only [Option.bind_some]
    refine ⟨_, rfl, ⟨seen ++ new, out ++ [s], w ++ new, by simp [im_app, im], hOut _ ?_ ?_⟩, hμ⟩
    · rw [List.nodup_append]
      refine ⟨hI.no, by simp, fun a ha b hb e => ?_⟩
      simp only [List.mem_singleton] at hb
      subst hb
      subst e
      exact (hI.os a ha).2 (by simp)
    · intro x
      simp only [List.mem_append, List.mem_singleton]
      exact ⟨fun hx => hx.imp id fun e => ⟨e, hmin.1 rfl⟩, fun hx => hx.imp id fun e => e.1⟩
  | false =>
    simp only [quorum_minimal.j2, Bool.false_eq_true, if_false]
    refine ⟨_, rfl, ⟨seen ++ new, out, w ++ new, rfl, hOut _ hI.no ?_⟩, hμ⟩
    intro x
    exact ⟨.inl, fun hx => hx.elim id fun e => absurd (hmin.2 e.2) (by simp)⟩

/-- One set lies in another one. -/
def sub2 (a b : Nat) : Prop := ∀ j, a.testBit j = true → b.testBit j = true
theorem Qm_mono {v : api_View} (h : VOk v) {a b : Nat} (hs : sub2 a b) (hq : Qm v a = true) : Qm v b = true := by
  refine cSpec_mono h (bv_length _ _) (imp2_of (by simp [bv_length]) fun i h1 h2 hi => ?_) hq
  rw [bv_get] at hi ⊢
  exact hs i hi
theorem sub2_eq {a b : Nat} (h1 : sub2 a b) (h2 : sub2 b a) : a = b := by
  apply Nat.eq_of_testBit_eq
  intro j
  have := h1 j; have := h2 j
  cases ha : a.testBit j <;> cases hb : b.testBit j <;> simp_all
theorem bit_lt {x n j : Nat} (hx : x < 2 ^ n) (h : x.testBit j = true) : j < n := by
  rcases Nat.lt_or_ge j n with hj | hj
  · exact hj
  · rw [Nat.testBit_lt_two_pow (Nat.lt_of_lt_of_le hx (Nat.pow_le_pow_right (by decide) hj))] at h
    cases h
theorem full_sub {x n : Nat} (hx : x < 2 ^ n) : sub2 x (2 ^ n - 1) := by
  intro j hj
  rw [Nat.testBit_two_pow_sub_one]
  simpa using bit_lt hx hj
/-- What is closed under taking one member away has every minimal quorum. -/
theorem closed_min (v : api_View) (h : VOk v) (seen : List Nat) (hlt : ∀ x ∈ seen, x < 2 ^ v.Members.length)
    (hcl : ∀ x ∈ seen, ∀ j, j < v.Members.length → x.testBit j = true → Qm v (drp x j) = true → drp x j ∈ seen) (m : Nat) (hm : Qm v m = true) :
    ∀ t, t ∈ seen → sub2 m t → m ∈ seen := by
  intro t
  induction t using Nat.strongRecOn with
  | ind t ih =>
    intro ht hs
    by_cases e : m = t
    · rw [e]; exact ht
    · obtain ⟨j, hj1, hj2⟩ : ∃ j, t.testBit j = true ∧ m.testBit j = false := by
        apply Classical.byContradiction
        intro hno
        exact e (sub2_eq hs fun j hj => by
          cases hb : m.testBit j with
          | true => rfl
          | false => exact absurd ⟨j, hj, hb⟩ hno)
      have hjn := bit_lt (hlt t ht) hj1
      have hs' : sub2 m (drp t j) := by
        intro i hi
        rw [drp_bit, hs i hi]
        have : j ≠ i := by rintro rfl; rw [hj2] at hi; cases hi
        simp [this]
      refine ih (drp t j) ?_ (hcl t ht j hjn hj1 (Qm_mono h hs' hm)) hs'
      have h1 := drp_le t j
      have h2 : drp t j ≠ t := fun e => by rw [(drp_eq_iff t j).1 e] at hj1; cases hj1
      omega
theorem minimal_eq (v : api_View) (h : VOk v) : ∃ out : List Nat, quorum_minimal v = some (im out) ∧ out.Nodup ∧ ∀ m, m ∈ out ↔ m < 2 ^ v.Members.length ∧ isMin v m := by
  have hn := h.n
  have hp : 2 ^ v.Members.length ≤ 2 ^ 12 := Nat.pow_le_pow_right (by decide) hn
  have hp1 : 1 ≤ 2 ^ v.Members.length := Nat.one_le_two_pow
  unfold quorum_minimal
  rw [full_eq v h]
  simp only [Option.bind_some]
  have hbig : ∀ m, m < 2 ^ v.Members.length → Qm v m = true → Qm v (2 ^ v.Members.length - 1) = true := fun m hm hq => Qm_mono h (full_sub hm) hq
  have hnone : Qm v (2 ^ v.Members.length - 1) = false → ∃ out : List Nat, quorum_minimal.j5 v ((2 ^ v.Members.length - 1 : Nat) : Int) true = some (im out) ∧ out.Nodup ∧ ∀ m, m ∈ out ↔ m < 2 ^ v.Members.length ∧ isMin v m := by
    intro hf
    refine ⟨[], rfl, by simp, fun m => ⟨by simp, fun ⟨h1, h2⟩ => ?_⟩⟩
    rw [hbig m h1 h2.1] at hf
    cases hf
  by_cases h0 : 2 ^ v.Members.length - 1 = 0
  · rw [if_pos (by rw [h0]; rfl)]
    refine hnone (cSpec_none h (bv_length _ _) ?_)
    rw [h0]
    have : bv v.Members.length 0 = List.replicate v.Members.length false := by
      simp [bv, List.map_const']
    rw [this, List.count_replicate]
    simp
  rw [if_neg (by simpa using h0), holds_eq v _ h (by omega)]
  simp only [Option.bind_some]
  cases hq : Qm v (2 ^ v.Members.length - 1) with
  | false => exact hnone hq
  | true =>
    simp only [Bool.not_true, quorum_minimal.j5, Bool.false_eq_true, if_false, letV_of]
    obtain ⟨r, hr, seen, out, rfl, hI⟩ := minimal_walk v h hq
    rw [show mset ([] : List (Int × Bool)) ((2 ^ v.Members.length - 1 : Nat) : Int) true = sm [2 ^ v.Members.length - 1] from rfl, show [((2 ^ v.Members.length - 1 : Nat) : Int)] = im [2 ^ v.Members.length - 1] from rfl, hr]
    refine ⟨out, rfl, hI.no, fun m => ⟨fun hm => ?_, fun ⟨h1, h2⟩ => ?_⟩⟩
    · have h1 := (hI.os m hm).1
      exact ⟨(hI.lt m h1).1, (hI.dn m h1 (by simp)).2.1 hm⟩
    · have hs := closed_min v h seen (fun x hx => (hI.lt x hx).1) (fun x hx => (hI.dn x hx (by simp)).1) m h2.1 _ hI.all (full_sub h1)
      exact (hI.dn m hs (by simp)).2.2 h2
end Go.Proofs.Ytodebgfppmcjlaa
