/- What turns the state of a walk. -/
import Derived.Test.YtbbeobiampbddaaLb
set_option linter.unusedVariables false
set_option linter.unusedSimpArgs false
namespace Go.Proofs.YtbbeobiampbddaaL
open Go Go.RowKit

theorem Off.of_below {w w' : World} (h : Below w.heap.size w w') (bs : List Nat) : Off bs w w' := ⟨h.os, h.tape, h.output, h.size, fun k hk _ => h.block k hk⟩
theorem Off.of_grown {w w' : World} {row : Option Nat} (h : w.grownBy w' row) : Off row.toList w w' :=
  ⟨h.os, h.tape, h.output, h.size, fun k hk hn => h.block k hk (by intro e; apply hn; simp [← e])⟩
theorem Off.setCell (w : World) (g j : Nat) (v : Value) : Off [g] w (w.setCell ⟨g, j, none⟩ v) := by
  refine ⟨rfl, rfl, rfl, by simp [World.setCell], fun k hk hn => ?_⟩
  have : g ≠ k := fun e => hn (by simp [e])
  simp only [World.setCell]
  rw [Array.getElem?_modify]
  simp [this]
theorem Off.trans {bs : List Nat} {a b c : World} (h : Off bs a b) (k : Off bs b c) : Off bs a c :=
  ⟨k.os.trans h.os, k.tape.trans h.tape, k.output.trans h.output, Nat.le_trans h.size k.size, fun i hi hn => (k.block i (Nat.lt_of_lt_of_le hi h.size) hn).trans (h.block i hi hn)⟩

theorem Off.nil_below {w w' : World} (h : Off [] w w') : Below w.heap.size w w' := ⟨h.os, h.tape, h.output, h.size, fun k hk => h.block k hk (by simp)⟩
theorem Off.refl_ (bs : List Nat) (w : World) : Off bs w w := ⟨rfl, rfl, rfl, Nat.le_refl _, fun _ _ _ => rfl⟩
/-- What turns blocks that were given, or that are newer. -/
theorem Off.on {bs bs' : List Nat} {a b c : World} (h : Off bs a b) (k : Off bs' b c) (hb : ∀ x ∈ bs', x ∈ bs ∨ a.heap.size ≤ x) : Off bs a c :=
  ⟨k.os.trans h.os, k.tape.trans h.tape, k.output.trans h.output, Nat.le_trans h.size k.size, fun i hi hn => (k.block i (Nat.lt_of_lt_of_le hi h.size) fun hm => by
    rcases hb i hm with h1 | h1
    · exact hn h1
    · omega).trans (h.block i hi hn)⟩

section
variable {ok0 : Nat → Prop} {w0 : Base} {w w' : World} {Γ Γ' : List It} {Λ Λ' : List LObj}

theorem St.init (h : All ok0 w Γ) : St ok0 (bz w) w Γ [] :=
  ⟨Off.refl_ _ _, [], by simp, by simp, trivial, h.move fun b hb _ => ⟨rfl, .inl hb, by simp⟩⟩

theorem St.size (hs : St ok0 w0 w Γ Λ) : w0.w.heap.size ≤ w.heap.size := hs.1.size

/-- What only makes memory leaves the state as it is. -/
theorem St.below (hs : St ok0 w0 w Γ Λ) (hb : Below w.heap.size w w') : St ok0 w0 w' Γ Λ := by
  obtain ⟨hB, bss, hn, hlt, hO, hA⟩ := hs
  refine ⟨hB.on (Off.of_below hb []) (by simp), bss, hn, fun b h => ⟨(hlt b h).1, Nat.lt_of_lt_of_le (hlt b h).2 hb.size⟩, ?_, ?_⟩
  · exact hO.move (fun b h hl => ⟨hb.block b hl, h⟩) (fun b h => hb.block b (hlt b h).2)
  · exact hA.move (fun b h hl => ⟨hb.block b hl, h⟩)

theorem St.drew (hs : St ok0 w0 w Γ Λ) : St ok0 w0 w.drew Γ Λ := hs.below ⟨rfl, rfl, rfl, Nat.le_refl _, fun _ _ => rfl⟩

theorem reg_sub {L L' : List Nat} (h : ∀ b ∈ L', b ∈ L) : ∀ b, reg ok0 w0 L b → reg ok0 w0 L' b := fun b hb => ⟨hb.1, fun hm => hb.2 (h b hm)⟩

/-- A new object, in new memory. -/
theorem St.new {o : LObj} {bs : List Nat} (hs : St ok0 w0 w Γ Λ) (hb : Below w.heap.size w w') (hn : bs.Nodup) (hbs : ∀ b ∈ bs, w.heap.size ≤ b ∧ b < w'.heap.size)
    (h : ∀ ok, (∀ ok1, All ok1 w Γ → (∀ b, ok1 b → b < w.heap.size → ok b) → o.H ok bs w')) : St ok0 w0 w' Γ (o :: Λ) := by
  obtain ⟨hB, bss, hN, hlt, hO, hA⟩ := hs
  have hm : ∀ b, reg ok0 w0 bss.flatten b → b < w.heap.size → w'.heap[b]? = w.heap[b]? ∧ reg ok0 w0 (bs :: bss).flatten b := by
    intro b hr hl
    refine ⟨hb.block b hl, hr.1, fun hm => ?_⟩
    rw [List.flatten_cons] at hm
    rcases List.mem_append.1 hm with hm | hm
    · have := (hbs b hm).1; omega
    · exact hr.2 hm
  refine ⟨hB.on (Off.of_below hb []) (by simp), bs :: bss, ?_, ?_, ⟨h _ _ hA fun b hr hl => (hm b hr hl).2, hO.move hm fun b h => hb.block b (hlt b h).2⟩, hA.move hm⟩
  · rw [List.flatten_cons, List.nodup_append]
    refine ⟨hn, hN, fun a ha b hb' e => ?_⟩
    subst e
    have h1 := (hbs a ha).1
    have h2 := (hlt a hb').2
    omega
  · intro b hm
    rw [List.flatten_cons] at hm
    rcases List.mem_append.1 hm with hm | hm
    · exact ⟨.inr (Nat.le_trans hB.size (hbs b hm).1), (hbs b hm).2⟩
    · exact ⟨(hlt b hm).1, Nat.lt_of_lt_of_le (hlt b hm).2 hb.size⟩

theorem below_alloc (w : World) (o : Obj) : Below w.heap.size w (w.alloc o) := (Below.refl _ _).alloc (Nat.le_refl _) o
theorem heap_new (w : World) (o : Obj) : (w.alloc o).heap[w.heap.size]? = some o := heap_alloc_new w o
theorem size_alloc (w : World) (o : Obj) : (w.alloc o).heap.size = w.heap.size + 1 := by show (w.heap.push o).size = _; simp

theorem St.alloc (hs : St ok0 w0 w Γ Λ) (T : TypeId) (cs : List Value) : St ok0 w0 (w.alloc (.cells cs.toArray T)) Γ (blk w.heap.size T cs :: Λ) :=
  hs.new (below_alloc w _) (bs := [w.heap.size]) (by simp) (by simp [size_alloc]) fun _ _ _ _ => ⟨rfl, heap_new w _⟩

/-- One of the call's own objects turns; all else stays. -/
theorem St.split (hs : St ok0 w0 w Γ Λ) (i : Nat) {o : LObj} (hi : Λ[i]? = some o) :
    ∃ ok bs, o.H ok bs w ∧ All ok w Γ ∧ bs.Nodup ∧ (∀ b ∈ bs, ¬ ok b ∧ (b ∈ w0.bs ∨ w0.w.heap.size ≤ b) ∧ b < w.heap.size) ∧
      ∀ (o' : LObj) (bs' : List Nat) (w' : World), Off bs w w' → bs'.Nodup → (∀ b ∈ bs', (b ∈ bs ∨ w.heap.size ≤ b) ∧ b < w'.heap.size) →
        (∀ ok', (∀ b, ok b → b < w.heap.size → w'.heap[b]? = w.heap[b]? ∧ ok' b) → o'.H ok' bs' w') → St ok0 w0 w' Γ (Λ.set i o') := by
  obtain ⟨hB, bss, hN, hlt, hO, hA⟩ := hs
  obtain ⟨l1, bs, l2, rfl, hl, ho, hput⟩ := Own.split i hO hi
  have e : ∀ x : List Nat, (l1 ++ x :: l2).flatten = l1.flatten ++ (x ++ l2.flatten) := fun x => by simp
  have hmem : ∀ b ∈ bs, b ∈ (l1 ++ bs :: l2).flatten := fun b hb => by rw [e]; simp [hb]
  rw [e, List.nodup_append, List.nodup_append] at hN
  obtain ⟨hN1, ⟨hNb, hN2, hNb2⟩, hN1b⟩ := hN
  refine ⟨_, bs, ho, hA, hNb, fun b hb => ⟨fun hr => hr.2 (hmem b hb), hlt b (hmem b hb)⟩, ?_⟩
  intro o' bs' w' hoff hnd hbs' ho'
  have hother : ∀ b ∈ l1.flatten ++ l2.flatten, b ∉ bs ∧ b < w.heap.size := by
    intro b hb
    have hb' : b ∈ (l1 ++ bs :: l2).flatten := by
      rw [e]; rcases List.mem_append.1 hb with hb | hb <;> simp [hb]
    refine ⟨fun hbb => ?_, (hlt b hb').2⟩
    rcases List.mem_append.1 hb with hb | hb
    · exact hN1b b hb b (List.mem_append.2 (.inl hbb)) rfl
    · exact hNb2 b hbb b hb rfl
  have hm : ∀ b, reg ok0 w0 (l1 ++ bs :: l2).flatten b → b < w.heap.size → w'.heap[b]? = w.heap[b]? ∧ reg ok0 w0 (l1 ++ bs' :: l2).flatten b := by
    intro b hr hlb
    refine ⟨hoff.block b hlb fun hbb => hr.2 (hmem b hbb), hr.1, fun hmm => hr.2 ?_⟩
    rw [e] at hmm ⊢
    rcases List.mem_append.1 hmm with h | h
    · simp [h]
    · rcases List.mem_append.1 h with h | h
      · rcases (hbs' b h).1 with h | h
        · simp [h]
        · omega
      · simp [h]
  refine ⟨hB.on hoff fun k hk => (hlt k (hmem k hk)).1, l1 ++ bs' :: l2, ?_, ?_, ?_, hA.move hm⟩
  · rw [e, List.nodup_append, List.nodup_append]
    have hdis : ∀ b ∈ bs', b ∉ l1.flatten ∧ b ∉ l2.flatten := by
      intro b hb
      rcases (hbs' b hb).1 with h | h
      · exact ⟨fun hx => (hother b (List.mem_append.2 (.inl hx))).1 h, fun hx => (hother b (List.mem_append.2 (.inr hx))).1 h⟩
      · exact ⟨fun hx => by have := (hother b (List.mem_append.2 (.inl hx))).2; omega, fun hx => by have := (hother b (List.mem_append.2 (.inr hx))).2; omega⟩
    refine ⟨hN1, ⟨hnd, hN2, fun a ha b hb hab => by subst hab; exact (hdis a ha).2 hb⟩, fun a ha b hb hab => ?_⟩
    subst hab
    rcases List.mem_append.1 hb with hb | hb
    · exact (hdis a hb).1 ha
    · exact hN1b a ha a (List.mem_append.2 (.inr hb)) rfl
  · intro b hb
    rw [e] at hb
    have ho2 : ∀ b ∈ l1.flatten ++ l2.flatten, (b ∈ w0.bs ∨ w0.w.heap.size ≤ b) ∧ b < w'.heap.size := by
      intro b hb
      have hb' : b ∈ (l1 ++ bs :: l2).flatten := by
        rw [e]; rcases List.mem_append.1 hb with hb | hb <;> simp [hb]
      exact ⟨(hlt b hb').1, Nat.lt_of_lt_of_le (hlt b hb').2 hoff.size⟩
    rcases List.mem_append.1 hb with hb | hb
    · exact ho2 b (by simp [hb])
    · rcases List.mem_append.1 hb with hb | hb
      · refine ⟨?_, (hbs' b hb).2⟩
        rcases (hbs' b hb).1 with h | h
        · exact (hlt b (hmem b h)).1
        · exact .inr (Nat.le_trans hB.size h)
      · exact ho2 b (by simp [hb])
  · exact hput o' bs' _ w' (ho' _ hm) hm fun b hb => hoff.block b (hother b hb).2 (hother b hb).1

/-- A call's answer joins what the caller knows. -/
theorem Own.app {ok : Nat → Prop} : ∀ {Λ Λ' : List LObj} {b1 b2 : List (List Nat)}, Own ok w Λ b1 → Own ok w Λ' b2 → Own ok w (Λ ++ Λ') (b1 ++ b2)
  | [], _, [], _, _, h => h
  | _ :: _, _, _ :: _, _, ⟨h, hr⟩, h' => ⟨h, Own.app hr h'⟩
  | [], _, _ :: _, _, h, _ => h.elim
  | _ :: _, _, [], _, h, _ => h.elim
theorem Own.parts {ok : Nat → Prop} : ∀ {Λ Λ' : List LObj} {b : List (List Nat)}, Own ok w (Λ ++ Λ') b → ∃ b1 b2, b = b1 ++ b2 ∧ Own ok w Λ b1 ∧ Own ok w Λ' b2
  | [], _, b, h => ⟨[], b, rfl, trivial, h⟩
  | o :: Λ, Λ', [], h => h.elim
  | o :: Λ, Λ', bs :: b, ⟨h, hr⟩ => by
    obtain ⟨b1, b2, rfl, h1, h2⟩ := Own.parts hr
    exact ⟨bs :: b1, b2, rfl, ⟨h, h1⟩, h2⟩
/-- A call that is given some of the call's own objects. -/
theorem St.callO {Λr : List LObj} (hs : St ok0 w0 w Γ (Λ ++ Λr)) : ∃ ok bs, St ok ⟨w, bs⟩ w Γ Λ ∧ ∀ (w' : World) (Γ' : List It) (Λ' : List LObj), St ok ⟨w, bs⟩ w' Γ' Λ' → St ok0 w0 w' (Γ' ++ Γ) (Λ' ++ Λr) := by
  obtain ⟨hB, bss, hN, hlt, hO, hA⟩ := hs
  obtain ⟨b1, b2, rfl, hO1, hO2⟩ := Own.parts hO
  rw [List.flatten_append] at hN hlt
  have hN' := hN
  rw [List.nodup_append] at hN'
  obtain ⟨hN1, hN2, hN12⟩ := hN'
  refine ⟨reg ok0 w0 (b1 ++ b2).flatten, b1.flatten, ⟨Off.refl_ _ _, b1, hN1, fun b hb => ⟨.inl hb, (hlt b (by simp [hb])).2⟩, ?_, ?_⟩, fun w' Γ' Λ' hs' => ?_⟩
  · exact hO1.move (fun b hr hl => ⟨rfl, .inl hr, fun hm => hr.2 (by rw [List.flatten_append]; simp [hm])⟩) fun _ _ => rfl
  · exact hA.move fun b hr hl => ⟨rfl, .inl hr, fun hm => hr.2 (by rw [List.flatten_append]; simp [hm])⟩
  obtain ⟨hB', bss', hN', hlt', hO', hA'⟩ := hs'
  have hlt2 : ∀ b ∈ bss'.flatten, (b ∈ b1.flatten ∨ w.heap.size ≤ b) ∧ b < w'.heap.size := hlt'
  have hkeep : ∀ b, b < w.heap.size → b ∉ b1.flatten → w'.heap[b]? = w.heap[b]? := hB'.block
  have hm : ∀ b, reg ok0 w0 (b1 ++ b2).flatten b → b < w.heap.size → w'.heap[b]? = w.heap[b]? ∧ reg ok0 w0 (bss' ++ b2).flatten b := by
    intro b hr hl
    rw [List.flatten_append] at hr
    refine ⟨hkeep b hl fun h => hr.2 (by simp [h]), hr.1, fun hmm => ?_⟩
    rw [List.flatten_append] at hmm
    rcases List.mem_append.1 hmm with h | h
    · rcases (hlt2 b h).1 with h1 | h1
      · exact hr.2 (by simp [h1])
      · omega
    · exact hr.2 (by simp [h])
  have hm' : ∀ b, reg (reg ok0 w0 (b1 ++ b2).flatten) ⟨w, b1.flatten⟩ bss'.flatten b → b < w'.heap.size → w'.heap[b]? = w'.heap[b]? ∧ reg ok0 w0 (bss' ++ b2).flatten b := by
    intro b hr hl
    refine ⟨rfl, ?_, fun hmm => ?_⟩
    · rcases hr.1 with h | h | h
      · exact h.1
      · exact .inr (hlt b (by simp [show b ∈ b1.flatten from h])).1
      · exact .inr (.inr (Nat.le_trans hB.size h))
    · rw [List.flatten_append] at hmm
      rcases List.mem_append.1 hmm with h | h
      · exact hr.2 h
      · rcases hr.1 with h1 | h1 | h1
        · exact h1.2 (by rw [List.flatten_append]; simp [h])
        · exact hN12 b h1 b h rfl
        · have := (hlt b (by simp [h])).2; exact absurd this (Nat.not_lt.2 h1)
  refine ⟨hB.on hB' fun b hb => (hlt b (by simp [show b ∈ b1.flatten from hb])).1, bss' ++ b2, ?_, ?_, Own.app (hO'.move hm' fun _ _ => rfl) (hO2.move hm fun b h => hkeep b (hlt b (by simp [h])).2 fun h1 => hN12 b h1 b h rfl), ?_⟩
  · rw [List.flatten_append, List.nodup_append]
    refine ⟨hN', hN2, fun a ha b hb e => ?_⟩
    subst e
    rcases (hlt2 a ha).1 with h1 | h1
    · exact hN12 a h1 a hb rfl
    · have h2 := (hlt a (by simp [hb])).2
      omega
  · intro b hb
    rw [List.flatten_append] at hb
    rcases List.mem_append.1 hb with h | h
    · refine ⟨?_, (hlt2 b h).2⟩
      rcases (hlt2 b h).1 with h1 | h1
      · exact (hlt b (by simp [h1])).1
      · exact .inr (Nat.le_trans hB.size h1)
    · exact ⟨(hlt b (by simp [h])).1, Nat.lt_of_lt_of_le (hlt b (by simp [h])).2 hB'.size⟩
  · intro it hi
    rcases List.mem_append.1 hi with h | h
    · exact (hA'.move hm') it h
    · exact (hA.move hm) it h
theorem St.call (hs : St ok0 w0 w Γ Λ) : ∃ ok, All ok w Γ ∧ ∀ (w' : World) (Γ' : List It) (Λ' : List LObj), St ok (bz w) w' Γ' Λ' → St ok0 w0 w' (Γ' ++ Γ) (Λ' ++ Λ) := by
  have hs2 : St ok0 w0 w Γ ([] ++ Λ) := hs
  obtain ⟨ok, bs, h1, h2⟩ := hs2.callO
  obtain ⟨_, bss, _, hlt, hO, hA⟩ := h1
  cases bss with
  | cons b bss => exact hO.elim
  | nil =>
    refine ⟨reg ok ⟨w, bs⟩ [], hA, fun w' Γ' Λ' hs' => h2 w' Γ' Λ' ?_⟩
    obtain ⟨hB', bss', hN', hlt', hO', hA'⟩ := hs'
    have hm : ∀ b, reg (reg ok ⟨w, bs⟩ []) (bz w) bss'.flatten b → b < w'.heap.size → w'.heap[b]? = w'.heap[b]? ∧ reg ok ⟨w, bs⟩ bss'.flatten b := fun b hr _ => ⟨rfl, by
      rcases hr.1 with h | h | h
      · exact h.1
      · cases h
      · exact .inr (.inr h), hr.2⟩
    refine ⟨⟨hB'.os, hB'.tape, hB'.output, hB'.size, fun k hk _ => hB'.block k hk (by simp)⟩, bss', hN', fun b hb => ⟨.inr ((hlt' b hb).1.resolve_left (by simp)), (hlt' b hb).2⟩, hO'.move hm fun _ _ => rfl, hA'.move hm⟩

/-- What follows of what is known. -/
theorem St.add (hs : St ok0 w0 w Γ Λ) {it : It} (h : ∀ ok, All ok w Γ → it.holds ok w) : St ok0 w0 w (it :: Γ) Λ := by
  obtain ⟨hB, bss, hN, hlt, hO, hA⟩ := hs
  exact ⟨hB, bss, hN, hlt, hO, fun i hi => by
    rcases List.mem_cons.1 hi with rfl | hi
    · exact h _ hA
    · exact hA i hi⟩
theorem St.sub (hs : St ok0 w0 w Γ Λ) (h : ∀ it ∈ Γ', it ∈ Γ) : St ok0 w0 w Γ' Λ := by
  obtain ⟨hB, bss, hN, hlt, hO, hA⟩ := hs
  exact ⟨hB, bss, hN, hlt, hO, fun i hi => hA i (h i hi)⟩
theorem St.get (hs : St ok0 w0 w Γ Λ) (i : Nat) {it : It} (hi : Γ[i]? = some it) : ∃ ok, it.holds ok w := by
  obtain ⟨hB, bss, hN, hlt, hO, hA⟩ := hs
  exact ⟨_, hA.get i hi⟩
theorem St.int (hs : St ok0 w0 w Γ Λ) (i : Nat) {k : IntKind} {x : Int} {v : Value} (hi : Γ[i]? = some (vl (tInt k) x v)) : v = .int k x := by
  obtain ⟨ok, h⟩ := hs.get i hi
  exact tInt_V.1 h
theorem St.bool (hs : St ok0 w0 w Γ Λ) (i : Nat) {x : Bool} {v : Value} (hi : Γ[i]? = some (vl tBool x v)) : v = .bool x := by
  obtain ⟨ok, h⟩ := hs.get i hi
  exact tBool_V.1 h
theorem St.str (hs : St ok0 w0 w Γ Λ) (i : Nat) {x : List UInt8} {v : Value} (hi : Γ[i]? = some (vl tStr x v)) : v = bstr x := by
  obtain ⟨ok, h⟩ := hs.get i hi
  exact tStr_V.1 h

theorem Own.fn {ok ok' : Nat → Prop} : ∀ {Λ : List LObj} {b1 b2 : List (List Nat)}, Own ok w Λ b1 → Own ok' w Λ b2 → b1 = b2
  | [], [], [], _, _ => rfl
  | o :: Λ, _ :: _, _ :: _, ⟨h, hr⟩, ⟨h', hr'⟩ => by rw [o.fn h h', Own.fn hr hr']
  | [], _ :: _, _, h, _ => h.elim
  | [], [], _ :: _, _, h => h.elim
  | _ :: _, [], _, h, _ => h.elim
  | _ :: _, _ :: _, [], _, h => h.elim
/-- Two readings of one world. -/
theorem St.and (hs : St ok0 w0 w Γ Λ) (hs' : St ok0 w0 w Γ' Λ) : St ok0 w0 w (Γ ++ Γ') Λ := by
  obtain ⟨hB, bss, hN, hlt, hO, hA⟩ := hs
  obtain ⟨_, bss', _, _, hO', hA'⟩ := hs'
  cases hO.fn hO'
  exact ⟨hB, bss, hN, hlt, hO, fun it hi => by
    rcases List.mem_append.1 hi with h | h
    · exact hA it h
    · exact hA' it h⟩

theorem Own.perm {ok : Nat → Prop} {Λ Λ' : List LObj} (hp : Λ.Perm Λ') : ∀ {bss : List (List Nat)}, Own ok w Λ bss → ∃ bss', bss.Perm bss' ∧ Own ok w Λ' bss' := by
  induction hp with
  | nil => exact fun {bss} h => ⟨bss, .refl _, h⟩
  | cons o _ ih =>
    intro bss h
    cases bss with
    | nil => exact h.elim
    | cons bs bss =>
      obtain ⟨bss', hp, h'⟩ := ih h.2
      exact ⟨bs :: bss', hp.cons _, h.1, h'⟩
  | swap o o' Λ =>
    intro bss h
    match bss, h with
    | b1 :: b2 :: bss, ⟨h1, h2, h3⟩ => exact ⟨b2 :: b1 :: bss, .swap _ _ _, h2, h1, h3⟩
  | trans _ _ ih1 ih2 =>
    intro bss h
    obtain ⟨b1, hp1, h1⟩ := ih1 h
    obtain ⟨b2, hp2, h2⟩ := ih2 h1
    exact ⟨b2, hp1.trans hp2, h2⟩
theorem St.perm (hs : St ok0 w0 w Γ Λ) (hp : Λ.Perm Λ') : St ok0 w0 w Γ Λ' := by
  obtain ⟨hB, bss, hN, hlt, hO, hA⟩ := hs
  obtain ⟨b2, hbp, hO2⟩ := hO.perm hp
  have hfl : bss.flatten.Perm b2.flatten := hbp.flatten
  have hm : ∀ b, reg ok0 w0 bss.flatten b → b < w.heap.size → w.heap[b]? = w.heap[b]? ∧ reg ok0 w0 b2.flatten b := fun b hr _ => ⟨rfl, hr.1, fun h => hr.2 (hfl.mem_iff.2 h)⟩
  exact ⟨hB, b2, hfl.nodup hN, fun b hb => hlt b (hfl.mem_iff.2 hb), hO2.move hm fun _ _ => rfl, hA.move hm⟩

def pickL {α : Type _} (is : List Nat) (Γ : List α) : List α := is.filterMap (Γ[·]?)
def maskL {α : Type _} : List Bool → List α → List α
  | true :: m, a :: l => a :: maskL m l
  | false :: m, _ :: l => maskL m l
  | _, _ => []
theorem St.pick (hs : St ok0 w0 w Γ Λ) (is : List Nat) : St ok0 w0 w (pickL is Γ) Λ := hs.sub fun it hi => by
  obtain ⟨i, _, h⟩ := List.mem_filterMap.1 hi
  exact List.mem_of_getElem? h
theorem Own.mask {ok : Nat → Prop} : ∀ (m : List Bool) {Λ : List LObj} {bss : List (List Nat)}, Own ok w Λ bss → ∃ b2, Own ok w (maskL m Λ) b2 ∧ b2.flatten.Sublist bss.flatten
  | [], Λ, bss, h => ⟨[], by cases Λ <;> exact trivial, by simp⟩
  | _ :: _, [], bss, h => ⟨[], by cases bss <;> simp_all [maskL, Own], by simp⟩
  | true :: m, o :: Λ, bs :: bss, ⟨h, hr⟩ => by
    obtain ⟨b2, h2, hs⟩ := Own.mask m hr
    exact ⟨bs :: b2, ⟨h, h2⟩, by rw [List.flatten_cons, List.flatten_cons]; exact (List.Sublist.refl bs).append hs⟩
  | false :: m, o :: Λ, bs :: bss, ⟨h, hr⟩ => by
    obtain ⟨b2, h2, hs⟩ := Own.mask m hr
    exact ⟨b2, h2, by rw [List.flatten_cons]; exact hs.trans (List.sublist_append_right _ _)⟩
  | _ :: _, _ :: _, [], h => h.elim
theorem St.mask (hs : St ok0 w0 w Γ Λ) (m : List Bool) : St ok0 w0 w Γ (maskL m Λ) := by
  obtain ⟨hB, bss, hN, hlt, hO, hA⟩ := hs
  obtain ⟨b2, h2, hsub⟩ := Own.mask m hO
  have hm : ∀ b, reg ok0 w0 bss.flatten b → b < w.heap.size → w.heap[b]? = w.heap[b]? ∧ reg ok0 w0 b2.flatten b := fun b hr _ => ⟨rfl, hr.1, fun h => hr.2 (hsub.subset h)⟩
  exact ⟨hB, b2, hN.sublist hsub, fun b hb => hlt b (hsub.subset hb), h2.move hm fun _ _ => rfl, hA.move hm⟩

/-- What the call owns is from now on only read. -/
theorem St.freeze (hs : St ok0 w0 w Γ Λ) (i : Nat) {o : LObj} {it : It} (hi : Λ[i]? = some o)
    (h : ∀ ok bs, o.H ok bs w → it.holds (fun b => ok b ∨ b ∈ bs) w) : St ok0 w0 w (it :: Γ) (Λ.eraseIdx i) := by
  obtain ⟨hB, bss, hN, hlt, hO, hA⟩ := hs
  obtain ⟨l1, bs, l2, rfl, hl, ho, hput⟩ := Own.split i hO hi
  have hOe : Own (reg ok0 w0 (l1 ++ bs :: l2).flatten) w (Λ.eraseIdx i) (l1 ++ l2) := by
    clear hput hA hlt hN ho
    generalize hr : reg ok0 w0 (l1 ++ bs :: l2).flatten = r at hO
    clear hr
    induction l1 generalizing Λ i with
    | nil =>
      cases Λ with
      | nil => simp at hi
      | cons o' Λ =>
        simp at hl
        subst hl
        exact hO.2
    | cons b l1 ih =>
      cases Λ with
      | nil => simp at hi
      | cons o' Λ =>
        cases i with
        | zero => simp at hl
        | succ i => exact ⟨hO.1, ih i (by simpa using hi) (by simpa using hl) hO.2⟩
  have e : (l1 ++ bs :: l2).flatten = l1.flatten ++ (bs ++ l2.flatten) := by simp
  have e2 : (l1 ++ l2).flatten = l1.flatten ++ l2.flatten := by simp
  have hsub : (l1 ++ l2).flatten.Sublist (l1 ++ bs :: l2).flatten := by
    rw [e, e2]; exact (List.Sublist.refl _).append (List.sublist_append_right _ _)
  have hm : ∀ b, reg ok0 w0 (l1 ++ bs :: l2).flatten b → b < w.heap.size → w.heap[b]? = w.heap[b]? ∧ reg ok0 w0 (l1 ++ l2).flatten b := fun b hr _ => ⟨rfl, hr.1, fun h => hr.2 (hsub.subset h)⟩
  have hbs : ∀ b ∈ bs, reg ok0 w0 (l1 ++ l2).flatten b := by
    intro b hb
    have hb' : b ∈ (l1 ++ bs :: l2).flatten := by rw [e]; simp [hb]
    refine ⟨.inr (hlt b hb').1, fun h => ?_⟩
    rw [e, List.nodup_append, List.nodup_append] at hN
    rw [e2] at h
    rcases List.mem_append.1 h with h | h
    · exact hN.2.2 b h b (by simp [hb]) rfl
    · exact hN.2.1.2.2 b hb b h rfl
  refine ⟨hB, l1 ++ l2, hN.sublist hsub, fun b hb => hlt b (hsub.subset hb), hOe.move hm fun _ _ => rfl, fun it' hi' => ?_⟩
  rcases List.mem_cons.1 hi' with rfl | hi'
  · exact (h _ bs ho).move fun b hb hl => ⟨rfl, hb.elim (fun hb => (hm b hb hl).2) (fun hb => hbs b hb)⟩
  · exact (hA.move hm) it' hi'
end
end Go.Proofs.YtbbeobiampbddaaL
