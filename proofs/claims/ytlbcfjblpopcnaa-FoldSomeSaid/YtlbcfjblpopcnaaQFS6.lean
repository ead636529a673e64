/- What the row leans on, as few texts. -/
import Derived.Test.YtlbcfjblpopcnaaQFS5
import Derived.Test.YtlbcfjblpopcnaaQFS1
set_option linter.unusedVariables false
set_option linter.unusedSimpArgs false
namespace Go.Proofs.Ytlbcfjblpopcnaa
open Go Go.Proofs.YtlbcfjblpopcnaaL
def Ev {α : Type} (P : α → Prop) (o : Option α) : Prop := ∀ a, o = some a → P a
theorem Ev.bind {α β : Type} {P : α → Prop} (Q : β → Prop) {o : Option β} {f : β → Option α} (h1 : Ev Q o) (h2 : ∀ x, Q x → Ev P (f x)) : Ev P (o.bind f) := fun a h => by
  obtain ⟨x, hx, h⟩ := bindE h
  exact h2 x (h1 x hx) a h
theorem Ev.bind' {α β : Type} {P : α → Prop} {o : Option β} {f : β → Option α} (h2 : ∀ x, Ev P (f x)) : Ev P (o.bind f) := Ev.bind (fun _ => True) (fun _ _ => trivial) fun x _ => h2 x
theorem Ev.letV {α β : Type} {P : α → Prop} {e : β} {f : β → Option α} (h : Ev P (f e)) : Ev P (Go.Proofs.YtlbcfjblpopcnaaL.letV e f) := h
theorem Ev.ite {α : Type} {P : α → Prop} {c : Prop} [Decidable c] {a b : Option α} (h1 : Ev P a) (h2 : Ev P b) : Ev P (if c then a else b) := by split <;> assumption
theorem Ev.some {α : Type} {P : α → Prop} {x : α} (h : P x) : Ev P (some x) := fun a e => by injection e with e; rwa [← e]
theorem Ev.none {α : Type} {P : α → Prop} : Ev P none := fun a e => by cases e
def IQ {σ β : Type} (I : σ → Prop) (Q : β → Prop) : σ ⊕ β → Prop
  | .inl s => I s
  | .inr b => Q b
theorem Ev.loop {σ β : Type} {step : σ → Option (σ ⊕ β)} {Q : β → Prop} (I : σ → Prop) {s0 : σ} (h0 : I s0) (hs : ∀ s, I s → Ev (IQ I Q) (step s)) : Ev Q (loopO step s0) := by
  intro b hb
  obtain ⟨n, hn⟩ := loopO_iff.1 hb
  clear hb
  induction n generalizing s0 with
  | zero => cases hn
  | succ n ih =>
    unfold loopN at hn
    have h1 := hs s0 h0
    cases hst : step s0 with
    | none => rw [hst] at hn; cases hn
    | some r =>
      rw [hst] at hn
      have h2 := h1 r hst
      cases r with
      | inl s' => exact ih h2 hn
      | inr b' =>
        have hn : Option.some b' = Option.some b := hn
        injection hn with hn
        rw [← hn]
        exact h2
theorem inr_wrap (x : Int) : inr (IntKind.i64.wrap x) := by
  unfold inr
  simp only [IntKind.wrap, IntKind.bits, IntKind.signed]
  constructor <;> simp <;> omega
theorem Effect_N (n : Int) (b : Bool) : Ev (fun e => inr e.N) (eslaw00_Effect n b) := by
  unfold eslaw00_Effect eslaw00_Effect.j1
  refine Ev.bind' fun _ => Ev.bind' fun _ => Ev.bind' fun _ => Ev.bind' fun _ => Ev.bind' fun d => Ev.letV ?_
  have h := inr_wrap (d - 5)
  have h0 : inr 0 := by unfold inr; decide
  refine Ev.ite (Ev.bind' fun _ => Ev.bind' fun _ => Ev.some h) (Ev.bind' fun _ => Ev.ite (Ev.some h) (Ev.bind' fun _ => Ev.ite (Ev.some h) (Ev.bind' fun _ => Ev.ite (Ev.bind' fun _ => Ev.bind' fun _ => Ev.some h0) (Ev.some h0))))
abbrev EN (l : List api_Effect) : Prop := ∀ e ∈ l, inr e.N
theorem EN_app {bytes : Nat} {l : List api_Effect} {e : api_Effect} (h : EN l) (he : inr e.N) : Ev EN (app bytes l [e]) := fun r hr => by
  unfold app at hr
  obtain ⟨_, hr⟩ := guardE hr
  injection hr with hr
  rw [← hr]
  intro q hq
  rcases List.mem_append.1 hq with hq | hq
  · exact h q hq
  · simp at hq; rw [hq]; exact he
theorem Update_N (c s n : Int) : Ev (fun u => EN u.Effects) (eslaw00_Update c s n) := by
  unfold eslaw00_Update
  refine Ev.bind' fun _ => Ev.ite (Ev.bind' fun _ => Ev.bind _ (Effect_N n true) fun e he => Ev.some ?_) ?_
  · intro q hq
    simp at hq
    rw [hq]; exact he
  · refine Ev.bind EN ?_ fun l hl => Ev.some hl
    refine Ev.loop (fun t => EN t.2) (fun q hq => by simp at hq) ?_
    rintro ⟨i, l⟩ hl
    unfold eslaw00_Update.l1
    refine Ev.bind' fun _ => Ev.ite (Ev.bind' fun x => Ev.letV (Ev.ite (Ev.letV ?_) Ev.none)) (Ev.some hl)
    refine Ev.bind _ (Effect_N _ false) fun e he => Ev.bind _ (EN_app hl he) fun l' hl' => Ev.letV (Ev.some hl')
abbrev UN (s : List api_Update) : Prop := ∀ u ∈ s, EN u.Effects
theorem Updates_N (l : List Int) : Ev UN (eslaw00_Updates l) := by
  unfold eslaw00_Updates
  refine Ev.bind UN ?_ fun s hs => Ev.some hs
  refine Ev.loop (fun t => UN t.1) (fun q hq => by simp at hq) ?_
  rintro ⟨s, c⟩ hs
  unfold eslaw00_Updates.l2
  refine Ev.ite (Ev.bind UN ?_ fun s' hs' => Ev.letV (Ev.some hs')) (Ev.some hs)
  refine Ev.loop (fun t => UN t.1) hs ?_
  rintro ⟨s, q, i⟩ hs
  unfold eslaw00_Updates.l1
  have j3 : ∀ (i : Int) (s' : List api_Update) (q' : Int), UN s' → Ev (IQ (fun t : List api_Update × Int × Int => UN t.1) UN) (eslaw00_Updates.j3 i s' q') := fun i s' q' h => Ev.letV (Ev.some h)
  have j4 : ∀ b, Ev (IQ (fun t : List api_Update × Int × Int => UN t.1) UN) (eslaw00_Updates.j4 l c s q i b) := by
    intro b
    unfold eslaw00_Updates.j4
    refine Ev.ite (Ev.letV (Ev.letV (Ev.bind' fun _ => Ev.bind' fun _ => Ev.letV (Ev.bind _ (Update_N _ _ _) fun u hu => Ev.bind UN ?_ fun s' hs' => j3 _ _ _ hs')))) (j3 _ _ _ hs)
    intro r hr
    unfold app at hr
    obtain ⟨_, hr⟩ := guardE hr
    injection hr with hr
    rw [← hr]
    intro v hv
    rcases List.mem_append.1 hv with hv | hv
    · exact hs v hv
    · simp at hv; rw [hv]; exact hu
  have j5 : ∀ b, Ev (IQ (fun t : List api_Update × Int × Int => UN t.1) UN) (eslaw00_Updates.j5 l c s q i b) := by
    intro b
    unfold eslaw00_Updates.j5
    exact Ev.ite (Ev.bind' fun _ => Ev.bind' fun _ => Ev.ite (j4 _) (j4 _)) (Ev.some hs)
  exact Ev.ite (j5 _) (j5 _)
theorem mem_upd3 {α : Type} {key : α → List UInt8} {k : List UInt8} {g : Option α → α} : ∀ {l : List α} {a : α}, a ∈ upd key k g l → a ∈ l ∨ a = g none ∨ ∃ b ∈ l, a = g (some b)
  | [], a, h => by simp [upd] at h; exact .inr (.inl h)
  | b :: l, a, h => by
    unfold upd at h
    split at h
    · rcases List.mem_cons.1 h with h | h
      · exact .inl (by simp [h])
      · rcases mem_upd3 h with h | h | ⟨c, hc, h⟩
        · exact .inl (by simp [h])
        · exact .inr (.inl h)
        · exact .inr (.inr ⟨c, by simp [hc], h⟩)
    · split at h
      · rcases List.mem_cons.1 h with h | h
        · exact .inr (.inr ⟨b, by simp, h⟩)
        · exact .inl (by simp [h])
      · rcases List.mem_cons.1 h with h | h
        · exact .inr (.inl h)
        · exact .inl h
theorem RF_upd {u : api_Update} {e : api_Effect} {f : fold_Field} (h : RF f) (he : inr e.N) : RF (updF u e f) := by
  unfold updF
  split
  · split
    · exact ⟨he, h.max, h.sum⟩
    · exact h
  · split
    · split
      · exact ⟨h.reg, he, h.sum⟩
      · exact h
    · split
      · exact ⟨h.reg, h.max, inr_wrap _⟩
      · split
        · exact ⟨h.reg, h.max, h.sum⟩
        · split
          · exact ⟨h.reg, h.max, h.sum⟩
          · exact h
theorem RF_zero : RF fold_zero := by
  have h0 : inr 0 := by unfold inr; decide
  exact ⟨h0, h0, h0⟩
theorem RF_named {f : fold_Field} (h : RF f) (k : List UInt8) : RF { f with Name := k } := ⟨h.reg, h.max, h.sum⟩
abbrev OF (objs : List fold_Object) : Prop := ∀ o ∈ objs, ∀ y ∈ o.Fields, RF y
theorem OF_eff {u : api_Update} {e : api_Effect} {objs : List fold_Object} (h : OF objs) (he : inr e.N) : OF (effT u objs e) := by
  intro o ho
  have fl : ∀ fs : List fold_Field, (∀ y ∈ fs, RF y) → ∀ y ∈ upd FN_ e.Field (inFld u e) fs, RF y := by
    intro fs hfs y hy
    rcases mem_upd3 hy with hy | hy | ⟨b, hb, hy⟩
    · exact hfs y hy
    · rw [hy]; exact RF_upd (RF_named RF_zero _) he
    · rw [hy]; exact RF_upd (RF_named (hfs b hb) _) he
  unfold effT at ho
  rcases mem_upd3 ho with ho | ho | ⟨b, hb, ho⟩
  · exact h o ho
  · rw [ho]; exact fl [] (by simp)
  · rw [ho]; exact fl b.Fields (h b hb)
theorem OF_app {u : api_Update} : ∀ (es : List api_Effect) {objs : List fold_Object}, EN es → OF objs → OF (es.foldl (effT u) objs)
  | [], _, _, h => h
  | e :: es, objs, he, h => OF_app es (fun q hq => he q (by simp [hq])) (OF_eff h (he e (by simp)))
theorem OF_fold : ∀ (s : List api_Update) {objs : List fold_Object}, UN s → OF objs → OF (foldT s objs)
  | [], _, _, h => h
  | u :: s, objs, hu, h => OF_fold s (fun q hq => hu q (by simp [hq])) (OF_app u.Effects (hu u (by simp)) h)
theorem foldSome_true (x1 : List Int) (x4 : Int) : eslaw30_FoldSome x1 x4 = some true := by
  unfold eslaw30_FoldSome
  obtain ⟨s, e1, h1⟩ := Updates_ex x1
  have hun := Updates_N x1 s e1
  rw [e1, Option.bind_some]
  obtain ⟨p, e2⟩ := Some_ex h1 x4
  rw [e2, Option.bind_some]
  have h2 : US 3 0 (s.filter p) := US_sub h1 List.filter_sublist
  obtain ⟨e3, g⟩ := made_fold h2
  have hl2 := h2.len
  have hN2 := US_effN h2
  have e4 := rFold_eq (s := s.filter p) (fun u hu => (h2.ok u hu).ef) (by omega) (by omega)
  have hof : OF (foldT (s.filter p) []) := OF_fold _ (fun u hu => hun u (List.mem_filter.1 hu).1) (fun o ho => by simp at ho)
  rw [e3, Option.bind_some, e4, Option.bind_some, rEqual_refl (t := ⟨foldT (s.filter p) []⟩) g (by decide), Option.bind_some, if_pos rfl, rHash_eq (t := ⟨foldT (s.filter p) []⟩) g (by decide) hof, Hash_eq (t := ⟨foldT (s.filter p) []⟩) g (by decide), Option.bind_some, Option.bind_some, if_pos (by simp), awake_true]
  rfl
end Go.Proofs.Ytlbcfjblpopcnaa
