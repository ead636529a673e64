/- A map of maps whose values hold slices of strings that are the call's own too (all of it is one object). -/
import Derived.Test.YtbbeobiampbddaaLz
set_option linter.unusedVariables false
set_option linter.unusedSimpArgs false
namespace Go.Proofs.YtbbeobiampbddaaL
open Go Go.RowKit
/-- How a value of the inner maps lies: its cells, by its content and the slice's header. -/
structure FK (φ : Type) where
  n : Nat
  E : TypeId
  fc : φ → Value → List Value
  fe : φ → List (List UInt8)
  nm : φ → List UInt8
  inj : ∀ {x v x' v'}, fc x v = fc x' v' → v = v'
def fpV (v : Value) : List Nat := if slCap v = 0 then [] else v.ownBlock.toList
theorem own_fp {α : Type} {T : Ty α} {E : TypeId} {v : Value} {xs : List α} {ok : Nat → Prop} {bs : List Nat} {w : World} (h : (own T E v xs).H ok bs w) : bs = fpV v := by
  unfold fpV
  rcases h with ⟨h0, h1, _⟩ | ⟨h0, _, h1, _⟩
  · rw [if_pos h0, h1]
  · rw [if_neg (by omega), h1]
theorem Ents.inj_ {κ β : Type} {kv : κ → Value} {V : Ty β} {ok ok' : Nat → Prop} {w : World} (hk : ∀ {a b}, kv a = kv b → a = b) (hV : ∀ {x y v}, V.V ok w x v → V.V ok' w y v → x = y) :
    ∀ {l l' : List (κ × β)} {es : List MapEntry}, Ents kv V ok w l es → Ents kv V ok' w l' es → l = l'
  | [], [], [], _, _ => rfl
  | x :: l, y :: l', e :: es, ⟨h1, h2, h3⟩, ⟨k1, k2, k3⟩ => by
    have e1 : x.1 = y.1 := hk (h1.symm.trans k1)
    have e2 : x.2 = y.2 := hV h2 k2
    rw [Ents.inj_ hk hV h3 k3, Prod.ext e1 e2]
  | [], _ :: _, [], _, h => h.elim
  | [], _, _ :: _, h, _ => h.elim
  | _ :: _, _, [], h, _ => h.elim
  | _ :: _, [], _ :: _, _, h => h.elim
theorem bstr_inj {a b : List UInt8} (h : bstr a = bstr b) : a = b := by
  unfold bstr at h
  have := Value.string.inj h
  simpa using this
section
variable {φ : Type} (K : FK φ)
abbrev BE (φ : Type) := List UInt8 × Nat × List (φ × Value)
def inP (o : BE φ) : List (LObj × List Nat) := (mapo bstr (tRaw K.n) o.2.1 (o.2.2.map fun e => (K.nm e.1, K.fc e.1 e.2)), [o.2.1]) :: o.2.2.map fun e => (own tStr K.E e.2 (K.fe e.1), fpV e.2)
def bldP (g : Nat) (b : List (BE φ)) : List (LObj × List Nat) := (mapo bstr tCell g (b.map fun o => (o.1, Value.map (some o.2.1))), [g]) :: b.flatMap (inP K)
def bldL (g : Nat) (b : List (BE φ)) : List LObj := (bldP K g b).map (·.1)
def cont (b : List (BE φ)) : List (List UInt8 × List φ) := b.map fun o => (o.1, o.2.2.map (·.1))
theorem Own.eqs {ok : Nat → Prop} {w : World} : ∀ {L : List (LObj × List Nat)} {bss : List (List Nat)}, (∀ p ∈ L, ∀ ok bs w, p.1.H ok bs w → bs = p.2) → Own ok w (L.map (·.1)) bss → bss = L.map (·.2)
  | [], [], _, _ => rfl
  | p :: L, bs :: bss, h, ⟨h1, h2⟩ => by
    rw [List.map_cons, h p (by simp) _ _ _ h1, Own.eqs (fun q hq => h q (by simp [hq])) h2]
  | [], _ :: _, _, h => h.elim
  | _ :: _, [], _, h => h.elim
theorem Own.mem {ok : Nat → Prop} {w : World} : ∀ {L : List (LObj × List Nat)} {bss : List (List Nat)}, Own ok w (L.map (·.1)) bss → ∀ p ∈ L, ∃ bs, p.1.H ok bs w
  | [], _, _, p, hp => by simp at hp
  | q :: L, bs :: bss, ⟨h1, h2⟩, p, hp => by
    rcases List.mem_cons.1 hp with rfl | hp
    · exact ⟨bs, h1⟩
    · exact Own.mem h2 p hp
  | _ :: _, [], h, _, _ => h.elim
theorem bldP_fp (g : Nat) (b : List (BE φ)) : ∀ p ∈ bldP K g b, ∀ ok bs w, p.1.H ok bs w → bs = p.2 := by
  intro p hp ok bs w h
  unfold bldP at hp
  rcases List.mem_cons.1 hp with rfl | hp
  · exact h.1
  · obtain ⟨o, _, ho⟩ := List.mem_flatMap.1 hp
    unfold inP at ho
    rcases List.mem_cons.1 ho with rfl | ho
    · exact h.1
    · obtain ⟨e, _, rfl⟩ := List.mem_map.1 ho
      exact own_fp h
theorem mapo_inj {β : Type} {V : Ty β} {g : Nat} {l l' : List (List UInt8 × β)} {ok ok' : Nat → Prop} {bs bs' : List Nat} {w : World} (hV : ∀ {x y v}, V.V ok w x v → V.V ok' w y v → x = y) (h : (mapo bstr V g l).H ok bs w) (h' : (mapo bstr V g l').H ok' bs' w) : l = l' := by
  obtain ⟨_, es, c, h1, h2, _⟩ := h
  obtain ⟨_, es', c', k1, k2, _⟩ := h'
  rw [h1] at k1
  cases k1
  exact Ents.inj_ bstr_inj hV h2 k2
theorem inP_fps {ok ok' : Nat → Prop} {w : World} : ∀ (b b' : List (BE φ)), (b.map fun o => (o.1, Value.map (some o.2.1))) = (b'.map fun o => (o.1, Value.map (some o.2.1))) →
    (∀ o ∈ b, ∃ bs, (mapo bstr (tRaw K.n) o.2.1 (o.2.2.map fun e => (K.nm e.1, K.fc e.1 e.2))).H ok bs w) → (∀ o ∈ b', ∃ bs, (mapo bstr (tRaw K.n) o.2.1 (o.2.2.map fun e => (K.nm e.1, K.fc e.1 e.2))).H ok' bs w) →
    (b.flatMap (inP K)).map (·.2) = (b'.flatMap (inP K)).map (·.2)
  | [], [], _, _, _ => rfl
  | o :: b, o' :: b', he, h, h' => by
    rw [List.map_cons, List.map_cons] at he
    have e1 := (List.cons.inj he).1
    have e2 := (List.cons.inj he).2
    have eid : o.2.1 = o'.2.1 := by
      have := congrArg Prod.snd e1
      simpa using this
    obtain ⟨bs, hb⟩ := h o (by simp)
    obtain ⟨bs', hb'⟩ := h' o' (by simp)
    rw [eid] at hb
    have el := mapo_inj (fun {x y v} hx hy => by
      have a := (tRaw_V.1 hx).1
      have c := (tRaw_V.1 hy).1
      rw [a] at c
      have := Value.agg.inj c
      simpa using this) hb hb'
    have ev : o.2.2.map (fun e => fpV e.2) = o'.2.2.map (fun e => fpV e.2) := by
      have : o.2.2.map (fun e => e.2) = o'.2.2.map (fun e => e.2) := by
        have key : ∀ (l l' : List (φ × Value)), (l.map fun e => (K.nm e.1, K.fc e.1 e.2)) = (l'.map fun e => (K.nm e.1, K.fc e.1 e.2)) → l.map (fun e => e.2) = l'.map (fun e => e.2) := by
          intro l
          induction l with
          | nil => intro l' hl; cases l' with
            | nil => rfl
            | cons a t => simp at hl
          | cons a t ih => intro l' hl; cases l' with
            | nil => simp at hl
            | cons a' t' =>
              rw [List.map_cons, List.map_cons] at hl
              have q1 := (List.cons.inj hl).1
              have q2 := (List.cons.inj hl).2
              rw [List.map_cons, List.map_cons, ih t' q2, K.inj (congrArg Prod.snd q1)]
        exact key _ _ el
      have := congrArg (List.map fpV) this
      rw [List.map_map, List.map_map] at this
      exact this
    have ih := inP_fps b b' e2 (fun q hq => h q (by simp [hq])) (fun q hq => h' q (by simp [hq]))
    rw [List.flatMap_cons, List.flatMap_cons, List.map_append, List.map_append, ih]
    unfold inP
    simp only [List.map_cons, List.map_map]
    rw [eid]
    congr 2
  | [], _ :: _, he, _, _ => by simp at he
  | _ :: _, [], he, _, _ => by simp at he
/-- The whole of it, and what is known of where it lies. -/
def bldc (C : List (BE φ) → Prop) (g : Nat) (x : List (List UInt8 × List φ)) : LObj where
  H := fun ok bs w => ∃ (b : List (BE φ)) (bss : List (List Nat)), (C b ∧ cont b = x) ∧ bs = bss.flatten ∧ bss.flatten.Nodup ∧ Own ok w (bldL K g b) bss
  fn := by
    rintro ok ok' bs bs' w ⟨b, bss, _, rfl, _, h⟩ ⟨b', bss', _, rfl, _, h'⟩
    have e1 := Own.eqs (bldP_fp K g b) h
    have e2 := Own.eqs (bldP_fp K g b') h'
    have m1 := Own.mem h
    have m2 := Own.mem h'
    rw [e1, e2]
    congr 1
    obtain ⟨_, q1⟩ := m1 _ (List.mem_cons_self ..)
    obtain ⟨_, q2⟩ := m2 _ (List.mem_cons_self ..)
    have el := mapo_inj (fun {x y v} hx hy => (tCell_V.1 hx).1.symm.trans (tCell_V.1 hy).1) q1 q2
    have key := inP_fps (ok := ok) (ok' := ok') (w := w) K b b' el (fun o ho => ?_) (fun o ho => ?_)
    · show [g] :: (b.flatMap (inP K)).map (·.2) = [g] :: (b'.flatMap (inP K)).map (·.2)
      rw [key]
    · exact m1 (mapo bstr (tRaw K.n) o.2.1 (o.2.2.map fun e => (K.nm e.1, K.fc e.1 e.2)), [o.2.1]) (List.mem_cons_of_mem _ (List.mem_flatMap.2 ⟨o, ho, List.mem_cons_self ..⟩))
    · exact m2 (mapo bstr (tRaw K.n) o.2.1 (o.2.2.map fun e => (K.nm e.1, K.fc e.1 e.2)), [o.2.1]) (List.mem_cons_of_mem _ (List.mem_flatMap.2 ⟨o, ho, List.mem_cons_self ..⟩))
  lt := by
    rintro ok bs w ⟨b, bss, _, rfl, _, h⟩ k hk
    exact h.lt k hk
  move := by
    rintro ok ok' bs w w' ⟨b, bss, hc, rfl, hn, h⟩ hk hm
    exact ⟨b, bss, hc, rfl, hn, h.move hm hk⟩
/-- The whole of it. -/
abbrev bldo (g : Nat) (x : List (List UInt8 × List φ)) : LObj := bldc K (fun _ => True) g x
/-- An inner map that is known. -/
def At (k : List UInt8) (gi : Nat) (b : List (BE φ)) : Prop := (b.map fun o => (o.1, Value.map (some o.2.1))).lookup k = some (Value.map (some gi))
theorem Own.both {ok : Nat → Prop} {w : World} : ∀ {A B : List LObj} {a b : List (List Nat)}, Own ok w A a → Own ok w B b → Own ok w (A ++ B) (a ++ b)
  | [], _, [], _, _, h => h
  | _ :: _, _, _ :: _, _, ⟨h1, h2⟩, h => ⟨h1, Own.both h2 h⟩
  | [], _, _ :: _, _, h, _ => h.elim
  | _ :: _, _, [], _, h, _ => h.elim
theorem Own.part {ok : Nat → Prop} {w : World} : ∀ {A B : List LObj} {c : List (List Nat)}, Own ok w (A ++ B) c → ∃ a b, c = a ++ b ∧ Own ok w A a ∧ Own ok w B b
  | [], _, c, h => ⟨[], c, rfl, trivial, h⟩
  | _ :: A, B, bs :: c, ⟨h1, h2⟩ => by
    obtain ⟨a, b, rfl, ha, hb⟩ := Own.part h2
    exact ⟨bs :: a, b, rfl, ⟨h1, ha⟩, hb⟩
  | _ :: _, _, [], h => h.elim
variable {w : World} {w0 : Base} {ok0 : Nat → Prop} {Γ : List It} {Λ : List LObj} {g : Nat} {x : List (List UInt8 × List φ)} {b : List (BE φ)} {C : List (BE φ) → Prop}
theorem St.bldOpen (hs : St ok0 w0 w Γ (bldc K C g x :: Λ)) : ∃ b, (C b ∧ cont b = x) ∧ St ok0 w0 w Γ (bldL K g b ++ Λ) := by
  obtain ⟨hB, bss, hN, hlt, hO, hA⟩ := hs
  match bss, hO with
  | [], h => exact h.elim
  | bs :: bss, hO =>
    obtain ⟨⟨b, bs1, hc, e0, hn, h1⟩, h2⟩ := hO
    subst e0
    have e : (bs1 ++ bss).flatten = (bs1.flatten :: bss).flatten := by simp
    exact ⟨b, hc, hB, bs1 ++ bss, by rw [e]; exact hN, by rw [e]; exact hlt, by rw [e]; exact Own.both h1 h2, by rw [e]; exact hA⟩
theorem St.bldClose (hs : St ok0 w0 w Γ (bldL K g b ++ Λ)) (hC : C b) (hc : cont b = x) : St ok0 w0 w Γ (bldc K C g x :: Λ) := by
  obtain ⟨hB, bss, hN, hlt, hO, hA⟩ := hs
  obtain ⟨a, c, rfl, ha, hcc⟩ := Own.part hO
  have e : (a.flatten :: c).flatten = (a ++ c).flatten := by simp
  refine ⟨hB, a.flatten :: c, by rw [e]; exact hN, by rw [e]; exact hlt, ⟨⟨b, a, ⟨hC, hc⟩, rfl, ?_, by rw [e]; exact ha⟩, by rw [e]; exact hcc⟩, by rw [e]; exact hA⟩
  rw [List.flatten_append] at hN
  exact (List.nodup_append.1 hN).1
/-- The outer map. -/
def outL (b : List (BE φ)) : List (List UInt8 × Value) := b.map fun o => (o.1, Value.map (some o.2.1))
/-- One of the inner maps, and what its values hold. -/
def inL (o : BE φ) : List LObj := (inP K o).map (·.1)
/-- All but the outer map. -/
def restL (b : List (BE φ)) : List LObj := (b.flatMap (inP K)).map (·.1)
theorem bldL_eq (b : List (BE φ)) : bldL K g b = mapo bstr tCell g (outL b) :: restL K b := rfl
theorem restL_perm (b1 b2 : List (BE φ)) (o : BE φ) : (restL K (b1 ++ o :: b2)).Perm (inL K o ++ restL K (b1 ++ b2)) := by
  unfold restL inL
  rw [List.flatMap_append, List.flatMap_cons, List.flatMap_append, List.map_append, List.map_append, List.map_append]
  exact List.perm_append_comm_assoc _ _ _
/-- Where a name is found. -/
theorem cont_at {b : List (BE φ)} {k : List UInt8} {fs : List φ} (h : (cont b).lookup k = some fs) : ∃ b1 o b2, b = b1 ++ o :: b2 ∧ o.1 = k ∧ o.2.2.map (·.1) = fs ∧ (outL b).lookup k = some (Value.map (some o.2.1)) ∧ ∀ q ∈ b1, q.1 ≠ k := by
  induction b with
  | nil => simp [cont] at h
  | cons o b ih =>
    unfold cont at h
    rw [List.map_cons, List.lookup_cons] at h
    cases hk : k == o.1 with
    | true =>
      rw [hk] at h
      have e : k = o.1 := by simpa using hk
      refine ⟨[], o, b, rfl, e.symm, by simpa using h, ?_, by simp⟩
      unfold outL
      rw [List.map_cons, List.lookup_cons, hk]
    | false =>
      rw [hk] at h
      obtain ⟨b1, q, b2, rfl, h1, h2, h3, h4⟩ := ih h
      refine ⟨o :: b1, q, b2, rfl, h1, h2, ?_, fun r hr => ?_⟩
      · unfold outL at h3 ⊢
        rw [List.map_cons, List.lookup_cons, hk]
        exact h3
      · rcases List.mem_cons.1 hr with rfl | hr
        · intro e
          rw [e] at hk
          simp at hk
        · exact h4 r hr
theorem cont_none {b : List (BE φ)} {k : List UInt8} (h : (cont b).lookup k = none) : (outL b).lookup k = none := by
  induction b with
  | nil => rfl
  | cons o b ih =>
    unfold cont at h
    unfold outL
    rw [List.map_cons, List.lookup_cons] at h ⊢
    cases hk : k == o.1 with
    | true => rw [hk] at h; simp at h
    | false =>
      rw [hk] at h
      exact ih h
variable {P : Program} {N : Nat} {Q : QE} {ρ : Env} {d : Option Tmp} {ty : TypeId} {pos : String} {aft : Array Edge} {gd : Option (Nat × Bool)} {ops : Array Oper} {rest : List Oper}
/-- A name looked up: nothing, or one of the inner maps. -/
theorem WL.bldLook {t kt et : TypeId} {m xo : Operand} {k : List UInt8} (hs : St ok0 w0 w Γ (bldc K C g x :: Λ)) (hk : KK P kt bstr) (ht : P.underlying t = some (.map kt et)) (hm : ρ.ev m = .map (some g)) (hx : ρ.ev xo = bstr k) (hz : ∀ w, (zeroValue et).run P w = .ok (.map none) w)
    (K0 : x.lookup k = none → St ok0 w0 w Γ (bldc K C g x :: Λ) → WL P N ops Q rest (putE ρ d (.map none)) w)
    (K1 : ∀ fs gi, x.lookup k = some fs → St ok0 w0 w Γ (bldc K (At k gi) g x :: Λ) → WL P N ops Q rest (putE ρ d (.map (some gi))) w)
    (hg : wantedE ops ρ ⟨d, .lookup t m xo false, ty, pos, aft, gd⟩ = true := by rfl) (hd : fits N d = true := by rfl) :
    WL P N ops Q (⟨d, .lookup t m xo false, ty, pos, aft, gd⟩ :: rest) ρ w := by
  obtain ⟨b, ⟨hC, hc⟩, h1⟩ := hs.bldOpen
  have h2 : St ok0 w0 w Γ (mapo bstr tCell g (outL b) :: (restL K b ++ Λ)) := h1
  refine WL.lookup (V := tCell) (z0 := Value.map none) h2 0 rfl hk ht hm hx hz (fun _ _ => tCell_V.2 ⟨rfl, rfl⟩) rfl (fun v h3 => ?_) hg hd
  have hv := h3.cellv 0 rfl
  have h4 : St ok0 w0 w Γ (bldL K g b ++ Λ) := h3.sub fun it hi => List.mem_cons_of_mem _ hi
  subst hc
  cases hl : (cont b).lookup k with
  | none =>
    rw [cont_none hl] at hv
    rw [hv]
    exact K0 hl hs
  | some fs =>
    obtain ⟨b1, o, b2, rfl, e1, e2, e3, e4⟩ := cont_at hl
    rw [e3] at hv
    rw [hv]
    exact K1 fs o.2.1 hl (St.bldClose (K := K) (C := At k o.2.1) h4 e3 rfl)
theorem mset_none {κ β : Type} [BEq κ] {k : κ} {y : β} : ∀ {l : List (κ × β)}, l.lookup k = none → mset l k y = l ++ [(k, y)]
  | [], _ => rfl
  | e :: l, h => by
    rw [List.lookup_cons] at h
    cases hk : k == e.1 with
    | true => rw [hk] at h; simp at h
    | false =>
      rw [hk] at h
      rw [mset, hk, if_neg (by simp), mset_none h]
      rfl
theorem at_snoc {b : List (BE φ)} {k : List UInt8} {gi : Nat} {l : List (φ × Value)} (h : (outL b).lookup k = none) : At k gi (b ++ [(k, gi, l)]) := by
  induction b with
  | nil =>
    show List.lookup k [(k, Value.map (some gi))] = _
    rw [List.lookup_cons]
    simp
  | cons o b ih =>
    unfold outL at h
    rw [List.map_cons, List.lookup_cons] at h
    unfold At
    rw [List.cons_append, List.map_cons, List.lookup_cons]
    cases hk : k == o.1 with
    | true => rw [hk] at h; simp at h
    | false =>
      rw [hk] at h
      exact ih h
/-- A new inner map put in under a name that is not there. -/
theorem WL.bldPut {t kt et : TypeId} {m xo u : Operand} {k : List UInt8} {gi : Nat} (hs : St ok0 w0 w Γ (mapo bstr (tRaw K.n) gi [] :: bldc K C g x :: Λ)) (hk : KK P kt bstr) (ht : P.underlying t = some (.map kt et)) (hm : ρ.ev m = .map (some g)) (hx : ρ.ev xo = bstr k) (hu : ρ.ev u = .map (some gi)) (hn : x.lookup k = none)
    (K1 : ∀ w', St ok0 w0 w' Γ (bldc K (At k gi) g (x ++ [(k, [])]) :: Λ) → WL P N ops Q rest (putE ρ d undef) w')
    (hg : wantedE ops ρ ⟨d, .mapUpdate t m xo u, ty, pos, aft, gd⟩ = true := by rfl) (hd : fits N d = true := by rfl) :
    WL P N ops Q (⟨d, .mapUpdate t m xo u, ty, pos, aft, gd⟩ :: rest) ρ w := by
  obtain ⟨b, ⟨hC, hc⟩, h1⟩ := (hs.perm (List.Perm.swap _ _ _)).bldOpen
  subst hc
  have h2 : St ok0 w0 w Γ (mapo bstr tCell g (outL b) :: (restL K b ++ (mapo bstr (tRaw K.n) gi [] :: Λ))) := h1
  refine WL.mapUpdate (V := tCell) (y := Value.map (some gi)) h2 0 rfl hk ht hm hx hu (fun _ _ => tCell_V.2 ⟨rfl, rfl⟩) (mset_none (cont_none hn)) (fun w' h3 => ?_) hg hd
  refine K1 w' (St.bldClose (K := K) (b := b ++ [(k, gi, [])]) ?_ (at_snoc (cont_none hn)) (by unfold cont; rw [List.map_append]; rfl))
  have e1 : bldL K g (b ++ [(k, gi, [])]) = mapo bstr tCell g (outL b ++ [(k, Value.map (some gi))]) :: (restL K b ++ [mapo bstr (tRaw K.n) gi []]) := by
    rw [bldL_eq]
    unfold outL restL
    rw [List.map_append, List.flatMap_append, List.map_append]
    rfl
  rw [e1, List.cons_append, List.append_assoc]
  exact h3
theorem Own.same {ok ok' : Nat → Prop} : ∀ {R : List LObj} {a b : List (List Nat)}, Own ok w R a → Own ok' w R b → a = b
  | [], [], [], _, _ => rfl
  | o :: R, x :: a, y :: b, ⟨h1, h2⟩, ⟨k1, k2⟩ => by rw [o.fn h1 k1, Own.same h2 k2]
  | [], _ :: _, _, h, _ => h.elim
  | [], [], _ :: _, _, h => h.elim
  | _ :: _, [], _, h, _ => h.elim
  | _ :: _, _ :: _, [], _, h => h.elim
/-- Some objects as one. -/
def allo (R : List LObj) : LObj where
  H := fun ok bs w => ∃ bss : List (List Nat), bs = bss.flatten ∧ bss.flatten.Nodup ∧ Own ok w R bss
  fn := by
    rintro ok ok' bs bs' w ⟨a, rfl, _, h⟩ ⟨b, rfl, _, h'⟩
    rw [Own.same h h']
  lt := by
    rintro ok bs w ⟨a, rfl, _, h⟩ k hk
    exact h.lt k hk
  move := by
    rintro ok ok' bs w w' ⟨a, rfl, hn, h⟩ hk hm
    exact ⟨a, rfl, hn, h.move hm hk⟩
theorem St.allOpen {R : List LObj} (hs : St ok0 w0 w Γ (allo R :: Λ)) : St ok0 w0 w Γ (R ++ Λ) := by
  obtain ⟨hB, bss, hN, hlt, hO, hA⟩ := hs
  match bss, hO with
  | [], h => exact h.elim
  | bs :: bss, hO =>
    obtain ⟨⟨bs1, e0, hn, h1⟩, h2⟩ := hO
    subst e0
    have e : (bs1 ++ bss).flatten = (bs1.flatten :: bss).flatten := by simp
    exact ⟨hB, bs1 ++ bss, by rw [e]; exact hN, by rw [e]; exact hlt, by rw [e]; exact Own.both h1 h2, by rw [e]; exact hA⟩
theorem St.allClose {R : List LObj} (hs : St ok0 w0 w Γ (R ++ Λ)) : St ok0 w0 w Γ (allo R :: Λ) := by
  obtain ⟨hB, bss, hN, hlt, hO, hA⟩ := hs
  obtain ⟨a, c, rfl, ha, hcc⟩ := Own.part hO
  have e : (a.flatten :: c).flatten = (a ++ c).flatten := by simp
  refine ⟨hB, a.flatten :: c, by rw [e]; exact hN, by rw [e]; exact hlt, ⟨⟨a, rfl, ?_, by rw [e]; exact ha⟩, by rw [e]; exact hcc⟩, by rw [e]; exact hA⟩
  rw [List.flatten_append] at hN
  exact (List.nodup_append.1 hN).1
/-- Where a value of an inner map is: all around it. -/
structure Hole (φ : Type) where
  b1 : List (BE φ)
  k : List UInt8
  gi : Nat
  f1 : List (φ × Value)
  y : φ
  v : Value
  f2 : List (φ × Value)
  b2 : List (BE φ)
def Hole.all {φ : Type} (h : Hole φ) : List (BE φ) := h.b1 ++ (h.k, h.gi, h.f1 ++ (h.y, h.v) :: h.f2) :: h.b2
def Hole.put {φ : Type} (h : Hole φ) (y : φ) (v : Value) : Hole φ := { h with y := y, v := v }
def ents (l : List (φ × Value)) : List (List UInt8 × List Value) := l.map fun e => (K.nm e.1, K.fc e.1 e.2)
def owns (l : List (φ × Value)) : List LObj := l.map fun e => own tStr K.E e.2 (K.fe e.1)
/-- All but the slice of the value. -/
def holeL (g : Nat) (h : Hole φ) : List LObj := mapo bstr tCell g (outL h.all) :: mapo bstr (tRaw K.n) h.gi (ents K (h.f1 ++ (h.y, h.v) :: h.f2)) :: (owns K (h.f1 ++ h.f2) ++ restL K (h.b1 ++ h.b2))
theorem hole_perm (g : Nat) (h : Hole φ) : (bldL K g h.all).Perm (own tStr K.E h.v (K.fe h.y) :: holeL K g h) := by
  rw [bldL_eq]
  unfold holeL
  have e1 : inL K (h.k, h.gi, h.f1 ++ (h.y, h.v) :: h.f2) = mapo bstr (tRaw K.n) h.gi (ents K (h.f1 ++ (h.y, h.v) :: h.f2)) :: owns K (h.f1 ++ (h.y, h.v) :: h.f2) := by
    unfold inL inP ents owns
    rw [List.map_cons, List.map_map]
    rfl
  have p1 : (restL K h.all).Perm (inL K (h.k, h.gi, h.f1 ++ (h.y, h.v) :: h.f2) ++ restL K (h.b1 ++ h.b2)) := restL_perm K h.b1 h.b2 _
  have p2 : (owns K (h.f1 ++ (h.y, h.v) :: h.f2)).Perm (own tStr K.E h.v (K.fe h.y) :: owns K (h.f1 ++ h.f2)) := by
    unfold owns
    rw [List.map_append, List.map_cons, List.map_append]
    exact List.perm_middle
  rw [e1] at p1
  refine (List.Perm.cons _ p1).trans ?_
  rw [List.cons_append]
  refine (List.Perm.cons _ (List.Perm.cons _ (p2.append_right _))).trans ?_
  rw [List.cons_append]
  refine (List.Perm.cons _ (List.Perm.swap _ _ _)).trans ?_
  exact List.Perm.swap _ _ _
theorem ents_at {l : List (φ × Value)} {f : List UInt8} {y : φ} (h : (l.map (·.1)).find? (fun q => f == K.nm q) = some y) : ∃ f1 v f2, l = f1 ++ (y, v) :: f2 ∧ f = K.nm y ∧ (ents K l).lookup f = some (K.fc y v) ∧ ∀ e ∈ f1, f ≠ K.nm e.1 := by
  induction l with
  | nil => simp at h
  | cons e l ih =>
    rw [List.map_cons, List.find?_cons] at h
    cases hk : f == K.nm e.1 with
    | true =>
      rw [hk] at h
      have e1 : e.1 = y := by simpa using h
      subst e1
      refine ⟨[], e.2, l, rfl, by simpa using hk, ?_, by simp⟩
      unfold ents
      rw [List.map_cons, List.lookup_cons, hk]
    | false =>
      rw [hk] at h
      obtain ⟨f1, v, f2, rfl, h1, h2, h3⟩ := ih h
      refine ⟨e :: f1, v, f2, rfl, h1, ?_, fun q hq => ?_⟩
      · unfold ents at h2 ⊢
        rw [List.map_cons, List.lookup_cons, hk]
        exact h2
      · rcases List.mem_cons.1 hq with rfl | hq
        · intro he; rw [he] at hk; simp at hk
        · exact h3 q hq
theorem ents_none {l : List (φ × Value)} {f : List UInt8} (h : (l.map (·.1)).find? (fun q => f == K.nm q) = none) : (ents K l).lookup f = none := by
  induction l with
  | nil => rfl
  | cons e l ih =>
    rw [List.map_cons, List.find?_cons] at h
    unfold ents
    rw [List.map_cons, List.lookup_cons]
    cases hk : f == K.nm e.1 with
    | true => rw [hk] at h; simp at h
    | false => rw [hk] at h; exact ih h
/-- A value of an inner map looked up: it is taken out, or there is none. -/
theorem WL.bldTake {t kt et : TypeId} {m xo : Operand} {k f : List UInt8} {gi : Nat} {fs : List φ} {z : List Value} (hs : St ok0 w0 w Γ (bldc K (At k gi) g x :: Λ)) (hk : KK P kt bstr) (ht : P.underlying t = some (.map kt et)) (hm : ρ.ev m = .map (some gi)) (hx : ρ.ev xo = bstr f)
    (hz : ∀ w, (zeroValue et).run P w = .ok (.agg z.toArray) w) (hz1 : z.length = K.n) (hz2 : ∀ u ∈ z, u.oneCell' = true) (hl : x.lookup k = some fs)
    (K0 : fs.find? (fun q => f == K.nm q) = none → St ok0 w0 w Γ (bldc K (At k gi) g x :: Λ) → WL P N ops Q rest (putE ρ d (.agg z.toArray)) w)
    (K1 : ∀ h : Hole φ, fs.find? (fun q => f == K.nm q) = some h.y → cont h.all = x → h.k = k → h.gi = gi → f = K.nm h.y → (∀ e ∈ h.f1, f ≠ K.nm e.1) → (∀ q ∈ h.b1, q.1 ≠ k) →
      St ok0 w0 w Γ (own tStr K.E h.v (K.fe h.y) :: allo (holeL K g h) :: Λ) → WL P N ops Q rest (putE ρ d (.agg (K.fc h.y h.v).toArray)) w)
    (hg : wantedE ops ρ ⟨d, .lookup t m xo false, ty, pos, aft, gd⟩ = true := by rfl) (hd : fits N d = true := by rfl) :
    WL P N ops Q (⟨d, .lookup t m xo false, ty, pos, aft, gd⟩ :: rest) ρ w := by
  obtain ⟨b, ⟨hC, hc⟩, h1⟩ := hs.bldOpen
  subst hc
  obtain ⟨b1, o, b2, rfl, e1, e2, e3, e4⟩ := cont_at hl
  obtain ⟨ok_, gi_, l⟩ := o
  simp only at e1 e2 e3
  subst e1
  have eg : gi_ = gi := by
    have : (some (Value.map (some gi_))) = some (Value.map (some gi)) := e3.symm.trans hC
    simpa using this
  subst eg
  have p1 := restL_perm K b1 b2 (ok_, gi_, l)
  have h2 : St ok0 w0 w Γ (mapo bstr (tRaw K.n) gi_ (ents K l) :: mapo bstr tCell g (outL (b1 ++ (ok_, gi_, l) :: b2)) :: (owns K l ++ restL K (b1 ++ b2) ++ Λ)) := by
    refine h1.perm ?_
    rw [bldL_eq, List.cons_append]
    refine (List.Perm.cons _ (p1.append_right _)).trans ?_
    have e5 : inL K (ok_, gi_, l) = mapo bstr (tRaw K.n) gi_ (ents K l) :: owns K l := by
      unfold inL inP ents owns
      rw [List.map_cons, List.map_map]
      rfl
    rw [e5, List.cons_append, List.cons_append]
    exact List.Perm.swap _ _ _
  refine WL.lookup (V := tRaw K.n) (z0 := z) h2 0 rfl hk ht hm hx hz (fun _ _ => tRaw_V.2 ⟨rfl, hz1, hz2⟩) rfl (fun v h3 => ?_) hg hd
  have hv := h3.rawv 0 rfl
  cases hf : fs.find? (fun q => f == K.nm q) with
  | none =>
    rw [← e2] at hf
    rw [ents_none K hf] at hv
    rw [hv]
    rw [e2] at hf
    exact K0 hf hs
  | some y =>
    rw [← e2] at hf
    obtain ⟨f1, v', f2, rfl, q1, q2, q3⟩ := ents_at K hf
    rw [q2] at hv
    rw [hv]
    rw [e2] at hf
    refine K1 ⟨b1, ok_, gi_, f1, y, v', f2, b2⟩ hf rfl rfl rfl q1 q3 e4 ?_
    have h5 := h1.perm ((hole_perm K g ⟨b1, ok_, gi_, f1, y, v', f2, b2⟩).append_right Λ)
    have h6 : St ok0 w0 w Γ (holeL K g ⟨b1, ok_, gi_, f1, y, v', f2, b2⟩ ++ (own tStr K.E v' (K.fe y) :: Λ)) := h5.perm (by
      rw [List.cons_append]
      exact (List.perm_middle).symm)
    exact (h6.allClose).perm (List.Perm.swap _ _ _)
theorem at_hole {h : Hole φ} (hb : ∀ q ∈ h.b1, q.1 ≠ h.k) : At h.k h.gi h.all := by
  obtain ⟨b1, k, gi, f1, y, v, f2, b2⟩ := h
  unfold Hole.all At
  simp only at hb ⊢
  induction b1 with
  | nil =>
    show List.lookup k ((k, Value.map (some gi)) :: _) = _
    rw [List.lookup_cons]
    simp
  | cons q b1 ih =>
    rw [List.cons_append, List.map_cons, List.lookup_cons]
    have : (k == q.1) = false := by
      rw [beq_eq_false_iff_ne]
      exact fun e => hb q (by simp) e.symm
    rw [this]
    exact ih fun r hr => hb r (by simp [hr])
theorem mset_ents {f1 f2 : List (φ × Value)} {y y' : φ} {v v' : Value} (h1 : K.nm y' = K.nm y) (h2 : ∀ e ∈ f1, K.nm y ≠ K.nm e.1) : mset (ents K (f1 ++ (y, v) :: f2)) (K.nm y) (K.fc y' v') = ents K (f1 ++ (y', v') :: f2) := by
  induction f1 with
  | nil =>
    unfold ents
    rw [List.nil_append, List.nil_append, List.map_cons, List.map_cons, mset, if_pos (by simp), h1]
  | cons e f1 ih =>
    unfold ents at ih ⊢
    rw [List.cons_append, List.cons_append, List.map_cons, List.map_cons, mset]
    have : (K.nm y == K.nm e.1) = false := by
      rw [beq_eq_false_iff_ne]
      exact h2 e (by simp)
    rw [this, if_neg (by simp), ih fun q hq => h2 q (by simp [hq])]
/-- A value put back in its place. -/
theorem WL.bldGive {t kt et : TypeId} {m xo u : Operand} {h : Hole φ} {y' : φ} {v' : Value} (hs : St ok0 w0 w Γ (own tStr K.E v' (K.fe y') :: allo (holeL K g h) :: Λ)) (hk : KK P kt bstr) (ht : P.underlying t = some (.map kt et)) (hm : ρ.ev m = .map (some h.gi)) (hx : ρ.ev xo = bstr (K.nm h.y))
    (hu : ρ.ev u = .agg (K.fc y' v').toArray) (hn : K.nm y' = K.nm h.y) (h1 : (K.fc y' v').length = K.n) (h2 : ∀ u ∈ K.fc y' v', u.oneCell' = true) (hb : ∀ q ∈ h.b1, q.1 ≠ h.k) (hf : ∀ e ∈ h.f1, K.nm h.y ≠ K.nm e.1)
    (K1 : ∀ w', St ok0 w0 w' Γ (bldc K (At h.k h.gi) g (cont (h.put y' v').all) :: Λ) → WL P N ops Q rest (putE ρ d undef) w')
    (hg : wantedE ops ρ ⟨d, .mapUpdate t m xo u, ty, pos, aft, gd⟩ = true := by rfl) (hd : fits N d = true := by rfl) :
    WL P N ops Q (⟨d, .mapUpdate t m xo u, ty, pos, aft, gd⟩ :: rest) ρ w := by
  have h3 : St ok0 w0 w Γ (holeL K g h ++ (own tStr K.E v' (K.fe y') :: Λ)) := (hs.perm (List.Perm.swap _ _ _)).allOpen
  have h4 : St ok0 w0 w Γ (mapo bstr tCell g (outL h.all) :: mapo bstr (tRaw K.n) h.gi (ents K (h.f1 ++ (h.y, h.v) :: h.f2)) :: (owns K (h.f1 ++ h.f2) ++ restL K (h.b1 ++ h.b2) ++ (own tStr K.E v' (K.fe y') :: Λ))) := h3
  refine WL.mapUpdate (V := tRaw K.n) (y := K.fc y' v') h4 1 rfl hk ht hm hx hu (fun _ _ => tRaw_V.2 ⟨rfl, h1, h2⟩) (mset_ents K hn hf) (fun w' h5 => ?_) hg hd
  have h6 : St ok0 w0 w' Γ (holeL K g (h.put y' v') ++ (own tStr K.E v' (K.fe y') :: Λ)) := by
    have e : outL (h.put y' v').all = outL h.all := by
      unfold outL Hole.all Hole.put
      simp
    unfold holeL
    rw [e]
    exact h5
  have h7 : St ok0 w0 w' Γ (bldL K g (h.put y' v').all ++ Λ) := h6.perm (by
    refine List.perm_middle.trans ?_
    rw [← List.cons_append]
    exact ((hole_perm K g (h.put y' v')).symm).append_right Λ)
  exact K1 w' (St.bldClose (K := K) h7 (at_hole (h := h.put y' v') hb) rfl)
theorem cont_mset {b1 b2 : List (BE φ)} {k : List UInt8} {gi : Nat} {l l' : List (φ × Value)} (hb : ∀ q ∈ b1, q.1 ≠ k) : cont (b1 ++ (k, gi, l') :: b2) = mset (cont (b1 ++ (k, gi, l) :: b2)) k (l'.map (·.1)) := by
  unfold cont
  induction b1 with
  | nil =>
    rw [List.nil_append, List.nil_append, List.map_cons, List.map_cons, mset, if_pos (by simp)]
  | cons q b1 ih =>
    rw [List.cons_append, List.cons_append, List.map_cons, List.map_cons, mset]
    have : (k == q.1) = false := by
      rw [beq_eq_false_iff_ne]
      exact fun e => hb q (by simp) e.symm
    rw [this, if_neg (by simp), ih fun r hr => hb r (by simp [hr])]
/-- A value put into the values of an inner map: in its place, or behind them. -/
def fput (nm : φ → List UInt8) (y : φ) : List φ → List φ
  | [] => [y]
  | q :: t => if nm y == nm q then y :: t else q :: fput nm y t
theorem fput_none {nm : φ → List UInt8} {y : φ} : ∀ {l : List φ}, l.find? (fun q => nm y == nm q) = none → fput nm y l = l ++ [y]
  | [], _ => rfl
  | q :: t, h => by
    rw [List.find?_cons] at h
    cases hk : nm y == nm q with
    | true => rw [hk] at h; simp at h
    | false => rw [hk] at h; rw [fput, hk, if_neg (by simp), fput_none h]; rfl
theorem fput_at {nm : φ → List UInt8} {y y0 : φ} (hn : nm y = nm y0) : ∀ {f1 : List φ} {f2 : List φ}, (∀ e ∈ f1, nm y0 ≠ nm e) → fput nm y (f1 ++ y0 :: f2) = f1 ++ y :: f2
  | [], _, _ => by rw [List.nil_append, fput, hn, if_pos (by simp)]; rfl
  | q :: f1, f2, h => by
    have : (nm y == nm q) = false := by
      rw [beq_eq_false_iff_ne, hn]
      exact h q (by simp)
    rw [List.cons_append, fput, this, if_neg (by simp), fput_at hn fun e he => h e (by simp [he])]
    rfl
/-- What the content is once a value is put back. -/
theorem hole_cont {h : Hole φ} {y' : φ} {v' : Value} {x : List (List UInt8 × List φ)} {fs : List φ} (hx : cont h.all = x) (hl : x.lookup h.k = some fs) (hn : K.nm y' = K.nm h.y) (hb : ∀ q ∈ h.b1, q.1 ≠ h.k) (hf : ∀ e ∈ h.f1, K.nm h.y ≠ K.nm e.1) :
    cont (h.put y' v').all = mset x h.k (fput K.nm y' fs) := by
  subst hx
  obtain ⟨b1, k, gi, f1, y, v, f2, b2⟩ := h
  simp only [Hole.all, Hole.put] at *
  have hfs : fs = (f1 ++ (y, v) :: f2).map (·.1) := by
    clear hn hf
    induction b1 with
    | nil =>
      unfold cont at hl
      rw [List.nil_append, List.map_cons, List.lookup_cons] at hl
      simp at hl
      rw [← hl]
      simp
    | cons q b1 ih =>
      unfold cont at hl ih
      rw [List.cons_append, List.map_cons, List.lookup_cons] at hl
      have : (k == q.1) = false := by
        rw [beq_eq_false_iff_ne]
        exact fun e => hb q (by simp) e.symm
      rw [this] at hl
      exact ih (fun r hr => hb r (by simp [hr])) hl
  rw [cont_mset (l := f1 ++ (y, v) :: f2) hb, hfs, List.map_append, List.map_append, List.map_cons, List.map_cons, fput_at hn (fun e he => by
    obtain ⟨q, hq, rfl⟩ := List.mem_map.1 he
    exact hf q hq)]
/-- A value put in where there was none. -/
theorem WL.bldAdd {t kt et : TypeId} {m xo u : Operand} {k : List UInt8} {gi : Nat} {fs : List φ} {y' : φ} {v' : Value} (hs : St ok0 w0 w Γ (own tStr K.E v' (K.fe y') :: bldc K (At k gi) g x :: Λ)) (hk : KK P kt bstr) (ht : P.underlying t = some (.map kt et)) (hm : ρ.ev m = .map (some gi)) (hx : ρ.ev xo = bstr (K.nm y'))
    (hu : ρ.ev u = .agg (K.fc y' v').toArray) (h1 : (K.fc y' v').length = K.n) (h2 : ∀ u ∈ K.fc y' v', u.oneCell' = true) (hl : x.lookup k = some fs) (hfn : fs.find? (fun q => K.nm y' == K.nm q) = none)
    (K1 : ∀ w', St ok0 w0 w' Γ (bldc K (At k gi) g (mset x k (fput K.nm y' fs)) :: Λ) → WL P N ops Q rest (putE ρ d undef) w')
    (hg : wantedE ops ρ ⟨d, .mapUpdate t m xo u, ty, pos, aft, gd⟩ = true := by rfl) (hd : fits N d = true := by rfl) :
    WL P N ops Q (⟨d, .mapUpdate t m xo u, ty, pos, aft, gd⟩ :: rest) ρ w := by
  obtain ⟨b, ⟨hC, hc⟩, h3⟩ := (hs.perm (List.Perm.swap _ _ _)).bldOpen
  subst hc
  obtain ⟨b1, o, b2, rfl, e1, e2, e3, e4⟩ := cont_at hl
  obtain ⟨ok_, gi_, l⟩ := o
  simp only at e1 e2 e3
  subst e1
  have eg : gi_ = gi := by
    have : (some (Value.map (some gi_))) = some (Value.map (some gi)) := e3.symm.trans hC
    simpa using this
  subst eg
  have e5 : ∀ l : List (φ × Value), inL K (ok_, gi_, l) = mapo bstr (tRaw K.n) gi_ (ents K l) :: owns K l := fun l => by
    unfold inL inP ents owns
    rw [List.map_cons, List.map_map]
    rfl
  have h4 : St ok0 w0 w Γ (mapo bstr (tRaw K.n) gi_ (ents K l) :: mapo bstr tCell g (outL (b1 ++ (ok_, gi_, l) :: b2)) :: (owns K l ++ restL K (b1 ++ b2) ++ (own tStr K.E v' (K.fe y') :: Λ))) := by
    refine h3.perm ?_
    rw [bldL_eq, List.cons_append]
    refine (List.Perm.cons _ ((restL_perm K b1 b2 (ok_, gi_, l)).append_right _)).trans ?_
    rw [e5, List.cons_append, List.cons_append]
    exact List.Perm.swap _ _ _
  have e6 : ents K l ++ [(K.nm y', K.fc y' v')] = ents K (l ++ [(y', v')]) := by
    unfold ents
    rw [List.map_append]
    rfl
  refine WL.mapUpdate (V := tRaw K.n) (y := K.fc y' v') h4 0 rfl hk ht hm hx hu (fun _ _ => tRaw_V.2 ⟨rfl, h1, h2⟩) ((mset_none (ents_none K (by rw [e2]; exact hfn))).trans e6) (fun w' h5 => ?_) hg hd
  have e7 : cont (b1 ++ (ok_, gi_, l ++ [(y', v')]) :: b2) = mset (cont (b1 ++ (ok_, gi_, l) :: b2)) ok_ (fput K.nm y' fs) := by
    rw [cont_mset (l := l) e4, fput_none hfn, List.map_append, e2]
    rfl
  have h6 : St ok0 w0 w' Γ (bldL K g (b1 ++ (ok_, gi_, l ++ [(y', v')]) :: b2) ++ Λ) := by
    refine h5.perm ?_
    show (mapo bstr (tRaw K.n) gi_ (ents K (l ++ [(y', v')])) :: mapo bstr tCell g (outL (b1 ++ (ok_, gi_, l) :: b2)) :: (owns K l ++ restL K (b1 ++ b2) ++ (own tStr K.E v' (K.fe y') :: Λ))).Perm _
    rw [bldL_eq, List.cons_append]
    have e8 : outL (b1 ++ (ok_, gi_, l ++ [(y', v')]) :: b2) = outL (b1 ++ (ok_, gi_, l) :: b2) := by
      unfold outL
      simp
    rw [e8]
    refine (List.Perm.swap _ _ _).trans (List.Perm.cons _ ?_)
    refine List.Perm.trans ?_ ((restL_perm K b1 b2 (ok_, gi_, l ++ [(y', v')])).symm.append_right Λ)
    rw [e5, List.cons_append, List.cons_append]
    refine List.Perm.cons _ ?_
    have e9 : owns K (l ++ [(y', v')]) = owns K l ++ [own tStr K.E v' (K.fe y')] := by
      unfold owns
      rw [List.map_append]
      rfl
    rw [e9, List.append_assoc, List.append_assoc, List.append_assoc]
    refine List.Perm.append_left _ ?_
    exact List.perm_middle
  exact K1 w' (St.bldClose (K := K) h6 (at_hole (h := ⟨b1, ok_, gi_, l, y', v', [], b2⟩) e4) e7)
end
end Go.Proofs.YtbbeobiampbddaaL
