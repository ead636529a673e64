/- What the row leans on, as few texts. -/
import Derived.Test.YtlbcfjblpopcnaaQFU0
import Derived.Maps.Own
import Derived.Sort.KeysCollected
import Derived.Test.YtlbcfjblpopcnaaProg
import Derived.Shelf.SlIter.Nil
import Derived.Shelf.SortM.Plain
import Derived.Shelf.SortM.SortNone
import Derived.Shelf.Spec.SearchS
import Derived.Shelf.Spec.SlicesInsertGrow
import Derived.Sort.Walk0
set_option linter.unusedVariables false
set_option linter.unusedSimpArgs false
namespace Go.Proofs.YtlbcfjblpopcnaaL
open Go Go.RowKit
structure FK (φ : Type) where
  n : Nat
  E : TypeId
  fc : φ → Value → List Value
  fe : φ → List (List UInt8)
  nm : φ → List UInt8
  inj : ∀ {x v x' v'}, fc x v = fc x' v' → v = v'
def fpV (v : Value) : List Nat := if slCap v = 0 then [] else v.ownBlock.toList
theorem own_fp {α : Type} {T : Ty α} {E : TypeId} {v : Value} {xs : List α} {ok : Nat → Prop} {bs : List Nat} {w : World} (h : (own T E v xs).H ok bs w) : bs = fpV v := by
  unfold fpV
  rcases h with ⟨h0, h1, _⟩ | ⟨h0, _, h1, _⟩
  · rw [if_pos h0, h1]
  · rw [if_neg (by omega), h1]
theorem Ents.inj_ {κ β : Type} {kv : κ → Value} {V : Ty β} {ok ok' : Nat → Prop} {w : World} (hk : ∀ {a b}, kv a = kv b → a = b) (hV : ∀ {x y v}, V.V ok w x v → V.V ok' w y v → x = y) :
    ∀ {l l' : List (κ × β)} {es : List MapEntry}, Ents kv V ok w l es → Ents kv V ok' w l' es → l = l'
  | [], [], [], _, _ => rfl
  | x :: l, y :: l', e :: es, ⟨h1, h2, h3⟩, ⟨k1, k2, k3⟩ => by
    have e1 : x.1 = y.1 := hk (h1.symm.trans k1)
    have e2 : x.2 = y.2 := hV h2 k2
    rw [Ents.inj_ hk hV h3 k3, Prod.ext e1 e2]
  | [], _ :: _, [], _, h => h.elim
  | [], _, _ :: _, h, _ => h.elim
  | _ :: _, _, [], h, _ => h.elim
  | _ :: _, [], _ :: _, _, h => h.elim
theorem bstr_inj {a b : List UInt8} (h : bstr a = bstr b) : a = b := by
  unfold bstr at h
  have := Value.string.inj h
  simpa using this
section
variable {φ : Type} (K : FK φ)
abbrev BE (φ : Type) := List UInt8 × Nat × List (φ × Value)
def inP (o : BE φ) : List (LObj × List Nat) := (mapo bstr (tRaw K.n) o.2.1 (o.2.2.map fun e => (K.nm e.1, K.fc e.1 e.2)), [o.2.1]) :: o.2.2.map fun e => (own tStr K.E e.2 (K.fe e.1), fpV e.2)
def bldP (g : Nat) (b : List (BE φ)) : List (LObj × List Nat) := (mapo bstr tCell g (b.map fun o => (o.1, Value.map (some o.2.1))), [g]) :: b.flatMap (inP K)
def bldL (g : Nat) (b : List (BE φ)) : List LObj := (bldP K g b).map (·.1)
def cont (b : List (BE φ)) : List (List UInt8 × List φ) := b.map fun o => (o.1, o.2.2.map (·.1))
theorem Own.eqs {ok : Nat → Prop} {w : World} : ∀ {L : List (LObj × List Nat)} {bss : List (List Nat)}, (∀ p ∈ L, ∀ ok bs w, p.1.H ok bs w → bs = p.2) → Own ok w (L.map (·.1)) bss → bss = L.map (·.2)
  | [], [], _, _ => rfl
  | p :: L, bs :: bss, h, ⟨h1, h2⟩ => by
    rw [List.map_cons, h p (by simp) _ _ _ h1, Own.eqs (fun q hq => h q (by simp [hq])) h2]
  | [], _ :: _, _, h => h.elim
  | _ :: _, [], _, h => h.elim
theorem Own.mem {ok : Nat → Prop} {w : World} : ∀ {L : List (LObj × List Nat)} {bss : List (List Nat)}, Own ok w (L.map (·.1)) bss → ∀ p ∈ L, ∃ bs, p.1.H ok bs w
  | [], _, _, p, hp => by simp at hp
  | q :: L, bs :: bss, ⟨h1, h2⟩, p, hp => by
    rcases List.mem_cons.1 hp with rfl | hp
    · exact ⟨bs, h1⟩
    · exact Own.mem h2 p hp
  | _ :: _, [], h, _, _ => h.elim
theorem bldP_fp (g : Nat) (b : List (BE φ)) : ∀ p ∈ bldP K g b, ∀ ok bs w, p.1.H ok bs w → bs = p.2 := by
  intro p hp ok bs w h
  unfold bldP at hp
  rcases List.mem_cons.1 hp with rfl | hp
  · exact h.1
  · obtain ⟨o, _, ho⟩ := List.mem_flatMap.1 hp
    unfold inP at ho
    rcases List.mem_cons.1 ho with rfl | ho
    · exact h.1
    · obtain ⟨e, _, rfl⟩ := List.mem_map.1 ho
      exact own_fp h
theorem mapo_inj {β : Type} {V : Ty β} {g : Nat} {l l' : List (List UInt8 × β)} {ok ok' : Nat → Prop} {bs bs' : List Nat} {w : World} (hV : ∀ {x y v}, V.V ok w x v → V.V ok' w y v → x = y) (h : (mapo bstr V g l).H ok bs w) (h' : (mapo bstr V g l').H ok' bs' w) : l = l' := by
  obtain ⟨_, es, c, h1, h2, _⟩ := h
  obtain ⟨_, es', c', k1, k2, _⟩ := h'
  rw [h1] at k1
  cases k1
  exact Ents.inj_ bstr_inj hV h2 k2
theorem inP_fps {ok ok' : Nat → Prop} {w : World} : ∀ (b b' : List (BE φ)), (b.map fun o => (o.1, Value.map (some o.2.1))) = (b'.map fun o => (o.1, Value.map (some o.2.1))) →
    (∀ o ∈ b, ∃ bs, (mapo bstr (tRaw K.n) o.2.1 (o.2.2.map fun e => (K.nm e.1, K.fc e.1 e.2))).H ok bs w) → (∀ o ∈ b', ∃ bs, (mapo bstr (tRaw K.n) o.2.1 (o.2.2.map fun e => (K.nm e.1, K.fc e.1 e.2))).H ok' bs w) →
    (b.flatMap (inP K)).map (·.2) = (b'.flatMap (inP K)).map (·.2)
  | [], [], _, _, _ => rfl
  | o :: b, o' :: b', he, h, h' => by
    rw [List.map_cons, List.map_cons] at he
    have e1 := (List.cons.inj he).1
    have e2 := (List.cons.inj he).2
    have eid : o.2.1 = o'.2.1 := by
      have := congrArg Prod.snd e1
      simpa using this
    obtain ⟨bs, hb⟩ := h o (by simp)
    obtain ⟨bs', hb'⟩ := h' o' (by simp)
    rw [eid] at hb
    have el := mapo_inj (fun {x y v} hx hy => by
      have a := (tRaw_V.1 hx).1
      have c := (tRaw_V.1 hy).1
      rw [a] at c
      have := Value.agg.inj c
      simpa using this) hb hb'
    have ev : o.2.2.map (fun e => fpV e.2) = o'.2.2.map (fun e => fpV e.2) := by
      have : o.2.2.map (fun e => e.2) = o'.2.2.map (fun e => e.2) := by
        have key : ∀ (l l' : List (φ × Value)), (l.map fun e => (K.nm e.1, K.fc e.1 e.2)) = (l'.map fun e => (K.nm e.1, K.fc e.1 e.2)) → l.map (fun e => e.2) = l'.map (fun e => e.2) := by
          intro l
          induction l with
          | nil => intro l' hl; cases l' with
            | nil => rfl
            | cons a t => simp at hl
          | cons a t ih => intro l' hl; cases l' with
            | nil => simp at hl
            | cons a' t' =>
              rw [List.map_cons, List.map_cons] at hl
              have q1 := (List.cons.inj hl).1
              have q2 := (List.cons.inj hl).2
              rw [List.map_cons, List.map_cons, ih t' q2, K.inj (congrArg Prod.snd q1)]
        exact key _ _ el
      have := congrArg (List.map fpV) this
      rw [List.map_map, List.map_map] at this
      exact this
    have ih := inP_fps b b' e2 (fun q hq => h q (by simp [hq])) (fun q hq => h' q (by simp [hq]))
    rw [List.flatMap_cons, List.flatMap_cons, List.map_append, List.map_append, ih]
    unfold inP
    simp only [List.map_cons, List.map_map]
    rw [eid]
    congr 2
  | [], _ :: _, he, _, _ => by simp at he
  | _ :: _, [], he, _, _ => by simp at he
def bldc (C : List (BE φ) → Prop) (g : Nat) (x : List (List UInt8 × List φ)) : LObj where
  H := fun ok bs w => ∃ (b : List (BE φ)) (bss : List (List Nat)), (C b ∧ cont b = x) ∧ bs = bss.flatten ∧ bss.flatten.Nodup ∧ Own ok w (bldL K g b) bss
  fn := by
    rintro ok ok' bs bs' w ⟨b, bss, _, rfl, _, h⟩ ⟨b', bss', _, rfl, _, h'⟩
    have e1 := Own.eqs (bldP_fp K g b) h
    have e2 := Own.eqs (bldP_fp K g b') h'
    have m1 := Own.mem h
    have m2 := Own.mem h'
    rw [e1, e2]
    congr 1
    obtain ⟨_, q1⟩ := m1 _ (List.mem_cons_self ..)
    obtain ⟨_, q2⟩ := m2 _ (List.mem_cons_self ..)
    have el := mapo_inj (fun {x y v} hx hy => (tCell_V.1 hx).1.symm.trans (tCell_V.1 hy).1) q1 q2
    have key := inP_fps (ok := ok) (ok' := ok') (w := w) K b b' el (fun o ho => ?_) (fun o ho => ?_)
    · show [g] :: (b.flatMap (inP K)).map (·.2) = [g] :: (b'.flatMap (inP K)).map (·.2)
      rw [key]
    · exact m1 (mapo bstr (tRaw K.n) o.2.1 (o.2.2.map fun e => (K.nm e.1, K.fc e.1 e.2)), [o.2.1]) (List.mem_cons_of_mem _ (List.mem_flatMap.2 ⟨o, ho, List.mem_cons_self ..⟩))
    · exact m2 (mapo bstr (tRaw K.n) o.2.1 (o.2.2.map fun e => (K.nm e.1, K.fc e.1 e.2)), [o.2.1]) (List.mem_cons_of_mem _ (List.mem_flatMap.2 ⟨o, ho, List.mem_cons_self ..⟩))
  lt := by
    rintro ok bs w ⟨b, bss, _, rfl, _, h⟩ k hk
    exact h.lt k hk
  move := by
    rintro ok ok' bs w w' ⟨b, bss, hc, rfl, hn, h⟩ hk hm
    exact ⟨b, bss, hc, rfl, hn, h.move hm hk⟩
abbrev bldo (g : Nat) (x : List (List UInt8 × List φ)) : LObj := bldc K (fun _ => True) g x
def At (k : List UInt8) (gi : Nat) (b : List (BE φ)) : Prop := (b.map fun o => (o.1, Value.map (some o.2.1))).lookup k = some (Value.map (some gi))
theorem Own.both {ok : Nat → Prop} {w : World} : ∀ {A B : List LObj} {a b : List (List Nat)}, Own ok w A a → Own ok w B b → Own ok w (A ++ B) (a ++ b)
  | [], _, [], _, _, h => h
  | _ :: _, _, _ :: _, _, ⟨h1, h2⟩, h => ⟨h1, Own.both h2 h⟩
  | [], _, _ :: _, _, h, _ => h.elim
  | _ :: _, _, [], _, h, _ => h.elim
theorem Own.part {ok : Nat → Prop} {w : World} : ∀ {A B : List LObj} {c : List (List Nat)}, Own ok w (A ++ B) c → ∃ a b, c = a ++ b ∧ Own ok w A a ∧ Own ok w B b
  | [], _, c, h => ⟨[], c, rfl, trivial, h⟩
  | _ :: A, B, bs :: c, ⟨h1, h2⟩ => by
    obtain ⟨a, b, rfl, ha, hb⟩ := Own.part h2
    exact ⟨bs :: a, b, rfl, ⟨h1, ha⟩, hb⟩
  | _ :: _, _, [], h => h.elim
variable {w : World} {w0 : Base} {ok0 : Nat → Prop} {Γ : List It} {Λ : List LObj} {g : Nat} {x : List (List UInt8 × List φ)} {b : List (BE φ)} {C : List (BE φ) → Prop}
theorem St.bldOpen (hs : St ok0 w0 w Γ (bldc K C g x :: Λ)) : ∃ b, (C b ∧ cont b = x) ∧ St ok0 w0 w Γ (bldL K g b ++ Λ) := by
  obtain ⟨hB, bss, hN, hlt, hO, hA⟩ := hs
  match bss, hO with
  | [], h => exact h.elim
  | bs :: bss, hO =>
    obtain ⟨⟨b, bs1, hc, e0, hn, h1⟩, h2⟩ := hO
    subst e0
    have e : (bs1 ++ bss).flatten = (bs1.flatten :: bss).flatten := by simp
    exact ⟨b, hc, hB, bs1 ++ bss, by rw [e]; exact hN, by rw [e]; exact hlt, by rw [e]; exact Own.both h1 h2, by rw [e]; exact hA⟩
theorem St.bldClose (hs : St ok0 w0 w Γ (bldL K g b ++ Λ)) (hC : C b) (hc : cont b = x) : St ok0 w0 w Γ (bldc K C g x :: Λ) := by
  obtain ⟨hB, bss, hN, hlt, hO, hA⟩ := hs
  obtain ⟨a, c, rfl, ha, hcc⟩ := Own.part hO
  have e : (a.flatten :: c).flatten = (a ++ c).flatten := by simp
  refine ⟨hB, a.flatten :: c, by rw [e]; exact hN, by rw [e]; exact hlt, ⟨⟨b, a, ⟨hC, hc⟩, rfl, ?_, by rw [e]; exact ha⟩, by rw [e]; exact hcc⟩, by rw [e]; exact hA⟩
  rw [List.flatten_append] at hN
  exact (List.nodup_append.1 hN).1
def outL (b : List (BE φ)) : List (List UInt8 × Value) := b.map fun o => (o.1, Value.map (some o.2.1))
def inL (o : BE φ) : List LObj := (inP K o).map (·.1)
def restL (b : List (BE φ)) : List LObj := (b.flatMap (inP K)).map (·.1)
theorem bldL_eq (b : List (BE φ)) : bldL K g b = mapo bstr tCell g (outL b) :: restL K b := rfl
theorem restL_perm (b1 b2 : List (BE φ)) (o : BE φ) : (restL K (b1 ++ o :: b2)).Perm (inL K o ++ restL K (b1 ++ b2)) := by
  unfold restL inL
  rw [List.flatMap_append, List.flatMap_cons, List.flatMap_append, List.map_append, List.map_append, List.map_append]
  exact List.perm_append_comm_assoc _ _ _
theorem cont_at {b : List (BE φ)} {k : List UInt8} {fs : List φ} (h : (cont b).lookup k = some fs) : ∃ b1 o b2, b = b1 ++ o :: b2 ∧ o.1 = k ∧ o.2.2.map (·.1) = fs ∧ (outL b).lookup k = some (Value.map (some o.2.1)) ∧ ∀ q ∈ b1, q.1 ≠ k := by
  induction b with
  | nil => simp [cont] at h
  | cons o b ih =>
    unfold cont at h
    rw [List.map_cons, List.lookup_cons] at h
    cases hk : k == o.1 with
    | true =>
      rw [hk] at h
      have e : k = o.1 := by simpa using hk
      refine ⟨[], o, b, rfl, e.symm, by simpa using h, ?_, by simp⟩
      unfold outL
      rw [List.map_cons, List.lookup_cons, hk]
    | false =>
      rw [hk] at h
      obtain ⟨b1, q, b2, rfl, h1, h2, h3, h4⟩ := ih h
      refine ⟨o :: b1, q, b2, rfl, h1, h2, ?_, fun r hr => ?_⟩
      · unfold outL at h3 ⊢
        rw [List.map_cons, List.lookup_cons, hk]
        exact h3
      · rcases List.mem_cons.1 hr with rfl | hr
        · intro e
          rw [e] at hk
          simp at hk
        · exact h4 r hr
theorem cont_none {b : List (BE φ)} {k : List UInt8} (h : (cont b).lookup k = none) : (outL b).lookup k = none := by
  induction b with
  | nil => rfl
  | cons o b ih =>
    unfold cont at h
    unfold outL
    rw [List.map_cons, List.lookup_cons] at h ⊢
    cases hk : k == o.1 with
    | true => rw [hk] at h; simp at h
    | false =>
      rw [hk] at h
      exact ih h
variable {P : Program} {N : Nat} {Q : QE} {ρ : Env} {d : Option Tmp} {ty : TypeId} {pos : String} {aft : Array Edge} {gd : Option (Nat × Bool)} {ops : Array Oper} {rest : List Oper}
theorem WL.bldLook {t kt et : TypeId} {m xo : Operand} {k : List UInt8} (hs : St ok0 w0 w Γ (bldc K C g x :: Λ)) (hk : KK P kt bstr) (ht : P.underlying t = some (.map kt et)) (hm : ρ.ev m = .map (some g)) (hx : ρ.ev xo = bstr k) (hz : ∀ w, (zeroValue et).run P w = .ok (.map none) w)
    (K0 : x.lookup k = none → St ok0 w0 w Γ (bldc K C g x :: Λ) → WL P N ops Q rest (putE ρ d (.map none)) w)
    (K1 : ∀ fs gi, x.lookup k = some fs → St ok0 w0 w Γ (bldc K (At k gi) g x :: Λ) → WL P N ops Q rest (putE ρ d (.map (some gi))) w)
    (hg : wantedE ops ρ ⟨d, .lookup t m xo false, ty, pos, aft, gd⟩ = true := by rfl) (hd : fits N d = true := by rfl) :
    WL P N ops Q (⟨d, .lookup t m xo false, ty, pos, aft, gd⟩ :: rest) ρ w := by
  obtain ⟨b, ⟨hC, hc⟩, h1⟩ := hs.bldOpen
  have h2 : St ok0 w0 w Γ (mapo bstr tCell g (outL b) :: (restL K b ++ Λ)) := h1
  refine WL.lookup (V := tCell) (z0 := Value.map none) h2 0 rfl hk ht hm hx hz (fun _ _ => tCell_V.2 ⟨rfl, rfl⟩) rfl (fun v h3 => ?_) hg hd
  have hv := h3.cellv 0 rfl
  have h4 : St ok0 w0 w Γ (bldL K g b ++ Λ) := h3.sub fun it hi => List.mem_cons_of_mem _ hi
  subst hc
  cases hl : (cont b).lookup k with
  | none =>
    rw [cont_none hl] at hv
    rw [hv]
    exact K0 hl hs
  | some fs =>
    obtain ⟨b1, o, b2, rfl, e1, e2, e3, e4⟩ := cont_at hl
    rw [e3] at hv
    rw [hv]
    exact K1 fs o.2.1 hl (St.bldClose (K := K) (C := At k o.2.1) h4 e3 rfl)
theorem mset_none {κ β : Type} [BEq κ] {k : κ} {y : β} : ∀ {l : List (κ × β)}, l.lookup k = none → mset l k y = l ++ [(k, y)]
  | [], _ => rfl
  | e :: l, h => by
    rw [List.lookup_cons] at h
    cases hk : k == e.1 with
    | true => rw [hk] at h; simp at h
    | false =>
      rw [hk] at h
      rw [mset, hk, if_neg (by simp), mset_none h]
      rfl
theorem at_snoc {b : List (BE φ)} {k : List UInt8} {gi : Nat} {l : List (φ × Value)} (h : (outL b).lookup k = none) : At k gi (b ++ [(k, gi, l)]) := by
  induction b with
  | nil =>
    show List.lookup k [(k, Value.map (some gi))] = _
    rw [List.lookup_cons]
    simp
  | cons o b ih =>
    unfold outL at h
    rw [List.map_cons, List.lookup_cons] at h
    unfold At
    rw [List.cons_append, List.map_cons, List.lookup_cons]
    cases hk : k == o.1 with
    | true => rw [hk] at h; simp at h
    | false =>
      rw [hk] at h
      exact ih h
theorem WL.bldPut {t kt et : TypeId} {m xo u : Operand} {k : List UInt8} {gi : Nat} (hs : St ok0 w0 w Γ (mapo bstr (tRaw K.n) gi [] :: bldc K C g x :: Λ)) (hk : KK P kt bstr) (ht : P.underlying t = some (.map kt et)) (hm : ρ.ev m = .map (some g)) (hx : ρ.ev xo = bstr k) (hu : ρ.ev u = .map (some gi)) (hn : x.lookup k = none)
    (K1 : ∀ w', St ok0 w0 w' Γ (bldc K (At k gi) g (x ++ [(k, [])]) :: Λ) → WL P N ops Q rest (putE ρ d undef) w')
    (hg : wantedE ops ρ ⟨d, .mapUpdate t m xo u, ty, pos, aft, gd⟩ = true := by rfl) (hd : fits N d = true := by rfl) :
    WL P N ops Q (⟨d, .mapUpdate t m xo u, ty, pos, aft, gd⟩ :: rest) ρ w := by
  obtain ⟨b, ⟨hC, hc⟩, h1⟩ := (hs.perm (List.Perm.swap _ _ _)).bldOpen
  subst hc
  have h2 : St ok0 w0 w Γ (mapo bstr tCell g (outL b) :: (restL K b ++ (mapo bstr (tRaw K.n) gi [] :: Λ))) := h1
  refine WL.mapUpdate (V := tCell) (y := Value.map (some gi)) h2 0 rfl hk ht hm hx hu (fun _ _ => tCell_V.2 ⟨rfl, rfl⟩) (mset_none (cont_none hn)) (fun w' h3 => ?_) hg hd
  refine K1 w' (St.bldClose (K := K) (b := b ++ [(k, gi, [])]) ?_ (at_snoc (cont_none hn)) (by unfold cont; rw [List.map_append]; rfl))
  have e1 : bldL K g (b ++ [(k, gi, [])]) = mapo bstr tCell g (outL b ++ [(k, Value.map (some gi))]) :: (restL K b ++ [mapo bstr (tRaw K.n) gi []]) := by
    rw [bldL_eq]
    unfold outL restL
    rw [List.map_append, List.flatMap_append, List.map_append]
    rfl
  rw [e1, List.cons_append, List.append_assoc]
  exact h3
theorem Own.same {ok ok' : Nat → Prop} : ∀ {R : List LObj} {a b : List (List Nat)}, Own ok w R a → Own ok' w R b → a = b
  | [], [], [], _, _ => rfl
  | o :: R, x :: a, y :: b, ⟨h1, h2⟩, ⟨k1, k2⟩ => by rw [o.fn h1 k1, Own.same h2 k2]
  | [], _ :: _, _, h, _ => h.elim
  | [], [], _ :: _, _, h => h.elim
  | _ :: _, [], _, h, _ => h.elim
  | _ :: _, _ :: _, [], _, h => h.elim
def allo (R : List LObj) : LObj where
  H := fun ok bs w => ∃ bss : List (List Nat), bs = bss.flatten ∧ bss.flatten.Nodup ∧ Own ok w R bss
  fn := by
    rintro ok ok' bs bs' w ⟨a, rfl, _, h⟩ ⟨b, rfl, _, h'⟩
    rw [Own.same h h']
  lt := by
    rintro ok bs w ⟨a, rfl, _, h⟩ k hk
    exact h.lt k hk
  move := by
    rintro ok ok' bs w w' ⟨a, rfl, hn, h⟩ hk hm
    exact ⟨a, rfl, hn, h.move hm hk⟩
theorem St.allOpen {R : List LObj} (hs : St ok0 w0 w Γ (allo R :: Λ)) : St ok0 w0 w Γ (R ++ Λ) := by
  obtain ⟨hB, bss, hN, hlt, hO, hA⟩ := hs
  match bss, hO with
  | [], h => exact h.elim
  | bs :: bss, hO =>
    obtain ⟨⟨bs1, e0, hn, h1⟩, h2⟩ := hO
    subst e0
    have e : (bs1 ++ bss).flatten = (bs1.flatten :: bss).flatten := by simp
    exact ⟨hB, bs1 ++ bss, by rw [e]; exact hN, by rw [e]; exact hlt, by rw [e]; exact Own.both h1 h2, by rw [e]; exact hA⟩
theorem St.allClose {R : List LObj} (hs : St ok0 w0 w Γ (R ++ Λ)) : St ok0 w0 w Γ (allo R :: Λ) := by
  obtain ⟨hB, bss, hN, hlt, hO, hA⟩ := hs
  obtain ⟨a, c, rfl, ha, hcc⟩ := Own.part hO
  have e : (a.flatten :: c).flatten = (a ++ c).flatten := by simp
  refine ⟨hB, a.flatten :: c, by rw [e]; exact hN, by rw [e]; exact hlt, ⟨⟨a, rfl, ?_, by rw [e]; exact ha⟩, by rw [e]; exact hcc⟩, by rw [e]; exact hA⟩
  rw [List.flatten_append] at hN
  exact (List.nodup_append.1 hN).1
structure Hole (φ : Type) where
  b1 : List (BE φ)
  k : List UInt8
  gi : Nat
  f1 : List (φ × Value)
  y : φ
  v : Value
  f2 : List (φ × Value)
  b2 : List (BE φ)
def Hole.all {φ : Type} (h : Hole φ) : List (BE φ) := h.b1 ++ (h.k, h.gi, h.f1 ++ (h.y, h.v) :: h.f2) :: h.b2
def Hole.put {φ : Type} (h : Hole φ) (y : φ) (v : Value) : Hole φ := { h with y := y, v := v }
def ents (l : List (φ × Value)) : List (List UInt8 × List Value) := l.map fun e => (K.nm e.1, K.fc e.1 e.2)
def owns (l : List (φ × Value)) : List LObj := l.map fun e => own tStr K.E e.2 (K.fe e.1)
def holeL (g : Nat) (h : Hole φ) : List LObj := mapo bstr tCell g (outL h.all) :: mapo bstr (tRaw K.n) h.gi (ents K (h.f1 ++ (h.y, h.v) :: h.f2)) :: (owns K (h.f1 ++ h.f2) ++ restL K (h.b1 ++ h.b2))
theorem hole_perm (g : Nat) (h : Hole φ) : (bldL K g h.all).Perm (own tStr K.E h.v (K.fe h.y) :: holeL K g h) := by
  rw [bldL_eq]
  unfold holeL
  have e1 : inL K (h.k, h.gi, h.f1 ++ (h.y, h.v) :: h.f2) = mapo bstr (tRaw K.n) h.gi (ents K (h.f1 ++ (h.y, h.v) :: h.f2)) :: owns K (h.f1 ++ (h.y, h.v) :: h.f2) := by
    unfold inL inP ents owns
    rw [List.map_cons, List.map_map]
    rfl
  have p1 : (restL K h.all).Perm (inL K (h.k, h.gi, h.f1 ++ (h.y, h.v) :: h.f2) ++ restL K (h.b1 ++ h.b2)) := restL_perm K h.b1 h.b2 _
  have p2 : (owns K (h.f1 ++ (h.y, h.v) :: h.f2)).Perm (own tStr K.E h.v (K.fe h.y) :: owns K (h.f1 ++ h.f2)) := by
    unfold owns
    rw [List.map_append, List.map_cons, List.map_append]
    exact List.perm_middle
  rw [e1] at p1
  refine (List.Perm.cons _ p1).trans ?_
  rw [List.cons_append]
  refine (List.Perm.cons _ (List.Perm.cons _ (p2.append_right _))).trans ?_
  rw [List.cons_append]
  refine (List.Perm.cons _ (List.Perm.swap _ _ _)).trans ?_
  exact List.Perm.swap _ _ _
theorem ents_at {l : List (φ × Value)} {f : List UInt8} {y : φ} (h : (l.map (·.1)).find? (fun q => f == K.nm q) = some y) : ∃ f1 v f2, l = f1 ++ (y, v) :: f2 ∧ f = K.nm y ∧ (ents K l).lookup f = some (K.fc y v) ∧ ∀ e ∈ f1, f ≠ K.nm e.1 := by
  induction l with
  | nil => simp at h
  | cons e l ih =>
    rw [List.map_cons, List.find?_cons] at h
    cases hk : f == K.nm e.1 with
    | true =>
      rw [hk] at h
      have e1 : e.1 = y := by simpa using h
      subst e1
      refine ⟨[], e.2, l, rfl, by simpa using hk, ?_, by simp⟩
      unfold ents
      rw [List.map_cons, List.lookup_cons, hk]
    | false =>
      rw [hk] at h
      obtain ⟨f1, v, f2, rfl, h1, h2, h3⟩ := ih h
      refine ⟨e :: f1, v, f2, rfl, h1, ?_, fun q hq => ?_⟩
      · unfold ents at h2 ⊢
        rw [List.map_cons, List.lookup_cons, hk]
        exact h2
      · rcases List.mem_cons.1 hq with rfl | hq
        · intro he; rw [he] at hk; simp at hk
        · exact h3 q hq
theorem ents_none {l : List (φ × Value)} {f : List UInt8} (h : (l.map (·.1)).find? (fun q => f == K.nm q) = none) : (ents K l).lookup f = none := by
  induction l with
  | nil => rfl
  | cons e l ih =>
    rw [List.map_cons, List.find?_cons] at h
    unfold ents
    rw [List.map_cons, List.lookup_cons]
    cases hk : f == K.nm e.1 with
    | true => rw [hk] at h; simp at h
    | false => rw [hk] at h; exact ih h
theorem WL.bldTake {t kt et : TypeId} {m xo : Operand} {k f : List UInt8} {gi : Nat} {fs : List φ} {z : List Value} (hs : St ok0 w0 w Γ (bldc K (At k gi) g x :: Λ)) (hk : KK P kt bstr) (ht : P.underlying t = some (.map kt et)) (hm : ρ.ev m = .map (some gi)) (hx : ρ.ev xo = bstr f)
    (hz : ∀ w, (zeroValue et).run P w = .ok (.agg z.toArray) w) (hz1 : z.length = K.n) (hz2 : ∀ u ∈ z, u.oneCell' = true) (hl : x.lookup k = some fs)
    (K0 : fs.find? (fun q => f == K.nm q) = none → St ok0 w0 w Γ (bldc K (At k gi) g x :: Λ) → WL P N ops Q rest (putE ρ d (.agg z.toArray)) w)
    (K1 : ∀ h : Hole φ, fs.find? (fun q => f == K.nm q) = some h.y → cont h.all = x → h.k = k → h.gi = gi → f = K.nm h.y → (∀ e ∈ h.f1, f ≠ K.nm e.1) → (∀ q ∈ h.b1, q.1 ≠ k) →
      St ok0 w0 w Γ (own tStr K.E h.v (K.fe h.y) :: allo (holeL K g h) :: Λ) → WL P N ops Q rest (putE ρ d (.agg (K.fc h.y h.v).toArray)) w)
    (hg : wantedE ops ρ ⟨d, .lookup t m xo false, ty, pos, aft, gd⟩ = true := by rfl) (hd : fits N d = true := by rfl) :
    WL P N ops Q (⟨d, .lookup t m xo false, ty, pos, aft, gd⟩ :: rest) ρ w := by
  obtain ⟨b, ⟨hC, hc⟩, h1⟩ := hs.bldOpen
  subst hc
  obtain ⟨b1, o, b2, rfl, e1, e2, e3, e4⟩ := cont_at hl
  obtain ⟨ok_, gi_, l⟩ := o
  simp only at e1 e2 e3
  subst e1
  have eg : gi_ = gi := by
    have : (some (Value.map (some gi_))) = some (Value.map (some gi)) := e3.symm.trans hC
    simpa using this
  subst eg
  have p1 := restL_perm K b1 b2 (ok_, gi_, l)
  have h2 : St ok0 w0 w Γ (mapo bstr (tRaw K.n) gi_ (ents K l) :: mapo bstr tCell g (outL (b1 ++ (ok_, gi_, l) :: b2)) :: (owns K l ++ restL K (b1 ++ b2) ++ Λ)) := by
    refine h1.perm ?_
    rw [bldL_eq, List.cons_append]
    refine (List.Perm.cons _ (p1.append_right _)).trans ?_
    have e5 : inL K (ok_, gi_, l) = mapo bstr (tRaw K.n) gi_ (ents K l) :: owns K l := by
      unfold inL inP ents owns
      rw [List.map_cons, List.map_map]
      rfl
    rw [e5, List.cons_append, List.cons_append]
    exact List.Perm.swap _ _ _
  refine WL.lookup (V := tRaw K.n) (z0 := z) h2 0 rfl hk ht hm hx hz (fun _ _ => tRaw_V.2 ⟨rfl, hz1, hz2⟩) rfl (fun v h3 => ?_) hg hd
  have hv := h3.rawv 0 rfl
  cases hf : fs.find? (fun q => f == K.nm q) with
  | none =>
    rw [← e2] at hf
    rw [ents_none K hf] at hv
    rw [hv]
    rw [e2] at hf
    exact K0 hf hs
  | some y =>
    rw [← e2] at hf
    obtain ⟨f1, v', f2, rfl, q1, q2, q3⟩ := ents_at K hf
    rw [q2] at hv
    rw [hv]
    rw [e2] at hf
    refine K1 ⟨b1, ok_, gi_, f1, y, v', f2, b2⟩ hf rfl rfl rfl q1 q3 e4 ?_
    have h5 := h1.perm ((hole_perm K g ⟨b1, ok_, gi_, f1, y, v', f2, b2⟩).append_right Λ)
    have h6 : St ok0 w0 w Γ (holeL K g ⟨b1, ok_, gi_, f1, y, v', f2, b2⟩ ++ (own tStr K.E v' (K.fe y) :: Λ)) := h5.perm (by
      rw [List.cons_append]
      exact (List.perm_middle).symm)
    exact (h6.allClose).perm (List.Perm.swap _ _ _)
theorem at_hole {h : Hole φ} (hb : ∀ q ∈ h.b1, q.1 ≠ h.k) : At h.k h.gi h.all := by
  obtain ⟨b1, k, gi, f1, y, v, f2, b2⟩ := h
  unfold Hole.all At
  simp only at hb ⊢
  induction b1 with
  | nil =>
    show List.lookup k ((k, Value.map (some gi)) :: _) = _
    rw [List.lookup_cons]
    simp
  | cons q b1 ih =>
    rw [List.cons_append, List.map_cons, List.lookup_cons]
    have : (k == q.1) = false := by
      rw [beq_eq_false_iff_ne]
      exact fun e => hb q (by simp) e.symm
    rw [this]
    exact ih fun r hr => hb r (by simp [hr])
theorem mset_ents {f1 f2 : List (φ × Value)} {y y' : φ} {v v' : Value} (h1 : K.nm y' = K.nm y) (h2 : ∀ e ∈ f1, K.nm y ≠ K.nm e.1) : mset (ents K (f1 ++ (y, v) :: f2)) (K.nm y) (K.fc y' v') = ents K (f1 ++ (y', v') :: f2) := by
  induction f1 with
  | nil =>
    unfold ents
    rw [List.nil_append, List.nil_append, List.map_cons, List.map_cons, mset, if_pos (by simp), h1]
  | cons e f1 ih =>
    unfold ents at ih ⊢
    rw [List.cons_append, List.cons_append, List.map_cons, List.map_cons, mset]
    have : (K.nm y == K.nm e.1) = false := by
      rw [beq_eq_false_iff_ne]
      exact h2 e (by simp)
    rw [this, if_neg (by simp), ih fun q hq => h2 q (by simp [hq])]
theorem WL.bldGive {t kt et : TypeId} {m xo u : Operand} {h : Hole φ} {y' : φ} {v' : Value} (hs : St ok0 w0 w Γ (own tStr K.E v' (K.fe y') :: allo (holeL K g h) :: Λ)) (hk : KK P kt bstr) (ht : P.underlying t = some (.map kt et)) (hm : ρ.ev m = .map (some h.gi)) (hx : ρ.ev xo = bstr (K.nm h.y))
    (hu : ρ.ev u = .agg (K.fc y' v').toArray) (hn : K.nm y' = K.nm h.y) (h1 : (K.fc y' v').length = K.n) (h2 : ∀ u ∈ K.fc y' v', u.oneCell' = true) (hb : ∀ q ∈ h.b1, q.1 ≠ h.k) (hf : ∀ e ∈ h.f1, K.nm h.y ≠ K.nm e.1)
    (K1 : ∀ w', St ok0 w0 w' Γ (bldc K (At h.k h.gi) g (cont (h.put y' v').all) :: Λ) → WL P N ops Q rest (putE ρ d undef) w')
    (hg : wantedE ops ρ ⟨d, .mapUpdate t m xo u, ty, pos, aft, gd⟩ = true := by rfl) (hd : fits N d = true := by rfl) :
    WL P N ops Q (⟨d, .mapUpdate t m xo u, ty, pos, aft, gd⟩ :: rest) ρ w := by
  have h3 : St ok0 w0 w Γ (holeL K g h ++ (own tStr K.E v' (K.fe y') :: Λ)) := (hs.perm (List.Perm.swap _ _ _)).allOpen
  have h4 : St ok0 w0 w Γ (mapo bstr tCell g (outL h.all) :: mapo bstr (tRaw K.n) h.gi (ents K (h.f1 ++ (h.y, h.v) :: h.f2)) :: (owns K (h.f1 ++ h.f2) ++ restL K (h.b1 ++ h.b2) ++ (own tStr K.E v' (K.fe y') :: Λ))) := h3
  refine WL.mapUpdate (V := tRaw K.n) (y := K.fc y' v') h4 1 rfl hk ht hm hx hu (fun _ _ => tRaw_V.2 ⟨rfl, h1, h2⟩) (mset_ents K hn hf) (fun w' h5 => ?_) hg hd
  have h6 : St ok0 w0 w' Γ (holeL K g (h.put y' v') ++ (own tStr K.E v' (K.fe y') :: Λ)) := by
    have e : outL (h.put y' v').all = outL h.all := by
      unfold outL Hole.all Hole.put
      simp
    unfold holeL
    rw [e]
    exact h5
  have h7 : St ok0 w0 w' Γ (bldL K g (h.put y' v').all ++ Λ) := h6.perm (by
    refine List.perm_middle.trans ?_
    rw [← List.cons_append]
    exact ((hole_perm K g (h.put y' v')).symm).append_right Λ)
  exact K1 w' (St.bldClose (K := K) h7 (at_hole (h := h.put y' v') hb) rfl)
theorem cont_mset {b1 b2 : List (BE φ)} {k : List UInt8} {gi : Nat} {l l' : List (φ × Value)} (hb : ∀ q ∈ b1, q.1 ≠ k) : cont (b1 ++ (k, gi, l') :: b2) = mset (cont (b1 ++ (k, gi, l) :: b2)) k (l'.map (·.1)) := by
  unfold cont
  induction b1 with
  | nil =>
    rw [List.nil_append, List.nil_append, List.map_cons, List.map_cons, mset, if_pos (by simp)]
  | cons q b1 ih =>
    rw [List.cons_append, List.cons_append, List.map_cons, List.map_cons, mset]
    have : (k == q.1) = false := by
      rw [beq_eq_false_iff_ne]
      exact fun e => hb q (by simp) e.symm
    rw [this, if_neg (by simp), ih fun r hr => hb r (by simp [hr])]
def fput (nm : φ → List UInt8) (y : φ) : List φ → List φ
  | [] => [y]
  | q :: t => if nm y == nm q then y :: t else q :: fput nm y t
theorem fput_none {nm : φ → List UInt8} {y : φ} : ∀ {l : List φ}, l.find? (fun q => nm y == nm q) = none → fput nm y l = l ++ [y]
  | [], _ => rfl
  | q :: t, h => by
    rw [List.find?_cons] at h
    cases hk : nm y == nm q with
    | true => rw [hk] at h; simp at h
    | false => rw [hk] at h; rw [fput, hk, if_neg (by simp), fput_none h]; rfl
theorem fput_at {nm : φ → List UInt8} {y y0 : φ} (hn : nm y = nm y0) : ∀ {f1 : List φ} {f2 : List φ}, (∀ e ∈ f1, nm y0 ≠ nm e) → fput nm y (f1 ++ y0 :: f2) = f1 ++ y :: f2
  | [], _, _ => by rw [List.nil_append, fput, hn, if_pos (by simp)]; rfl
  | q :: f1, f2, h => by
    have : (nm y == nm q) = false := by
      rw [beq_eq_false_iff_ne, hn]
      exact h q (by simp)
    rw [List.cons_append, fput, this, if_neg (by simp), fput_at hn fun e he => h e (by simp [he])]
    rfl
theorem hole_cont {h : Hole φ} {y' : φ} {v' : Value} {x : List (List UInt8 × List φ)} {fs : List φ} (hx : cont h.all = x) (hl : x.lookup h.k = some fs) (hn : K.nm y' = K.nm h.y) (hb : ∀ q ∈ h.b1, q.1 ≠ h.k) (hf : ∀ e ∈ h.f1, K.nm h.y ≠ K.nm e.1) :
    cont (h.put y' v').all = mset x h.k (fput K.nm y' fs) := by
  subst hx
  obtain ⟨b1, k, gi, f1, y, v, f2, b2⟩ := h
  simp only [Hole.all, Hole.put] at *
  have hfs : fs = (f1 ++ (y, v) :: f2).map (·.1) := by
    clear hn hf
    induction b1 with
    | nil =>
      unfold cont at hl
      rw [List.nil_append, List.map_cons, List.lookup_cons] at hl
      simp at hl
      rw [← hl]
      simp
    | cons q b1 ih =>
      unfold cont at hl ih
      rw [List.cons_append, List.map_cons, List.lookup_cons] at hl
      have : (k == q.1) = false := by
        rw [beq_eq_false_iff_ne]
        exact fun e => hb q (by simp) e.symm
      rw [this] at hl
      exact ih (fun r hr => hb r (by simp [hr])) hl
  rw [cont_mset (l := f1 ++ (y, v) :: f2) hb, hfs, List.map_append, List.map_append, List.map_cons, List.map_cons, fput_at hn (fun e he => by
    obtain ⟨q, hq, rfl⟩ := List.mem_map.1 he
    exact hf q hq)]
theorem WL.bldAdd {t kt et : TypeId} {m xo u : Operand} {k : List UInt8} {gi : Nat} {fs : List φ} {y' : φ} {v' : Value} (hs : St ok0 w0 w Γ (own tStr K.E v' (K.fe y') :: bldc K (At k gi) g x :: Λ)) (hk : KK P kt bstr) (ht : P.underlying t = some (.map kt et)) (hm : ρ.ev m = .map (some gi)) (hx : ρ.ev xo = bstr (K.nm y'))
    (hu : ρ.ev u = .agg (K.fc y' v').toArray) (h1 : (K.fc y' v').length = K.n) (h2 : ∀ u ∈ K.fc y' v', u.oneCell' = true) (hl : x.lookup k = some fs) (hfn : fs.find? (fun q => K.nm y' == K.nm q) = none)
    (K1 : ∀ w', St ok0 w0 w' Γ (bldc K (At k gi) g (mset x k (fput K.nm y' fs)) :: Λ) → WL P N ops Q rest (putE ρ d undef) w')
    (hg : wantedE ops ρ ⟨d, .mapUpdate t m xo u, ty, pos, aft, gd⟩ = true := by rfl) (hd : fits N d = true := by rfl) :
    WL P N ops Q (⟨d, .mapUpdate t m xo u, ty, pos, aft, gd⟩ :: rest) ρ w := by
  obtain ⟨b, ⟨hC, hc⟩, h3⟩ := (hs.perm (List.Perm.swap _ _ _)).bldOpen
  subst hc
  obtain ⟨b1, o, b2, rfl, e1, e2, e3, e4⟩ := cont_at hl
  obtain ⟨ok_, gi_, l⟩ := o
  simp only at e1 e2 e3
  subst e1
  have eg : gi_ = gi := by
    have : (some (Value.map (some gi_))) = some (Value.map (some gi)) := e3.symm.trans hC
    simpa using this
  subst eg
  have e5 : ∀ l : List (φ × Value), inL K (ok_, gi_, l) = mapo bstr (tRaw K.n) gi_ (ents K l) :: owns K l := fun l => by
    unfold inL inP ents owns
    rw [List.map_cons, List.map_map]
    rfl
  have h4 : St ok0 w0 w Γ (mapo bstr (tRaw K.n) gi_ (ents K l) :: mapo bstr tCell g (outL (b1 ++ (ok_, gi_, l) :: b2)) :: (owns K l ++ restL K (b1 ++ b2) ++ (own tStr K.E v' (K.fe y') :: Λ))) := by
    refine h3.perm ?_
    rw [bldL_eq, List.cons_append]
    refine (List.Perm.cons _ ((restL_perm K b1 b2 (ok_, gi_, l)).append_right _)).trans ?_
    rw [e5, List.cons_append, List.cons_append]
    exact List.Perm.swap _ _ _
  have e6 : ents K l ++ [(K.nm y', K.fc y' v')] = ents K (l ++ [(y', v')]) := by
    unfold ents
    rw [List.map_append]
    rfl
  refine WL.mapUpdate (V := tRaw K.n) (y := K.fc y' v') h4 0 rfl hk ht hm hx hu (fun _ _ => tRaw_V.2 ⟨rfl, h1, h2⟩) ((mset_none (ents_none K (by rw [e2]; exact hfn))).trans e6) (fun w' h5 => ?_) hg hd
  have e7 : cont (b1 ++ (ok_, gi_, l ++ [(y', v')]) :: b2) = mset (cont (b1 ++ (ok_, gi_, l) :: b2)) ok_ (fput K.nm y' fs) := by
    rw [cont_mset (l := l) e4, fput_none hfn, List.map_append, e2]
    rfl
  have h6 : St ok0 w0 w' Γ (bldL K g (b1 ++ (ok_, gi_, l ++ [(y', v')]) :: b2) ++ Λ) := by
    refine h5.perm ?_
    show (mapo bstr (tRaw K.n) gi_ (ents K (l ++ [(y', v')])) :: mapo bstr tCell g (outL (b1 ++ (ok_, gi_, l) :: b2)) :: (owns K l ++ restL K (b1 ++ b2) ++ (own tStr K.E v' (K.fe y') :: Λ))).Perm _
    rw [bldL_eq, List.cons_append]
    have e8 : outL (b1 ++ (ok_, gi_, l ++ [(y', v')]) :: b2) = outL (b1 ++ (ok_, gi_, l) :: b2) := by
      unfold outL
      simp
    rw [e8]
    refine (List.Perm.swap _ _ _).trans (List.Perm.cons _ ?_)
    refine List.Perm.trans ?_ ((restL_perm K b1 b2 (ok_, gi_, l ++ [(y', v')])).symm.append_right Λ)
    rw [e5, List.cons_append, List.cons_append]
    refine List.Perm.cons _ ?_
    have e9 : owns K (l ++ [(y', v')]) = owns K l ++ [own tStr K.E v' (K.fe y')] := by
      unfold owns
      rw [List.map_append]
      rfl
    rw [e9, List.append_assoc, List.append_assoc, List.append_assoc]
    refine List.Perm.append_left _ ?_
    exact List.perm_middle
  exact K1 w' (St.bldClose (K := K) h6 (at_hole (h := ⟨b1, ok_, gi_, l, y', v', [], b2⟩) e4) e7)
end
end Go.Proofs.YtlbcfjblpopcnaaL
set_option linter.unusedVariables false
set_option linter.unusedSimpArgs false
namespace Go.Proofs.YtlbcfjblpopcnaaL
open Go Go.RowKit
section
variable {κ β : Type} [BEq κ] [LawfulBEq κ]
def tMap (kv : κ → Value) (V : Ty β) : Ty (List (κ × β)) where
  sz := 1
  agg := false
  R := fun ok w l cs => (cs = [.map none] ∧ l = []) ∨ ∃ g es c, cs = [.map (some g)] ∧ ok g ∧ w.heap[g]? = some (.map es c) ∧ Ents kv V ok w l es.toList ∧ (es.toList.map (·.born)).Nodup ∧ (∀ e ∈ es.toList, e.born < c) ∧ (l.map (·.1)).Nodup
  len := by rintro _ _ _ _ (⟨rfl, _⟩ | ⟨g, es, c, rfl, _⟩) <;> rfl
  one := by
    rintro _ _ _ _ (⟨rfl, _⟩ | ⟨g, es, c, rfl, _⟩) u hu <;> simp at hu <;> subst hu <;> rfl
  move := by
    rintro ok ok' w w' l cs (h | ⟨g, es, c, rfl, hg, hh, he, h1, h2, h3⟩) hm
    · exact .inl h
    · obtain ⟨e, hg'⟩ := hm g hg (lt_of_some hh)
      exact .inr ⟨g, es, c, rfl, hg', e.trans hh, he.move hm, h1, h2, h3⟩
theorem tMap_V {kv : κ → Value} {V : Ty β} {ok : Nat → Prop} {w : World} {l : List (κ × β)} {v : Value} :
    (tMap kv V).V ok w l v ↔ (v = .map none ∧ l = []) ∨ ∃ g es c, v = .map (some g) ∧ ok g ∧ w.heap[g]? = some (.map es c) ∧ Ents kv V ok w l es.toList ∧ (es.toList.map (·.born)).Nodup ∧ (∀ e ∈ es.toList, e.born < c) ∧ (l.map (·.1)).Nodup := by
  constructor
  · rintro ⟨_, (⟨rfl, h⟩ | ⟨g, es, c, rfl, h⟩), rfl⟩
    · exact .inl ⟨rfl, h⟩
    · exact .inr ⟨g, es, c, rfl, h⟩
  · rintro (⟨rfl, h⟩ | ⟨g, es, c, rfl, h⟩)
    · exact ⟨_, .inl ⟨rfl, h⟩, rfl⟩
    · exact ⟨_, .inr ⟨g, es, c, rfl, h⟩, rfl⟩
omit [BEq κ] [LawfulBEq κ] in
theorem Ents.conv {β γ ι : Type} {kv : κ → Value} {V : Ty β} {V' : Ty γ} {ok ok' : Nat → Prop} {w w' : World} {p : ι → κ × β} {p' : ι → κ × γ} : ∀ {b : List ι} {es : List MapEntry}, (∀ o ∈ b, (p o).1 = (p' o).1) → (∀ o ∈ b, ∀ v, V.V ok w (p o).2 v → V'.V ok' w' (p' o).2 v) →
    Ents kv V ok w (b.map p) es → Ents kv V' ok' w' (b.map p') es
  | [], [], _, _, _ => trivial
  | o :: b, e :: es, hk, hv, ⟨h1, h2, h3⟩ => ⟨by rw [← hk o (by simp)]; exact h1, hv o (by simp) _ h2, Ents.conv (fun q hq => hk q (by simp [hq])) (fun q hq => hv q (by simp [hq])) h3⟩
  | [], _ :: _, _, _, h => h.elim
  | _ :: _, [], _, _, h => h.elim
theorem Own.memS {ok : Nat → Prop} {w : World} : ∀ {L : List LObj} {bss : List (List Nat)}, Own ok w L bss → ∀ o ∈ L, ∃ bs, o.H ok bs w ∧ ∀ b ∈ bs, b ∈ bss.flatten
  | [], _, _, o, ho => by simp at ho
  | q :: L, bs :: bss, ⟨h1, h2⟩, o, ho => by
    rcases List.mem_cons.1 ho with rfl | ho
    · exact ⟨bs, h1, fun b hb => by simp [hb]⟩
    · obtain ⟨bs', h3, h4⟩ := Own.memS h2 o ho
      exact ⟨bs', h3, fun b hb => by rw [List.flatten_cons]; exact List.mem_append.2 (.inr (h4 b hb))⟩
  | _ :: _, [], h, _, _ => h.elim
end
section
variable {φ : Type} (K : FK φ)
def frz (x : List (List UInt8 × List φ)) : List (List UInt8 × List (List UInt8 × φ)) := x.map fun o => (o.1, o.2.map fun y => (K.nm y, y))
variable {w : World} {w0 : Base} {ok0 : Nat → Prop} {Γ : List It} {Λ : List LObj} {g : Nat} {x : List (List UInt8 × List φ)} {C : List (BE φ) → Prop}
theorem St.bldFreeze {T : Ty φ} (hT : ∀ (ok : Nat → Prop) (w : World) (y : φ) (v : Value), (tSlice tStr).V ok w (K.fe y) v → T.R ok w y (K.fc y v)) (hTa : T.agg = true) (hs : St ok0 w0 w Γ (bldc K C g x :: Λ)) :
    St ok0 w0 w (vl (tMap bstr (tMap bstr T)) (frz K x) (.map (some g)) :: Γ) Λ := by
  refine St.freeze hs 0 rfl (it := vl (tMap bstr (tMap bstr T)) (frz K x) (.map (some g))) ?_
  rintro ok bs ⟨b, bss, ⟨_, rfl⟩, rfl, _, hO⟩
  have hmem := Own.memS hO
  have e1 : frz K (cont b) = b.map fun o => (o.1, o.2.2.map fun e => (K.nm e.1, e.1)) := by
    unfold frz cont
    rw [List.map_map]
    refine List.map_congr_left fun o _ => ?_
    simp
  have mv : ∀ k, ok k → k < w.heap.size → w.heap[k]? = w.heap[k]? ∧ (ok k ∨ k ∈ bss.flatten) := fun k hk _ => ⟨rfl, .inl hk⟩
  obtain ⟨bs0, h0, hb0⟩ := hmem _ (by rw [bldL_eq]; exact List.mem_cons_self ..)
  obtain ⟨rfl, es, c, hh, he, h1, h2, h3⟩ := h0
  refine tMap_V.2 (.inr ⟨g, es, c, rfl, .inr (hb0 g (by simp)), hh, ?_, h1, h2, ?_⟩)
  · rw [e1]
    refine Ents.conv (p := fun o : BE φ => (o.1, Value.map (some o.2.1))) (fun _ _ => rfl) (fun o ho v hv => ?_) he
    have ev := (tCell_V.1 hv).1
    subst ev
    have hin : ∀ q ∈ inP K o, q.1 ∈ bldL K g b := fun q hq => by
      unfold bldL bldP
      exact List.mem_map.2 ⟨q, List.mem_cons_of_mem _ (List.mem_flatMap.2 ⟨o, ho, hq⟩), rfl⟩
    obtain ⟨bs1, q0, hb1⟩ := hmem _ (hin _ (List.mem_cons_self ..))
    obtain ⟨rfl, es1, c1, hh1, he1, k1, k2, k3⟩ := q0
    refine tMap_V.2 (.inr ⟨o.2.1, es1, c1, rfl, .inr (hb1 _ (by simp)), hh1, ?_, k1, k2, ?_⟩)
    · refine Ents.conv (p := fun e : φ × Value => (K.nm e.1, K.fc e.1 e.2)) (fun _ _ => rfl) (fun e he' v hv => ?_) he1
      obtain ⟨ev, _⟩ := tRaw_V.1 hv
      subst ev
      obtain ⟨bs2, r0, hb2⟩ := hmem _ (hin (own tStr K.E e.2 (K.fe e.1), fpV e.2) (List.mem_cons_of_mem _ (List.mem_map.2 ⟨e, he', rfl⟩)))
      refine ⟨K.fc e.1 e.2, hT _ _ _ _ ?_, by rw [hTa]; rfl⟩
      rcases r0 with ⟨_, _, r1, a, r2⟩ | ⟨_, cs, r1, r2, r3⟩
      · rw [r1, r2]
        exact tSlice_V.2 ⟨a, 0, rfl, Nat.le_refl _, .inl rfl⟩
      · refine (ownsRow_row (ok := ok) r2 r3).move fun k hk _ => ⟨rfl, ?_⟩
        rcases hk with hk | hk
        · exact .inl hk
        · exact .inr (hb2 k (by rw [r1]; exact hk))
    · rw [List.map_map] at k3 ⊢
      exact k3
  · rw [e1, List.map_map]
    unfold outL at h3
    rw [List.map_map] at h3
    exact h3
end
section
variable {P : Program} {N : Nat} {Q : QE} {ρ : Env} {w : World} {w0 : Base} {ok0 : Nat → Prop} {Γ : List It} {Λ : List LObj}
variable {d : Option Tmp} {ty : TypeId} {pos : String} {aft : Array Edge} {gd : Option (Nat × Bool)} {ops : Array Oper} {rest : List Oper}
variable {κ β : Type} [BEq κ] [LawfulBEq κ] {kv : κ → Value} {V : Ty β}
theorem WL.lookupT {t kt et : TypeId} {m x : Operand} {mv : Value} {l : List (κ × β)} {a : κ} {z0 : β} {zc : Value} (hs : St ok0 w0 w Γ Λ) (i : Nat) (hi : Γ[i]? = some (vl (tMap kv V) l mv)) (hk : KK P kt kv) (ht : P.underlying t = some (.map kt et))
    (hm : ρ.ev m = mv) (hx : ρ.ev x = kv a) (hz : ∀ w, (zeroValue et).run P w = .ok zc w) (hzV : ∀ (ok : Nat → Prop) (w : World), V.V ok w z0 zc) {y : β} (hy : (l.lookup a).getD z0 = y)
    (K : ∀ v, St ok0 w0 w (vl V y v :: Γ) Λ → WL P N ops Q rest (putE ρ d v) w)
    (hg : wantedE ops ρ ⟨d, .lookup t m x false, ty, pos, aft, gd⟩ = true := by rfl) (hd : fits N d = true := by rfl) :
    WL P N ops Q (⟨d, .lookup t m x false, ty, pos, aft, gd⟩ :: rest) ρ w := by
  subst hy
  subst hm
  obtain ⟨desc, hu, hsame⟩ := hk.und
  have fin : ∀ v, (Instr.lookup t (ρ.ev m) (kv a) false).run P w = .ok v w → St ok0 w0 w (vl V ((l.lookup a).getD z0) v :: Γ) Λ → WL P N ops Q (⟨d, .lookup t m x false, ty, pos, aft, gd⟩ :: rest) ρ w := by
    intro v hv hst
    exact WL.value hg hd (v := v) (w' := w) (by
      show (do pure (Next.value (← Instr.lookup t (ρ.ev m) (ρ.ev x) false)) : Sem Next).run P w = _
      rw [hx]
      exact exec_v hv) (K v hst)
  obtain ⟨ok, hh⟩ := hs.get i hi
  rcases tMap_V.1 hh with ⟨em, el⟩ | ⟨g, es, c, em, hok, hb, he, _⟩
  · subst el
    refine fin zc ?_ (hs.add fun ok _ => hzV ok w)
    rw [em]
    unfold Instr.lookup
    refine (run_bind (run_und ht w)).trans ?_
    refine (run_bind (x := (#[] : Array MapEntry)) (w' := w) rfl).trans ?_
    refine (run_bind (hk.chk _ a w)).trans ?_
    refine (run_bind (run_findKey hu (r := none) rfl w)).trans ?_
    exact (run_bind (hz w)).trans rfl
  · have go : ∀ r : Option (Nat × Value), Instr.findNow desc (kv a) es.toList 0 = some r → ∀ v, (match r with | some (_, v) => v | none => zc) = v → (Instr.lookup t (ρ.ev m) (kv a) false).run P w = .ok v w := by
      intro r hr v hv
      rw [em]
      unfold Instr.lookup
      refine (run_bind (run_und ht w)).trans ?_
      refine (run_bind ((run_bind (run_getO hb)).trans rfl)).trans ?_
      refine (run_bind (hk.chk _ a w)).trans ?_
      refine (run_bind (run_findKey hu hr w)).trans ?_
      cases r with
      | none => subst hv; exact (run_bind (hz w)).trans rfl
      | some p => obtain ⟨j, u⟩ := p; subst hv; rfl
    rcases findNow_ents (P := P) (t := t) hsame a 0 he with ⟨a1, a2, _⟩ | ⟨j, y, e, a1, a2, a3, a4, a5, _⟩
    · exact fin zc (go _ a2 _ rfl) (hs.add fun ok _ => by rw [a1]; exact hzV ok w)
    · refine fin e.val (go _ a4 _ rfl) (hs.add fun ok' hA => ?_)
      rcases tMap_V.1 (hA.get i hi) with ⟨em', _⟩ | ⟨g', es', c', em', _, hb', he', _⟩
      · rw [em] at em'; cases em'
      · rw [em] at em'
        cases em'
        rw [hb] at hb'
        cases hb'
        rcases findNow_ents (P := P) (t := t) hsame a 0 he' with ⟨b1, _⟩ | ⟨j', y', e', b1, b2, b3, b4, b5, _⟩
        · rw [a1] at b1; cases b1
        · rw [a4] at b4
          simp only [Option.some.injEq, Prod.mk.injEq] at b4
          rw [b1]
          show V.V ok' w y' e.val
          rw [b4.2]
          exact b5
end
def insS : List (List UInt8) → List UInt8 → List (List UInt8)
  | [], s => [s]
  | a :: l, s => if Op.bytesLess a s then a :: insS l s else if a == s then a :: l else s :: a :: l
noncomputable def insO (l : List (List UInt8)) (s : List UInt8) : Option (List (List UInt8)) := if l.Pairwise (fun a b => Op.bytesLess a b = true) ∧ l.length < 1000000000000 then some (insS l s) else none
def skeys {β : Type} (l : List (List UInt8 × β)) : Option (List (List UInt8)) :=
  if (∀ x ∈ l, x.1.length ≤ maxLen) ∧ l.length * 16 ≤ 140737488355328 then some ((l.map (·.1)).mergeSort fun a b => decide (a ≤ b)) else none
theorem map_owns {P : Program} {kt : TypeId} {β : Type} {V : Ty β} {l : List (List UInt8 × β)} {ok : Nat → Prop} {w : World} {g : Nat} {es : Array MapEntry} {c : Nat} (hk : P.underlying kt = some .string) (hh : w.heap[g]? = some (.map es c)) (he : Ents bstr V ok w l es.toList)
    (h1 : (es.toList.map (·.born)).Nodup) (h2 : ∀ e ∈ es.toList, e.born < c) (hn : (l.map (·.1)).Nodup) (hm : l.length ≤ maxLen) (hks : ∀ x ∈ l, x.1.length ≤ maxLen) :
    ∃ (R : Value → Option (DataW Unit × List MemPlace)) (D0 : DataW Unit), w.ownsMap P kt R g l.length D0 ∧ Maps.size D0 = l.length ∧ ∀ ss : List (List UInt8), ss.Perm (strKeys D0) → ss.Perm (l.map (·.1)) := by
  let R : Value → Option (DataW Unit × List MemPlace) := fun _ => some (.lit (.bool true), [])
  have hrd : ∀ (l : List (List UInt8 × β)) (es : List MapEntry), Ents bstr V ok w l es → (∀ x ∈ l, x.1.length ≤ maxLen) → (∀ e ∈ es, ∃ y, Go.WideElems.rd P kt R e = some y) ∧ es.map (Go.WideElems.rg P kt R) = l.map fun x => (Lit.string x.1, DataW.lit (.bool true)) := by
    intro l
    induction l with
    | nil => intro es h _; cases es with
      | nil => exact ⟨by simp, rfl⟩
      | cons _ _ => exact h.elim
    | cons x l ih => intro es h hx; cases es with
      | nil => exact h.elim
      | cons e es =>
        obtain ⟨k1, _, k3⟩ := h
        obtain ⟨i1, i2⟩ := ih es k3 fun q hq => hx q (by simp [hq])
        have e0 : Go.WideElems.rd P kt R e = some (Lit.string x.1, DataW.lit (.bool true)) := by
          unfold Go.WideElems.rd
          have hl := hx x (by simp)
          have : keyOf P kt e.key = some (.string x.1) := by
            rw [k1]
            unfold keyOf
            rw [hk]
            simp [mapKey, hk, bstr, ByteArray.size, hl]
          rw [this]
          rfl
        refine ⟨fun q hq => ?_, ?_⟩
        · rcases List.mem_cons.1 hq with rfl | hq
          · exact ⟨_, e0⟩
          · exact i1 q hq
        · rw [List.map_cons, List.map_cons, i2]
          unfold Go.WideElems.rg
          rw [e0]
          rfl
  obtain ⟨hr1, hr2⟩ := hrd l es.toList he hks
  have hlen : l.length = es.size := by rw [he.length]; simp
  have hkeys : es.toList.map (·.key) = l.map fun x => bstr x.1 := by
    have : ∀ (l : List (List UInt8 × β)) (es : List MapEntry), Ents bstr V ok w l es → es.map (·.key) = l.map fun x => bstr x.1 := by
      intro l
      induction l with
      | nil => intro es h; cases es with
        | nil => rfl
        | cons _ _ => exact h.elim
      | cons x l ih => intro es h; cases es with
        | nil => exact h.elim
        | cons e es => obtain ⟨k1, _, k3⟩ := h; rw [List.map_cons, List.map_cons, ih es k3, k1]
    exact this l _ he
  refine ⟨R, .map ((es.toList.map (Go.WideElems.rg P kt R)).foldr DataW.insert []), ⟨es, c, hh, ⟨by omega, ⟨h2, h1, ?_⟩, hr1⟩, by omega, rfl⟩, ?_, ?_⟩
  · rw [hkeys]
    have : (l.map fun x => bstr x.1) = (l.map (·.1)).map bstr := by rw [List.map_map]; rfl
    rw [this]
    exact List.pairwise_map.2 (hn.imp fun hab e => hab (bstr_inj e))
  · rw [Maps.size_eq, Go.length_sorted]
    simp [hlen]
  · intro ss hss
    refine hss.trans ?_
    unfold strKeys
    rw [hr2]
    have := (Go.WideShapes.sorted_perm (l.map fun x => ((Lit.string x.1, DataW.lit (.bool true)) : Lit × DataW Unit))).map (fun p => strOf p.1)
    refine this.trans ?_
    rw [List.map_map]
    exact List.Perm.of_eq rfl
section
variable {P : Program} {N : Nat} {Q : QE} {ρ : Env} {w : World} {w0 : Base} {ok0 : Nat → Prop} {Γ : List It} {Λ : List LObj}
variable {d d2 : Option Tmp} {ty ty2 : TypeId} {pos pos2 : String} {aft aft2 : Array Edge} {gd : Option (Nat × Bool)} {ops : Array Oper} {rest : List Oper}
structure SK (P : Program) (fk fs g : FuncId) (M : TypeId) : Prop where
  fk_ : FN P fk
  fs_ : FN P fs
  keys : ∀ (mb : Option Nat) (W : World), Calls P fk #[.map mb] W fun e w' => e = .returned (.func (.func g) #[] #[.pointer (some ⟨W.heap.size, 0, none⟩)]) ∧ w' = W.alloc (.cells #[.map mb] M)
  sorted : ∀ (b nn : Nat) (D0 : DataW Unit) (R : Value → Option (DataW Unit × List MemPlace)) (w : World) (hown : w.ownsMap P 9 R b nn D0) (hmax : Maps.size D0 ≤ maxLen) (hbytes : Maps.size D0 * 16 ≤ 140737488355328),
    Calls P fs #[.func (.func g) #[] #[.pointer (some ⟨w.heap.size, 0, none⟩)]] (w.alloc (.cells #[.map (some b)] M)) fun e w' => ∃ (v : Value) (ss : List (List UInt8)), e = .returned v ∧ ss.Perm (strKeys D0) ∧
      w'.ownsRow (w.alloc (.cells #[.map (some b)] M)).heap.size 9 1 v ss.length ((ss.mergeSort (fun x y => decide (x ≤ y))).map encStr) ∧ (v = .slice none 0 0 ↔ ss = []) ∧ Below (w.alloc (.cells #[.map (some b)] M)).heap.size (w.alloc (.cells #[.map (some b)] M)) w'
  sortedN : ∀ w : World, Calls P fs #[.func (.func g) #[] #[.pointer (some ⟨w.heap.size, 0, none⟩)]] (w.alloc (.cells #[.map none] M)) fun e w' => ∃ (v : Value) (ss : List (List UInt8)), e = .returned v ∧ ss = [] ∧
      w'.ownsRow (w.alloc (.cells #[.map none] M)).heap.size 9 1 v ss.length ((ss.mergeSort (fun x y => decide (x ≤ y))).map encStr) ∧ (v = .slice none 0 0 ↔ ss = []) ∧ Below (w.alloc (.cells #[.map none] M)).heap.size (w.alloc (.cells #[.map none] M)) w'
theorem cells_str {ok : Nat → Prop} {w : World} (xs : List (List UInt8)) : Cells tStr ok w xs (xs.map encStr) := by
  refine ⟨by simp [tStr], fun j x hx => ?_⟩
  show _ = [bstr x]
  have hj := (List.getElem?_eq_some_iff.1 hx).1
  rw [show j * tStr.sz = j from Nat.mul_one j, show tStr.sz = 1 from rfl, List.drop_eq_getElem_cons (by simpa using hj), List.take_succ_cons, List.take_zero, List.getElem_map, (List.getElem?_eq_some_iff.1 hx).2]
  rfl
theorem St.ownNew {v : Value} {xs : List (List UInt8)} {w' : World} (hs : St ok0 w0 w Γ Λ) (hb : Below w.heap.size w w') (h : w'.ownsRow w.heap.size 9 1 v xs.length (xs.map encStr)) : St ok0 w0 w' Γ (own tStr 9 v xs :: Λ) := by
  have hs' : St ok0 w0 w' Γ Λ := hs.below hb
  have hx := h
  obtain ⟨_, h⟩ := h
  rcases h with ⟨rfl, hn⟩ | ⟨g, cap, cur, rfl, hb1, hg, h1, h2, h3, h4⟩
  · have : xs = [] := List.length_eq_zero_iff.1 hn
    subst this
    exact hs'.ownNil tStr 9
  · rcases Nat.eq_zero_or_pos cap with hc | hc
    · have : xs = [] := List.length_eq_zero_iff.1 (by omega)
      subst this
      subst hc
      exact hs'.ownEmpty tStr 9 _
    · refine hs.new hb (bs := [g]) (by simp) (fun b hb => ?_) fun ok _ _ _ => .inr ⟨hc, xs.map encStr, rfl, ⟨by simp [tStr], .inr ⟨g, cap, cur, rfl, Nat.zero_le _, hg, h1, h2, h3, h4⟩⟩, cells_str xs⟩
      simp at hb; subst hb; exact ⟨hb1, lt_of_some hg⟩
theorem WL.sortedKeys {β : Type} {V : Ty β} {fk fs g : FuncId} {M T1 T2 : TypeId} {x : Operand} {t : Tmp} {mv : Value} {l : List (List UInt8 × β)} {r : List (List UInt8)} (S : SK P fk fs g M) (hk : P.underlying 9 = some .string) (hs : St ok0 w0 w Γ Λ) (i : Nat) (hi : Γ[i]? = some (vl (tMap bstr V) l mv))
    (hx : ρ.ev x = mv) (hr : skeys l = some r)
    (K : ∀ c v w', St ok0 w0 w' Γ (own tStr 9 v r :: Λ) → WL P N ops Q rest (putE (putE ρ (some t) c) d2 v) w')
    (hg : wantedE ops ρ ⟨some t, .call { callee := .value (.func fk), args := [x].toArray, argTypes := #[T1] }, ty, pos, aft, none⟩ = true := by rfl) (hd : fits N (some t) = true := by rfl) (hd2 : fits N d2 = true := by rfl) :
    WL P N ops Q (⟨some t, .call { callee := .value (.func fk), args := [x].toArray, argTypes := #[T1] }, ty, pos, aft, none⟩ :: ⟨d2, .call { callee := .value (.func fs), args := [.tmp t].toArray, argTypes := #[T2] }, ty2, pos2, aft2, none⟩ :: rest) ρ w := by
  unfold skeys at hr
  split at hr
  · rename_i hc
    obtain ⟨hc1, hc2⟩ := hc
    have hr := Option.some.inj hr
    have step : ∀ mb : Option Nat, mv = .map mb → ∀ R : Value → World → Prop, (Calls P fs #[.func (.func g) #[] #[.pointer (some ⟨w.heap.size, 0, none⟩)]] (w.alloc (.cells #[.map mb] M)) fun e w' => ∃ v, e = .returned v ∧ R v w') →
        (∀ v w', R v w' → St ok0 w0 w' Γ (own tStr 9 v r :: Λ)) → WL P N ops Q (⟨some t, .call { callee := .value (.func fk), args := [x].toArray, argTypes := #[T1] }, ty, pos, aft, none⟩ :: ⟨d2, .call { callee := .value (.func fs), args := [.tmp t].toArray, argTypes := #[T2] }, ty2, pos2, aft2, none⟩ :: rest) ρ w := by
      intro mb em R h1 h2
      refine WL.enter (R := fun v w' => v = .func (.func g) #[] #[.pointer (some ⟨w.heap.size, 0, none⟩)] ∧ w' = w.alloc (.cells #[.map mb] M)) hg hd (w' := w) (f := fk) (args := [mv].toArray) ?_ ?_ ?_
      · show (invoke (.fn (.func fk) #[]) (#[] ++ [x].toArray.map ρ.ev)).run P w = _
        rw [List.map_toArray, List.map_cons, hx]
        simpa [invoke] using S.fk_ [mv].toArray w
      · rw [em]
        refine (S.keys mb w).mono ?_
        rintro e w' ⟨h3, h4⟩
        exact ⟨_, h3, rfl, h4⟩
      · rintro v w' ⟨rfl, rfl⟩
        refine WL.enter (R := R) rfl hd2 (w' := w.alloc (.cells #[.map mb] M)) (f := fs) (args := #[.func (.func g) #[] #[.pointer (some ⟨w.heap.size, 0, none⟩)]]) ?_ h1 ?_
        · show (invoke (.fn (.func fs) #[]) (#[] ++ [Operand.tmp t].toArray.map (putE ρ (some t) _).ev)).run P _ = _
          rw [List.map_toArray, List.map_cons]
          have e : (putE ρ (some t) (.func (.func g) #[] #[.pointer (some ⟨w.heap.size, 0, none⟩)])).ev (.tmp t) = .func (.func g) #[] #[.pointer (some ⟨w.heap.size, 0, none⟩)] := upd_same ρ t _
          rw [e]
          simpa [invoke] using S.fs_ #[.func (.func g) #[] #[.pointer (some ⟨w.heap.size, 0, none⟩)]] (w.alloc (.cells #[.map mb] M))
        · intro v w' hR
          exact K _ v w' (h2 v w' hR)
    have hml : l.length ≤ maxLen := by unfold maxLen; omega
    obtain ⟨ok, hh⟩ := hs.get i hi
    rcases tMap_V.1 hh with ⟨em, el⟩ | ⟨b, es, c, em, hok, hb, he, h1, h2, h3⟩
    · subst el
      refine step none em (fun v w' => w'.ownsRow (w.alloc (.cells #[.map none] M)).heap.size 9 1 v 0 [] ∧ Below (w.alloc (.cells #[.map none] M)).heap.size (w.alloc (.cells #[.map none] M)) w') ((S.sortedN w).mono ?_) ?_
      · rintro e w' ⟨v, ss, rfl, rfl, q1, q2, q3⟩
        exact ⟨v, rfl, by simpa using q1, q3⟩
      · rintro v w' ⟨q1, q2⟩
        have : r = [] := by rw [← hr]; simp
        subst this
        exact (hs.below (below_alloc w _)).ownNew q2 q1
    · obtain ⟨R, D0, o1, o2, o3⟩ := map_owns hk hb he h1 h2 h3 hml hc1
      refine step (some b) em (fun v w' => w'.ownsRow (w.alloc (.cells #[.map (some b)] M)).heap.size 9 1 v r.length (r.map encStr) ∧ Below (w.alloc (.cells #[.map (some b)] M)).heap.size (w.alloc (.cells #[.map (some b)] M)) w') ((S.sorted b l.length D0 R w o1 (o2.symm ▸ hml) (o2.symm ▸ hc2)).mono ?_) ?_
      · rintro e w' ⟨v, ss, rfl, q0, q1, q2, q3⟩
        have e1 : ss.mergeSort (fun x y => decide (x ≤ y)) = r := by
          rw [← hr]
          exact mergeSort_of_perm (o3 ss q0)
        rw [e1] at q1
        have e2 : r.length = ss.length := by rw [← e1, List.length_mergeSort]
        rw [← e2] at q1
        exact ⟨v, rfl, q1, q3⟩
      · rintro v w' ⟨q1, q2⟩
        exact (hs.below (below_alloc w _)).ownNew q2 q1
  · cases hr
end
end Go.Proofs.YtlbcfjblpopcnaaL
set_option linter.unusedVariables false
set_option linter.unusedSimpArgs false
namespace Go.Proofs.Ytlbcfjblpopcnaa
open Go Go.RowKit Go.Proofs.YtlbcfjblpopcnaaL
structure api_Effect where
  Kind : Int
  Object : List UInt8
  Field : List UInt8
  N : Int
  S : List UInt8
  deriving DecidableEq
structure api_Update where
  Client : Int
  Seq : Int
  Tag : Int
  Effects : List api_Effect
  deriving DecidableEq
structure fold_Register where
  Set : Bool
  Tag : Int
  Client : Int
  Seq : Int
  N : Int
  S : List UInt8
  deriving DecidableEq
structure fold_Field where
  Name : List UInt8
  Register : fold_Register
  HasMax : Bool
  Max : Int
  Sum : Int
  Elems : List (List UInt8)
  Flag : Bool
  deriving DecidableEq
structure fold_Object where
  Name : List UInt8
  Fields : List fold_Field
  deriving DecidableEq
structure fold_Store where
  Objects : List fold_Object
  deriving DecidableEq
noncomputable def cmp_isNaN_int (x1 : Int) : Option Bool :=
  some (x1 != x1)
noncomputable def cmp_Compare_int (x1 : Int) (x2 : Int) : Option Int :=
  ((cmp_isNaN_int x1).bind fun x5 =>
  ((cmp_isNaN_int x2).bind fun x7 =>
  (if x5 then (if x7 then some 0 else some (-1)) else (if x7 then some 1 else (if (decide (x1 < x2)) then some (-1) else (if (decide (x2 < x1)) then some 1 else some 0))))))
noncomputable def cmp_Or_int.j1   : Option Int :=
  some 0
noncomputable def cmp_Or_int.l1 (x1 : List Int) : Int → Option ((Int) ⊕ (Unit ⊕ Int)) := fun x12 =>
  (if (decide (x12 < (x1.length : Int))) then ((idx x1 x12).bind fun x19 =>
  (if (x19 != 0) then some (.inr (.inr x19)) else (letV (IntKind.i64.wrap (x12 + 1)) fun x25 =>
  some (.inl x25)))) else some (.inr (.inl ())))
noncomputable def cmp_Or_int (x1 : List Int) : Option Int :=
  ((loopO (cmp_Or_int.l1 x1) 0).bind fun b => match b with | .inl _ => cmp_Or_int.j1 | .inr x26 => some x26)
noncomputable def fold_newer.j1  (x14 : Bool) : Option Bool :=
  some x14
noncomputable def fold_newer (x1 : api_Update) (x5 : fold_Register) : Option Bool :=
  (if (!x5.Set) then fold_newer.j1 true else ((cmp_Compare_int x1.Tag x5.Tag).bind fun x84 =>
  ((cmp_Compare_int x1.Client x5.Client).bind fun x87 =>
  ((cmp_Compare_int x1.Seq x5.Seq).bind fun x90 =>
  ((cmp_Or_int [x84, x87, x90]).bind fun x93 =>
  fold_newer.j1 (decide (0 < x93)))))))
noncomputable def slices_Clone_string (x1 : List (List UInt8)) : Option (List (List UInt8)) :=
  ((app 16 [] x1).bind fun x11 =>
  some x11)
noncomputable def esref32_Insert.j1  (x36 : List (List UInt8)) : Option (List (List UInt8)) :=
  some x36
noncomputable def esref32_Insert.j2 (x1 : List (List UInt8)) (x4 : List UInt8) (x9 : Int) (x14 : Bool) : Option (List (List UInt8)) :=
  (if x14 then ((app 16 [] x1).bind fun x19 =>
  some x19) else ((cut x1 0 x9).bind fun x26 =>
  ((app 16 [] x26).bind fun x29 =>
  ((app 16 x29 [x4]).bind fun x42 =>
  ((cut x1 x9 (x1.length : Int)).bind fun x47 =>
  ((app 16 x42 x47).bind fun x50 =>
  esref32_Insert.j1 x50))))))
noncomputable def esref32_Insert.j3 (x1 : List (List UInt8)) (x4 : List UInt8) (x9 : Int) : Option (List (List UInt8)) :=
  (if (decide (x9 < (x1.length : Int))) then ((idx x1 x9).bind fun x92 =>
  esref32_Insert.j2 x1 x4 x9 (x92 == x4)) else esref32_Insert.j2 x1 x4 x9 false)
noncomputable def esref32_Insert.j4 (x96 : Int) (x101 : Bool) : Option ((Int) ⊕ (Int)) :=
  (if x101 then (letV (IntKind.i64.wrap (x96 + 1)) fun x104 =>
  some (.inl x104)) else some (.inr x96))
noncomputable def esref32_Insert.l1 (x1 : List (List UInt8)) (x4 : List UInt8) : Int → Option ((Int) ⊕ (Int)) := fun x96 =>
  (if (decide (x96 < (x1.length : Int))) then ((idx x1 x96).bind fun x106 =>
  esref32_Insert.j4 x96 (Op.bytesLess x106 x4)) else esref32_Insert.j4 x96 false)
noncomputable def esref32_Insert (x1 : List (List UInt8)) (x4 : List UInt8) : Option (List (List UInt8)) :=
  ((loopO (esref32_Insert.l1 x1 x4) 0).bind fun x109 => esref32_Insert.j3 x1 x4 x109)
noncomputable def esref32_before (x1 : fold_Register) (x5 : Int) (x6 : Int) (x7 : Int) : Option Bool :=
  (if (x1.Tag != x5) then some (decide (x1.Tag < x5)) else (if (x1.Client != x6) then some (decide (x1.Client < x6)) else some (decide (x1.Seq < x7))))
noncomputable def esref32_Copy.j1  (x12 : List fold_Object) : Option fold_Store :=
  some (⟨x12⟩ : fold_Store)
noncomputable def esref32_Copy.j2 (x20 : Int) (x34 : List fold_Object) : Option ((Int × (List fold_Object)) ⊕ (List fold_Object)) :=
  (letV (IntKind.i64.wrap (x20 + 1)) fun x39 =>
  some (.inl (x39, x34)))
noncomputable def esref32_Copy.j3 (x20 : Int) (x21 : List fold_Object) (x44 : fold_Object) (x51 : List fold_Field) : Option ((Int × (List fold_Object)) ⊕ (List fold_Object)) :=
  ((app 40 x21 [(⟨x44.Name, x51⟩ : fold_Object)]).bind fun x57 =>
  esref32_Copy.j2 x20 x57)
noncomputable def esref32_Copy.l1 (x1 : fold_Store) (x20 : Int) : (Int × (List fold_Field)) → Option ((Int × (List fold_Field)) ⊕ (List fold_Field)) := fun (x64, x65) =>
  ((idx x1.Objects x20).bind fun x75 =>
  (if (decide (x64 < ((x75.Fields).length : Int))) then ((idx x1.Objects x20).bind fun x87 =>
  ((idx x87.Fields x64).bind fun x93 =>
  ((app 16 [] x93.Elems).bind fun x103 =>
  ((app 128 x65 [(⟨x93.Name, (⟨x93.Register.Set, x93.Register.Tag, x93.Register.Client, x93.Register.Seq, x93.Register.N, x93.Register.S⟩ : fold_Register), x93.HasMax, x93.Max, x93.Sum, x103, x93.Flag⟩ : fold_Field)]).bind fun x109 =>
  (letV (IntKind.i64.wrap (x64 + 1)) fun x114 =>
  some (.inl (x114, x109))))))) else some (.inr x65)))
noncomputable def esref32_Copy.l2 (x1 : fold_Store) : (Int × (List fold_Object)) → Option ((Int × (List fold_Object)) ⊕ (List fold_Object)) := fun (x20, x21) =>
  (if (decide (x20 < ((x1.Objects).length : Int))) then ((idx x1.Objects x20).bind fun x44 =>
  ((loopO (esref32_Copy.l1 x1 x20) (0, [])).bind fun x115 => esref32_Copy.j3 x20 x21 x44 x115)) else some (.inr x21))
noncomputable def esref32_Copy (x1 : fold_Store) : Option fold_Store :=
  ((loopO (esref32_Copy.l2 x1) (0, [])).bind fun x116 => esref32_Copy.j1 x116)
abbrev fold_B := List (List UInt8 × List fold_Field)
abbrev fold_F := List (List UInt8 × List (List UInt8 × fold_Field))
def fold_zero : fold_Field := ⟨[], ⟨false, 0, 0, 0, 0, []⟩, false, 0, 0, [], false⟩
noncomputable def fold_upd (u : api_Update) (e : api_Effect) (f : fold_Field) : Option fold_Field :=
  if e.Kind == 1 then ((fold_newer u f.Register).bind fun b => if b then some { f with Register := ⟨true, u.Tag, u.Client, u.Seq, e.N, e.S⟩ } else some f) else
  if e.Kind == 2 then (if (!f.HasMax) then some { f with HasMax := true, Max := e.N } else if decide (f.Max < e.N) then some { f with HasMax := true, Max := e.N } else some f) else
  if e.Kind == 3 then some { f with Sum := IntKind.i64.wrap (f.Sum + e.N) } else
  if e.Kind == 4 then ((insO f.Elems e.S).bind fun l => some { f with Elems := l }) else
  if e.Kind == 5 then some { f with Flag := true } else some f
def fold_with (x : fold_B) (k : List UInt8) : fold_B := if (x.lookup k).isNone then x ++ [(k, [])] else x
def fold_at (x : fold_B) (k f : List UInt8) : fold_Field := (((x.lookup k).getD []).find? fun q => f == q.Name).getD fold_zero
def fold_set (x : fold_B) (k : List UInt8) (y : fold_Field) : fold_B := mset x k (fput fold_Field.Name y ((x.lookup k).getD []))
noncomputable def fold_eff (u : api_Update) (x : fold_B) (e : api_Effect) : Option fold_B :=
  (fold_upd u e { fold_at (fold_with x e.Object) e.Object e.Field with Name := e.Field }).bind fun f => some (fold_set (fold_with x e.Object) e.Object f)
noncomputable def fold_apply.l1 (u : api_Update) : (Int × fold_B) → Option ((Int × fold_B) ⊕ fold_B) := fun (i, x) =>
  if decide (i < (u.Effects.length : Int)) then ((idx u.Effects i).bind fun e => (fold_eff u x e).bind fun x' => letV (IntKind.i64.wrap (i + 1)) fun j => some (.inl (j, x'))) else some (.inr x)
noncomputable def fold_apply (u : api_Update) (x : fold_B) : Option fold_B := loopO (fold_apply.l1 u) (0, x)
noncomputable def fold_load.l1 (o : fold_Object) : (Int × List fold_Field) → Option ((Int × List fold_Field) ⊕ List fold_Field) := fun (i, fs) =>
  if decide (i < (o.Fields.length : Int)) then ((idx o.Fields i).bind fun f => (slices_Clone_string f.Elems).bind fun l => letV (IntKind.i64.wrap (i + 1)) fun j => some (.inl (j, fput fold_Field.Name { f with Elems := l } fs))) else some (.inr fs)
noncomputable def fold_load.l2 (t : fold_Store) : (Int × fold_B) → Option ((Int × fold_B) ⊕ fold_B) := fun (i, x) =>
  if decide (i < (t.Objects.length : Int)) then ((idx t.Objects i).bind fun o => (loopO (fold_load.l1 o) (0, [])).bind fun fs => letV (IntKind.i64.wrap (i + 1)) fun j => some (.inl (j, mset x o.Name fs))) else some (.inr x)
noncomputable def fold_load (t : fold_Store) : Option fold_B := loopO (fold_load.l2 t) (0, [])
def fold_frz (x : fold_B) : fold_F := x.map fun o => (o.1, o.2.map fun y => (y.Name, y))
noncomputable def fold_store.l1 (m : List (List UInt8 × fold_Field)) (ns : List (List UInt8)) : (Int × List fold_Field) → Option ((Int × List fold_Field) ⊕ List fold_Field) := fun (i, out) =>
  if decide (i < (ns.length : Int)) then ((idx ns i).bind fun n => (app 128 out [(m.lookup n).getD fold_zero]).bind fun out' => letV (IntKind.i64.wrap (i + 1)) fun j => some (.inl (j, out'))) else some (.inr out)
noncomputable def fold_store.l2 (x : fold_F) (ns : List (List UInt8)) : (Int × List fold_Object) → Option ((Int × List fold_Object) ⊕ List fold_Object) := fun (i, out) =>
  if decide (i < (ns.length : Int)) then ((idx ns i).bind fun n => (skeys ((x.lookup n).getD [])).bind fun fs => (loopO (fold_store.l1 ((x.lookup n).getD []) fs) (0, [])).bind fun l => (app 40 out [⟨n, l⟩]).bind fun out' => letV (IntKind.i64.wrap (i + 1)) fun j => some (.inl (j, out'))) else some (.inr out)
noncomputable def fold_store (x : fold_F) : Option fold_Store := (skeys x).bind fun ns => (loopO (fold_store.l2 x ns) (0, [])).bind fun l => some ⟨l⟩

noncomputable def fold_Apply (x1 : fold_Store) (x2 : api_Update) : Option fold_Store := (fold_load x1).bind fun b => (fold_apply x2 b).bind fun b' => fold_store (fold_frz b')

noncomputable def fold_Find.l1 (x1 : fold_Store) (x2 : List UInt8) : Int → Option (Int ⊕ (Unit ⊕ fold_Object)) := fun i =>
  if decide (i < (x1.Objects.length : Int)) then ((idx x1.Objects i).bind fun o => if o.Name == x2 then ((fold_load ⟨[o]⟩).bind fun b => (fold_store (fold_frz b)).bind fun t => (idx t.Objects 0).bind fun r => some (.inr (.inr r))) else letV (IntKind.i64.wrap (i + 1)) fun j => some (.inl j)) else some (.inr (.inl ()))
noncomputable def fold_Find (x1 : fold_Store) (x2 : List UInt8) : Option fold_Object := (loopO (fold_Find.l1 x1 x2) 0).bind fun b => match b with | .inl _ => some ⟨x2, []⟩ | .inr r => some r

noncomputable def fold_FieldOf.j1 (x5 : List UInt8) (x11 : fold_Field) : Option fold_Field :=
  some (⟨x5, (⟨false, 0, 0, 0, 0, []⟩ : fold_Register), false, 0, 0, [], false⟩ : fold_Field)
noncomputable def fold_FieldOf.l1 (x1 : fold_Object) (x5 : List UInt8) : (Int × fold_Field) → Option ((Int × fold_Field) ⊕ (fold_Field ⊕ fold_Field)) := fun (x21, x22) =>
  (if (decide (x21 < ((x1.Fields).length : Int))) then ((idx x1.Fields x21).bind fun x31 =>
  (if (x31.Name == x5) then ((slices_Clone_string x31.Elems).bind fun x42 =>
  some (.inr (.inr (⟨x31.Name, (⟨x31.Register.Set, x31.Register.Tag, x31.Register.Client, x31.Register.Seq, x31.Register.N, x31.Register.S⟩ : fold_Register), x31.HasMax, x31.Max, x31.Sum, x42, x31.Flag⟩ : fold_Field)))) else (letV (IntKind.i64.wrap (x21 + 1)) fun x47 =>
  some (.inl (x47, x22))))) else some (.inr (.inl x22)))
noncomputable def fold_FieldOf (x1 : fold_Object) (x5 : List UInt8) : Option fold_Field :=
  ((loopO (fold_FieldOf.l1 x1 x5) (0, (⟨[], (⟨false, 0, 0, 0, 0, []⟩ : fold_Register), false, 0, 0, [], false⟩ : fold_Field))).bind fun b => match b with | .inl x48 => fold_FieldOf.j1 x5 x48 | .inr x49 => some x49)
noncomputable def fold_Fold.l1 (x1 : List api_Update) : (Int × fold_B) → Option ((Int × fold_B) ⊕ fold_B) := fun (i, x) =>
  if decide (i < (x1.length : Int)) then ((idx x1 i).bind fun u => (fold_apply u x).bind fun x' => letV (IntKind.i64.wrap (i + 1)) fun j => some (.inl (j, x'))) else some (.inr x)
noncomputable def fold_Fold (x1 : List api_Update) : Option fold_Store := (loopO (fold_Fold.l1 x1) (0, [])).bind fun b => fold_store (fold_frz b)

noncomputable def slices_EqualFunc_Object.j1   : Option Bool :=
  some true
noncomputable def slices_EqualFunc_Object.l1 (x1 : List fold_Object) (x4 : List fold_Object) (x7 : fold_Object × fold_Object → Option Bool) : Int → Option ((Int) ⊕ (Unit ⊕ Bool)) := fun x20 =>
  (if (decide (x20 < (x1.length : Int))) then ((idx x1 x20).bind fun x27 =>
  ((idx x4 x20).bind fun x34 =>
  ((x7 (x27, x34)).bind fun x41 =>
  (if (!x41) then some (.inr (.inr false)) else (letV (IntKind.i64.wrap (x20 + 1)) fun x44 =>
  some (.inl x44)))))) else some (.inr (.inl ())))
noncomputable def slices_EqualFunc_Object (x1 : List fold_Object) (x4 : List fold_Object) (x7 : fold_Object × fold_Object → Option Bool) : Option Bool :=
  (if ((x1.length : Int) != (x4.length : Int)) then some false else ((loopO (slices_EqualFunc_Object.l1 x1 x4 x7) 0).bind fun b => match b with | .inl _ => slices_EqualFunc_Object.j1 | .inr x45 => some x45))
noncomputable def slices_EqualFunc_Field.j1   : Option Bool :=
  some true
noncomputable def slices_EqualFunc_Field.l1 (x1 : List fold_Field) (x4 : List fold_Field) (x7 : fold_Field × fold_Field → Option Bool) : Int → Option ((Int) ⊕ (Unit ⊕ Bool)) := fun x20 =>
  (if (decide (x20 < (x1.length : Int))) then ((idx x1 x20).bind fun x27 =>
  ((idx x4 x20).bind fun x34 =>
  ((x7 (x27, x34)).bind fun x41 =>
  (if (!x41) then some (.inr (.inr false)) else (letV (IntKind.i64.wrap (x20 + 1)) fun x44 =>
  some (.inl x44)))))) else some (.inr (.inl ())))
noncomputable def slices_EqualFunc_Field (x1 : List fold_Field) (x4 : List fold_Field) (x7 : fold_Field × fold_Field → Option Bool) : Option Bool :=
  (if ((x1.length : Int) != (x4.length : Int)) then some false else ((loopO (slices_EqualFunc_Field.l1 x1 x4 x7) 0).bind fun b => match b with | .inl _ => slices_EqualFunc_Field.j1 | .inr x45 => some x45))
noncomputable def slices_Equal_string.j1   : Option Bool :=
  some true
noncomputable def slices_Equal_string.l1 (x1 : List (List UInt8)) (x4 : List (List UInt8)) : Int → Option ((Int) ⊕ (Unit ⊕ Bool)) := fun x18 =>
  (if (decide (x18 < (x1.length : Int))) then ((idx x1 x18).bind fun x26 =>
  ((idx x4 x18).bind fun x29 =>
  (if (x26 != x29) then some (.inr (.inr false)) else (letV (IntKind.i64.wrap (x18 + 1)) fun x58 =>
  some (.inl x58))))) else some (.inr (.inl ())))
noncomputable def slices_Equal_string (x1 : List (List UInt8)) (x4 : List (List UInt8)) : Option Bool :=
  (if ((x1.length : Int) != (x4.length : Int)) then some false else ((loopO (slices_Equal_string.l1 x1 x4) 0).bind fun b => match b with | .inl _ => slices_Equal_string.j1 | .inr x59 => some x59))
noncomputable def fold_equalFields.j1  (x14 : Bool) : Option Bool :=
  some x14
noncomputable def fold_equalFields (x1 : fold_Field) (x5 : fold_Field) : Option Bool :=
  (if (x1.Name == x5.Name) then (if (decide ((⟨x1.Register.Set, x1.Register.Tag, x1.Register.Client, x1.Register.Seq, x1.Register.N, x1.Register.S⟩ : fold_Register) = (⟨x5.Register.Set, x5.Register.Tag, x5.Register.Client, x5.Register.Seq, x5.Register.N, x5.Register.S⟩ : fold_Register))) then (if (x1.HasMax == x5.HasMax) then (if (x1.Max == x5.Max) then (if (x1.Sum == x5.Sum) then ((slices_Equal_string x1.Elems x5.Elems).bind fun x41 =>
  (if x41 then fold_equalFields.j1 (x1.Flag == x5.Flag) else fold_equalFields.j1 false)) else fold_equalFields.j1 false) else fold_equalFields.j1 false) else fold_equalFields.j1 false) else fold_equalFields.j1 false) else fold_equalFields.j1 false)
noncomputable def fold_equalObjects.j1  (x14 : Bool) : Option Bool :=
  some x14
noncomputable def fold_equalObjects (x1 : fold_Object) (x5 : fold_Object) : Option Bool :=
  (if (x1.Name == x5.Name) then ((slices_EqualFunc_Field x1.Fields x5.Fields (fun p : fold_Field × fold_Field => fold_equalFields p.1 p.2)).bind fun x25 =>
  fold_equalObjects.j1 x25) else fold_equalObjects.j1 false)
noncomputable def fold_Equal (x1 : fold_Store) (x5 : fold_Store) : Option Bool :=
  ((slices_EqualFunc_Object x1.Objects x5.Objects (fun p : fold_Object × fold_Object => fold_equalObjects p.1 p.2)).bind fun x19 =>
  some x19)
noncomputable def wire_AppendUint.j1 (x1 : List Int) (x9 : Int) (x10 : List Int) : Option (List Int) :=
  ((app 1 x10 [(IntKind.u8.wrap x9)]).bind fun x17 =>
  ((cut x1 0 (x1.length : Int)).bind fun x23 =>
  (if 0 < x17.length then ((app 1 x23 x17).bind fun x25 =>
  some x25) else none)))
noncomputable def wire_AppendUint.l1  : (Int × (List Int)) → Option ((Int × (List Int)) ⊕ (Int × (List Int))) := fun (x30, x31) =>
  (if (decide (128 ≤ x30)) then (letV (bitsOf .or .u8 (IntKind.u8.wrap x30) 128) fun x40 =>
  ((app 1 x31 [x40]).bind fun x42 =>
  some (.inl (shrI .u64 x30 7, x42)))) else some (.inr (x30, x31)))
noncomputable def wire_AppendUint (x1 : List Int) (x4 : Int) : Option (List Int) :=
  ((loopO wire_AppendUint.l1 (x4, [])).bind fun (x48, x49) => wire_AppendUint.j1 x1 x48 x49)
noncomputable def wire_AppendString (x1 : List Int) (x4 : List UInt8) : Option (List Int) :=
  (letV (IntKind.u64.wrap (x4.length : Int)) fun x7 =>
  ((wire_AppendUint x1 x7).bind fun x8 =>
  ((app 1 x8 (sby x4)).bind fun x12 =>
  some x12)))
noncomputable def wire_AppendBool (x1 : List Int) (x4 : Bool) : Option (List Int) :=
  (if x4 then ((cut x1 0 (x1.length : Int)).bind fun x10 =>
  ((app 1 x10 [1]).bind fun x13 =>
  some x13)) else ((cut x1 0 (x1.length : Int)).bind fun x17 =>
  ((app 1 x17 [0]).bind fun x20 =>
  some x20)))
noncomputable def wire_AppendInt (x1 : List Int) (x4 : Int) : Option (List Int) :=
  (letV (shlI .u64 (IntKind.u64.wrap x4) 1) fun x8 =>
  (letV (IntKind.u64.wrap (shrI .i64 x4 63)) fun x10 =>
  (letV (bitsOf .xor .u64 x8 x10) fun x11 =>
  ((wire_AppendUint x1 x11).bind fun x12 =>
  some x12))))
noncomputable def fold_appendField.j1 (x5 : fold_Field) (x75 : List Int) : Option (List Int) :=
  ((wire_AppendBool x75 x5.Flag).bind fun x81 =>
  some x81)
noncomputable def fold_appendField.l1 (x5 : fold_Field) : ((List Int) × Int) → Option (((List Int) × Int) ⊕ (List Int)) := fun (x90, x93) =>
  (if (decide (x93 < ((x5.Elems).length : Int))) then ((idx x5.Elems x93).bind fun x100 =>
  ((wire_AppendString x90 x100).bind fun x103 =>
  (letV (IntKind.i64.wrap (x93 + 1)) fun x107 =>
  some (.inl (x103, x107))))) else some (.inr x90))
noncomputable def fold_appendField.j2 (x5 : fold_Field) (x30 : List Int) : Option (List Int) :=
  ((wire_AppendInt x30 x5.Register.N).bind fun x36 =>
  ((wire_AppendString x36 x5.Register.S).bind fun x42 =>
  ((wire_AppendBool x42 x5.HasMax).bind fun x48 =>
  ((wire_AppendInt x48 x5.Max).bind fun x54 =>
  ((wire_AppendInt x54 x5.Sum).bind fun x60 =>
  (letV (IntKind.u64.wrap ((x5.Elems).length : Int)) fun x68 =>
  ((wire_AppendUint x60 x68).bind fun x69 =>
  ((loopO (fold_appendField.l1 x5) (x69, 0)).bind fun x108 => fold_appendField.j1 x5 x108))))))))
noncomputable def fold_appendField.l2 (x5 : fold_Field) : ((List Int) × Int) → Option (((List Int) × Int) ⊕ (List Int)) := fun (x114, x117) =>
  (if (decide (x117 < 3)) then ((idx ([x5.Register.Tag, x5.Register.Client, x5.Register.Seq] : List Int) x117).bind fun x124 =>
  ((wire_AppendUint x114 (IntKind.u64.wrap x124)).bind fun x125 =>
  (letV (IntKind.i64.wrap (x117 + 1)) fun x129 =>
  some (.inl (x125, x129))))) else some (.inr x114))
noncomputable def fold_appendField (x1 : List Int) (x4 : List UInt8) (x5 : fold_Field) : Option (List Int) :=
  ((wire_AppendString x1 x4).bind fun x12 =>
  ((wire_AppendString x12 x5.Name).bind fun x18 =>
  ((wire_AppendBool x18 x5.Register.Set).bind fun x24 =>
  ((loopO (fold_appendField.l2 x5) (x24, 0)).bind fun x130 => fold_appendField.j2 x5 x130))))
noncomputable def fold_Hash.j1  (x10 : Int) : Option Int :=
  some x10
noncomputable def fold_Hash.j2 (x19 : Int) (x26 : Int) : Option ((Int × Int) ⊕ (Int)) :=
  (letV (IntKind.i64.wrap (x19 + 1)) fun x28 =>
  some (.inl (x26, x28)))
noncomputable def fold_Hash.j3 (x42 : Int) (x49 : Int) : Option ((Int × Int) ⊕ (Int)) :=
  (letV (IntKind.i64.wrap (x42 + 1)) fun x51 =>
  some (.inl (x49, x51)))
noncomputable def fold_Hash.l1 (x61 : List Int) : (Int × Int) → Option ((Int × Int) ⊕ (Int)) := fun (x66, x67) =>
  (if (decide (x67 < (x61.length : Int))) then ((idx x61 x67).bind fun x74 =>
  (letV (bitsOf .xor .u64 x66 (IntKind.u64.wrap x74)) fun x77 =>
  (letV (IntKind.u64.wrap (x77 * 1099511628211)) fun x78 =>
  (letV (IntKind.i64.wrap (x67 + 1)) fun x79 =>
  some (.inl (x78, x79)))))) else some (.inr x66))
noncomputable def fold_Hash.l2 (x30 : fold_Object) : (Int × Int) → Option ((Int × Int) ⊕ (Int)) := fun (x41, x42) =>
  (if (decide (x42 < ((x30.Fields).length : Int))) then ((idx x30.Fields x42).bind fun x53 =>
  ((fold_appendField [] x30.Name x53).bind fun x61 =>
  ((loopO (fold_Hash.l1 x61) (x41, 0)).bind fun x80 => fold_Hash.j3 x42 x80))) else some (.inr x41))
noncomputable def fold_Hash.l3 (x1 : fold_Store) : (Int × Int) → Option ((Int × Int) ⊕ (Int)) := fun (x18, x19) =>
  (if (decide (x19 < ((x1.Objects).length : Int))) then ((idx x1.Objects x19).bind fun x30 =>
  ((loopO (fold_Hash.l2 x30) (x18, 0)).bind fun x81 => fold_Hash.j2 x19 x81)) else some (.inr x18))
noncomputable def fold_Hash (x1 : fold_Store) : Option Int :=
  ((loopO (fold_Hash.l3 x1) (14695981039346656037, 0)).bind fun x82 => fold_Hash.j1 x82)
noncomputable def eslaw30_awake.j1  (x37 : Bool) : Option Bool :=
  some x37
noncomputable def eslaw30_awake  : Option Bool :=
  ((fold_Apply (⟨[]⟩ : fold_Store) (⟨102, 1, 0, [(⟨3, ([120] : List UInt8), ([99] : List UInt8), 3, []⟩ : api_Effect), (⟨4, ([97] : List UInt8), ([115] : List UInt8), 0, ([113] : List UInt8)⟩ : api_Effect)]⟩ : api_Update)).bind fun x9 =>
  ((fold_Apply x9 (⟨101, 1, 0, [(⟨3, ([120] : List UInt8), ([99] : List UInt8), 2, []⟩ : api_Effect)]⟩ : api_Update)).bind fun x12 =>
  (if (((x12.Objects).length : Int) == 2) then ((idx x12.Objects 0).bind fun x46 =>
  (if (x46.Name == ([97] : List UInt8)) then ((fold_Find x12 ([120] : List UInt8)).bind fun x51 =>
  ((fold_FieldOf x51 ([99] : List UInt8)).bind fun x54 =>
  (if (x54.Sum == 5) then ((fold_Fold ([(⟨101, 1, 0, [(⟨3, ([120] : List UInt8), ([99] : List UInt8), 2, []⟩ : api_Effect)]⟩ : api_Update), (⟨102, 1, 0, [(⟨3, ([120] : List UInt8), ([99] : List UInt8), 3, []⟩ : api_Effect), (⟨4, ([97] : List UInt8), ([115] : List UInt8), 0, ([113] : List UInt8)⟩ : api_Effect)]⟩ : api_Update)])).bind fun x61 =>
  ((fold_Equal x12 x61).bind fun x64 =>
  (if x64 then ((fold_Equal x12 (⟨[]⟩ : fold_Store)).bind fun x66 =>
  (if (!x66) then ((fold_Hash (⟨[]⟩ : fold_Store)).bind fun x68 =>
  eslaw30_awake.j1 (x68 == 14695981039346656037)) else eslaw30_awake.j1 false)) else eslaw30_awake.j1 false))) else eslaw30_awake.j1 false))) else eslaw30_awake.j1 false)) else eslaw30_awake.j1 false)))
def r32_upd {α : Type} (key : α → List UInt8) (k : List UInt8) (g : Option α → α) : List α → List α
  | [] => [g none]
  | a :: l => if Op.bytesLess (key a) k then a :: r32_upd key k g l else if key a == k then g (some a) :: l else g none :: a :: l
def r32_ins (objs : List fold_Object) (k f : List UInt8) : List fold_Object := r32_upd (fun o : fold_Object => o.Name) k (fun o => ⟨k, r32_upd (fun y : fold_Field => y.Name) f (fun y => y.getD { fold_zero with Name := f }) ((o.map (·.Fields)).getD [])⟩) objs
noncomputable def r32_fld (u : api_Update) (e : api_Effect) (f : fold_Field) : Option fold_Field :=
  if e.Kind = 1 then (if f.Register.Set then esref32_before f.Register u.Tag u.Client u.Seq else some true).bind fun b => some (if b then { f with Register := ⟨true, u.Tag, u.Client, u.Seq, e.N, e.S⟩ } else f)
  else if e.Kind = 2 then some (if !f.HasMax || decide (f.Max < e.N) then { f with Max := e.N, HasMax := true } else { f with HasMax := true })
  else if e.Kind = 3 then some { f with Sum := IntKind.i64.wrap (f.Sum + e.N) }
  else if e.Kind = 4 then (esref32_Insert f.Elems e.S).bind fun l => some { f with Elems := l }
  else if e.Kind = 5 then some { f with Flag := true } else some f
def r32_ok (objs : List fold_Object) : Prop := objs.Pairwise (fun a b => Op.bytesLess a.Name b.Name = true) ∧ objs.length ≤ 100000 ∧ ∀ o ∈ objs, o.Fields.length ≤ 100000 ∧ o.Fields.Pairwise fun a b => Op.bytesLess a.Name b.Name = true
open Classical in
noncomputable def r32_eff (u : api_Update) (objs : List fold_Object) (e : api_Effect) : Option (List fold_Object) :=
  if r32_ok objs then ((r32_ins objs e.Object e.Field).find? fun o => o.Name == e.Object).bind fun o => (o.Fields.find? fun y => y.Name == e.Field).bind fun y => (r32_fld u e y).bind fun y' =>
    some (r32_upd (fun o : fold_Object => o.Name) e.Object (fun _ => ⟨e.Object, r32_upd (fun y : fold_Field => y.Name) e.Field (fun _ => y') o.Fields⟩) (r32_ins objs e.Object e.Field)) else none
noncomputable def esref32_Apply.l1 (u : api_Update) : Int × List fold_Object → Option ((Int × List fold_Object) ⊕ List fold_Object) := fun s =>
  if decide (s.1 < (u.Effects.length : Int)) then (idx u.Effects s.1).bind fun e => (r32_eff u s.2 e).bind fun objs => letV (IntKind.i64.wrap (s.1 + 1)) fun j => some (.inl (j, objs)) else some (.inr s.2)
noncomputable def esref32_Apply (x1 : fold_Store) (x2 : api_Update) : Option fold_Store := (esref32_Copy x1).bind fun c => (loopO (esref32_Apply.l1 x2) (0, c.Objects)).bind fun objs => some ⟨objs⟩

noncomputable def esref32_Fold.j1  (x10 : List fold_Object) : Option fold_Store :=
  some (⟨x10⟩ : fold_Store)
noncomputable def esref32_Fold.l1 (x1 : List api_Update) : (Int × (List fold_Object)) → Option ((Int × (List fold_Object)) ⊕ (List fold_Object)) := fun (x17, x18) =>
  (if (decide (x17 < (x1.length : Int))) then ((idx x1 x17).bind fun x26 =>
  ((esref32_Apply (⟨x18⟩ : fold_Store) x26).bind fun x31 =>
  (letV (IntKind.i64.wrap (x17 + 1)) fun x56 =>
  some (.inl (x56, x31.Objects))))) else some (.inr x18))
noncomputable def esref32_Fold (x1 : List api_Update) : Option fold_Store :=
  ((loopO (esref32_Fold.l1 x1) (0, [])).bind fun x61 => esref32_Fold.j1 x61)
noncomputable def esref32_EqualStrings.j1   : Option Bool :=
  some true
noncomputable def esref32_EqualStrings.l1 (x1 : List (List UInt8)) (x4 : List (List UInt8)) : Int → Option ((Int) ⊕ (Unit ⊕ Bool)) := fun x18 =>
  (if (decide (x18 < (x1.length : Int))) then ((idx x1 x18).bind fun x25 =>
  ((idx x4 x18).bind fun x28 =>
  (if (x25 != x28) then some (.inr (.inr false)) else (letV (IntKind.i64.wrap (x18 + 1)) fun x57 =>
  some (.inl x57))))) else some (.inr (.inl ())))
noncomputable def esref32_EqualStrings (x1 : List (List UInt8)) (x4 : List (List UInt8)) : Option Bool :=
  (if ((x1.length : Int) != (x4.length : Int)) then some false else ((loopO (esref32_EqualStrings.l1 x1 x4) 0).bind fun b => match b with | .inl _ => esref32_EqualStrings.j1 | .inr x58 => some x58))
noncomputable def esref32_EqualField.j1  (x14 : Bool) : Option Bool :=
  some x14
noncomputable def esref32_EqualField (x1 : fold_Field) (x5 : fold_Field) : Option Bool :=
  (if (x1.Name == x5.Name) then (if (decide ((⟨x1.Register.Set, x1.Register.Tag, x1.Register.Client, x1.Register.Seq, x1.Register.N, x1.Register.S⟩ : fold_Register) = (⟨x5.Register.Set, x5.Register.Tag, x5.Register.Client, x5.Register.Seq, x5.Register.N, x5.Register.S⟩ : fold_Register))) then (if (x1.HasMax == x5.HasMax) then (if (x1.Max == x5.Max) then (if (x1.Sum == x5.Sum) then (if (x1.Flag == x5.Flag) then ((esref32_EqualStrings x1.Elems x5.Elems).bind fun x44 =>
  esref32_EqualField.j1 x44) else esref32_EqualField.j1 false) else esref32_EqualField.j1 false) else esref32_EqualField.j1 false) else esref32_EqualField.j1 false) else esref32_EqualField.j1 false) else esref32_EqualField.j1 false)
noncomputable def esref32_EqualObject.j1   : Option Bool :=
  some true
noncomputable def esref32_EqualObject.l1 (x1 : fold_Object) (x5 : fold_Object) : Int → Option ((Int) ⊕ (Unit ⊕ Bool)) := fun x25 =>
  (if (decide (x25 < ((x1.Fields).length : Int))) then ((idx x1.Fields x25).bind fun x38 =>
  ((idx x5.Fields x25).bind fun x46 =>
  ((esref32_EqualField x38 x46).bind fun x51 =>
  (if (!x51) then some (.inr (.inr false)) else (letV (IntKind.i64.wrap (x25 + 1)) fun x104 =>
  some (.inl x104)))))) else some (.inr (.inl ())))
noncomputable def esref32_EqualObject.j2 (x1 : fold_Object) (x5 : fold_Object) (x15 : Bool) : Option Bool :=
  (if x15 then some false else ((loopO (esref32_EqualObject.l1 x1 x5) 0).bind fun b => match b with | .inl _ => esref32_EqualObject.j1 | .inr x105 => some x105))
noncomputable def esref32_EqualObject (x1 : fold_Object) (x5 : fold_Object) : Option Bool :=
  (if (x1.Name != x5.Name) then esref32_EqualObject.j2 x1 x5 true else esref32_EqualObject.j2 x1 x5 (((x1.Fields).length : Int) != ((x5.Fields).length : Int)))
noncomputable def esref32_Equal.j1   : Option Bool :=
  some true
noncomputable def esref32_Equal.l1 (x1 : fold_Store) (x5 : fold_Store) : Int → Option ((Int) ⊕ (Unit ⊕ Bool)) := fun x28 =>
  (if (decide (x28 < ((x1.Objects).length : Int))) then ((idx x1.Objects x28).bind fun x41 =>
  ((idx x5.Objects x28).bind fun x49 =>
  ((esref32_EqualObject x41 x49).bind fun x54 =>
  (if (!x54) then some (.inr (.inr false)) else (letV (IntKind.i64.wrap (x28 + 1)) fun x107 =>
  some (.inl x107)))))) else some (.inr (.inl ())))
noncomputable def esref32_Equal (x1 : fold_Store) (x5 : fold_Store) : Option Bool :=
  (if (((x1.Objects).length : Int) != ((x5.Objects).length : Int)) then some false else ((loopO (esref32_Equal.l1 x1 x5) 0).bind fun b => match b with | .inl _ => esref32_Equal.j1 | .inr x108 => some x108))
noncomputable def esref03_AppendUint.j1  (x15 : Int) (x16 : List Int) : Option (List Int) :=
  ((app 1 x16 [(IntKind.u8.wrap x15)]).bind fun x23 =>
  some x23)
noncomputable def esref03_AppendUint.l1  : (Int × (List Int)) → Option ((Int × (List Int)) ⊕ (Int × (List Int))) := fun (x29, x30) =>
  (if (decide (128 ≤ x29)) then (letV (IntKind.u8.wrap (Int.tmod x29 128)) fun x39 =>
  (letV (IntKind.u8.wrap (x39 + 128)) fun x40 =>
  ((app 1 x30 [x40]).bind fun x42 =>
  (letV (IntKind.u64.wrap (Int.tdiv x29 128)) fun x47 =>
  some (.inl (x47, x42)))))) else some (.inr (x29, x30)))
noncomputable def esref03_AppendUint (x1 : List Int) (x4 : Int) : Option (List Int) :=
  ((app 1 [] x1).bind fun x8 =>
  ((loopO esref03_AppendUint.l1 (x4, x8)).bind fun (x48, x49) => esref03_AppendUint.j1 x48 x49))
noncomputable def esref03_AppendString (x1 : List Int) (x4 : List UInt8) : Option (List Int) :=
  (letV (IntKind.u64.wrap (x4.length : Int)) fun x7 =>
  ((esref03_AppendUint x1 x7).bind fun x8 =>
  ((app 1 x8 (sby x4)).bind fun x12 =>
  some x12)))
noncomputable def esref03_AppendBool (x1 : List Int) (x4 : Bool) : Option (List Int) :=
  (if x4 then ((app 1 [] x1).bind fun x11 =>
  ((app 1 x11 [1]).bind fun x17 =>
  some x17)) else ((app 1 [] x1).bind fun x24 =>
  ((app 1 x24 [0]).bind fun x30 =>
  some x30)))
noncomputable def esref03_Zigzag (x1 : Int) : Option Int :=
  (if (decide (0 ≤ x1)) then (letV (IntKind.u64.wrap ((IntKind.u64.wrap x1) * 2)) fun x7 =>
  some x7) else (letV (IntKind.i64.wrap (x1 + 1)) fun x9 =>
  (letV (IntKind.u64.wrap (IntKind.i64.wrap (0 - x9))) fun x10 =>
  (letV (IntKind.u64.wrap (x10 * 2)) fun x11 =>
  (letV (IntKind.u64.wrap (x11 + 1)) fun x12 =>
  some x12)))))
noncomputable def esref03_AppendInt (x1 : List Int) (x4 : Int) : Option (List Int) :=
  ((esref03_Zigzag x4).bind fun x7 =>
  ((esref03_AppendUint x1 x7).bind fun x8 =>
  some x8))
noncomputable def esref32_Hash.j1  (x17 : Int) : Option Int :=
  some x17
noncomputable def esref32_Hash.l1 (x10 : List Int) : (Int × Int) → Option ((Int × Int) ⊕ (Int)) := fun (x22, x23) =>
  (if (decide (x23 < (x10.length : Int))) then ((idx x10 x23).bind fun x29 =>
  (letV (bitsOf .xor .u64 x22 (IntKind.u64.wrap x29)) fun x32 =>
  (letV (IntKind.u64.wrap (x32 * 1099511628211)) fun x33 =>
  (letV (IntKind.i64.wrap (x23 + 1)) fun x34 =>
  some (.inl (x33, x34)))))) else some (.inr x22))
noncomputable def esref32_Hash.j2  (x10 : List Int) : Option Int :=
  ((loopO (esref32_Hash.l1 x10) (14695981039346656037, 0)).bind fun x35 => esref32_Hash.j1 x35)
noncomputable def esref32_Hash.j3 (x41 : Int) (x51 : List Int) : Option (((List Int) × Int) ⊕ (List Int)) :=
  (letV (IntKind.i64.wrap (x41 + 1)) fun x55 =>
  some (.inl (x51, x55)))
noncomputable def esref32_Hash.j4 (x71 : Int) (x81 : List Int) : Option (((List Int) × Int) ⊕ (List Int)) :=
  (letV (IntKind.i64.wrap (x71 + 1)) fun x85 =>
  some (.inl (x81, x85)))
noncomputable def esref32_Hash.j5 (x71 : Int) (x90 : fold_Field) (x176 : List Int) : Option (((List Int) × Int) ⊕ (List Int)) :=
  ((esref03_AppendBool x176 x90.Flag).bind fun x181 =>
  esref32_Hash.j4 x71 x181)
noncomputable def esref32_Hash.l2 (x90 : fold_Field) : ((List Int) × Int) → Option (((List Int) × Int) ⊕ (List Int)) := fun (x187, x190) =>
  (if (decide (x190 < ((x90.Elems).length : Int))) then ((idx x90.Elems x190).bind fun x202 =>
  ((esref03_AppendString x187 x202).bind fun x205 =>
  (letV (IntKind.i64.wrap (x190 + 1)) fun x209 =>
  some (.inl (x205, x209))))) else some (.inr x187))
noncomputable def esref32_Hash.l3 (x60 : fold_Object) : ((List Int) × Int) → Option (((List Int) × Int) ⊕ (List Int)) := fun (x68, x71) =>
  (if (decide (x71 < ((x60.Fields).length : Int))) then ((idx x60.Fields x71).bind fun x90 =>
  ((esref03_AppendString x68 x60.Name).bind fun x98 =>
  ((esref03_AppendString x98 x90.Name).bind fun x104 =>
  ((esref03_AppendBool x104 x90.Register.Set).bind fun x110 =>
  (letV (IntKind.u64.wrap x90.Register.Tag) fun x116 =>
  ((esref03_AppendUint x110 x116).bind fun x117 =>
  (letV (IntKind.u64.wrap x90.Register.Client) fun x123 =>
  ((esref03_AppendUint x117 x123).bind fun x124 =>
  (letV (IntKind.u64.wrap x90.Register.Seq) fun x130 =>
  ((esref03_AppendUint x124 x130).bind fun x131 =>
  ((esref03_AppendInt x131 x90.Register.N).bind fun x137 =>
  ((esref03_AppendString x137 x90.Register.S).bind fun x143 =>
  ((esref03_AppendBool x143 x90.HasMax).bind fun x149 =>
  ((esref03_AppendInt x149 x90.Max).bind fun x155 =>
  ((esref03_AppendInt x155 x90.Sum).bind fun x161 =>
  (letV (IntKind.u64.wrap ((x90.Elems).length : Int)) fun x169 =>
  ((esref03_AppendUint x161 x169).bind fun x170 =>
  ((loopO (esref32_Hash.l2 x90) (x170, 0)).bind fun x210 => esref32_Hash.j5 x71 x90 x210)))))))))))))))))) else some (.inr x68))
noncomputable def esref32_Hash.l4 (x1 : fold_Store) : ((List Int) × Int) → Option (((List Int) × Int) ⊕ (List Int)) := fun (x38, x41) =>
  (if (decide (x41 < ((x1.Objects).length : Int))) then ((idx x1.Objects x41).bind fun x60 =>
  ((loopO (esref32_Hash.l3 x60) (x38, 0)).bind fun x211 => esref32_Hash.j3 x41 x211)) else some (.inr x38))
noncomputable def esref32_Hash (x1 : fold_Store) : Option Int :=
  ((loopO (esref32_Hash.l4 x1) ([], 0)).bind fun x212 => esref32_Hash.j2 x212)
noncomputable def esref06_Client.j1  (x5 : Bool) : Option Bool :=
  some x5
noncomputable def esref06_Client (x1 : Int) : Option Bool :=
  (if (decide (101 ≤ x1)) then esref06_Client.j1 (decide (x1 < 107)) else esref06_Client.j1 false)
noncomputable def esref14_ValidateEffect.j1  (x40 : Bool) : Option Int :=
  (if x40 then some 2 else some 0)
noncomputable def esref14_ValidateEffect.j2 (x1 : api_Effect) (x34 : Bool) : Option Int :=
  (if x34 then some 9 else (if (x1.Kind == 2) then esref14_ValidateEffect.j1 (x1.S != ([] : List UInt8)) else (if (x1.Kind == 3) then esref14_ValidateEffect.j1 (x1.S != ([] : List UInt8)) else (if (x1.Kind == 5) then esref14_ValidateEffect.j1 (x1.S != ([] : List UInt8)) else esref14_ValidateEffect.j1 false))))
noncomputable def esref14_ValidateEffect.j3 (x1 : api_Effect) (x28 : Bool) : Option Int :=
  (if x28 then some 9 else (if (x1.Kind == 4) then esref14_ValidateEffect.j2 x1 (x1.N != 0) else (if (x1.Kind == 5) then esref14_ValidateEffect.j2 x1 (x1.N != 0) else esref14_ValidateEffect.j2 x1 false)))
noncomputable def esref14_ValidateEffect.j4 (x1 : api_Effect) (x22 : Bool) : Option Int :=
  (if x22 then some 3 else (if (x1.Kind == 3) then (if (decide (x1.N < (-1000000))) then esref14_ValidateEffect.j3 x1 true else esref14_ValidateEffect.j3 x1 (decide (1000000 < x1.N))) else esref14_ValidateEffect.j3 x1 false))
noncomputable def esref14_ValidateEffect.j5 (x1 : api_Effect) (x16 : Bool) : Option Int :=
  (if x16 then some 2 else (if (decide (16 < ((x1.Object).length : Int))) then esref14_ValidateEffect.j4 x1 true else (if (decide (16 < ((x1.Field).length : Int))) then esref14_ValidateEffect.j4 x1 true else esref14_ValidateEffect.j4 x1 (decide (32 < ((x1.S).length : Int))))))
noncomputable def esref14_ValidateEffect.j6 (x1 : api_Effect) (x10 : Bool) : Option Int :=
  (if x10 then some 10 else (if (x1.Object == ([] : List UInt8)) then esref14_ValidateEffect.j5 x1 true else esref14_ValidateEffect.j5 x1 (x1.Field == ([] : List UInt8))))
noncomputable def esref14_ValidateEffect (x1 : api_Effect) : Option Int :=
  (if (decide (x1.Kind < 1)) then esref14_ValidateEffect.j6 x1 true else esref14_ValidateEffect.j6 x1 (decide (5 < x1.Kind)))
noncomputable def esref14_Commutes.j1   : Option Bool :=
  some true
noncomputable def esref14_Commutes.l1 (x1 : api_Update) : Int → Option ((Int) ⊕ (Unit ⊕ Bool)) := fun x13 =>
  (if (decide (x13 < ((x1.Effects).length : Int))) then ((idx x1.Effects x13).bind fun x26 =>
  (if (x26.Kind == 1) then some (.inr (.inr false)) else (letV (IntKind.i64.wrap (x13 + 1)) fun x32 =>
  some (.inl x32)))) else some (.inr (.inl ())))
noncomputable def esref14_Commutes (x1 : api_Update) : Option Bool :=
  ((loopO (esref14_Commutes.l1 x1) 0).bind fun b => match b with | .inl _ => esref14_Commutes.j1 | .inr x33 => some x33)
noncomputable def esref14_ValidateUpdate.j1  (x32 : Bool) : Option Int :=
  (if x32 then some 2 else some 0)
noncomputable def esref14_ValidateUpdate.j2 (x1 : api_Update)  : Option Int :=
  ((esref14_Commutes x1).bind fun x37 =>
  (if (!x37) then (if (decide (1 < ((x1.Effects).length : Int))) then esref14_ValidateUpdate.j1 true else ((esref14_Commutes x1).bind fun x43 =>
  (if x43 then esref14_ValidateUpdate.j1 (x1.Tag != 0) else esref14_ValidateUpdate.j1 false))) else ((esref14_Commutes x1).bind fun x46 =>
  (if x46 then esref14_ValidateUpdate.j1 (x1.Tag != 0) else esref14_ValidateUpdate.j1 false))))
noncomputable def esref14_ValidateUpdate.l1 (x1 : api_Update) : Int → Option ((Int) ⊕ (Unit ⊕ Int)) := fun x51 =>
  (if (decide (x51 < ((x1.Effects).length : Int))) then ((idx x1.Effects x51).bind fun x64 =>
  ((esref14_ValidateEffect x64).bind fun x69 =>
  (if (x69 != 0) then some (.inr (.inr x69)) else (letV (IntKind.i64.wrap (x51 + 1)) fun x73 =>
  some (.inl x73))))) else some (.inr (.inl ())))
noncomputable def esref14_ValidateUpdate.j3 (x1 : api_Update) (x10 : Bool) : Option Int :=
  (if x10 then some 9 else (if (((x1.Effects).length : Int) == 0) then some 2 else (if (decide (4 < ((x1.Effects).length : Int))) then some 3 else ((loopO (esref14_ValidateUpdate.l1 x1) 0).bind fun b => match b with | .inl _ => esref14_ValidateUpdate.j2 x1 | .inr x74 => some x74))))
noncomputable def esref14_ValidateUpdate (x1 : api_Update) : Option Int :=
  ((esref06_Client x1.Client).bind fun x76 =>
  (if (!x76) then esref14_ValidateUpdate.j3 x1 true else (if (decide (x1.Seq < 1)) then esref14_ValidateUpdate.j3 x1 true else (if (decide (8 < x1.Seq)) then esref14_ValidateUpdate.j3 x1 true else (if (decide (x1.Tag < 0)) then esref14_ValidateUpdate.j3 x1 true else esref14_ValidateUpdate.j3 x1 (decide (1000 < x1.Tag)))))))
noncomputable def esref14_CompareUpdate.j1  (x21 : Bool) : Option Int :=
  (if x21 then some 0 else some 1)
noncomputable def esref14_CompareUpdate.j2 (x1 : api_Update) (x5 : api_Update) (x15 : Bool) : Option Int :=
  (if x15 then some (-1) else (if (x1.Client == x5.Client) then esref14_CompareUpdate.j1 (x1.Seq == x5.Seq) else esref14_CompareUpdate.j1 false))
noncomputable def esref14_CompareUpdate (x1 : api_Update) (x5 : api_Update) : Option Int :=
  (if (decide (x1.Client < x5.Client)) then esref14_CompareUpdate.j2 x1 x5 true else (if (x1.Client == x5.Client) then esref14_CompareUpdate.j2 x1 x5 (decide (x1.Seq < x5.Seq)) else esref14_CompareUpdate.j2 x1 x5 false))
noncomputable def esref14_ValidateState.j1   : Option Int :=
  some 0
noncomputable def esref14_ValidateState.j2 (x11 : Int) (x37 : Bool) : Option ((Int) ⊕ (Unit ⊕ Int)) :=
  (if x37 then some (.inr (.inr 8)) else (letV (IntKind.i64.wrap (x11 + 1)) fun x41 =>
  some (.inl x41)))
noncomputable def esref14_ValidateState.j3 (x1 : List api_Update) (x11 : Int) (x31 : Bool) : Option ((Int) ⊕ (Unit ⊕ Int)) :=
  (if x31 then some (.inr (.inr 7)) else ((idx x1 x11).bind fun x42 =>
  (if (decide (1 < x42.Seq)) then (if (x11 == 0) then esref14_ValidateState.j2 x11 true else (letV (IntKind.i64.wrap (x11 - 1)) fun x163 =>
  ((idx x1 x163).bind fun x164 =>
  ((idx x1 x11).bind fun x168 =>
  (if (x164.Client != x168.Client) then esref14_ValidateState.j2 x11 true else (letV (IntKind.i64.wrap (x11 - 1)) fun x300 =>
  ((idx x1 x300).bind fun x301 =>
  ((idx x1 x11).bind fun x305 =>
  (letV (IntKind.i64.wrap (x305.Seq - 1)) fun x309 =>
  esref14_ValidateState.j2 x11 (x301.Seq != x309)))))))))) else esref14_ValidateState.j2 x11 false)))
noncomputable def esref14_ValidateState.l1 (x1 : List api_Update) : Int → Option ((Int) ⊕ (Unit ⊕ Int)) := fun x11 =>
  (if (decide (x11 < (x1.length : Int))) then ((idx x1 x11).bind fun x19 =>
  ((esref14_ValidateUpdate x19).bind fun x24 =>
  (if (x24 != 0) then some (.inr (.inr x24)) else (if (decide (0 < x11)) then (letV (IntKind.i64.wrap (x11 - 1)) fun x565 =>
  ((idx x1 x565).bind fun x566 =>
  ((idx x1 x11).bind fun x571 =>
  ((esref14_CompareUpdate x566 x571).bind fun x576 =>
  esref14_ValidateState.j3 x1 x11 (decide (0 ≤ x576)))))) else esref14_ValidateState.j3 x1 x11 false)))) else some (.inr (.inl ())))
noncomputable def esref14_ValidateState (x1 : List api_Update) : Option Int :=
  ((loopO (esref14_ValidateState.l1 x1) 0).bind fun b => match b with | .inl _ => esref14_ValidateState.j1 | .inr x675 => some x675)
noncomputable def eslaw30_FoldState.j1  (x20 : Bool) : Option Bool :=
  some x20
noncomputable def eslaw30_FoldState.j2 (x1 : List api_Update) (x8 : Bool) : Option Bool :=
  (if x8 then ((eslaw30_awake).bind fun x12 =>
  some x12) else ((fold_Fold x1).bind fun x14 =>
  ((esref32_Fold x1).bind fun x22 =>
  ((esref32_Equal x14 x22).bind fun x25 =>
  (if x25 then ((fold_Hash x14).bind fun x27 =>
  ((esref32_Hash x14).bind fun x28 =>
  (if (x27 == x28) then ((eslaw30_awake).bind fun x30 =>
  eslaw30_FoldState.j1 x30) else eslaw30_FoldState.j1 false))) else eslaw30_FoldState.j1 false)))))
noncomputable def eslaw30_FoldState (x1 : List api_Update) : Option Bool :=
  (if (decide (48 < (x1.length : Int))) then eslaw30_FoldState.j2 x1 true else ((esref14_ValidateState x1).bind fun x149 =>
  eslaw30_FoldState.j2 x1 (x149 != 0)))
end Go.Proofs.Ytlbcfjblpopcnaa
set_option linter.unusedVariables false
set_option linter.unusedSimpArgs false
namespace Go.Proofs.Ytlbcfjblpopcnaa
open Go Go.RowKit Go.Proofs.YtlbcfjblpopcnaaL
set_option maxRecDepth 20000
def t_api_Effect : Ty api_Effect := tIso (tPair (tInt .i64) (tPair tStr (tPair tStr (tPair (tInt .i64) tStr)))) fun x : api_Effect => (x.Kind, x.Object, x.Field, x.N, x.S)
theorem F_api_Effect_Kind : Fld t_api_Effect (tInt .i64) 0 api_Effect.Kind (fun x y => { x with Kind := y }) := (Fld.iso (Fld.fst _ _) (fun _ => rfl) (fun _ _ => rfl))
theorem F_api_Effect_Object : Fld t_api_Effect tStr 1 api_Effect.Object (fun x y => { x with Object := y }) := (Fld.iso (Fld.snd (Fld.fst _ _)) (fun _ => rfl) (fun _ _ => rfl))
theorem F_api_Effect_Field : Fld t_api_Effect tStr 2 api_Effect.Field (fun x y => { x with Field := y }) := (Fld.iso (Fld.snd (Fld.snd (Fld.fst _ _))) (fun _ => rfl) (fun _ _ => rfl))
theorem F_api_Effect_N : Fld t_api_Effect (tInt .i64) 3 api_Effect.N (fun x y => { x with N := y }) := (Fld.iso (Fld.snd (Fld.snd (Fld.snd (Fld.fst _ _)))) (fun _ => rfl) (fun _ _ => rfl))
theorem F_api_Effect_S : Fld t_api_Effect tStr 4 api_Effect.S (fun x y => { x with S := y }) := (Fld.iso (Fld.snd (Fld.snd (Fld.snd (Fld.snd Fld.self)))) (fun _ => rfl) (fun _ _ => rfl))
def t_api_Update : Ty api_Update := tIso (tPair (tInt .i64) (tPair (tInt .i64) (tPair (tInt .i64) (tSlice t_api_Effect)))) fun x : api_Update => (x.Client, x.Seq, x.Tag, x.Effects)
theorem F_api_Update_Client : Fld t_api_Update (tInt .i64) 0 api_Update.Client (fun x y => { x with Client := y }) := (Fld.iso (Fld.fst _ _) (fun _ => rfl) (fun _ _ => rfl))
theorem F_api_Update_Seq : Fld t_api_Update (tInt .i64) 1 api_Update.Seq (fun x y => { x with Seq := y }) := (Fld.iso (Fld.snd (Fld.fst _ _)) (fun _ => rfl) (fun _ _ => rfl))
theorem F_api_Update_Tag : Fld t_api_Update (tInt .i64) 2 api_Update.Tag (fun x y => { x with Tag := y }) := (Fld.iso (Fld.snd (Fld.snd (Fld.fst _ _))) (fun _ => rfl) (fun _ _ => rfl))
theorem F_api_Update_Effects : Fld t_api_Update (tSlice t_api_Effect) 3 api_Update.Effects (fun x y => { x with Effects := y }) := (Fld.iso (Fld.snd (Fld.snd (Fld.snd Fld.self))) (fun _ => rfl) (fun _ _ => rfl))
def t_fold_Register : Ty fold_Register := tIso (tPair tBool (tPair (tInt .i64) (tPair (tInt .i64) (tPair (tInt .i64) (tPair (tInt .i64) tStr))))) fun x : fold_Register => (x.Set, x.Tag, x.Client, x.Seq, x.N, x.S)
theorem F_fold_Register_Set : Fld t_fold_Register tBool 0 fold_Register.Set (fun x y => { x with Set := y }) := (Fld.iso (Fld.fst _ _) (fun _ => rfl) (fun _ _ => rfl))
theorem F_fold_Register_Tag : Fld t_fold_Register (tInt .i64) 1 fold_Register.Tag (fun x y => { x with Tag := y }) := (Fld.iso (Fld.snd (Fld.fst _ _)) (fun _ => rfl) (fun _ _ => rfl))
theorem F_fold_Register_Client : Fld t_fold_Register (tInt .i64) 2 fold_Register.Client (fun x y => { x with Client := y }) := (Fld.iso (Fld.snd (Fld.snd (Fld.fst _ _))) (fun _ => rfl) (fun _ _ => rfl))
theorem F_fold_Register_Seq : Fld t_fold_Register (tInt .i64) 3 fold_Register.Seq (fun x y => { x with Seq := y }) := (Fld.iso (Fld.snd (Fld.snd (Fld.snd (Fld.fst _ _)))) (fun _ => rfl) (fun _ _ => rfl))
theorem F_fold_Register_N : Fld t_fold_Register (tInt .i64) 4 fold_Register.N (fun x y => { x with N := y }) := (Fld.iso (Fld.snd (Fld.snd (Fld.snd (Fld.snd (Fld.fst _ _))))) (fun _ => rfl) (fun _ _ => rfl))
theorem F_fold_Register_S : Fld t_fold_Register tStr 5 fold_Register.S (fun x y => { x with S := y }) := (Fld.iso (Fld.snd (Fld.snd (Fld.snd (Fld.snd (Fld.snd Fld.self))))) (fun _ => rfl) (fun _ _ => rfl))
def t_fold_Field : Ty fold_Field := tIso (tPair tStr (tPair t_fold_Register (tPair tBool (tPair (tInt .i64) (tPair (tInt .i64) (tPair (tSlice tStr) tBool)))))) fun x : fold_Field => (x.Name, x.Register, x.HasMax, x.Max, x.Sum, x.Elems, x.Flag)
theorem F_fold_Field_Name : Fld t_fold_Field tStr 0 fold_Field.Name (fun x y => { x with Name := y }) := (Fld.iso (Fld.fst _ _) (fun _ => rfl) (fun _ _ => rfl))
theorem F_fold_Field_Register : Fld t_fold_Field t_fold_Register 1 fold_Field.Register (fun x y => { x with Register := y }) := (Fld.iso (Fld.snd (Fld.fst _ _)) (fun _ => rfl) (fun _ _ => rfl))
theorem F_fold_Field_HasMax : Fld t_fold_Field tBool 7 fold_Field.HasMax (fun x y => { x with HasMax := y }) := (Fld.iso (Fld.snd (Fld.snd (Fld.fst _ _))) (fun _ => rfl) (fun _ _ => rfl))
theorem F_fold_Field_Max : Fld t_fold_Field (tInt .i64) 8 fold_Field.Max (fun x y => { x with Max := y }) := (Fld.iso (Fld.snd (Fld.snd (Fld.snd (Fld.fst _ _)))) (fun _ => rfl) (fun _ _ => rfl))
theorem F_fold_Field_Sum : Fld t_fold_Field (tInt .i64) 9 fold_Field.Sum (fun x y => { x with Sum := y }) := (Fld.iso (Fld.snd (Fld.snd (Fld.snd (Fld.snd (Fld.fst _ _))))) (fun _ => rfl) (fun _ _ => rfl))
theorem F_fold_Field_Elems : Fld t_fold_Field (tSlice tStr) 10 fold_Field.Elems (fun x y => { x with Elems := y }) := (Fld.iso (Fld.snd (Fld.snd (Fld.snd (Fld.snd (Fld.snd (Fld.fst _ _)))))) (fun _ => rfl) (fun _ _ => rfl))
theorem F_fold_Field_Flag : Fld t_fold_Field tBool 11 fold_Field.Flag (fun x y => { x with Flag := y }) := (Fld.iso (Fld.snd (Fld.snd (Fld.snd (Fld.snd (Fld.snd (Fld.snd Fld.self)))))) (fun _ => rfl) (fun _ _ => rfl))
def t_fold_Object : Ty fold_Object := tIso (tPair tStr (tSlice t_fold_Field)) fun x : fold_Object => (x.Name, x.Fields)
theorem F_fold_Object_Name : Fld t_fold_Object tStr 0 fold_Object.Name (fun x y => { x with Name := y }) := (Fld.iso (Fld.fst _ _) (fun _ => rfl) (fun _ _ => rfl))
theorem F_fold_Object_Fields : Fld t_fold_Object (tSlice t_fold_Field) 1 fold_Object.Fields (fun x y => { x with Fields := y }) := (Fld.iso (Fld.snd Fld.self) (fun _ => rfl) (fun _ _ => rfl))
def t_fold_Store : Ty fold_Store := tIso (tSlice t_fold_Object) fun x : fold_Store => x.Objects
theorem F_fold_Store_Objects : Fld t_fold_Store (tSlice t_fold_Object) 0 fold_Store.Objects (fun x y => { x with Objects := y }) := (Fld.iso Fld.self (fun _ => rfl) (fun _ _ => rfl))
theorem EI5 : EI Try.prog 5 (.int .u8 0) 1 1 := ⟨by kernel_rfl, rfl, by decide⟩
theorem EI51 : EI Try.prog 51 (.agg #[.string ⟨#[]⟩, .slice none 0 0]) 2 40 := ⟨by kernel_rfl, rfl, by decide⟩
theorem EI57 : EI Try.prog 57 (.agg #[.string ⟨#[]⟩, .bool false, .int .i64 0, .int .i64 0, .int .i64 0, .int .i64 0, .string ⟨#[]⟩, .bool false, .int .i64 0, .int .i64 0, .slice none 0 0, .bool false]) 12 128 := ⟨by kernel_rfl, rfl, by decide⟩
theorem EI9 : EI Try.prog 9 (.string ⟨#[]⟩) 1 16 := ⟨by kernel_rfl, rfl, by decide⟩
theorem FA29_0 : FA Try.prog 29 0 0 := fun _ _ => by kernel_rfl
theorem FA41_0 : FA Try.prog 41 0 0 := fun _ _ => by kernel_rfl
theorem FA41_1 : FA Try.prog 41 1 1 := fun _ _ => by kernel_rfl
theorem FA41_2 : FA Try.prog 41 2 2 := fun _ _ => by kernel_rfl
theorem FA41_3 : FA Try.prog 41 3 3 := fun _ _ => by kernel_rfl
theorem FA51_0 : FA Try.prog 51 0 0 := fun _ _ => by kernel_rfl
theorem FA51_1 : FA Try.prog 51 1 1 := fun _ _ => by kernel_rfl
theorem FA54_0 : FA Try.prog 54 0 0 := fun _ _ => by kernel_rfl
theorem FA54_1 : FA Try.prog 54 1 1 := fun _ _ => by kernel_rfl
theorem FA54_2 : FA Try.prog 54 2 2 := fun _ _ => by kernel_rfl
theorem FA54_3 : FA Try.prog 54 3 3 := fun _ _ => by kernel_rfl
theorem FA54_4 : FA Try.prog 54 4 4 := fun _ _ => by kernel_rfl
theorem FA54_5 : FA Try.prog 54 5 5 := fun _ _ => by kernel_rfl
theorem FA57_0 : FA Try.prog 57 0 0 := fun _ _ => by kernel_rfl
theorem FA57_1 : FA Try.prog 57 1 1 := fun _ _ => by kernel_rfl
theorem FA57_2 : FA Try.prog 57 2 7 := fun _ _ => by kernel_rfl
theorem FA57_3 : FA Try.prog 57 3 8 := fun _ _ => by kernel_rfl
theorem FA57_4 : FA Try.prog 57 4 9 := fun _ _ => by kernel_rfl
theorem FA57_5 : FA Try.prog 57 5 10 := fun _ _ => by kernel_rfl
theorem FA57_6 : FA Try.prog 57 6 11 := fun _ _ => by kernel_rfl
theorem FA67_0 : FA Try.prog 67 0 0 := fun _ _ => by kernel_rfl
theorem FA67_1 : FA Try.prog 67 1 1 := fun _ _ => by kernel_rfl
theorem FA67_2 : FA Try.prog 67 2 2 := fun _ _ => by kernel_rfl
theorem FA67_3 : FA Try.prog 67 3 3 := fun _ _ => by kernel_rfl
theorem FA67_4 : FA Try.prog 67 4 4 := fun _ _ => by kernel_rfl
theorem FN11 : FN Try.prog 11 := fun _ _ => by kernel_rfl
theorem FN12 : FN Try.prog 12 := fun _ _ => by kernel_rfl
theorem FN13 : FN Try.prog 13 := fun _ _ => by kernel_rfl
theorem FN14 : FN Try.prog 14 := fun _ _ => by kernel_rfl
theorem FN15 : FN Try.prog 15 := fun _ _ => by kernel_rfl
theorem FN16 : FN Try.prog 16 := fun _ _ => by kernel_rfl
theorem FN17 : FN Try.prog 17 := fun _ _ => by kernel_rfl
theorem FN20 : FN Try.prog 20 := fun _ _ => by kernel_rfl
theorem FN21 : FN Try.prog 21 := fun _ _ => by kernel_rfl
theorem FN22 : FN Try.prog 22 := fun _ _ => by kernel_rfl
theorem FN23 : FN Try.prog 23 := fun _ _ => by kernel_rfl
theorem FN26 : FN Try.prog 26 := fun _ _ => by kernel_rfl
theorem FN27 : FN Try.prog 27 := fun _ _ => by kernel_rfl
theorem FN28 : FN Try.prog 28 := fun _ _ => by kernel_rfl
theorem FN31 : FN Try.prog 31 := fun _ _ => by kernel_rfl
theorem FN33 : FN Try.prog 33 := fun _ _ => by kernel_rfl
theorem FN36 : FN Try.prog 36 := fun _ _ => by kernel_rfl
theorem FN37 : FN Try.prog 37 := fun _ _ => by kernel_rfl
theorem FN38 : FN Try.prog 38 := fun _ _ => by kernel_rfl
theorem FN39 : FN Try.prog 39 := fun _ _ => by kernel_rfl
theorem FN40 : FN Try.prog 40 := fun _ _ => by kernel_rfl
theorem FN41 : FN Try.prog 41 := fun _ _ => by kernel_rfl
theorem FN42 : FN Try.prog 42 := fun _ _ => by kernel_rfl
theorem FN43 : FN Try.prog 43 := fun _ _ => by kernel_rfl
theorem FN46 : FN Try.prog 46 := fun _ _ => by kernel_rfl
theorem FN47 : FN Try.prog 47 := fun _ _ => by kernel_rfl
theorem FN48 : FN Try.prog 48 := fun _ _ => by kernel_rfl
theorem FN49 : FN Try.prog 49 := fun _ _ => by kernel_rfl
theorem FN53 : FN Try.prog 53 := fun _ _ => by kernel_rfl
theorem FN54 : FN Try.prog 54 := fun _ _ => by kernel_rfl
theorem FN55 : FN Try.prog 55 := fun _ _ => by kernel_rfl
theorem FN56 : FN Try.prog 56 := fun _ _ => by kernel_rfl
theorem FN57 : FN Try.prog 57 := fun _ _ => by kernel_rfl
theorem FN58 : FN Try.prog 58 := fun _ _ => by kernel_rfl
theorem FN59 : FN Try.prog 59 := fun _ _ => by kernel_rfl
theorem FN63 : FN Try.prog 63 := fun _ _ => by kernel_rfl
theorem FN64 : FN Try.prog 64 := fun _ _ => by kernel_rfl
theorem FN65 : FN Try.prog 65 := fun _ _ => by kernel_rfl
theorem FN66 : FN Try.prog 66 := fun _ _ => by kernel_rfl
theorem FN67 : FN Try.prog 67 := fun _ _ => by kernel_rfl
theorem FN69 : FN Try.prog 69 := fun _ _ => by kernel_rfl
theorem FN70 : FN Try.prog 70 := fun _ _ => by kernel_rfl
theorem FN71 : FN Try.prog 71 := fun _ _ => by kernel_rfl
theorem FN72 : FN Try.prog 72 := fun _ _ => by kernel_rfl
theorem FN82 : FN Try.prog 82 := fun _ _ => by kernel_rfl
theorem FN83 : FN Try.prog 83 := fun _ _ => by kernel_rfl
theorem FV29_0 : FV Try.prog 29 0 0 27 := ⟨_, _, Try.underlying29, rfl, rfl, rfl⟩
theorem FV57_4 : FV Try.prog 57 4 9 2 := ⟨_, _, Try.underlying57, rfl, rfl, rfl⟩
theorem PL29 : PL Try.prog 29 [(0, 1)] [.slice none 0 0] := ⟨⟨_, Try.underlying29, fun _ => by kernel_rfl⟩, .agg #[.slice none 0 0], fun _ => by kernel_rfl, rfl⟩
theorem PL41 : PL Try.prog 41 [(0, 1), (1, 1), (2, 1), (3, 1)] [.int .i64 0, .int .i64 0, .int .i64 0, .slice none 0 0] := ⟨⟨_, Try.underlying41, fun _ => by kernel_rfl⟩, .agg #[.int .i64 0, .int .i64 0, .int .i64 0, .slice none 0 0], fun _ => by kernel_rfl, rfl⟩
theorem PL51 : PL Try.prog 51 [(0, 1), (1, 1)] [.string ⟨#[]⟩, .slice none 0 0] := ⟨⟨_, Try.underlying51, fun _ => by kernel_rfl⟩, .agg #[.string ⟨#[]⟩, .slice none 0 0], fun _ => by kernel_rfl, rfl⟩
theorem PL54 : PL Try.prog 54 [(0, 1), (1, 1), (2, 1), (3, 1), (4, 1), (5, 1)] [.bool false, .int .i64 0, .int .i64 0, .int .i64 0, .int .i64 0, .string ⟨#[]⟩] := ⟨⟨_, Try.underlying54, fun _ => by kernel_rfl⟩, .agg #[.bool false, .int .i64 0, .int .i64 0, .int .i64 0, .int .i64 0, .string ⟨#[]⟩], fun _ => by kernel_rfl, rfl⟩
theorem PL57 : PL Try.prog 57 [(0, 1), (1, 6), (7, 1), (8, 1), (9, 1), (10, 1), (11, 1)] [.string ⟨#[]⟩, .bool false, .int .i64 0, .int .i64 0, .int .i64 0, .int .i64 0, .string ⟨#[]⟩, .bool false, .int .i64 0, .int .i64 0, .slice none 0 0, .bool false] := ⟨⟨_, Try.underlying57, fun _ => by kernel_rfl⟩, .agg #[.string ⟨#[]⟩, .bool false, .int .i64 0, .int .i64 0, .int .i64 0, .int .i64 0, .string ⟨#[]⟩, .bool false, .int .i64 0, .int .i64 0, .slice none 0 0, .bool false], fun _ => by kernel_rfl, rfl⟩
theorem PL67 : PL Try.prog 67 [(0, 1), (1, 1), (2, 1), (3, 1), (4, 1)] [.int .i64 0, .string ⟨#[]⟩, .string ⟨#[]⟩, .int .i64 0, .string ⟨#[]⟩] := ⟨⟨_, Try.underlying67, fun _ => by kernel_rfl⟩, .agg #[.int .i64 0, .string ⟨#[]⟩, .string ⟨#[]⟩, .int .i64 0, .string ⟨#[]⟩], fun _ => by kernel_rfl, rfl⟩
theorem PS23 : PS Try.prog 23 41 4 [.int .i64 0, .int .i64 0, .int .i64 0, .slice none 0 0] := ⟨by kernel_rfl, fun _ => by kernel_rfl, .agg #[.int .i64 0, .int .i64 0, .int .i64 0, .slice none 0 0], fun _ => by kernel_rfl, rfl⟩
theorem PS27 : PS Try.prog 27 51 2 [.string ⟨#[]⟩, .slice none 0 0] := ⟨by kernel_rfl, fun _ => by kernel_rfl, .agg #[.string ⟨#[]⟩, .slice none 0 0], fun _ => by kernel_rfl, rfl⟩
theorem PS35 : PS Try.prog 35 3 1 [.int .i64 0] := ⟨by kernel_rfl, fun _ => by kernel_rfl, .int .i64 0, fun _ => by kernel_rfl, rfl⟩
theorem PS39 : PS Try.prog 39 67 5 [.int .i64 0, .string ⟨#[]⟩, .string ⟨#[]⟩, .int .i64 0, .string ⟨#[]⟩] := ⟨by kernel_rfl, fun _ => by kernel_rfl, .agg #[.int .i64 0, .string ⟨#[]⟩, .string ⟨#[]⟩, .int .i64 0, .string ⟨#[]⟩], fun _ => by kernel_rfl, rfl⟩
theorem PS49 : PS Try.prog 49 57 12 [.string ⟨#[]⟩, .bool false, .int .i64 0, .int .i64 0, .int .i64 0, .int .i64 0, .string ⟨#[]⟩, .bool false, .int .i64 0, .int .i64 0, .slice none 0 0, .bool false] := ⟨by kernel_rfl, fun _ => by kernel_rfl, .agg #[.string ⟨#[]⟩, .bool false, .int .i64 0, .int .i64 0, .int .i64 0, .int .i64 0, .string ⟨#[]⟩, .bool false, .int .i64 0, .int .i64 0, .slice none 0 0, .bool false], fun _ => by kernel_rfl, rfl⟩
theorem PS55 : PS Try.prog 55 9 1 [.string ⟨#[]⟩] := ⟨by kernel_rfl, fun _ => by kernel_rfl, .string ⟨#[]⟩, fun _ => by kernel_rfl, rfl⟩
theorem PS72 : PS Try.prog 72 5 1 [.int .u8 0] := ⟨by kernel_rfl, fun _ => by kernel_rfl, .int .u8 0, fun _ => by kernel_rfl, rfl⟩
theorem TI2 : TI Try.prog 2 false 1 := ⟨fun _ => by kernel_rfl, fun _ => by kernel_rfl⟩
theorem TI27 : TI Try.prog 27 false 1 := ⟨fun _ => by kernel_rfl, fun _ => by kernel_rfl⟩
theorem TI29 : TI Try.prog 29 true 1 := ⟨fun _ => by kernel_rfl, fun _ => by kernel_rfl⟩
theorem TI3 : TI Try.prog 3 false 1 := ⟨fun _ => by kernel_rfl, fun _ => by kernel_rfl⟩
theorem TI39 : TI Try.prog 39 false 1 := ⟨fun _ => by kernel_rfl, fun _ => by kernel_rfl⟩
theorem TI4 : TI Try.prog 4 false 1 := ⟨fun _ => by kernel_rfl, fun _ => by kernel_rfl⟩
theorem TI41 : TI Try.prog 41 true 4 := ⟨fun _ => by kernel_rfl, fun _ => by kernel_rfl⟩
theorem TI49 : TI Try.prog 49 false 1 := ⟨fun _ => by kernel_rfl, fun _ => by kernel_rfl⟩
theorem TI5 : TI Try.prog 5 false 1 := ⟨fun _ => by kernel_rfl, fun _ => by kernel_rfl⟩
theorem TI51 : TI Try.prog 51 true 2 := ⟨fun _ => by kernel_rfl, fun _ => by kernel_rfl⟩
theorem TI54 : TI Try.prog 54 true 6 := ⟨fun _ => by kernel_rfl, fun _ => by kernel_rfl⟩
theorem TI55 : TI Try.prog 55 false 1 := ⟨fun _ => by kernel_rfl, fun _ => by kernel_rfl⟩
theorem TI57 : TI Try.prog 57 true 12 := ⟨fun _ => by kernel_rfl, fun _ => by kernel_rfl⟩
theorem TI67 : TI Try.prog 67 true 5 := ⟨fun _ => by kernel_rfl, fun _ => by kernel_rfl⟩
theorem TI9 : TI Try.prog 9 false 1 := ⟨fun _ => by kernel_rfl, fun _ => by kernel_rfl⟩
theorem UN102 : Try.prog.underlying 102 = some (.array 3 3) := by kernel_rfl
theorem UN2 : Try.prog.underlying 2 = some (.int .i64) := by kernel_rfl
theorem UN23 : Try.prog.underlying 23 = some (.slice 41) := by kernel_rfl
theorem UN27 : Try.prog.underlying 27 = some (.slice 51) := by kernel_rfl
theorem UN3 : Try.prog.underlying 3 = some (.int .i64) := by kernel_rfl
theorem UN32 : Try.prog.underlying 32 = some (.int .u64) := by kernel_rfl
theorem UN35 : Try.prog.underlying 35 = some (.slice 3) := by kernel_rfl
theorem UN39 : Try.prog.underlying 39 = some (.slice 67) := by kernel_rfl
theorem UN4 : Try.prog.underlying 4 = some (.bool) := by kernel_rfl
theorem UN49 : Try.prog.underlying 49 = some (.slice 57) := by kernel_rfl
theorem UN5 : Try.prog.underlying 5 = some (.int .u8) := by kernel_rfl
theorem UN55 : Try.prog.underlying 55 = some (.slice 9) := by kernel_rfl
theorem UN69 : Try.prog.underlying 69 = some (.map 9 92) := by kernel_rfl
theorem UN72 : Try.prog.underlying 72 = some (.slice 5) := by kernel_rfl
theorem UN9 : Try.prog.underlying 9 = some (.string) := by kernel_rfl
theorem UN92 : Try.prog.underlying 92 = some (.map 9 57) := by kernel_rfl
theorem ZA102 : ∀ w : World, (zeroValue 102).run Try.prog w = .ok (.agg ([.int .i64 0, .int .i64 0, .int .i64 0] : List Value).toArray) w := fun _ => by kernel_rfl
theorem ZR57 : ∀ w : World, (zeroValue 57).run Try.prog w = .ok (.agg #[.string ⟨#[]⟩, .bool false, .int .i64 0, .int .i64 0, .int .i64 0, .int .i64 0, .string ⟨#[]⟩, .bool false, .int .i64 0, .int .i64 0, .slice none 0 0, .bool false]) w := fun _ => by kernel_rfl
theorem ZR92 : ∀ w : World, (zeroValue 92).run Try.prog w = .ok (.map none) w := fun _ => by kernel_rfl
theorem ZV29 : ZV Try.prog 29 [.slice none 0 0] := ⟨.agg #[.slice none 0 0], fun _ => by kernel_rfl, rfl⟩
theorem ZV41 : ZV Try.prog 41 [.int .i64 0, .int .i64 0, .int .i64 0, .slice none 0 0] := ⟨.agg #[.int .i64 0, .int .i64 0, .int .i64 0, .slice none 0 0], fun _ => by kernel_rfl, rfl⟩
theorem ZV51 : ZV Try.prog 51 [.string ⟨#[]⟩, .slice none 0 0] := ⟨.agg #[.string ⟨#[]⟩, .slice none 0 0], fun _ => by kernel_rfl, rfl⟩
theorem ZV57 : ZV Try.prog 57 [.string ⟨#[]⟩, .bool false, .int .i64 0, .int .i64 0, .int .i64 0, .int .i64 0, .string ⟨#[]⟩, .bool false, .int .i64 0, .int .i64 0, .slice none 0 0, .bool false] := ⟨.agg #[.string ⟨#[]⟩, .bool false, .int .i64 0, .int .i64 0, .int .i64 0, .int .i64 0, .string ⟨#[]⟩, .bool false, .int .i64 0, .int .i64 0, .slice none 0 0, .bool false], fun _ => by kernel_rfl, rfl⟩
theorem ZV67 : ZV Try.prog 67 [.int .i64 0, .string ⟨#[]⟩, .string ⟨#[]⟩, .int .i64 0, .string ⟨#[]⟩] := ⟨.agg #[.int .i64 0, .string ⟨#[]⟩, .string ⟨#[]⟩, .int .i64 0, .string ⟨#[]⟩], fun _ => by kernel_rfl, rfl⟩
theorem open_api_Effect {ok0 : Nat → Prop} {w0 : Base} {w : World} {Γ : List It} {Λ : List LObj} (hs : St ok0 w0 w Γ Λ) (i : Nat) {x : api_Effect} {cs : List Value} (hi : Γ[i]? = some (vl t_api_Effect x (.agg cs.toArray))) : cs = [.int .i64 x.Kind, bstr x.Object, bstr x.Field, .int .i64 x.N, bstr x.S] := by
  obtain ⟨ok, h⟩ := hs.get i hi
  have h := R_agg h rfl
  obtain ⟨_, _, rfl, rfl, ⟨_, _, rfl, rfl, ⟨_, _, rfl, rfl, ⟨_, _, rfl, rfl, rfl⟩⟩⟩⟩ := h
  exact rfl
theorem open_api_Update {ok0 : Nat → Prop} {w0 : Base} {w : World} {Γ : List It} {Λ : List LObj} (hs : St ok0 w0 w Γ Λ) (i : Nat) {x : api_Update} {cs : List Value} (hi : Γ[i]? = some (vl t_api_Update x (.agg cs.toArray))) : ∃ (a0 : Option Addr), ∃ (c1 : Nat), cs = [.int .i64 x.Client, .int .i64 x.Seq, .int .i64 x.Tag, .slice a0 x.Effects.length c1] := by
  obtain ⟨ok, h⟩ := hs.get i hi
  have h := R_agg h rfl
  obtain ⟨_, _, rfl, rfl, ⟨_, _, rfl, rfl, ⟨_, _, rfl, rfl, ⟨a0, c1, rfl, _, _⟩⟩⟩⟩ := h
  exact ⟨a0, c1, rfl⟩
theorem open_fold_Field {ok0 : Nat → Prop} {w0 : Base} {w : World} {Γ : List It} {Λ : List LObj} (hs : St ok0 w0 w Γ Λ) (i : Nat) {x : fold_Field} {cs : List Value} (hi : Γ[i]? = some (vl t_fold_Field x (.agg cs.toArray))) : ∃ (a0 : Option Addr), ∃ (c1 : Nat), cs = [bstr x.Name, .bool x.Register.Set, .int .i64 x.Register.Tag, .int .i64 x.Register.Client, .int .i64 x.Register.Seq, .int .i64 x.Register.N, bstr x.Register.S, .bool x.HasMax, .int .i64 x.Max, .int .i64 x.Sum, .slice a0 x.Elems.length c1, .bool x.Flag] := by
  obtain ⟨ok, h⟩ := hs.get i hi
  have h := R_agg h rfl
  obtain ⟨_, _, rfl, rfl, ⟨_, _, rfl, ⟨_, _, rfl, rfl, ⟨_, _, rfl, rfl, ⟨_, _, rfl, rfl, ⟨_, _, rfl, rfl, ⟨_, _, rfl, rfl, rfl⟩⟩⟩⟩⟩, ⟨_, _, rfl, rfl, ⟨_, _, rfl, rfl, ⟨_, _, rfl, rfl, ⟨_, _, rfl, ⟨a0, c1, rfl, _, _⟩, rfl⟩⟩⟩⟩⟩⟩ := h
  exact ⟨a0, c1, rfl⟩
theorem open_fold_Object {ok0 : Nat → Prop} {w0 : Base} {w : World} {Γ : List It} {Λ : List LObj} (hs : St ok0 w0 w Γ Λ) (i : Nat) {x : fold_Object} {cs : List Value} (hi : Γ[i]? = some (vl t_fold_Object x (.agg cs.toArray))) : ∃ (a0 : Option Addr), ∃ (c1 : Nat), cs = [bstr x.Name, .slice a0 x.Fields.length c1] := by
  obtain ⟨ok, h⟩ := hs.get i hi
  have h := R_agg h rfl
  obtain ⟨_, _, rfl, rfl, ⟨a0, c1, rfl, _, _⟩⟩ := h
  exact ⟨a0, c1, rfl⟩
theorem open_fold_Register {ok0 : Nat → Prop} {w0 : Base} {w : World} {Γ : List It} {Λ : List LObj} (hs : St ok0 w0 w Γ Λ) (i : Nat) {x : fold_Register} {cs : List Value} (hi : Γ[i]? = some (vl t_fold_Register x (.agg cs.toArray))) : cs = [.bool x.Set, .int .i64 x.Tag, .int .i64 x.Client, .int .i64 x.Seq, .int .i64 x.N, bstr x.S] := by
  obtain ⟨ok, h⟩ := hs.get i hi
  have h := R_agg h rfl
  obtain ⟨_, _, rfl, rfl, ⟨_, _, rfl, rfl, ⟨_, _, rfl, rfl, ⟨_, _, rfl, rfl, ⟨_, _, rfl, rfl, rfl⟩⟩⟩⟩⟩ := h
  exact rfl
theorem open_fold_Store {ok0 : Nat → Prop} {w0 : Base} {w : World} {Γ : List It} {Λ : List LObj} (hs : St ok0 w0 w Γ Λ) (i : Nat) {x : fold_Store} {cs : List Value} (hi : Γ[i]? = some (vl t_fold_Store x (.agg cs.toArray))) : ∃ (a0 : Option Addr), ∃ (c1 : Nat), cs = [.slice a0 x.Objects.length c1] := by
  obtain ⟨ok, h⟩ := hs.get i hi
  have h := R_agg h rfl
  obtain ⟨a0, c1, rfl, _, _⟩ := h
  exact ⟨a0, c1, rfl⟩
theorem EG54 : Try.prog.eqGuardType Try.prog.depth 54 = false := by kernel_rfl
theorem EQ54 (x y : fold_Register) (w : World) : (binOp .eql 54 (.agg ([.bool x.Set, .int .i64 x.Tag, .int .i64 x.Client, .int .i64 x.Seq, .int .i64 x.N, bstr x.S] : List Value).toArray) (.agg ([.bool y.Set, .int .i64 y.Tag, .int .i64 y.Client, .int .i64 y.Seq, .int .i64 y.N, bstr y.S] : List Value).toArray)).run Try.prog w = .ok (.bool (decide (x = y))) w :=
  eql_of (EqR.agg Try.underlying54 (by kernel_rfl) (EqL.cons (by decide) (u := .bool x.Set) (v := .bool y.Set) (fun _ => by kernel_rfl) (fun _ => by kernel_rfl) (EqR.bool x.Set y.Set Try.underlying4) (EqL.cons (by decide) (u := .int .i64 x.Tag) (v := .int .i64 y.Tag) (fun _ => by kernel_rfl) (fun _ => by kernel_rfl) (EqR.int x.Tag y.Tag Try.underlying3) (EqL.cons (by decide) (u := .int .i64 x.Client) (v := .int .i64 y.Client) (fun _ => by kernel_rfl) (fun _ => by kernel_rfl) (EqR.int x.Client y.Client Try.underlying3) (EqL.cons (by decide) (u := .int .i64 x.Seq) (v := .int .i64 y.Seq) (fun _ => by kernel_rfl) (fun _ => by kernel_rfl) (EqR.int x.Seq y.Seq Try.underlying3) (EqL.cons (by decide) (u := .int .i64 x.N) (v := .int .i64 y.N) (fun _ => by kernel_rfl) (fun _ => by kernel_rfl) (EqR.int x.N y.N Try.underlying2) (EqL.cons (by decide) (u := bstr x.S) (v := bstr y.S) (fun _ => by kernel_rfl) (fun _ => by kernel_rfl) (EqR.str x.S y.S Try.underlying9) EqL.nil))))))) (by obtain ⟨p1, p2, p3, p4, p5, p6⟩ := x; obtain ⟨q1, q2, q3, q4, q5, q6⟩ := y; rw [Bool.eq_iff_iff]; simp [fold_Register.mk.injEq]) w
end Go.Proofs.Ytlbcfjblpopcnaa
set_option linter.unusedVariables false
namespace Go.Proofs.Ytlbcfjblpopcnaa
open Go Go.RowKit Go.Shelf Go.Maps Go.Sort Go.Proofs.YtlbcfjblpopcnaaL
def lay_keysB_ren : Go.Shelf.Ren := ⟨fun | 7 => 61 | 10 => 79 | n => n, fun | 23 => 69 | 26 => 9 | 3 => 92 | 28 => 99 | 0 => 0 | 27 => 98 | 33 => 110 | 4 => 4 | n => n, fun | n => n⟩
theorem lay_keysB : Go.Proofs.SlLaysZ.n7 Try.prog lay_keysB_ren := {
  mixed := by kernel_rfl
  f7 := ⟨Try.f61.name, by decide, Try.func61.trans (congrArg some (by kernel_rfl))⟩
  f10 := ⟨Try.f79.name, by decide, Try.func79.trans (congrArg some (by kernel_rfl))⟩
  t0 := Try.underlying0
  a0 := Try.isAgg0
  z0 := Try.sizeOf0
  v0 := Try.zeroValue0
  t4 := Try.underlying4
  a4 := Try.isAgg4
  z4 := Try.sizeOf4
  v4 := Try.zeroValue4
  t23 := Try.underlying69
  a23 := Try.isAgg69
  z23 := Try.sizeOf69
  v23 := Try.zeroValue69
  t26 := Try.underlying9
  a26 := Try.isAgg9
  z26 := Try.sizeOf9
  v26 := Try.zeroValue9
  t27 := Try.underlying98
  a27 := Try.isAgg98
  z27 := Try.sizeOf98
  v27 := Try.zeroValue98
  t28 := Try.underlying99
  a28 := Try.isAgg99
  z28 := Try.sizeOf99
  v28 := Try.zeroValue99
  t33 := Try.underlying110
  a33 := Try.isAgg110
  z33 := Try.sizeOf110
  v33 := Try.zeroValue110 }
def lay_keysF_ren : Go.Shelf.Ren := ⟨fun | 7 => 62 | 10 => 80 | n => n, fun | 23 => 92 | 26 => 9 | 3 => 57 | 28 => 99 | 0 => 0 | 27 => 98 | 33 => 110 | 4 => 4 | n => n, fun | n => n⟩
theorem lay_keysF : Go.Proofs.SlLaysZ.n7 Try.prog lay_keysF_ren := {
  mixed := by kernel_rfl
  f7 := ⟨Try.f62.name, by decide, Try.func62.trans (congrArg some (by kernel_rfl))⟩
  f10 := ⟨Try.f80.name, by decide, Try.func80.trans (congrArg some (by kernel_rfl))⟩
  t0 := Try.underlying0
  a0 := Try.isAgg0
  z0 := Try.sizeOf0
  v0 := Try.zeroValue0
  t4 := Try.underlying4
  a4 := Try.isAgg4
  z4 := Try.sizeOf4
  v4 := Try.zeroValue4
  t23 := Try.underlying92
  a23 := Try.isAgg92
  z23 := Try.sizeOf92
  v23 := Try.zeroValue92
  t26 := Try.underlying9
  a26 := Try.isAgg9
  z26 := Try.sizeOf9
  v26 := Try.zeroValue9
  t27 := Try.underlying98
  a27 := Try.isAgg98
  z27 := Try.sizeOf98
  v27 := Try.zeroValue98
  t28 := Try.underlying99
  a28 := Try.isAgg99
  z28 := Try.sizeOf99
  v28 := Try.zeroValue99
  t33 := Try.underlying110
  a33 := Try.isAgg110
  z33 := Try.sizeOf110
  v33 := Try.zeroValue110 }
def lay_sorted_ren : Go.Shelf.Ren := ⟨fun | 6 => 60 | 8 => 77 | 9 => 78 | 11 => 86 | 13 => 88 | 12 => 87 | 23 => 98 | 24 => 99 | 14 => 90 | 15 => 91 | 16 => 92 | 17 => 93 | 18 => 94 | 19 => 95 | 20 => 73 | 21 => 96 | 22 => 97 | 25 => 100 | 26 => 101 | 27 => 102 | 28 => 103 | 29 => 104 | 30 => 84 | 31 => 105 | n => n, fun | 26 => 9 | 28 => 99 | 24 => 55 | 0 => 0 | 3 => 3 | 37 => 108 | 48 => 125 | 50 => 32 | 4 => 4 | 40 => 119 | 39 => 118 | 45 => 94 | 5 => 5 | 9 => 9 | 51 => 127 | 55 => 131 | 57 => 133 | 58 => 134 | 33 => 110 | n => n, fun | n => n⟩
theorem lay_sorted : Go.Proofs.SlLaysZ.n6 Try.prog lay_sorted_ren := {
  mixed := by kernel_rfl
  f6 := ⟨Try.f60.name, by decide, Try.func60.trans (congrArg some (by kernel_rfl))⟩
  f8 := ⟨Try.f77.name, by decide, Try.func77.trans (congrArg some (by kernel_rfl))⟩
  f11 := ⟨Try.f86.name, by decide, Try.func86.trans (congrArg some (by kernel_rfl))⟩
  t0 := Try.underlying0
  a0 := Try.isAgg0
  z0 := Try.sizeOf0
  v0 := Try.zeroValue0
  t24 := Try.underlying55
  a24 := Try.isAgg55
  z24 := Try.sizeOf55
  v24 := Try.zeroValue55
  t26 := Try.underlying9
  a26 := Try.isAgg9
  z26 := Try.sizeOf9
  v26 := Try.zeroValue9
  t28 := Try.underlying99
  a28 := Try.isAgg99
  z28 := Try.sizeOf99
  v28 := Try.zeroValue99
  i26 := by kernel_rfl }
def lay_sort_ren : Go.Shelf.Ren := ⟨fun | 6 => 78 | 8 => 88 | 9 => 87 | 19 => 98 | 20 => 99 | 21 => 90 | 22 => 91 | 23 => 92 | 24 => 93 | 25 => 94 | 26 => 95 | 27 => 73 | 28 => 96 | 29 => 97 | 36 => 100 | 31 => 101 | 32 => 102 | 37 => 103 | 38 => 104 | 39 => 84 | 41 => 105 | n => n, fun | 27 => 55 | 29 => 9 | 3 => 3 | 32 => 108 | 26 => 55 | 0 => 0 | 44 => 125 | 46 => 32 | 4 => 4 | 36 => 119 | 35 => 118 | 41 => 94 | 5 => 5 | 9 => 9 | 53 => 127 | 57 => 131 | 63 => 133 | 64 => 134 | n => n, fun | n => n⟩
theorem lay_sort : Go.Proofs.SlLaysM.n6 Try.prog lay_sort_ren := {
  mixed := by kernel_rfl
  f6 := ⟨Try.f78.name, by decide, Try.func78.trans (congrArg some (by kernel_rfl))⟩
  f8 := Try.func88.trans (congrArg some (by kernel_rfl))
  f9 := ⟨Try.f87.name, by decide, Try.func87.trans (congrArg some (by kernel_rfl))⟩
  f19 := Try.func98.trans (congrArg some (by kernel_rfl))
  f20 := Try.func99.trans (congrArg some (by kernel_rfl))
  f21 := ⟨Try.f90.name, by decide, Try.func90.trans (congrArg some (by kernel_rfl))⟩
  f22 := ⟨Try.f91.name, by decide, Try.func91.trans (congrArg some (by kernel_rfl))⟩
  f23 := ⟨Try.f92.name, by decide, Try.func92.trans (congrArg some (by kernel_rfl))⟩
  f24 := ⟨Try.f93.name, by decide, Try.func93.trans (congrArg some (by kernel_rfl))⟩
  f25 := ⟨Try.f94.name, by decide, Try.func94.trans (congrArg some (by kernel_rfl))⟩
  f26 := ⟨Try.f95.name, by decide, Try.func95.trans (congrArg some (by kernel_rfl))⟩
  f27 := ⟨Try.f73.name, by decide, Try.func73.trans (congrArg some (by kernel_rfl))⟩
  f28 := ⟨Try.f96.name, by decide, Try.func96.trans (congrArg some (by kernel_rfl))⟩
  f29 := ⟨Try.f97.name, by decide, Try.func97.trans (congrArg some (by kernel_rfl))⟩
  f31 := Try.func101.trans (congrArg some (by kernel_rfl))
  f32 := Try.func102.trans (congrArg some (by kernel_rfl))
  f36 := ⟨Try.f100.name, by decide, Try.func100.trans (congrArg some (by kernel_rfl))⟩
  f37 := ⟨Try.f103.name, by decide, Try.func103.trans (congrArg some (by kernel_rfl))⟩
  f38 := ⟨Try.f104.name, by decide, Try.func104.trans (congrArg some (by kernel_rfl))⟩
  f39 := ⟨Try.f84.name, by decide, Try.func84.trans (congrArg some (by kernel_rfl))⟩
  f41 := ⟨Try.f105.name, by decide, Try.func105.trans (congrArg some (by kernel_rfl))⟩
  t0 := Try.underlying0
  a0 := Try.isAgg0
  z0 := Try.sizeOf0
  v0 := Try.zeroValue0
  t3 := Try.underlying3
  a3 := Try.isAgg3
  z3 := Try.sizeOf3
  v3 := Try.zeroValue3
  t4 := Try.underlying4
  a4 := Try.isAgg4
  z4 := Try.sizeOf4
  v4 := Try.zeroValue4
  t5 := Try.underlying5
  a5 := Try.isAgg5
  z5 := Try.sizeOf5
  v5 := Try.zeroValue5
  t9 := Try.underlying9
  a9 := Try.isAgg9
  z9 := Try.sizeOf9
  v9 := Try.zeroValue9
  t26 := Try.underlying55
  a26 := Try.isAgg55
  z26 := Try.sizeOf55
  v26 := Try.zeroValue55
  t27 := Try.underlying55
  a27 := Try.isAgg55
  z27 := Try.sizeOf55
  v27 := Try.zeroValue55
  t29 := Try.underlying9
  a29 := Try.isAgg9
  z29 := Try.sizeOf9
  v29 := Try.zeroValue9
  t32 := Try.underlying108
  a32 := Try.isAgg108
  z32 := Try.sizeOf108
  v32 := Try.zeroValue108
  t35 := Try.underlying118
  a35 := Try.isAgg118
  z35 := Try.sizeOf118
  v35 := Try.zeroValue118
  t36 := Try.underlying119
  a36 := Try.isAgg119
  z36 := Try.sizeOf119
  v36 := Try.zeroValue119
  t41 := Try.underlying94
  a41 := Try.isAgg94
  z41 := Try.sizeOf94
  v41 := Try.zeroValue94
  t44 := Try.underlying125
  a44 := Try.isAgg125
  z44 := Try.sizeOf125
  v44 := Try.zeroValue125
  t46 := Try.underlying32
  a46 := Try.isAgg32
  z46 := Try.sizeOf32
  v46 := Try.zeroValue32
  t53 := Try.underlying127
  a53 := Try.isAgg127
  z53 := Try.sizeOf127
  v53 := Try.zeroValue127
  t57 := Try.underlying131
  a57 := Try.isAgg131
  z57 := Try.sizeOf131
  v57 := Try.zeroValue131
  t63 := Try.underlying133
  a63 := Try.isAgg133
  z63 := Try.sizeOf133
  v63 := Try.zeroValue133
  t64 := Try.underlying134
  a64 := Try.isAgg134
  z64 := Try.sizeOf134
  v64 := Try.zeroValue134 }
def lay_bs_ren : Go.Shelf.Ren := ⟨fun | 26 => 58 | 33 => 73 | 34 => 74 | 38 => 84 | n => n, fun | 24 => 55 | 9 => 9 | 3 => 3 | 4 => 4 | 40 => 108 | 0 => 0 | n => n, fun | n => n⟩
theorem lay_bs : Go.Proofs.Lays2.n26 Try.prog lay_bs_ren := {
  mixed := by kernel_rfl
  f26 := Try.func58.trans (congrArg some (by kernel_rfl))
  f33 := Try.func73.trans (congrArg some (by kernel_rfl))
  f34 := Try.func74.trans (congrArg some (by kernel_rfl))
  f38 := Try.func84.trans (congrArg some (by kernel_rfl))
  t0 := Try.underlying0
  a0 := Try.isAgg0
  z0 := Try.sizeOf0
  v0 := Try.zeroValue0
  t3 := Try.underlying3
  a3 := Try.isAgg3
  z3 := Try.sizeOf3
  v3 := Try.zeroValue3
  t4 := Try.underlying4
  a4 := Try.isAgg4
  z4 := Try.sizeOf4
  v4 := Try.zeroValue4
  t9 := Try.underlying9
  a9 := Try.isAgg9
  z9 := Try.sizeOf9
  v9 := Try.zeroValue9
  t24 := Try.underlying55
  a24 := Try.isAgg55
  z24 := Try.sizeOf55
  v24 := Try.zeroValue55
  t40 := Try.underlying108
  a40 := Try.isAgg108
  z40 := Try.sizeOf108
  v40 := Try.zeroValue108 }
def lay_ins_ren : Go.Shelf.Ren := ⟨fun | 22 => 59 | 29 => 75 | 30 => 76 | 36 => 85 | 17 => 89 | n => n, fun | 24 => 55 | 9 => 9 | 3 => 3 | 4 => 4 | 0 => 0 | n => n, fun | n => n⟩
theorem lay_ins : Go.Proofs.Lays2.n22 Try.prog lay_ins_ren := {
  mixed := by kernel_rfl
  f17 := Try.func89.trans (congrArg some (by kernel_rfl))
  f22 := Try.func59.trans (congrArg some (by kernel_rfl))
  f29 := Try.func75.trans (congrArg some (by kernel_rfl))
  f30 := Try.func76.trans (congrArg some (by kernel_rfl))
  f36 := Try.func85.trans (congrArg some (by kernel_rfl))
  t0 := Try.underlying0
  a0 := Try.isAgg0
  z0 := Try.sizeOf0
  v0 := Try.zeroValue0
  t3 := Try.underlying3
  a3 := Try.isAgg3
  z3 := Try.sizeOf3
  v3 := Try.zeroValue3
  t4 := Try.underlying4
  a4 := Try.isAgg4
  z4 := Try.sizeOf4
  v4 := Try.zeroValue4
  t9 := Try.underlying9
  a9 := Try.isAgg9
  z9 := Try.sizeOf9
  v9 := Try.zeroValue9
  t24 := Try.underlying55
  a24 := Try.isAgg55
  z24 := Try.sizeOf55
  v24 := Try.zeroValue55
  i9 := by kernel_rfl }

theorem lay_sorts (m : Nat) : AnyZ.SortsIn Try.prog lay_sorted_ren Fence.wide m :=
  ⟨fun blk off cap ss W hH hblk hsz => callsIn_wide.2 (AnyM.slices_Sort_string lay_sort blk off cap ss W hH hblk hsz),
   fun p cap W => callsIn_wide.2 (AnyM.slices_Sort_string_none lay_sort p cap W)⟩
set_option maxHeartbeats 1000000 in
theorem sk_B : SK Try.prog 61 60 79 69 := {
  fk_ := fun _ _ => by kernel_rfl
  fs_ := fun _ _ => by kernel_rfl
  keys := fun mb W => callsIn_wide.1 (AnyZ.keys_in lay_keysB Fence.wide 5 trivial rfl mb W)
  sorted := fun b nn D0 R w hown hmax hbytes => by
    have hbl := hown.lt
    have hseq : SeqGives Fence.wide 2 Try.prog 79 #[.pointer (some ⟨w.heap.size, 0, none⟩)] encStr (fun ss => ss.Perm (strKeys D0)) (Maps.size D0) (w.alloc (.cells #[.map (some b)] 69)) :=
      AnyZ.keys_gives (ρ := lay_keysB_ren) { lay_keysB with } Fence.wide _ trivial rfl (by omega) w.heap.size b nn D0 _ (by simp) (by simp) (by
        obtain ⟨es, clock, hb, Ft, hs, hD⟩ := hown
        exact ⟨es, clock, (Below.heap_alloc _ _ b hbl).trans hb, Ft, hs, hD⟩)
    exact callsIn_wide.1 (AnyZ.sorted_in lay_sorted Fence.wide 5 trivial trivial trivial trivial rfl (by omega) (lay_sorts _) (enters_of Try.func78 (by kernel_rfl) rfl) 79 #[.pointer (some ⟨w.heap.size, 0, none⟩)] trivial (enters_of Try.func79 (by kernel_rfl) rfl) _ _ hmax hbytes _ hseq)
  sortedN := fun w => by
    have hseq : SeqGives Fence.wide 2 Try.prog 79 #[.pointer (some ⟨w.heap.size, 0, none⟩)] encStr (fun ss : List (List UInt8) => ss = []) 0 (w.alloc (.cells #[.map none] 69)) :=
      AnyZ.keys_gives_nil (ρ := lay_keysB_ren) { lay_keysB with } Fence.wide _ trivial rfl w.heap.size _ (by simp) (by simp)
    exact callsIn_wide.1 (AnyZ.sorted_in lay_sorted Fence.wide 5 trivial trivial trivial trivial rfl (by omega) (lay_sorts _) (enters_of Try.func78 (by kernel_rfl) rfl) 79 #[.pointer (some ⟨w.heap.size, 0, none⟩)] trivial (enters_of Try.func79 (by kernel_rfl) rfl) _ 0 (Nat.zero_le _) (by omega) _ hseq) }
set_option maxHeartbeats 1000000 in
theorem sk_F : SK Try.prog 62 60 80 92 := {
  fk_ := fun _ _ => by kernel_rfl
  fs_ := fun _ _ => by kernel_rfl
  keys := fun mb W => callsIn_wide.1 (AnyZ.keys_in lay_keysF Fence.wide 5 trivial rfl mb W)
  sorted := fun b nn D0 R w hown hmax hbytes => by
    have hbl := hown.lt
    have hseq : SeqGives Fence.wide 2 Try.prog 80 #[.pointer (some ⟨w.heap.size, 0, none⟩)] encStr (fun ss => ss.Perm (strKeys D0)) (Maps.size D0) (w.alloc (.cells #[.map (some b)] 92)) :=
      AnyZ.keys_gives (ρ := lay_keysF_ren) { lay_keysF with } Fence.wide _ trivial rfl (by omega) w.heap.size b nn D0 _ (by simp) (by simp) (by
        obtain ⟨es, clock, hb, Ft, hs, hD⟩ := hown
        exact ⟨es, clock, (Below.heap_alloc _ _ b hbl).trans hb, Ft, hs, hD⟩)
    exact callsIn_wide.1 (AnyZ.sorted_in lay_sorted Fence.wide 5 trivial trivial trivial trivial rfl (by omega) (lay_sorts _) (enters_of Try.func78 (by kernel_rfl) rfl) 80 #[.pointer (some ⟨w.heap.size, 0, none⟩)] trivial (enters_of Try.func80 (by kernel_rfl) rfl) _ _ hmax hbytes _ hseq)
  sortedN := fun w => by
    have hseq : SeqGives Fence.wide 2 Try.prog 80 #[.pointer (some ⟨w.heap.size, 0, none⟩)] encStr (fun ss : List (List UInt8) => ss = []) 0 (w.alloc (.cells #[.map none] 92)) :=
      AnyZ.keys_gives_nil (ρ := lay_keysF_ren) { lay_keysF with } Fence.wide _ trivial rfl w.heap.size _ (by simp) (by simp)
    exact callsIn_wide.1 (AnyZ.sorted_in lay_sorted Fence.wide 5 trivial trivial trivial trivial rfl (by omega) (lay_sorts _) (enters_of Try.func78 (by kernel_rfl) rfl) 80 #[.pointer (some ⟨w.heap.size, 0, none⟩)] trivial (enters_of Try.func80 (by kernel_rfl) rfl) _ 0 (Nat.zero_le _) (by omega) _ hseq) }
end Go.Proofs.Ytlbcfjblpopcnaa
set_option linter.unusedVariables false
set_option linter.unusedSimpArgs false
set_option linter.unnecessarySimpa false
namespace Go.Proofs.YtlbcfjblpopcnaaL
open Go Go.RowKit

def takenIn (tk : Nat → List Nat) (m : Nat) (listed : Array Bool) (i : Nat) : Bool := (List.range m).any fun k => listed.getD k false && (tk k).contains i
def anyTakes (tk : Nat → List Nat) (m i : Nat) : Bool := (List.range m).any fun k => (tk k).contains i
def nodupB : List Nat → Bool
  | [] => true
  | x :: l => !l.contains x && nodupB l
def takeOk (l : List Oper) (m : Nat) (tk : Nat → List Nat) : Bool :=
  (List.range m).all fun i => nodupB (tk i) && ((tk i).all fun j => reach l l.length i j && Nat.blt j i) && (List.range m).all fun k => Nat.beq k i || (tk i).all fun j => !(tk k).contains j
def tkAt (l : List (List Nat)) (i : Nat) : List Nat := l.getD i []
theorem nodupB_iff : ∀ {l : List Nat}, nodupB l = true → l.Nodup
  | [], _ => by simp
  | x :: l, h => by
    simp only [nodupB, Bool.and_eq_true, Bool.not_eq_true'] at h
    refine List.nodup_cons.2 ⟨fun hm => ?_, nodupB_iff h.2⟩
    have : l.contains x = true := by simpa using hm
    rw [this] at h; cases h.1
theorem takenIn_iff {tk : Nat → List Nat} {m : Nat} {listed : Array Bool} {i : Nat} : takenIn tk m listed i = true ↔ ∃ k, k < m ∧ listed.getD k false = true ∧ i ∈ tk k := by
  unfold takenIn
  simp only [List.any_eq_true, List.mem_range, Bool.and_eq_true, List.contains_iff_mem]
theorem taken_all {tk : Nat → List Nat} {m : Nat} {listed : Array Bool} {i : Nat} (h : ∀ k, k < m → listed.getD k false = true) : takenIn tk m listed i = anyTakes tk m i := by
  rw [Bool.eq_iff_iff, takenIn_iff]
  unfold anyTakes
  simp only [List.any_eq_true, List.mem_range, List.contains_iff_mem]
  exact ⟨fun ⟨k, h1, _, h2⟩ => ⟨k, h1, h2⟩, fun ⟨k, h1, h2⟩ => ⟨k, h1, h k h1, h2⟩⟩
section
variable {l : List Oper} {m : Nat} {tk : Nat → List Nat}
theorem takeOk_at (h : takeOk l m tk = true) {i : Nat} (hi : i < m) (j : Nat) (hj : j ∈ tk i) : reach l l.length i j = true ∧ j < i ∧ j < m := by
  simp only [takeOk, List.all_eq_true, List.mem_range, Bool.and_eq_true] at h
  have h1 := (h i hi).1.2 j hj
  have h2 : j < i := by have := h1.2; simp [Nat.blt] at this; omega
  exact ⟨h1.1, h2, by omega⟩
theorem takeOk_nodup (h : takeOk l m tk = true) {i : Nat} (hi : i < m) : (tk i).Nodup := by
  simp only [takeOk, List.all_eq_true, List.mem_range, Bool.and_eq_true] at h
  exact nodupB_iff (h i hi).1.1
theorem takeOk_one (h : takeOk l m tk = true) {k i j : Nat} (hk : k < m) (hi : i < m) (hkt : j ∈ tk k) (hit : j ∈ tk i) : k = i := by
  simp only [takeOk, List.all_eq_true, List.mem_range, Bool.and_eq_true, Bool.or_eq_true] at h
  rcases (h i hi).2 k hk with h1 | h1
  · exact Nat.eq_of_beq_eq_true h1
  · have := h1 j hit
    have h2 : (tk k).contains j = true := by simpa using hkt
    rw [h2] at this; cases this
end
theorem flatMapC {α β : Type _} {f g : α → List β} : ∀ {l : List α}, (∀ x ∈ l, f x = g x) → l.flatMap f = l.flatMap g
  | [], _ => rfl
  | x :: l, h => by rw [List.flatMap_cons, List.flatMap_cons, h x (by simp), flatMapC fun y hy => h y (by simp [hy])]
theorem catTo_takes {α : Type _} {m : Nat} : ∀ (f : Nat → List α) (js : List Nat), js.Nodup → (∀ j ∈ js, j < m) → (catTo f m).Perm (js.flatMap f ++ catTo (fun j => if j ∈ js then [] else f j) m)
  | f, [], _, _ => by
    rw [catTo_congr (f := fun j => if j ∈ ([] : List Nat) then [] else f j) (g := f) fun j _ => if_neg (by simp)]
    exact .refl _
  | f, i :: js, hn, hm => by
    have hn' := List.nodup_cons.1 hn
    have h1 := catTo_take f (m := m) (i := i) (hm i (by simp))
    have h2 := catTo_takes (fun j => if j = i then [] else f j) js hn'.2 fun j hj => hm j (by simp [hj])
    have e1 : js.flatMap (fun j => if j = i then [] else f j) = js.flatMap f := flatMapC fun j hj => if_neg fun (e : j = i) => hn'.1 (e ▸ hj)
    have e2 : catTo (fun j => if j ∈ js then [] else if j = i then [] else f j) m = catTo (fun j => if j ∈ i :: js then [] else f j) m := catTo_congr fun j _ => by
      by_cases a : j ∈ js
      · rw [if_pos a, if_pos (by simp [a])]
      · by_cases b : j = i
        · rw [if_neg a, if_pos b, if_pos (by simp [b])]
        · rw [if_neg a, if_neg b, if_neg (by simp [a, b])]
    rw [e1, e2] at h2
    rw [List.flatMap_cons, List.append_assoc]
    exact h1.trans (h2.append_left (f i))
def oblT (P : Program) (N : Nat) (l : List Oper) (ok0 : Nat → Prop) (w0 : Base) (Γ : List It) (Λ : List LObj) (ρ0 : Env) (po : Nat → PO) (tk : Nat → List Nat) (m i : Nat) : Prop :=
  match l[i]? with
  | none => True
  | some o => ∀ ρ w Γx Λx, St ok0 w0 w (Γx ++ Γ) (Λx ++ (((po i).Pre ++ (tk i).flatMap fun j => (po j).L (slotOf ρ (dstOf l j))) ++ Λ)) → (∀ s, notDst (l.take m) s = true → ρ s = ρ0 s) →
      (∀ j, reach l l.length i j = true → (po j).at_ l ρ (slotOf ρ (dstOf l j)) ∧ ∀ it ∈ (po j).G (slotOf ρ (dstOf l j)), it ∈ Γx) →
      WL P N l.toArray (oneQ ρ o.dst fun v w' => (po i).at_ l ρ (valOf o.dst v) ∧ St ok0 w0 w' ((po i).G (valOf o.dst v) ++ (Γx ++ Γ)) ((po i).L (valOf o.dst v) ++ (Λx ++ Λ))) [o] ρ w
section
variable {P : Program} {N : Nat} {Q : QE} {ρ ρ0 : Env} {w w1 : World} {w0 : Base} {l : List Oper} {ok0 : Nat → Prop} {Γ : List It} {Λ : List LObj}
theorem W.anyT {id : Nat} (hm : P.follows .mixedOrders = true) (m F : Nat) (B : List Bool) (hF : l.length - m = F) (hB : maskTo l.length m = B) (po : Nat → PO) (tk : Nat → List Nat) (hs : St ok0 w0 w1 Γ (catTo (fun i => (po i).Pre) m ++ Λ)) (hok : anyOkT l m = true) (hdd : distinctDst l = true) (hnd : needOk l m po = true) (htk : takeOk l m tk = true)
    (hops : upTo (oblT P N l ok0 w0 Γ Λ ρ0 po tk m) m)
    (hfin : ∀ ρ w, St ok0 w0 w (catTo (fun i => (po i).G (slotOf ρ (dstOf l i))) m ++ Γ) (catTo (fun i => if anyTakes tk m i = true then [] else (po i).L (slotOf ρ (dstOf l i))) m ++ Λ) → (∀ s, notDst (l.take m) s = true → ρ s = ρ0 s) →
      upTo (fun i => (po i).at_ l ρ (slotOf ρ (dstOf l i))) m → WA P N l Q F B ρ w) :
    W P N (.region id l.toArray true) Q ρ0 w1 := by
  intro a0 ha0
  refine wp_region_any hm ?_
  let con : Array Bool → Env → Nat → List LObj := fun listed ρ i => if takenIn tk m listed i = true then [] else if listed.getD i false = true then (po i).L (slotOf ρ (dstOf l i)) else (po i).Pre
  let InvA : Array Bool → Act → World → Prop := fun listed a w => ∃ (ρ : Env) (Γx : List It), Agree N a ρ ∧ St ok0 w0 w (Γx ++ Γ) (catTo (con listed ρ) m ++ Λ) ∧ (∀ s, notDst (l.take m) s = true → ρ s = ρ0 s) ∧
    (∀ i, listed.getD i false = true → i < m ∧ (po i).at_ l ρ (slotOf ρ (dstOf l i)) ∧ ∀ it ∈ (po i).G (slotOf ρ (dstOf l i)), it ∈ Γx)
  have hsz : l.toArray.size = l.length := by simp
  have finish : ∀ listed a w, InvA listed a w → (∀ i, i < m → listed.getD i false = true) → wpAny P .any l.toArray (lift N Q) F B.toArray a w := by
    rintro listed a w ⟨ρ, Γx, hρ, hst, hu, hp⟩ hall
    refine hfin ρ w (St.sub (Γ := Γx ++ Γ) ?_ fun it hit => ?_) hu (upTo.mk m fun i hi => (hp i (hall i hi)).2.1) a hρ
    · rw [catTo_congr (f := con listed ρ) (g := fun i => if anyTakes tk m i = true then [] else (po i).L (slotOf ρ (dstOf l i))) fun i hi => by
        show (if _ then _ else if _ then _ else _) = _
        rw [taken_all (fun j hj => hall j hj), if_pos (hall i hi)]] at hst
      exact hst
    · rcases List.mem_append.1 hit with hit | hit
      · obtain ⟨i, hi, hx⟩ := mem_catTo hit
        exact List.mem_append.2 (.inl ((hp i (hall i hi)).2.2 it hx))
      · exact List.mem_append.2 (.inr hit)
  have hdeps : ∀ {listed : Array Bool} {i : Nat}, i ∈ Region.ready .any l.toArray listed → i < l.length ∧ listed.getD i true = false ∧ ∀ d ∈ depsOf l i, listed.getD d false = true := by
    intro listed i hi
    rw [mem_ready] at hi
    obtain ⟨h0, o, ho, hall⟩ := hi
    have ho' : l[i]? = some o := by simpa using ho
    refine ⟨(List.getElem?_eq_some_iff.1 ho').1, h0, fun d hd => ?_⟩
    simp only [depsOf, ho', Option.map_some, Option.getD_some, List.mem_map, List.mem_filter] at hd
    obtain ⟨e, ⟨he, hb⟩, rfl⟩ := hd
    exact hall e (by simpa using he) hb
  have hready : ∀ {listed : Array Bool}, Region.ready .any l.toArray listed = [] → listed.size = l.length → ∀ i, i < l.length → listed.getD i false = true := by
    intro listed hr hls i
    induction i using Nat.strongRecOn with
    | _ i ih =>
      intro hi
      cases hb : listed.getD i false with
      | true => rfl
      | false =>
        exfalso
        have hin : i ∈ Region.ready .any l.toArray listed := by
          rw [mem_ready]
          refine ⟨?_, l[i], by simp [hi], fun e he hbd => ?_⟩
          · have : i < listed.size := by omega
            simp [this] at hb ⊢
            exact hb
          · have hd : e.on ∈ depsOf l i := by
              simp only [depsOf, List.getElem?_eq_getElem hi, Option.map_some, Option.getD_some, List.mem_map, List.mem_filter]
              exact ⟨e, ⟨by simpa using he, hbd⟩, rfl⟩
            have hlt := anyOkT_lt hok hi hd
            exact ih e.on hlt (by omega)
        rw [hr] at hin
        cases hin
  have hset : ∀ {listed : Array Bool} {i j : Nat}, listed.size = l.length → i < l.length → ((listed.setIfInBounds i true).getD j false = true ↔ (j = i ∨ listed.getD j false = true)) := by
    intro listed i j hls hi
    by_cases hij : i = j
    · subst hij
      have : i < listed.size := by omega
      simp [this]
    · rw [getD_set_ne false hij]
      constructor
      · exact .inr
      · rintro (h | h)
        · exact absurd h.symm hij
        · exact h
  have main : ∀ fuel listed a w, listed.size = l.length → leftOf listed l.length = fuel →
      (∀ k, listed.getD k false = true → ∀ d ∈ depsOf l k, listed.getD d false = true) → InvA listed a w → wpAny P .any l.toArray (lift N Q) fuel listed a w := by
    intro fuel
    induction fuel with
    | zero =>
      intro listed a w hls hlf hcl hI
      have hall : ∀ i, i < l.length → listed.getD i false = true := by
        intro i hi
        have h1 := leftOf_zero hlf i hi
        have : i < listed.size := by omega
        simp [this] at h1 ⊢
        exact h1
      refine ⟨?_, ?_⟩
      · cases hr : Region.ready .any l.toArray listed with
        | nil => rfl
        | cons i rs =>
          exfalso
          obtain ⟨h1, h2, _⟩ := hdeps (listed := listed) (i := i) (by rw [hr]; simp)
          rw [leftOf_zero hlf i h1] at h2
          cases h2
      · have hmn : m = l.length := by
          obtain ⟨ρ, Γx, hρ, hst, hu, hp⟩ := hI
          rcases Nat.lt_or_ge m l.length with h | h
          · have := (hp m (hall m h)).1; omega
          · have := anyOkT_le hok; omega
        have h0 := finish listed a w hI fun i hi => hall i (by omega)
        have hF0 : F = 0 := by omega
        subst hF0
        exact h0.2
    | succ fuel ih =>
      intro listed a w hls hlf hcl hI
      have hne : Region.ready .any l.toArray listed ≠ [] := by
        intro hr
        have hall := hready hr hls
        have : ∀ n, n ≤ l.length → leftOf listed n = 0 := by
          intro n
          induction n with
          | zero => exact fun _ => rfl
          | succ n ihn =>
            intro hn
            have h1 := hall n (by omega)
            have : n < listed.size := by omega
            have h2 : listed.getD n true = true := by simp [this] at h1 ⊢; exact h1
            rw [leftOf, ihn (by omega), h2]; rfl
        rw [this l.length (Nat.le_refl _)] at hlf
        cases hlf
      refine ⟨fun hr => absurd hr hne, fun i hi => ?_⟩
      obtain ⟨hin, hi0, hid⟩ := hdeps hi
      have hri : ∀ j, reach l l.length i j = true → listed.getD j false = true := fun j hj => reach_listed hcl _ i j hid hj
      have ho : l[i]? = some l[i] := List.getElem?_eq_getElem hin
      have ho2 : l.toArray[i]? = some l[i] := by simpa using ho
      have hls' : (listed.setIfInBounds i true).size = l.length := by simpa using hls
      have hlf' : leftOf (listed.setIfInBounds i true) l.length = fuel := by
        have := leftOf_set hi0 l.length
        rw [if_pos hin] at this
        omega
      have hcl' : ∀ k, (listed.setIfInBounds i true).getD k false = true → ∀ d ∈ depsOf l k, (listed.setIfInBounds i true).getD d false = true := by
        intro k hk d hd
        rcases (hset hls hin).1 hk with rfl | hk
        · exact getD_set_true (hid d hd)
        · exact getD_set_true (hcl k hk d hd)
      have hif : listed.getD i false = false := by
        have : i < listed.size := by omega
        simp [this] at hi0 ⊢
        exact hi0
      rcases Nat.lt_or_ge i m with him | him
      · obtain ⟨ρ, Γx, hρ, hst, hu, hp⟩ := hI
        have hob := hops.at_ i him
        unfold oblT at hob
        rw [ho] at hob
        have hnt : takenIn tk m listed i = false := by
          cases hb : takenIn tk m listed i with
          | false => rfl
          | true =>
            obtain ⟨k, hk, hkl, hkt⟩ := takenIn_iff.1 hb
            have := reach_listed hcl _ k i (hcl k hkl) ((takeOk_at htk hk i hkt).1)
            rw [hif] at this; cases this
        have hci : con listed ρ i = (po i).Pre := by
          show (if _ then _ else if _ then _ else _) = _
          rw [hnt, hif, if_neg (by simp), if_neg (by simp)]
        have hcj1 : ∀ j ∈ tk i, con listed ρ j = (po j).L (slotOf ρ (dstOf l j)) := by
          intro j hj
          have h1 := takeOk_at htk him j hj
          have h2 : takenIn tk m listed j = false := by
            cases hb : takenIn tk m listed j with
            | false => rfl
            | true =>
              obtain ⟨k, hk, hkl, hkt⟩ := takenIn_iff.1 hb
              have : k = i := takeOk_one htk hk him hkt hj
              subst this
              rw [hif] at hkl; cases hkl
          show (if _ then _ else if _ then _ else _) = _
          rw [h2, hri j h1.1, if_neg (by simp), if_pos rfl]
        have hjs : (i :: tk i).Nodup := List.nodup_cons.2 ⟨fun h => by have := (takeOk_at htk him i h).2.1; omega, takeOk_nodup htk him⟩
        have hjlt : ∀ j ∈ i :: tk i, j < m := by
          intro j hj
          rcases List.mem_cons.1 hj with rfl | hj
          · exact him
          · have := (takeOk_at htk him j hj).2.1; omega
        have hfl : (i :: tk i).flatMap (con listed ρ) = (po i).Pre ++ (tk i).flatMap fun j => (po j).L (slotOf ρ (dstOf l j)) := by
          rw [List.flatMap_cons, hci, flatMapC hcj1]
        have hst1 : St ok0 w0 w (Γx ++ Γ) (catTo (fun j => if j ∈ i :: tk i then [] else con listed ρ j) m ++ (((po i).Pre ++ (tk i).flatMap fun j => (po j).L (slotOf ρ (dstOf l j))) ++ Λ)) := by
          refine hst.perm ?_
          have := (catTo_takes (con listed ρ) (i :: tk i) hjs hjlt).append_right Λ
          rw [hfl] at this
          refine this.trans ((List.perm_append_comm.append_right Λ).trans ?_)
          rw [List.append_assoc]
        refine wpOp_of_WL ho2 hρ (hob ρ w Γx _ hst1 hu fun j hj => (hp j (hri j hj)).2) fun a' v w' ha' hR => ih _ a' w' hls' hlf' hcl' ?_
        have hdi : dstOf l i = l[i].dst := by simp [dstOf, ho]
        have hsame : ∀ j, j ≠ i → slotOf (putE ρ l[i].dst v) (dstOf l j) = slotOf ρ (dstOf l j) := fun j hj => slot_put fun t ht e => hj (distinct_of hdd e (hdi.trans ht))
        have hcs : ∀ j, j ∉ i :: tk i → con (listed.setIfInBounds i true) (putE ρ l[i].dst v) j = con listed ρ j := by
          intro j hj
          have hji : j ≠ i := fun e => hj (by simp [e])
          have hjt : j ∉ tk i := fun e => hj (by simp [e])
          have ht : takenIn tk m (listed.setIfInBounds i true) j = takenIn tk m listed j := by
            rw [Bool.eq_iff_iff, takenIn_iff, takenIn_iff]
            constructor
            · rintro ⟨k, hk, hkl, hkt⟩
              rcases (hset hls hin).1 hkl with rfl | hkl
              · exact absurd hkt hjt
              · exact ⟨k, hk, hkl, hkt⟩
            · rintro ⟨k, hk, hkl, hkt⟩
              exact ⟨k, hk, (hset hls hin).2 (.inr hkl), hkt⟩
          show (if _ then _ else if _ then _ else _) = (if _ then _ else if _ then _ else _)
          rw [ht, getD_set_ne false (fun e => hji e.symm), hsame j hji]
        have hct : ∀ j ∈ tk i, con (listed.setIfInBounds i true) (putE ρ l[i].dst v) j = [] := by
          intro j hj
          have ht : takenIn tk m (listed.setIfInBounds i true) j = true := takenIn_iff.2 ⟨i, him, (hset hls hin).2 (.inl rfl), hj⟩
          show (if _ then _ else if _ then _ else _) = _
          rw [ht, if_pos rfl]
        have hnt2 : takenIn tk m (listed.setIfInBounds i true) i = false := by
          cases hb : takenIn tk m (listed.setIfInBounds i true) i with
          | false => rfl
          | true =>
            obtain ⟨k, hk, hkl, hkt⟩ := takenIn_iff.1 hb
            have h1 := takeOk_at htk hk i hkt
            rcases (hset hls hin).1 hkl with rfl | hkl
            · have := h1.2.1; omega
            · have := reach_listed hcl _ k i (hcl k hkl) h1.1
              rw [hif] at this; cases this
        have hci2 : con (listed.setIfInBounds i true) (putE ρ l[i].dst v) i = (po i).L (valOf l[i].dst v) := by
          show (if _ then _ else if _ then _ else _) = _
          rw [hnt2, if_neg (by simp), if_pos ((hset hls hin).2 (.inl rfl)), hdi, slot_val]
        have hat : ∀ j, j < m → (∀ k, reach l l.length j k = true → listed.getD k false = true) → ∀ v', (po j).at_ l ρ v' → (po j).at_ l (putE ρ l[i].dst v) v' := by
          intro j hjm hk v' h
          have e : ((po j).needs.map fun k => slotOf (putE ρ l[i].dst v) (dstOf l k)) = (po j).needs.map fun k => slotOf ρ (dstOf l k) := by
            refine List.map_congr_left fun k hkn => hsame k ?_
            rintro rfl
            simp only [needOk, List.all_eq_true, List.mem_range] at hnd
            have := hk _ (hnd j hjm _ hkn)
            rw [hif] at this
            cases this
          unfold PO.at_
          rw [e]
          exact h
        have hcj := hri
        refine ⟨_, (po i).G (valOf l[i].dst v) ++ Γx, ha', ?_, fun s hsn => ?_, fun j hj => ?_⟩
        · rw [List.append_assoc]
          refine hR.2.perm ?_
          have h9 := (catTo_take (con (listed.setIfInBounds i true) (putE ρ l[i].dst v)) him).append_right Λ
          rw [hci2, catTo_congr (f := fun j => if j = i then [] else con (listed.setIfInBounds i true) (putE ρ l[i].dst v) j) (g := fun j => if j ∈ i :: tk i then [] else con listed ρ j) (fun j _ => by
            by_cases e : j = i
            · simp [e]
            · by_cases e2 : j ∈ tk i
              · rw [if_neg e, if_pos (by simp [e2]), hct j e2]
              · rw [if_neg e, if_neg (by simp [e, e2]), hcs j (by simp [e, e2])]), List.append_assoc] at h9
          exact h9.symm
        · cases hd : l[i].dst with
          | none => exact hu s hsn
          | some t =>
            have : s ≠ t := by
              rintro rfl
              exact notDst_of hsn (i := i) (by simp [dstOf, List.getElem?_take, him, ho, hd])
            show upd ρ t v s = ρ0 s
            rw [upd_ne _ _ this]
            exact hu s hsn
        · by_cases hji : j = i
          · subst hji
            refine ⟨him, ?_⟩
            rw [hdi, slot_val]
            exact ⟨hat j him hcj _ hR.1, fun it hit => List.mem_append.2 (.inl hit)⟩
          · have hj' := ((hset hls hin).1 hj).resolve_left hji
            rw [hsame j hji]
            exact ⟨(hp j hj').1, hat j (hp j hj').1 (fun k hk => reach_listed hcl _ j k (hcl j hj') hk) _ (hp j hj').2.1, fun it hit => List.mem_append.2 (.inr ((hp j hj').2.2 it hit))⟩
      · have hall : ∀ j, j < m → listed.getD j false = true := fun j hj => hri j (anyOkT_all hok hin him hj)
        have h0 := finish listed a w hI hall
        obtain ⟨ρ, Γx, hρ, hst, hu, hp⟩ := hI
        have hl2 : ∀ j, j < l.length → (listed.getD j false = true ↔ j < m) := fun j hj => ⟨fun h => (hp j h).1, fun h => hall j h⟩
        have e1 := listed_mask l.length m hls hl2
        have e2 := leftOf_mask l.length m (anyOkT_le hok) hls hl2
        have e3 : F = fuel + 1 := by omega
        rw [← hB, ← e1, e3] at h0
        exact h0.2 i hi
  have hfull : leftOf (Array.replicate l.length false) l.length = l.length := by
    have : ∀ n, n ≤ l.length → leftOf (Array.replicate l.length false) n = n := by
      intro n
      induction n with
      | zero => exact fun _ => rfl
      | succ n ih =>
        intro hn
        have h2 : (Array.replicate l.length false).getD n true = false := by
          have : n < l.length := by omega
          simp [this]
        rw [leftOf, ih (by omega), h2]; rfl
    exact this _ (Nat.le_refl _)
  have hnone : ∀ i, (Array.replicate l.length false).getD i false ≠ true := by
    intro i hi
    rcases Nat.lt_or_ge i l.length with h | h <;> simp [h] at hi
  suffices hgo : InvA (Array.replicate l.length false) a0 { w1 with drawn := w1.drawn + 1 } by
    have := main l.length (Array.replicate l.length false) a0 { w1 with drawn := w1.drawn + 1 } (by simp) hfull (fun k hk => absurd hk (hnone k)) hgo
    simpa using this
  refine ⟨ρ0, [], ha0, ?_, fun _ _ => rfl, fun i hi => absurd hi (hnone i)⟩
  rw [catTo_congr (f := con (Array.replicate l.length false) ρ0) (g := fun i => (po i).Pre) fun i _ => by
    have h1 : takenIn tk m (Array.replicate l.length false) i = false := by
      cases hb : takenIn tk m (Array.replicate l.length false) i with
      | false => rfl
      | true => obtain ⟨k, hk, hkl, hkt⟩ := takenIn_iff.1 hb; exact absurd hkl (hnone k)
    show (if _ then _ else if _ then _ else _) = _
    rw [h1, if_neg (by simp), if_neg (hnone i)]]
  exact hs.drew
end
end Go.Proofs.YtlbcfjblpopcnaaL
set_option linter.unusedVariables false
set_option linter.unusedSimpArgs false
namespace Go.Proofs.Ytlbcfjblpopcnaa
open Go Go.RowKit Go.Proofs.YtlbcfjblpopcnaaL
set_option maxRecDepth 100000
set_option maxHeartbeats 4000000
theorem cmp_isNaN_int.calls {ok : Nat → Prop} {w0 : World} {x1 : Int}  {r : Bool} (hf : cmp_isNaN_int x1 = some r)  :
    Calls Try.prog 83 #[.int .i64 x1] w0 fun e w' => ∃ v, e = .returned v ∧ ∃ y : Unit, v = .bool r ∧ St ok (bz w0) w' [] [] := by
  unfold cmp_isNaN_int at hf
  refine calls_of_W (fn := Try.f83) (N := 6) Try.func83 rfl Try.ntmps83 rfl ?_
  have hs : St ok (bz w0) w0 [] [] := St.init All.nil
  refine W.seqK fun K2 hK2 => ?_
  refine W.region ?_
  refine WL.assign (v := .bool false) rfl ?_
  refine WL.nil ?_
  refine hK2 _ _ ?_
  refine W.seqK fun K3 hK3 => ?_
  refine W.region ?_
  refine WL.move (v := .int .i64 x1) rfl ?_
  refine WL.move (v := .int .i64 x1) rfl ?_
  refine WL.bin (v := .bool (x1 != x1)) rfl rfl (ib_neq _ _ _) ?_
  refine WL.assign (v := .bool (x1 != x1)) rfl ?_
  refine WL.nil ?_
  refine hK3 _ _ ?_
  refine W.ret ?_
  have hr := Option.some.inj hf; subst hr
  exact ⟨_, resOk_one rfl rfl, (), rfl, (hs.mask []).pick []⟩
theorem cmp_Compare_int.calls {ok : Nat → Prop} {w0 : World} {x1 : Int} {x2 : Int}  {r : Int} (hf : cmp_Compare_int x1 x2 = some r)  :
    Calls Try.prog 72 #[.int .i64 x1, .int .i64 x2] w0 fun e w' => ∃ v, e = .returned v ∧ ∃ y : Unit, v = .int .i64 r ∧ St ok (bz w0) w' [] [] := by
  unfold cmp_Compare_int at hf
  refine calls_of_W (fn := Try.f72) (N := 20) Try.func72 rfl Try.ntmps72 rfl ?_
  have hs : St ok (bz w0) w0 [] [] := St.init All.nil
  refine W.seqK fun K3 hK3 => ?_
  refine W.region ?_
  refine WL.assign (v := .int .i64 0) rfl ?_
  refine WL.nil ?_
  refine hK3 _ _ ?_
  refine W.seqK fun K4 hK4 => ?_
  refine W.region ?_
  refine WL.move (v := .int .i64 x1) rfl ?_
  obtain ⟨x5, hxx5, hf⟩ := bindE hf
  refine WL.call (vs := [.int .i64 x1]) hs FN83 ⟨rfl, trivial⟩ (fun ok hA => cmp_isNaN_int.calls (x1 := x1) hxx5) ?_
  rintro _ w hs
  refine WL.assign (v := .bool x5) rfl ?_
  refine WL.nil ?_
  refine hK4 _ _ ?_
  refine W.seqK fun K6 hK6 => ?_
  refine W.region ?_
  refine WL.move (v := .int .i64 x2) rfl ?_
  obtain ⟨x7, hxx7, hf⟩ := bindE hf
  refine WL.call (vs := [.int .i64 x2]) hs FN83 ⟨rfl, trivial⟩ (fun ok hA => cmp_isNaN_int.calls (x1 := x2) hxx7) ?_
  rintro _ w hs
  refine WL.assign (v := .bool x7) rfl ?_
  refine WL.nil ?_
  refine hK6 _ _ ?_
  refine W.seqK fun K8 hK8 => ?_
  refine W.seqK fun K9 hK9 => ?_
  refine W.region ?_
  refine WL.move (v := .bool x5) rfl ?_
  refine WL.nil ?_
  refine hK9 _ _ ?_
  rcases iteE hf with ⟨hc10, hf⟩ | ⟨hc10, hf⟩
  {
  refine W.cond_true (bool_tr rfl hc10) ?_
  refine W.seqK fun K11 hK11 => ?_
  refine W.seqK fun K12 hK12 => ?_
  refine W.region ?_
  refine WL.move (v := .bool x7) rfl ?_
  refine WL.nil ?_
  refine hK12 _ _ ?_
  rcases iteE hf with ⟨hc13, hf⟩ | ⟨hc13, hf⟩
  {
  refine W.cond_true (bool_tr rfl hc13) ?_
  refine W.seqK fun K14 hK14 => ?_
  refine W.region ?_
  refine WL.assign (v := .int .i64 0) rfl ?_
  refine WL.nil ?_
  refine hK14 _ _ ?_
  refine W.ret ?_
  have hr := Option.some.inj hf; subst hr
  exact ⟨_, resOk_one rfl rfl, (), rfl, (hs.mask []).pick []⟩ }
  {
  refine W.cond_false (bool_tr rfl hc13) ?_
  refine W.skip ?_
  refine hK11 _ _ ?_
  refine W.seqK fun K15 hK15 => ?_
  refine W.region ?_
  refine WL.assign (v := .int .i64 (-1)) rfl ?_
  refine WL.nil ?_
  refine hK15 _ _ ?_
  refine W.ret ?_
  have hr := Option.some.inj hf; subst hr
  exact ⟨_, resOk_one rfl rfl, (), rfl, (hs.mask []).pick []⟩ } }
  {
  refine W.cond_false (bool_tr rfl hc10) ?_
  refine W.skip ?_
  refine hK8 _ _ ?_
  refine W.seqK fun K16 hK16 => ?_
  refine W.seqK fun K17 hK17 => ?_
  refine W.region ?_
  refine WL.move (v := .bool x7) rfl ?_
  refine WL.nil ?_
  refine hK17 _ _ ?_
  rcases iteE hf with ⟨hc18, hf⟩ | ⟨hc18, hf⟩
  {
  refine W.cond_true (bool_tr rfl hc18) ?_
  refine W.seqK fun K19 hK19 => ?_
  refine W.region ?_
  refine WL.assign (v := .int .i64 1) rfl ?_
  refine WL.nil ?_
  refine hK19 _ _ ?_
  refine W.ret ?_
  have hr := Option.some.inj hf; subst hr
  exact ⟨_, resOk_one rfl rfl, (), rfl, (hs.mask []).pick []⟩ }
  {
  refine W.cond_false (bool_tr rfl hc18) ?_
  refine W.skip ?_
  refine hK16 _ _ ?_
  refine W.seqK fun K20 hK20 => ?_
  refine W.seqK fun K21 hK21 => ?_
  refine W.region ?_
  refine WL.move (v := .int .i64 x1) rfl ?_
  refine WL.move (v := .int .i64 x2) rfl ?_
  refine WL.bin (v := .bool (decide (x1 < x2))) rfl rfl (ib_lss _ _ _) ?_
  refine WL.nil ?_
  refine hK21 _ _ ?_
  rcases iteE hf with ⟨hc22, hf⟩ | ⟨hc22, hf⟩
  {
  refine W.cond_true (bool_tr rfl hc22) ?_
  refine W.seqK fun K23 hK23 => ?_
  refine W.region ?_
  refine WL.assign (v := .int .i64 (-1)) rfl ?_
  refine WL.nil ?_
  refine hK23 _ _ ?_
  refine W.ret ?_
  have hr := Option.some.inj hf; subst hr
  exact ⟨_, resOk_one rfl rfl, (), rfl, (hs.mask []).pick []⟩ }
  {
  refine W.cond_false (bool_tr rfl hc22) ?_
  refine W.skip ?_
  refine hK20 _ _ ?_
  refine W.seqK fun K24 hK24 => ?_
  refine W.seqK fun K25 hK25 => ?_
  refine W.region ?_
  refine WL.move (v := .int .i64 x1) rfl ?_
  refine WL.move (v := .int .i64 x2) rfl ?_
  refine WL.bin (v := .bool (decide (x2 < x1))) rfl rfl (ib_gtr _ _ _) ?_
  refine WL.nil ?_
  refine hK25 _ _ ?_
  rcases iteE hf with ⟨hc26, hf⟩ | ⟨hc26, hf⟩
  {
  refine W.cond_true (bool_tr rfl hc26) ?_
  refine W.seqK fun K27 hK27 => ?_
  refine W.region ?_
  refine WL.assign (v := .int .i64 1) rfl ?_
  refine WL.nil ?_
  refine hK27 _ _ ?_
  refine W.ret ?_
  have hr := Option.some.inj hf; subst hr
  exact ⟨_, resOk_one rfl rfl, (), rfl, (hs.mask []).pick []⟩ }
  {
  refine W.cond_false (bool_tr rfl hc26) ?_
  refine W.skip ?_
  refine hK24 _ _ ?_
  refine W.seqK fun K28 hK28 => ?_
  refine W.region ?_
  refine WL.assign (v := .int .i64 0) rfl ?_
  refine WL.nil ?_
  refine hK28 _ _ ?_
  refine W.ret ?_
  have hr := Option.some.inj hf; subst hr
  exact ⟨_, resOk_one rfl rfl, (), rfl, (hs.mask []).pick []⟩ } } } }
theorem cmp_Or_int.calls {ok : Nat → Prop} {w0 : World} {x1 : List Int} {a2 : Option Addr} {c3 : Nat} {r : Int} (hf : cmp_Or_int x1 = some r) (i0 : (vl (tSlice (tInt .i64)) x1 (.slice a2 x1.length c3)).holds ok w0) :
    Calls Try.prog 71 #[.slice a2 x1.length c3] w0 fun e w' => ∃ v, e = .returned v ∧ ∃ y : Unit, v = .int .i64 r ∧ St ok (bz w0) w' [] [] := by
  unfold cmp_Or_int at hf
  refine calls_of_W (fn := Try.f71) (N := 18) Try.func71 rfl Try.ntmps71 rfl ?_
  have hs : St ok (bz w0) w0 [vl (tSlice (tInt .i64)) x1 (.slice a2 x1.length c3)] [] := St.init (All.cons i0 All.nil)
  clear i0
  refine W.seqK fun K4 hK4 => ?_
  refine W.region ?_
  refine WL.assign (v := .int .i64 0) rfl ?_
  refine WL.nil ?_
  refine hK4 _ _ ?_
  refine W.seqK fun K5 hK5 => ?_
  refine W.region ?_
  refine WL.assign (v := .int .i64 0) rfl ?_
  refine WL.nil ?_
  refine hK5 _ _ ?_
  refine W.seqK fun K6 hK6 => ?_
  have Jk8 : ∀  (ρ : Env) (w : World), ρ 3 = .int .i64 0 → St ok (bz w0) w [] [] → cmp_Or_int.j1 = some r → K6 ρ w := by
    intro  ρ w h7_3 hs hf
    refine hK6 _ _ ?_
    unfold cmp_Or_int.j1 at hf
    refine W.seqK fun K9 hK9 => ?_
    refine W.region ?_
    refine WL.move (v := .int .i64 0) h7_3 ?_
    refine WL.assign (v := .int .i64 0) rfl ?_
    refine WL.nil ?_
    refine hK9 _ _ ?_
    refine W.ret ?_
    have hr := Option.some.inj hf; subst hr
    exact ⟨_, resOk_one rfl rfl, (), rfl, (hs.mask []).pick []⟩
  refine W.seqK fun K10 hK10 => ?_
  refine W.region ?_
  refine WL.move (v := .slice a2 x1.length c3) rfl ?_
  refine WL.len (v := .slice a2 x1.length c3) rfl (len_slice UN35) ?_
  refine WL.move (v := .int .i64 0) rfl ?_
  refine WL.nil ?_
  refine hK10 _ _ ?_
  refine W.block ?_
  obtain ⟨bs13, hbs13, hfs13⟩ := bindE hf
  refine W.loop hbs13 (fun s ρ w => match s with | x12 => ρ 3 = .int .i64 0 ∧ ρ 6 = .slice a2 x1.length c3 ∧ ρ 7 = .int .i64 (x1.length : Int) ∧ ρ 8 = .int .i64 x12 ∧ St ok (bz w0) w [vl (tSlice (tInt .i64)) x1 (.slice a2 x1.length c3)] []) ⟨rfl, rfl, rfl, rfl, (hs.mask []).pick [0]⟩ ?_
  intro x12 ρ w os13 hI hf hbbs13
  obtain ⟨h11_3, h11_6, h11_7, h11_8, hs⟩ := hI
  unfold cmp_Or_int.l1 at hf
  refine W.seqK fun K14 hK14 => ?_
  refine W.region ?_
  refine WL.bin (v := .bool (decide (x12 < (x1.length : Int)))) h11_8 h11_7 (ib_lss _ _ _) ?_
  refine WL.nil ?_
  refine hK14 _ _ ?_
  refine W.seqK fun K15 hK15 => ?_
  rcases iteE hf with ⟨hc16, hf⟩ | ⟨hc16, hf⟩
  {
  refine W.cond_true (bool_tr rfl hc16) ?_
  refine W.skip ?_
  refine hK15 _ _ ?_
  refine W.seqK fun K17 hK17 => ?_
  refine W.block ?_
  refine W.seqK fun K18 hK18 => ?_
  refine W.region ?_
  obtain ⟨x19, hxx19, hf⟩ := bindE hf
  refine WL.indexAddr hs 0 rfl UN35 TI3 h11_6 h11_8 hxx19 (fun ad20 hs => ?_)
  refine WL.loadP hs 0 rfl TI3 (.inr rfl) rfl (fun v21 hs => ?_)
  obtain rfl := hs.int 0 rfl
  refine WL.assign (v := .int .i64 x19) rfl ?_
  refine WL.nil ?_
  refine hK18 _ _ ?_
  refine W.seqK fun K22 hK22 => ?_
  refine W.region ?_
  refine WL.move (v := .int .i64 x19) rfl ?_
  refine WL.move (v := .int .i64 0) h11_3 ?_
  refine WL.bin (v := .bool (x19 != 0)) rfl rfl (ib_neq _ _ _) ?_
  refine WL.nil ?_
  refine hK22 _ _ ?_
  rcases iteE hf with ⟨hc23, hf⟩ | ⟨hc23, hf⟩
  {
  refine W.cond_true (bool_tr rfl hc23) ?_
  refine W.seqK fun K24 hK24 => ?_
  refine W.region ?_
  refine WL.move (v := .int .i64 x19) rfl ?_
  refine WL.assign (v := .int .i64 x19) rfl ?_
  refine WL.nil ?_
  refine hK24 _ _ ?_
  refine W.ret ?_
  have hr := Option.some.inj hf; subst hr
  have hr := hbbs13 _ rfl; subst hr
  have hf := hfs13
  have hr := Option.some.inj hf; subst hr
  exact ⟨_, resOk_one rfl rfl, (), rfl, (hs.mask []).pick []⟩ }
  {
  refine W.cond_false (bool_tr rfl hc23) ?_
  refine W.skip ?_
  refine hK17 _ _ ?_
  refine W.region ?_
  obtain ⟨x25, ex25, hf⟩ := letE hf
  refine WL.bin (v := .int .i64 x25) h11_8 rfl (ib_as ex25 (ib_add _ _ _)) ?_
  refine WL.move (v := .int .i64 x25) rfl ?_
  refine WL.nil ?_
  exact ⟨_, (Option.some.inj hf).symm, h11_3, h11_6, h11_7, rfl, (hs.mask []).pick [2]⟩ } }
  {
  refine W.cond_false (bool_tr rfl hc16) ?_
  refine W.exit ?_
  have hr := Option.some.inj hf; subst hr
  have hr := hbbs13 _ rfl; subst hr
  have hf := hfs13
  exact Jk8  _ _ h11_3 ((hs.mask []).pick []) hf }
theorem fold_newer.calls {ok : Nat → Prop} {w0 : World} {x1 : api_Update} {x5 : fold_Register} {v2 : Value} {v6 : Value} {r : Bool} (hf : fold_newer x1 x5 = some r) (i0 : (vl t_api_Update x1 v2).holds ok w0) (i1 : (vl t_fold_Register x5 v6).holds ok w0) :
    Calls Try.prog 57 #[v2, v6] w0 fun e w' => ∃ v, e = .returned v ∧ ∃ y : Unit, v = .bool r ∧ St ok (bz w0) w' [] [] := by
  unfold fold_newer at hf
  refine calls_of_W (fn := Try.f57) (N := 28) Try.func57 rfl Try.ntmps57 rfl ?_
  have hs : St ok (bz w0) w0 [vl t_api_Update x1 v2, vl t_fold_Register x5 v6] [] := St.init (All.cons i0 (All.cons i1 All.nil))
  clear i0 i1
  obtain ⟨cs3, hl4, rfl⟩ := hs.aggv (n := 4) 0 rfl rfl rfl
  obtain ⟨cs7, hl8, rfl⟩ := hs.aggv (n := 6) 1 rfl rfl rfl
  refine W.seqK fun K9 hK9 => ?_
  refine W.region ?_
  refine WL.box (vs := cs3) hs rfl rfl (fun g10 w hs => ?_)
  refine WL.box (vs := cs7) hs rfl rfl (fun g11 w hs => ?_)
  refine WL.assign (v := .bool false) rfl ?_
  refine WL.nil ?_
  refine hK9 _ _ ?_
  refine W.seqK fun K12 hK12 => ?_
  have Jk15 : ∀ (x14 : Bool) (ρ : Env) (w : World), ρ 4 = .bool x14 → St ok (bz w0) w [] [] → fold_newer.j1 x14 = some r → K12 ρ w := by
    intro x14 ρ w h13_4 hs hf
    refine hK12 _ _ ?_
    unfold fold_newer.j1 at hf
    refine W.ret ?_
    have hr := Option.some.inj hf; subst hr
    exact ⟨_, resOk_one rfl h13_4, (), rfl, (hs.mask []).pick []⟩
  rcases iteE hf with ⟨hc17, hf⟩ | ⟨hc17, hf⟩
  {
  refine W.any (by kernel_rfl) 23 1 [true, true, true, true, true, true, true, true, true, true, true, true, true, true, true, true, true, true, true, true, true, true, true, false] rfl rfl (poAt [pv (.pointer (some ⟨g11, 0, none⟩)), pv (.bool x5.Set), pv (.bool (!x5.Set)), pv (.bool (!x5.Set)), pv (undef), pv (undef), pv (undef), pv (undef), pv (undef), pv (undef), pv (undef), pv (undef), pv (undef), pv (undef), pv (undef), pv (undef), pv (undef), pv (undef), pv (undef), pv (undef), pv (undef), pv (undef), pv (.bool true)]) (Λ := [blk g11 54 cs7, blk g10 41 cs3]) hs (by kernel_rfl) (by kernel_rfl) (by kernel_rfl) ⟨⟨⟨⟨⟨⟨⟨⟨⟨⟨⟨⟨⟨⟨⟨⟨⟨⟨⟨⟨⟨⟨⟨trivial, ?_⟩, ?_⟩, ?_⟩, ?_⟩, ?_⟩, ?_⟩, ?_⟩, ?_⟩, ?_⟩, ?_⟩, ?_⟩, ?_⟩, ?_⟩, ?_⟩, ?_⟩, ?_⟩, ?_⟩, ?_⟩, ?_⟩, ?_⟩, ?_⟩, ?_⟩, ?_⟩ ?_
  {
  intro ρ w Γx Λx hs hu hp
  refine WL.fieldAddr (m := 0) (hu 3 rfl) FA54_0 rfl ?_
  exact WL.nil ⟨rfl, _, rfl, rfl, hs.cutG 0 0⟩ }
  {
  intro ρ w Γx Λx hs hu hp
  have e18 : ρ 5 = .pointer (some ⟨g11, 0, none⟩) := (hp 0 rfl).1
  refine WL.loadF (z := x5.Set) F_fold_Register_Set hs (Λx.length + 0) (getApp rfl) (Γx.length + 1) (getApp rfl) rfl TI4 (.inr rfl) e18 rfl (fun v16 hs => ?_)
  obtain rfl := hs.bool 0 rfl
  exact WL.nil ⟨rfl, _, rfl, rfl, hs.cutG 0 1⟩ }
  {
  intro ρ w Γx Λx hs hu hp
  have e19 : ρ 6 = .bool x5.Set := (hp 1 rfl).1
  refine WL.not e19 ?_
  exact WL.nil ⟨rfl, _, rfl, rfl, hs.cutG 0 0⟩ }
  {
  intro ρ w Γx Λx hs hu hp
  have e20 : ρ 7 = .bool (!x5.Set) := (hp 2 rfl).1
  refine WL.move (v := .bool (!x5.Set)) e20 ?_
  exact WL.nil ⟨rfl, _, rfl, rfl, hs.cutG 0 0⟩ }
  {
  intro ρ w Γx Λx hs hu hp
  have e21 : ρ 8 = .bool (!x5.Set) := (hp 3 rfl).1
  refine WL.pass ((wanted_of rfl rfl (bool_tr e21 hc17)).trans rfl) rfl ?_
  exact WL.nil ⟨rfl, _, rfl, rfl, hs.cutG 0 0⟩ }
  {
  intro ρ w Γx Λx hs hu hp
  have e22 : ρ 9 = undef := (hp 4 rfl).1
  have e23 : ρ 8 = .bool (!x5.Set) := (hp 3 rfl).1
  refine WL.pass ((wanted_of rfl rfl (bool_tr e23 hc17)).trans rfl) rfl ?_
  exact WL.nil ⟨rfl, _, rfl, rfl, hs.cutG 0 0⟩ }
  {
  intro ρ w Γx Λx hs hu hp
  have e24 : ρ 8 = .bool (!x5.Set) := (hp 3 rfl).1
  refine WL.pass ((wanted_of rfl rfl (bool_tr e24 hc17)).trans rfl) rfl ?_
  exact WL.nil ⟨rfl, _, rfl, rfl, hs.cutG 0 0⟩ }
  {
  intro ρ w Γx Λx hs hu hp
  have e25 : ρ 11 = undef := (hp 6 rfl).1
  have e26 : ρ 8 = .bool (!x5.Set) := (hp 3 rfl).1
  refine WL.pass ((wanted_of rfl rfl (bool_tr e26 hc17)).trans rfl) rfl ?_
  exact WL.nil ⟨rfl, _, rfl, rfl, hs.cutG 0 0⟩ }
  {
  intro ρ w Γx Λx hs hu hp
  have e27 : ρ 10 = undef := (hp 5 rfl).1
  have e28 : ρ 12 = undef := (hp 7 rfl).1
  have e29 : ρ 8 = .bool (!x5.Set) := (hp 3 rfl).1
  refine WL.pass ((wanted_of rfl rfl (bool_tr e29 hc17)).trans rfl) rfl ?_
  exact WL.nil ⟨rfl, _, rfl, rfl, hs.cutG 0 0⟩ }
  {
  intro ρ w Γx Λx hs hu hp
  have e30 : ρ 8 = .bool (!x5.Set) := (hp 3 rfl).1
  refine WL.pass ((wanted_of rfl rfl (bool_tr e30 hc17)).trans rfl) rfl ?_
  exact WL.nil ⟨rfl, _, rfl, rfl, hs.cutG 0 0⟩ }
  {
  intro ρ w Γx Λx hs hu hp
  have e31 : ρ 14 = undef := (hp 9 rfl).1
  have e32 : ρ 8 = .bool (!x5.Set) := (hp 3 rfl).1
  refine WL.pass ((wanted_of rfl rfl (bool_tr e32 hc17)).trans rfl) rfl ?_
  exact WL.nil ⟨rfl, _, rfl, rfl, hs.cutG 0 0⟩ }
  {
  intro ρ w Γx Λx hs hu hp
  have e33 : ρ 8 = .bool (!x5.Set) := (hp 3 rfl).1
  refine WL.pass ((wanted_of rfl rfl (bool_tr e33 hc17)).trans rfl) rfl ?_
  exact WL.nil ⟨rfl, _, rfl, rfl, hs.cutG 0 0⟩ }
  {
  intro ρ w Γx Λx hs hu hp
  have e34 : ρ 16 = undef := (hp 11 rfl).1
  have e35 : ρ 8 = .bool (!x5.Set) := (hp 3 rfl).1
  refine WL.pass ((wanted_of rfl rfl (bool_tr e35 hc17)).trans rfl) rfl ?_
  exact WL.nil ⟨rfl, _, rfl, rfl, hs.cutG 0 0⟩ }
  {
  intro ρ w Γx Λx hs hu hp
  have e36 : ρ 15 = undef := (hp 10 rfl).1
  have e37 : ρ 17 = undef := (hp 12 rfl).1
  have e38 : ρ 8 = .bool (!x5.Set) := (hp 3 rfl).1
  refine WL.pass ((wanted_of rfl rfl (bool_tr e38 hc17)).trans rfl) rfl ?_
  exact WL.nil ⟨rfl, _, rfl, rfl, hs.cutG 0 0⟩ }
  {
  intro ρ w Γx Λx hs hu hp
  have e39 : ρ 8 = .bool (!x5.Set) := (hp 3 rfl).1
  refine WL.pass ((wanted_of rfl rfl (bool_tr e39 hc17)).trans rfl) rfl ?_
  exact WL.nil ⟨rfl, _, rfl, rfl, hs.cutG 0 0⟩ }
  {
  intro ρ w Γx Λx hs hu hp
  have e40 : ρ 19 = undef := (hp 14 rfl).1
  have e41 : ρ 8 = .bool (!x5.Set) := (hp 3 rfl).1
  refine WL.pass ((wanted_of rfl rfl (bool_tr e41 hc17)).trans rfl) rfl ?_
  exact WL.nil ⟨rfl, _, rfl, rfl, hs.cutG 0 0⟩ }
  {
  intro ρ w Γx Λx hs hu hp
  have e42 : ρ 8 = .bool (!x5.Set) := (hp 3 rfl).1
  refine WL.pass ((wanted_of rfl rfl (bool_tr e42 hc17)).trans rfl) rfl ?_
  exact WL.nil ⟨rfl, _, rfl, rfl, hs.cutG 0 0⟩ }
  {
  intro ρ w Γx Λx hs hu hp
  have e43 : ρ 21 = undef := (hp 16 rfl).1
  have e44 : ρ 8 = .bool (!x5.Set) := (hp 3 rfl).1
  refine WL.pass ((wanted_of rfl rfl (bool_tr e44 hc17)).trans rfl) rfl ?_
  exact WL.nil ⟨rfl, _, rfl, rfl, hs.cutG 0 0⟩ }
  {
  intro ρ w Γx Λx hs hu hp
  have e45 : ρ 20 = undef := (hp 15 rfl).1
  have e46 : ρ 22 = undef := (hp 17 rfl).1
  have e47 : ρ 8 = .bool (!x5.Set) := (hp 3 rfl).1
  refine WL.pass ((wanted_of rfl rfl (bool_tr e47 hc17)).trans rfl) rfl ?_
  exact WL.nil ⟨rfl, _, rfl, rfl, hs.cutG 0 0⟩ }
  {
  intro ρ w Γx Λx hs hu hp
  have e48 : ρ 13 = undef := (hp 8 rfl).1
  have e49 : ρ 18 = undef := (hp 13 rfl).1
  have e50 : ρ 23 = undef := (hp 18 rfl).1
  have e51 : ρ 8 = .bool (!x5.Set) := (hp 3 rfl).1
  refine WL.pass ((wanted_of rfl rfl (bool_tr e51 hc17)).trans rfl) rfl ?_
  exact WL.nil ⟨rfl, _, rfl, rfl, hs.cutG 0 0⟩ }
  {
  intro ρ w Γx Λx hs hu hp
  have e52 : ρ 24 = undef := (hp 19 rfl).1
  have e53 : ρ 8 = .bool (!x5.Set) := (hp 3 rfl).1
  refine WL.pass ((wanted_of rfl rfl (bool_tr e53 hc17)).trans rfl) rfl ?_
  exact WL.nil ⟨rfl, _, rfl, rfl, hs.cutG 0 0⟩ }
  {
  intro ρ w Γx Λx hs hu hp
  have e54 : ρ 25 = undef := (hp 20 rfl).1
  have e55 : ρ 8 = .bool (!x5.Set) := (hp 3 rfl).1
  refine WL.pass ((wanted_of rfl rfl (bool_tr e55 hc17)).trans rfl) rfl ?_
  exact WL.nil ⟨rfl, _, rfl, rfl, hs.cutG 0 0⟩ }
  {
  intro ρ w Γx Λx hs hu hp
  have e56 : ρ 8 = .bool (!x5.Set) := (hp 3 rfl).1
  have e57 : ρ 26 = undef := (hp 21 rfl).1
  refine WL.pickT (v := .bool true) (bool_tr e56 hc17) rfl ?_
  exact WL.nil ⟨rfl, _, rfl, rfl, hs.cutG 0 0⟩ }
  {
  intro ρ w hs hu58 hp
  obtain ⟨⟨⟨⟨⟨⟨⟨⟨⟨⟨⟨⟨⟨⟨⟨⟨⟨⟨⟨⟨⟨⟨⟨_, hp0_⟩, hp1_⟩, hp2_⟩, hp3_⟩, hp4_⟩, hp5_⟩, hp6_⟩, hp7_⟩, hp8_⟩, hp9_⟩, hp10_⟩, hp11_⟩, hp12_⟩, hp13_⟩, hp14_⟩, hp15_⟩, hp16_⟩, hp17_⟩, hp18_⟩, hp19_⟩, hp20_⟩, hp21_⟩, hp22_⟩ := hp
  have hs : St ok (bz w0) w [vl t_api_Update x1 (.agg cs3.toArray), vl t_fold_Register x5 (.agg cs7.toArray)] [blk g11 54 cs7, blk g10 41 cs3] := hs
  have e59 : ρ 27 = .bool true := hp22_
  have e60 : ρ 26 = undef := hp21_
  have e61 : ρ 25 = undef := hp20_
  have e62 : ρ 24 = undef := hp19_
  have e63 : ρ 23 = undef := hp18_
  have e64 : ρ 22 = undef := hp17_
  have e65 : ρ 21 = undef := hp16_
  have e66 : ρ 20 = undef := hp15_
  have e67 : ρ 19 = undef := hp14_
  have e68 : ρ 18 = undef := hp13_
  have e69 : ρ 17 = undef := hp12_
  have e70 : ρ 16 = undef := hp11_
  have e71 : ρ 15 = undef := hp10_
  have e72 : ρ 14 = undef := hp9_
  have e73 : ρ 13 = undef := hp8_
  have e74 : ρ 12 = undef := hp7_
  have e75 : ρ 11 = undef := hp6_
  have e76 : ρ 10 = undef := hp5_
  have e77 : ρ 9 = undef := hp4_
  have e78 : ρ 8 = .bool (!x5.Set) := hp3_
  have e79 : ρ 7 = .bool (!x5.Set) := hp2_
  have e80 : ρ 6 = .bool x5.Set := hp1_
  have e81 : ρ 5 = .pointer (some ⟨g11, 0, none⟩) := hp0_
  refine WA.step [23] (by kernel_rfl) (by simp) ⟨?_, trivial⟩
  refine WL.assign (v := .bool true) e59 ?_
  refine WL.nil ⟨rfl, _, rfl, ?_⟩
  refine WA.done (by kernel_rfl) ?_
  exact Jk15 true _ _ rfl ((hs.mask []).pick []) hf } }
  {
  obtain ⟨x84, hxx84, hf⟩ := bindE hf
  obtain ⟨x87, hxx87, hf⟩ := bindE hf
  obtain ⟨x90, hxx90, hf⟩ := bindE hf
  obtain ⟨x93, hxx93, hf⟩ := bindE hf
  refine W.any (by kernel_rfl) 23 1 [true, true, true, true, true, true, true, true, true, true, true, true, true, true, true, true, true, true, true, true, true, true, true, false] rfl rfl (poAt [pv (.pointer (some ⟨g11, 0, none⟩)), pv (.bool x5.Set), pv (.bool (!x5.Set)), pv (.bool (!x5.Set)), pv (.pointer (some ⟨g10, 2, none⟩)), pv (.int .i64 x1.Tag), pv (.pointer (some ⟨g11, 1, none⟩)), pv (.int .i64 x5.Tag), pv (.int .i64 x84), pv (.pointer (some ⟨g10, 0, none⟩)), pv (.int .i64 x1.Client), pv (.pointer (some ⟨g11, 2, none⟩)), pv (.int .i64 x5.Client), pv (.int .i64 x87), pv (.pointer (some ⟨g10, 1, none⟩)), pv (.int .i64 x1.Seq), pv (.pointer (some ⟨g11, 3, none⟩)), pv (.int .i64 x5.Seq), pv (.int .i64 x90), pq (fun y : (Option Addr × Nat) => .slice y.1 ([x84, x87, x90]).length y.2) (fun v => [vl (tSlice (tInt .i64)) [x84, x87, x90] v]) (fun v => []), pv (.int .i64 x93), pv (.bool (decide (0 < x93))), pv (.bool (decide (0 < x93)))]) (Λ := [blk g11 54 cs7, blk g10 41 cs3]) hs (by kernel_rfl) (by kernel_rfl) (by kernel_rfl) ⟨⟨⟨⟨⟨⟨⟨⟨⟨⟨⟨⟨⟨⟨⟨⟨⟨⟨⟨⟨⟨⟨⟨trivial, ?_⟩, ?_⟩, ?_⟩, ?_⟩, ?_⟩, ?_⟩, ?_⟩, ?_⟩, ?_⟩, ?_⟩, ?_⟩, ?_⟩, ?_⟩, ?_⟩, ?_⟩, ?_⟩, ?_⟩, ?_⟩, ?_⟩, ?_⟩, ?_⟩, ?_⟩, ?_⟩ ?_
  {
  intro ρ w Γx Λx hs hu hp
  refine WL.fieldAddr (m := 0) (hu 3 rfl) FA54_0 rfl ?_
  exact WL.nil ⟨rfl, _, rfl, rfl, hs.cutG 0 0⟩ }
  {
  intro ρ w Γx Λx hs hu hp
  have e94 : ρ 5 = .pointer (some ⟨g11, 0, none⟩) := (hp 0 rfl).1
  refine WL.loadF (z := x5.Set) F_fold_Register_Set hs (Λx.length + 0) (getApp rfl) (Γx.length + 1) (getApp rfl) rfl TI4 (.inr rfl) e94 rfl (fun v16 hs => ?_)
  obtain rfl := hs.bool 0 rfl
  exact WL.nil ⟨rfl, _, rfl, rfl, hs.cutG 0 1⟩ }
  {
  intro ρ w Γx Λx hs hu hp
  have e95 : ρ 6 = .bool x5.Set := (hp 1 rfl).1
  refine WL.not e95 ?_
  exact WL.nil ⟨rfl, _, rfl, rfl, hs.cutG 0 0⟩ }
  {
  intro ρ w Γx Λx hs hu hp
  have e96 : ρ 7 = .bool (!x5.Set) := (hp 2 rfl).1
  refine WL.move (v := .bool (!x5.Set)) e96 ?_
  exact WL.nil ⟨rfl, _, rfl, rfl, hs.cutG 0 0⟩ }
  {
  intro ρ w Γx Λx hs hu hp
  have e97 : ρ 8 = .bool (!x5.Set) := (hp 3 rfl).1
  refine WL.fieldAddr (m := 2) (hu 2 rfl) FA41_2 rfl ?_ (hg := (wanted_of rfl rfl (bool_tr e97 hc17)).trans rfl)
  exact WL.nil ⟨rfl, _, rfl, rfl, hs.cutG 0 0⟩ }
  {
  intro ρ w Γx Λx hs hu hp
  have e98 : ρ 9 = .pointer (some ⟨g10, 2, none⟩) := (hp 4 rfl).1
  have e99 : ρ 8 = .bool (!x5.Set) := (hp 3 rfl).1
  refine WL.loadF (z := x1.Tag) F_api_Update_Tag hs (Λx.length + 1) (getApp rfl) (Γx.length + 0) (getApp rfl) rfl TI3 (.inr rfl) e98 rfl (fun v82 hs => ?_) (hg := (wanted_of rfl rfl (bool_tr e99 hc17)).trans rfl)
  obtain rfl := hs.int 0 rfl
  exact WL.nil ⟨rfl, _, rfl, rfl, hs.cutG 0 1⟩ }
  {
  intro ρ w Γx Λx hs hu hp
  have e100 : ρ 8 = .bool (!x5.Set) := (hp 3 rfl).1
  refine WL.fieldAddr (m := 1) (hu 3 rfl) FA54_1 rfl ?_ (hg := (wanted_of rfl rfl (bool_tr e100 hc17)).trans rfl)
  exact WL.nil ⟨rfl, _, rfl, rfl, hs.cutG 0 0⟩ }
  {
  intro ρ w Γx Λx hs hu hp
  have e101 : ρ 11 = .pointer (some ⟨g11, 1, none⟩) := (hp 6 rfl).1
  have e102 : ρ 8 = .bool (!x5.Set) := (hp 3 rfl).1
  refine WL.loadF (z := x5.Tag) F_fold_Register_Tag hs (Λx.length + 0) (getApp rfl) (Γx.length + 1) (getApp rfl) rfl TI3 (.inr rfl) e101 rfl (fun v83 hs => ?_) (hg := (wanted_of rfl rfl (bool_tr e102 hc17)).trans rfl)
  obtain rfl := hs.int 0 rfl
  exact WL.nil ⟨rfl, _, rfl, rfl, hs.cutG 0 1⟩ }
  {
  intro ρ w Γx Λx hs hu hp
  have e103 : ρ 10 = .int .i64 x1.Tag := (hp 5 rfl).1
  have e104 : ρ 12 = .int .i64 x5.Tag := (hp 7 rfl).1
  have e105 : ρ 8 = .bool (!x5.Set) := (hp 3 rfl).1
  refine WL.call (vs := [.int .i64 x1.Tag, .int .i64 x5.Tag]) hs FN72 ⟨e103, ⟨e104, trivial⟩⟩ (fun ok hA => cmp_Compare_int.calls (x1 := x1.Tag) (x2 := x5.Tag) hxx84) ?_ (hg := (wanted_of rfl rfl (bool_tr e105 hc17)).trans rfl)
  rintro _ w hs
  exact WL.nil ⟨rfl, _, rfl, rfl, hs.cutG 0 0⟩ }
  {
  intro ρ w Γx Λx hs hu hp
  have e106 : ρ 8 = .bool (!x5.Set) := (hp 3 rfl).1
  refine WL.fieldAddr (m := 0) (hu 2 rfl) FA41_0 rfl ?_ (hg := (wanted_of rfl rfl (bool_tr e106 hc17)).trans rfl)
  exact WL.nil ⟨rfl, _, rfl, rfl, hs.cutG 0 0⟩ }
  {
  intro ρ w Γx Λx hs hu hp
  have e107 : ρ 14 = .pointer (some ⟨g10, 0, none⟩) := (hp 9 rfl).1
  have e108 : ρ 8 = .bool (!x5.Set) := (hp 3 rfl).1
  refine WL.loadF (z := x1.Client) F_api_Update_Client hs (Λx.length + 1) (getApp rfl) (Γx.length + 0) (getApp rfl) rfl TI3 (.inr rfl) e107 rfl (fun v85 hs => ?_) (hg := (wanted_of rfl rfl (bool_tr e108 hc17)).trans rfl)
  obtain rfl := hs.int 0 rfl
  exact WL.nil ⟨rfl, _, rfl, rfl, hs.cutG 0 1⟩ }
  {
  intro ρ w Γx Λx hs hu hp
  have e109 : ρ 8 = .bool (!x5.Set) := (hp 3 rfl).1
  refine WL.fieldAddr (m := 2) (hu 3 rfl) FA54_2 rfl ?_ (hg := (wanted_of rfl rfl (bool_tr e109 hc17)).trans rfl)
  exact WL.nil ⟨rfl, _, rfl, rfl, hs.cutG 0 0⟩ }
  {
  intro ρ w Γx Λx hs hu hp
  have e110 : ρ 16 = .pointer (some ⟨g11, 2, none⟩) := (hp 11 rfl).1
  have e111 : ρ 8 = .bool (!x5.Set) := (hp 3 rfl).1
  refine WL.loadF (z := x5.Client) F_fold_Register_Client hs (Λx.length + 0) (getApp rfl) (Γx.length + 1) (getApp rfl) rfl TI3 (.inr rfl) e110 rfl (fun v86 hs => ?_) (hg := (wanted_of rfl rfl (bool_tr e111 hc17)).trans rfl)
  obtain rfl := hs.int 0 rfl
  exact WL.nil ⟨rfl, _, rfl, rfl, hs.cutG 0 1⟩ }
  {
  intro ρ w Γx Λx hs hu hp
  have e112 : ρ 15 = .int .i64 x1.Client := (hp 10 rfl).1
  have e113 : ρ 17 = .int .i64 x5.Client := (hp 12 rfl).1
  have e114 : ρ 8 = .bool (!x5.Set) := (hp 3 rfl).1
  refine WL.call (vs := [.int .i64 x1.Client, .int .i64 x5.Client]) hs FN72 ⟨e112, ⟨e113, trivial⟩⟩ (fun ok hA => cmp_Compare_int.calls (x1 := x1.Client) (x2 := x5.Client) hxx87) ?_ (hg := (wanted_of rfl rfl (bool_tr e114 hc17)).trans rfl)
  rintro _ w hs
  exact WL.nil ⟨rfl, _, rfl, rfl, hs.cutG 0 0⟩ }
  {
  intro ρ w Γx Λx hs hu hp
  have e115 : ρ 8 = .bool (!x5.Set) := (hp 3 rfl).1
  refine WL.fieldAddr (m := 1) (hu 2 rfl) FA41_1 rfl ?_ (hg := (wanted_of rfl rfl (bool_tr e115 hc17)).trans rfl)
  exact WL.nil ⟨rfl, _, rfl, rfl, hs.cutG 0 0⟩ }
  {
  intro ρ w Γx Λx hs hu hp
  have e116 : ρ 19 = .pointer (some ⟨g10, 1, none⟩) := (hp 14 rfl).1
  have e117 : ρ 8 = .bool (!x5.Set) := (hp 3 rfl).1
  refine WL.loadF (z := x1.Seq) F_api_Update_Seq hs (Λx.length + 1) (getApp rfl) (Γx.length + 0) (getApp rfl) rfl TI3 (.inr rfl) e116 rfl (fun v88 hs => ?_) (hg := (wanted_of rfl rfl (bool_tr e117 hc17)).trans rfl)
  obtain rfl := hs.int 0 rfl
  exact WL.nil ⟨rfl, _, rfl, rfl, hs.cutG 0 1⟩ }
  {
  intro ρ w Γx Λx hs hu hp
  have e118 : ρ 8 = .bool (!x5.Set) := (hp 3 rfl).1
  refine WL.fieldAddr (m := 3) (hu 3 rfl) FA54_3 rfl ?_ (hg := (wanted_of rfl rfl (bool_tr e118 hc17)).trans rfl)
  exact WL.nil ⟨rfl, _, rfl, rfl, hs.cutG 0 0⟩ }
  {
  intro ρ w Γx Λx hs hu hp
  have e119 : ρ 21 = .pointer (some ⟨g11, 3, none⟩) := (hp 16 rfl).1
  have e120 : ρ 8 = .bool (!x5.Set) := (hp 3 rfl).1
  refine WL.loadF (z := x5.Seq) F_fold_Register_Seq hs (Λx.length + 0) (getApp rfl) (Γx.length + 1) (getApp rfl) rfl TI3 (.inr rfl) e119 rfl (fun v89 hs => ?_) (hg := (wanted_of rfl rfl (bool_tr e120 hc17)).trans rfl)
  obtain rfl := hs.int 0 rfl
  exact WL.nil ⟨rfl, _, rfl, rfl, hs.cutG 0 1⟩ }
  {
  intro ρ w Γx Λx hs hu hp
  have e121 : ρ 20 = .int .i64 x1.Seq := (hp 15 rfl).1
  have e122 : ρ 22 = .int .i64 x5.Seq := (hp 17 rfl).1
  have e123 : ρ 8 = .bool (!x5.Set) := (hp 3 rfl).1
  refine WL.call (vs := [.int .i64 x1.Seq, .int .i64 x5.Seq]) hs FN72 ⟨e121, ⟨e122, trivial⟩⟩ (fun ok hA => cmp_Compare_int.calls (x1 := x1.Seq) (x2 := x5.Seq) hxx90) ?_ (hg := (wanted_of rfl rfl (bool_tr e123 hc17)).trans rfl)
  rintro _ w hs
  exact WL.nil ⟨rfl, _, rfl, rfl, hs.cutG 0 0⟩ }
  {
  intro ρ w Γx Λx hs hu hp
  have e124 : ρ 13 = .int .i64 x84 := (hp 8 rfl).1
  have e125 : ρ 18 = .int .i64 x87 := (hp 13 rfl).1
  have e126 : ρ 23 = .int .i64 x90 := (hp 18 rfl).1
  have e127 : ρ 8 = .bool (!x5.Set) := (hp 3 rfl).1
  refine WL.buildSliceB (ys := [x84, x87, x90]) (n := 3) (vs := [(0, .int .i64 x84), (1, .int .i64 x87), (2, .int .i64 x90)]) (cs := [.int .i64 x84, .int .i64 x87, .int .i64 x90]) hs ⟨⟨rfl, e124⟩, ⟨⟨rfl, e125⟩, ⟨⟨rfl, e126⟩, trivial⟩⟩⟩ (bls PS35 (by decide) rfl) (fun ok hA => (Cells.app (Cells.one (T := tInt .i64) rfl) (Cells.app (Cells.one (T := tInt .i64) rfl) (Cells.one (T := tInt .i64) rfl)))) rfl (by decide) (fun a92 w hBl hs => ?_) (hg := (wanted_of rfl rfl (bool_tr e127 hc17)).trans rfl)
  have hs := hs.add (it := vl (tSlice (tInt .i64)) [x84, x87, x90] (.slice a92 ([x84, x87, x90]).length 3)) fun ok hA => hA.get 0 rfl
  exact WL.nil ⟨rfl, _, rfl, ⟨(a92, 3), rfl⟩, hs.cutG 1 1⟩ }
  {
  intro ρ w Γx Λx hs hu hp
  obtain ⟨⟨⟨a128, c129⟩, e130r⟩, hm131⟩ := hp 19 rfl
  have e130 : ρ 24 = .slice a128 ([x84, x87, x90]).length c129 := e130r
  rw [e130r] at hm131
  have hs := hs.memo1 (it := vl (tSlice (tInt .i64)) [x84, x87, x90] (.slice a128 ([x84, x87, x90]).length c129)) (List.mem_append.2 (.inl (hm131 _ (List.mem_of_getElem? (i := 0) rfl))))
  have e132 : ρ 8 = .bool (!x5.Set) := (hp 3 rfl).1
  refine WL.call (vs := [.slice a128 ([x84, x87, x90]).length c129]) hs FN71 ⟨e130, trivial⟩ (fun ok hA => cmp_Or_int.calls (x1 := [x84, x87, x90]) hxx93 (hA.get 0 rfl)) ?_ (hg := (wanted_of rfl rfl (bool_tr e132 hc17)).trans rfl)
  rintro _ w hs
  exact WL.nil ⟨rfl, _, rfl, rfl, hs.cutG 0 1⟩ }
  {
  intro ρ w Γx Λx hs hu hp
  have e133 : ρ 25 = .int .i64 x93 := (hp 20 rfl).1
  have e134 : ρ 8 = .bool (!x5.Set) := (hp 3 rfl).1
  refine WL.bin (v := .bool (decide (0 < x93))) e133 rfl (ib_gtr _ _ _) ?_ (hg := (wanted_of rfl rfl (bool_tr e134 hc17)).trans rfl)
  exact WL.nil ⟨rfl, _, rfl, rfl, hs.cutG 0 0⟩ }
  {
  intro ρ w Γx Λx hs hu hp
  have e135 : ρ 8 = .bool (!x5.Set) := (hp 3 rfl).1
  have e136 : ρ 26 = .bool (decide (0 < x93)) := (hp 21 rfl).1
  refine WL.pickF (v := .bool (decide (0 < x93))) (bool_tr e135 hc17) e136 ?_
  exact WL.nil ⟨rfl, _, rfl, rfl, hs.cutG 0 0⟩ }
  {
  intro ρ w hs hu137 hp
  obtain ⟨⟨⟨⟨⟨⟨⟨⟨⟨⟨⟨⟨⟨⟨⟨⟨⟨⟨⟨⟨⟨⟨⟨_, hp0_⟩, hp1_⟩, hp2_⟩, hp3_⟩, hp4_⟩, hp5_⟩, hp6_⟩, hp7_⟩, hp8_⟩, hp9_⟩, hp10_⟩, hp11_⟩, hp12_⟩, hp13_⟩, hp14_⟩, hp15_⟩, hp16_⟩, hp17_⟩, hp18_⟩, hp19_⟩, hp20_⟩, hp21_⟩, hp22_⟩ := hp
  have hs : St ok (bz w0) w [vl (tSlice (tInt .i64)) [x84, x87, x90] (ρ 24), vl t_api_Update x1 (.agg cs3.toArray), vl t_fold_Register x5 (.agg cs7.toArray)] [blk g11 54 cs7, blk g10 41 cs3] := hs
  have e138 : ρ 27 = .bool (decide (0 < x93)) := hp22_
  have e139 : ρ 26 = .bool (decide (0 < x93)) := hp21_
  have e140 : ρ 25 = .int .i64 x93 := hp20_
  obtain ⟨⟨a141, c142⟩, e143⟩ := hp19_
  have e143 : ρ 24 = .slice a141 ([x84, x87, x90]).length c142 := e143
  try rw [e143] at hs
  have e144 : ρ 23 = .int .i64 x90 := hp18_
  have e145 : ρ 22 = .int .i64 x5.Seq := hp17_
  have e146 : ρ 21 = .pointer (some ⟨g11, 3, none⟩) := hp16_
  have e147 : ρ 20 = .int .i64 x1.Seq := hp15_
  have e148 : ρ 19 = .pointer (some ⟨g10, 1, none⟩) := hp14_
  have e149 : ρ 18 = .int .i64 x87 := hp13_
  have e150 : ρ 17 = .int .i64 x5.Client := hp12_
  have e151 : ρ 16 = .pointer (some ⟨g11, 2, none⟩) := hp11_
  have e152 : ρ 15 = .int .i64 x1.Client := hp10_
  have e153 : ρ 14 = .pointer (some ⟨g10, 0, none⟩) := hp9_
  have e154 : ρ 13 = .int .i64 x84 := hp8_
  have e155 : ρ 12 = .int .i64 x5.Tag := hp7_
  have e156 : ρ 11 = .pointer (some ⟨g11, 1, none⟩) := hp6_
  have e157 : ρ 10 = .int .i64 x1.Tag := hp5_
  have e158 : ρ 9 = .pointer (some ⟨g10, 2, none⟩) := hp4_
  have e159 : ρ 8 = .bool (!x5.Set) := hp3_
  have e160 : ρ 7 = .bool (!x5.Set) := hp2_
  have e161 : ρ 6 = .bool x5.Set := hp1_
  have e162 : ρ 5 = .pointer (some ⟨g11, 0, none⟩) := hp0_
  refine WA.step [23] (by kernel_rfl) (by simp) ⟨?_, trivial⟩
  refine WL.assign (v := .bool (decide (0 < x93))) e138 ?_
  refine WL.nil ⟨rfl, _, rfl, ?_⟩
  refine WA.done (by kernel_rfl) ?_
  exact Jk15 (decide (0 < x93)) _ _ rfl ((hs.mask []).pick []) hf } }
theorem slices_Clone_string.calls {ok : Nat → Prop} {w0 : World} {x1 : List (List UInt8)} {a2 : Option Addr} {c3 : Nat} {r : List (List UInt8)} (hf : slices_Clone_string x1 = some r) (i0 : (vl (tSlice tStr) x1 (.slice a2 x1.length c3)).holds ok w0) :
    Calls Try.prog 55 #[.slice a2 x1.length c3] w0 fun e w' => ∃ v, e = .returned v ∧ ∃ y : (Option Addr × Nat × Nat), v = .slice y.1 y.2.1 y.2.2 ∧ St ok (bz w0) w' [] [own tStr 9 (.slice y.1 y.2.1 y.2.2) r] := by
  unfold slices_Clone_string at hf
  refine calls_of_W (fn := Try.f55) (N := 8) Try.func55 rfl Try.ntmps55 rfl ?_
  have hs : St ok (bz w0) w0 [vl (tSlice tStr) x1 (.slice a2 x1.length c3)] [] := St.init (All.cons i0 All.nil)
  clear i0
  refine W.seqK fun K4 hK4 => ?_
  refine W.region ?_
  refine WL.assign (v := .slice none 0 0) rfl ?_
  refine WL.nil ?_
  refine hK4 _ _ ?_
  refine W.seqK fun K5 hK5 => ?_
  refine W.seqK fun K6 hK6 => ?_
  refine W.region ?_
  refine WL.move (v := .slice a2 x1.length c3) rfl ?_
  refine WL.nilEq UN55 rfl ?_
  rcases a2 with _ | ad7
  {
  obtain rfl := hs.nilx 0 rfl
  have hf : some [] = some r := by simpa [app, idx, cut] using hf
  refine WL.nil ?_
  refine hK6 _ _ ?_
  refine W.cond_true rfl ?_
  refine W.seqK fun K8 hK8 => ?_
  refine W.region ?_
  refine WL.assign (v := .slice none 0 0) rfl ?_
  refine WL.nil ?_
  refine hK8 _ _ ?_
  refine W.ret ?_
  have hr := Option.some.inj hf; subst hr
  have hs := hs.ownNil tStr 9
  exact ⟨_, resOk_one rfl rfl, (none, 0, 0), rfl, (hs.mask [true]).pick []⟩ }
  {
  refine WL.nil ?_
  refine hK6 _ _ ?_
  refine W.cond_false rfl ?_
  refine W.skip ?_
  refine hK5 _ _ ?_
  refine W.seqK fun K9 hK9 => ?_
  refine W.region ?_
  refine WL.buildSlice0 hs UN55 TI9 (fun a10 w hs => ?_)
  refine WL.move (v := .slice (some ad7) x1.length c3) rfl ?_
  have hs := hs.ownEmpty tStr 9 a10
  obtain ⟨x11, hxx11, hf⟩ := bindE hf
  obtain ⟨hbx11, hex11⟩ := appE hxx11
  refine WL.appendS (zs := x11) hs 0 rfl 0 rfl UN55 UN55 EI9 rfl rfl hbx11 (by omega) hex11 (fun v12 w hs => ?_)
  obtain ⟨a13, n15, c14, rfl⟩ := hs.ownv3 0 rfl
  refine WL.assign (v := .slice a13 n15 c14) rfl ?_
  refine WL.nil ?_
  refine hK9 _ _ ?_
  refine W.ret ?_
  have hr := Option.some.inj hf; subst hr
  exact ⟨_, resOk_one rfl rfl, (a13, n15, c14), rfl, (hs.mask [true]).pick []⟩ }
theorem esref32_Insert.calls {ok : Nat → Prop} {w0 : World} {x1 : List (List UInt8)} {x4 : List UInt8} {a2 : Option Addr} {c3 : Nat} {r : List (List UInt8)} (hf : esref32_Insert x1 x4 = some r) (i0 : (vl (tSlice tStr) x1 (.slice a2 x1.length c3)).holds ok w0) :
    Calls Try.prog 52 #[.slice a2 x1.length c3, bstr x4] w0 fun e w' => ∃ v, e = .returned v ∧ ∃ y : (Option Addr × Nat), v = .slice y.1 r.length y.2 ∧ St ok (bz w0) w' [vl (tSlice tStr) r (.slice y.1 r.length y.2)] [] := by
  unfold esref32_Insert at hf
  refine calls_of_W (fn := Try.f52) (N := 49) Try.func52 rfl Try.ntmps52 rfl ?_
  have hs : St ok (bz w0) w0 [vl (tSlice tStr) x1 (.slice a2 x1.length c3)] [] := St.init (All.cons i0 All.nil)
  clear i0
  refine W.seqK fun K5 hK5 => ?_
  refine W.region ?_
  refine WL.assign (v := .slice none 0 0) rfl ?_
  refine WL.nil ?_
  refine hK5 _ _ ?_
  refine W.seqK fun K6 hK6 => ?_
  refine W.region ?_
  refine WL.assign (v := .int .i64 0) rfl ?_
  refine WL.nil ?_
  refine hK6 _ _ ?_
  refine W.seqK fun K7 hK7 => ?_
  have Jk10 : ∀ (x9 : Int) (ρ : Env) (w : World), ρ 0 = .slice a2 x1.length c3 → ρ 1 = bstr x4 → ρ 5 = .int .i64 x9 → St ok (bz w0) w [vl (tSlice tStr) x1 (.slice a2 x1.length c3)] [] → esref32_Insert.j3 x1 x4 x9 = some r → K7 ρ w := by
    intro x9 ρ w h8_0 h8_1 h8_5 hs hf
    refine hK7 _ _ ?_
    unfold esref32_Insert.j3 at hf
    refine W.seqK fun K11 hK11 => ?_
    refine W.seqK fun K12 hK12 => ?_
    have Jk15 : ∀ (x14 : Bool) (ρ : Env) (w : World), ρ 0 = .slice a2 x1.length c3 → ρ 1 = bstr x4 → ρ 5 = .int .i64 x9 → ρ 32 = .bool x14 → St ok (bz w0) w [vl (tSlice tStr) x1 (.slice a2 x1.length c3)] [] → esref32_Insert.j2 x1 x4 x9 x14 = some r → K12 ρ w := by
      intro x14 ρ w h13_0 h13_1 h13_5 h13_32 hs hf
      refine hK12 _ _ ?_
      unfold esref32_Insert.j2 at hf
      rcases iteE hf with ⟨hc16, hf⟩ | ⟨hc16, hf⟩
      {
      refine W.cond_true (bool_tr h13_32 hc16) ?_
      refine W.seqK fun K17 hK17 => ?_
      refine W.region ?_
      refine WL.buildSlice0 hs UN55 TI9 (fun a18 w hs => ?_)
      refine WL.move (v := .slice a2 x1.length c3) h13_0 ?_
      have hs := hs.ownEmpty tStr 9 a18
      obtain ⟨x19, hxx19, hf⟩ := bindE hf
      obtain ⟨hbx19, hex19⟩ := appE hxx19
      refine WL.appendS (zs := x19) hs 0 rfl 0 rfl UN55 UN55 EI9 rfl rfl hbx19 (by omega) hex19 (fun v20 w hs => ?_)
      obtain ⟨a21, n23, c22, rfl⟩ := hs.ownv3 0 rfl
      refine WL.assign (v := .slice a21 n23 c22) rfl ?_
      refine WL.nil ?_
      refine hK17 _ _ ?_
      refine W.ret ?_
      have hr := Option.some.inj hf; subst hr
      obtain rfl := hs.ownLen 0 rfl
      have hs := hs.freezeOwn 0 rfl
      exact ⟨_, resOk_one rfl rfl, (a21, c22), rfl, (hs.mask []).pick [0]⟩ }
      {
      refine W.cond_false (bool_tr h13_32 hc16) ?_
      refine W.skip ?_
      refine hK11 _ _ ?_
      refine W.seqK fun K24 hK24 => ?_
      refine W.region ?_
      refine WL.buildSlice0 hs UN55 TI9 (fun a25 w hs => ?_)
      refine WL.move (v := .slice a2 x1.length c3) h13_0 ?_
      refine WL.move (v := .int .i64 x9) h13_5 ?_
      obtain ⟨x26, hxx26, hf⟩ := bindE hf
      refine WL.slice_h hs 0 rfl UN55 TI9 rfl rfl hxx26 (fun a27 c28 hs => ?_)
      have hs := hs.ownEmpty tStr 9 a25
      obtain ⟨x29, hxx29, hf⟩ := bindE hf
      obtain ⟨hbx29, hex29⟩ := appE hxx29
      refine WL.appendS (zs := x29) hs 0 rfl 0 rfl UN55 UN55 EI9 rfl rfl hbx29 (by omega) hex29 (fun v30 w hs => ?_)
      obtain ⟨a31, n33, c32, rfl⟩ := hs.ownv3 0 rfl
      refine WL.assign (v := .slice a31 n33 c32) rfl ?_
      refine WL.nil ?_
      refine hK24 _ _ ?_
      refine W.seqK fun K34 hK34 => ?_
      have Jk39 : ∀ (x36 : List (List UInt8)) (a37 : Option Addr) (c38 : Nat) (ρ : Env) (w : World), ρ 4 = .slice a37 x36.length c38 → St ok (bz w0) w [vl (tSlice tStr) x36 (.slice a37 x36.length c38)] [] → esref32_Insert.j1 x36 = some r → K34 ρ w := by
        intro x36 a37 c38 ρ w h35_4 hs hf
        refine hK34 _ _ ?_
        unfold esref32_Insert.j1 at hf
        refine W.ret ?_
        have hr := Option.some.inj hf; subst hr
        exact ⟨_, resOk_one rfl h35_4, (a37, c38), rfl, (hs.mask []).pick [0]⟩
      obtain ⟨x42, hxx42, hf⟩ := bindE hf
      obtain ⟨hbx42, hex42⟩ := appE hxx42
      obtain ⟨x47, hxx47, hf⟩ := bindE hf
      obtain ⟨x50, hxx50, hf⟩ := bindE hf
      obtain ⟨hbx50, hex50⟩ := appE hxx50
      have hs := hs.front 0 rfl
      refine W.anyT (by kernel_rfl) 8 1 [true, true, true, true, true, true, true, true, false] rfl rfl (poAt [pv (.slice a31 n33 c32), pv (bstr x4), pq (fun y : (Option Addr × Nat) => .slice y.1 ([x4]).length y.2) (fun v => [vl (tSlice tStr) [x4] v]) (fun v => []), ⟨fun _ v => ∃ y : (Option Addr × Nat × Nat), v = .slice y.1 y.2.1 y.2.2, fun _ => [], fun v => [own tStr 9 v x42], [own tStr 9 (.slice a31 n33 c32) x29], []⟩, pv (.slice a2 x1.length c3), pv (.int .i64 x9), pq (fun y : (Option Addr × Nat) => .slice y.1 x47.length y.2) (fun v => [vl (tSlice tStr) x47 v]) (fun v => []), pq (fun y : (Option Addr × Nat × Nat) => .slice y.1 y.2.1 y.2.2) (fun v => []) (fun v => [own tStr 9 v x50])]) (tkAt [[], [], [], [], [], [], [], [3]]) (Λ := []) hs (by kernel_rfl) (by kernel_rfl) (by kernel_rfl) (by kernel_rfl) ⟨⟨⟨⟨⟨⟨⟨⟨trivial, ?_⟩, ?_⟩, ?_⟩, ?_⟩, ?_⟩, ?_⟩, ?_⟩, ?_⟩ ?_
      {
      intro ρ w Γx Λx hs hu hp
      refine WL.move (v := .slice a31 n33 c32) (hu 6 rfl) ?_
      exact WL.nil ⟨rfl, _, rfl, rfl, hs.cutG 0 0⟩ }
      {
      intro ρ w Γx Λx hs hu hp
      refine WL.move (v := bstr x4) ((hu 1 rfl).trans h13_1) ?_
      exact WL.nil ⟨rfl, _, rfl, rfl, hs.cutG 0 0⟩ }
      {
      intro ρ w Γx Λx hs hu hp
      have e55 : ρ 42 = bstr x4 := (hp 1 rfl).1
      refine WL.buildSliceB (ys := [x4]) (n := 1) (vs := [(0, bstr x4)]) (cs := [bstr x4]) hs ⟨⟨rfl, e55⟩, trivial⟩ (bls PS55 (by decide) rfl) (fun ok hA => (Cells.one (T := tStr) rfl)) rfl (by decide) (fun a41 w hBl hs => ?_)
      have hs := hs.add (it := vl (tSlice tStr) [x4] (.slice a41 ([x4]).length 1)) fun ok hA => hA.get 0 rfl
      exact WL.nil ⟨rfl, _, rfl, ⟨(a41, 1), rfl⟩, hs.cutG 1 1⟩ }
      {
      intro ρ w Γx Λx hs hu hp
      have hs : St ok (bz w0) w (Γx ++ [vl (tSlice tStr) x26 (.slice a27 x26.length c28), vl (tSlice tStr) x1 (.slice a2 x1.length c3)]) (Λx ++ ([own tStr 9 (.slice a31 n33 c32) x29] ++ [])) := hs
      have e56 : ρ 41 = .slice a31 n33 c32 := (hp 0 rfl).1
      obtain ⟨⟨⟨a57, c58⟩, e59r⟩, hm60⟩ := hp 2 rfl
      have e59 : ρ 43 = .slice a57 ([x4]).length c58 := e59r
      rw [e59r] at hm60
      have hs := hs.memo1 (it := vl (tSlice tStr) [x4] (.slice a57 ([x4]).length c58)) (List.mem_append.2 (.inl (hm60 _ (List.mem_of_getElem? (i := 0) rfl))))
      refine WL.appendS (zs := x42) hs (Λx.length + 0) (getApp rfl) 0 rfl UN55 UN55 EI9 e56 e59 hbx42 (by omega) hex42 (fun v43 w hs => ?_)
      have hs := hs.backP
      obtain ⟨a44, n46, c45, rfl⟩ := hs.ownv3 0 rfl
      exact WL.nil ⟨rfl, _, rfl, ⟨(a44, n46, c45), rfl⟩, hs.cutG 0 1⟩ }
      {
      intro ρ w Γx Λx hs hu hp
      refine WL.move (v := .slice a2 x1.length c3) ((hu 0 rfl).trans h13_0) ?_
      exact WL.nil ⟨rfl, _, rfl, rfl, hs.cutG 0 0⟩ }
      {
      intro ρ w Γx Λx hs hu hp
      refine WL.move (v := .int .i64 x9) ((hu 5 rfl).trans h13_5) ?_
      exact WL.nil ⟨rfl, _, rfl, rfl, hs.cutG 0 0⟩ }
      {
      intro ρ w Γx Λx hs hu hp
      have e61 : ρ 45 = .slice a2 x1.length c3 := (hp 4 rfl).1
      have e62 : ρ 46 = .int .i64 x9 := (hp 5 rfl).1
      refine WL.slice_l hs (Γx.length + 1) (getApp rfl) UN55 TI9 e61 e62 hxx47 (fun a48 c49 hs => ?_)
      have hs := hs.add (it := vl (tSlice tStr) x47 (.slice a48 x47.length c49)) fun ok hA => hA.get 0 rfl
      exact WL.nil ⟨rfl, _, rfl, ⟨(a48, c49), rfl⟩, hs.cutG 1 1⟩ }
      {
      intro ρ w Γx Λx hs hu hp
      have hs : St ok (bz w0) w (Γx ++ [vl (tSlice tStr) x26 (.slice a27 x26.length c28), vl (tSlice tStr) x1 (.slice a2 x1.length c3)]) (Λx ++ ([own tStr 9 ((ρ 44)) x42] ++ [])) := hs
      obtain ⟨⟨⟨a63, n65, c64⟩, e66r⟩, hm67⟩ := hp 3 rfl
      have e66 : ρ 44 = .slice a63 n65 c64 := e66r
      rw [e66] at hs
      obtain ⟨⟨⟨a68, c69⟩, e70r⟩, hm71⟩ := hp 6 rfl
      have e70 : ρ 47 = .slice a68 x47.length c69 := e70r
      rw [e70r] at hm71
      have hs := hs.memo1 (it := vl (tSlice tStr) x47 (.slice a68 x47.length c69)) (List.mem_append.2 (.inl (hm71 _ (List.mem_of_getElem? (i := 0) rfl))))
      refine WL.appendS (zs := x50) hs (Λx.length + 0) (getApp rfl) 0 rfl UN55 UN55 EI9 e66 e70 hbx50 (by omega) hex50 (fun v51 w hs => ?_)
      have hs := hs.backP
      obtain ⟨a52, n54, c53, rfl⟩ := hs.ownv3 0 rfl
      exact WL.nil ⟨rfl, _, rfl, ⟨(a52, n54, c53), rfl⟩, hs.cutG 0 1⟩ }
      {
      intro ρ w hs hu72 hp
      obtain ⟨⟨⟨⟨⟨⟨⟨⟨_, hp0_⟩, hp1_⟩, hp2_⟩, hp3_⟩, hp4_⟩, hp5_⟩, hp6_⟩, hp7_⟩ := hp
      have hs : St ok (bz w0) w [vl (tSlice tStr) x47 (ρ 47), vl (tSlice tStr) [x4] (ρ 43), vl (tSlice tStr) x26 (.slice a27 x26.length c28), vl (tSlice tStr) x1 (.slice a2 x1.length c3)] [own tStr 9 ((ρ 48)) x50] := hs
      obtain ⟨⟨a73, n75, c74⟩, e76⟩ := hp7_
      have e76 : ρ 48 = .slice a73 n75 c74 := e76
      try rw [e76] at hs
      obtain ⟨⟨a77, c78⟩, e79⟩ := hp6_
      have e79 : ρ 47 = .slice a77 x47.length c78 := e79
      try rw [e79] at hs
      have e80 : ρ 46 = .int .i64 x9 := hp5_
      have e81 : ρ 45 = .slice a2 x1.length c3 := hp4_
      obtain ⟨⟨a82, n84, c83⟩, e85⟩ := hp3_
      have e85 : ρ 44 = .slice a82 n84 c83 := e85
      try rw [e85] at hs
      obtain ⟨⟨a86, c87⟩, e88⟩ := hp2_
      have e88 : ρ 43 = .slice a86 ([x4]).length c87 := e88
      try rw [e88] at hs
      have e89 : ρ 42 = bstr x4 := hp1_
      have e90 : ρ 41 = .slice a31 n33 c32 := hp0_
      refine WA.step [8] (by kernel_rfl) (by simp) ⟨?_, trivial⟩
      refine WL.assign (v := .slice a73 n75 c74) e76 ?_
      refine WL.nil ⟨rfl, _, rfl, ?_⟩
      refine WA.done (by kernel_rfl) ?_
      obtain rfl := hs.ownLen 0 rfl
      have hs := hs.freezeOwn 0 rfl
      exact Jk39 x50 a73 c74 _ _ rfl ((hs.mask []).pick [0]) hf } }
    refine W.region ?_
    refine WL.move (v := .int .i64 x9) h8_5 ?_
    refine WL.move (v := .slice a2 x1.length c3) h8_0 ?_
    refine WL.len (v := .slice a2 x1.length c3) rfl (len_slice UN55) ?_
    refine WL.bin (v := .bool (decide (x9 < (x1.length : Int)))) rfl rfl (ib_lss _ _ _) ?_
    refine WL.move (v := .bool (decide (x9 < (x1.length : Int)))) rfl ?_
    rcases iteE hf with ⟨hc91, hf⟩ | ⟨hc91, hf⟩
    {
    refine WL.move (v := .slice a2 x1.length c3) h8_0 ?_ (hg := (wanted_of rfl rfl (bool_tr rfl hc91)).trans rfl)
    refine WL.move (v := .int .i64 x9) h8_5 ?_ (hg := (wanted_of rfl rfl (bool_tr rfl hc91)).trans rfl)
    obtain ⟨x92, hxx92, hf⟩ := bindE hf
    refine WL.indexAddr hs 0 rfl UN55 TI9 rfl rfl hxx92 (fun ad93 hs => ?_) (hg := (wanted_of rfl rfl (bool_tr rfl hc91)).trans rfl)
    refine WL.loadP hs 0 rfl TI9 (.inr rfl) rfl (fun v94 hs => ?_) (hg := (wanted_of rfl rfl (bool_tr rfl hc91)).trans rfl)
    obtain rfl := hs.str 0 rfl
    refine WL.move (v := bstr x4) h8_1 ?_ (hg := (wanted_of rfl rfl (bool_tr rfl hc91)).trans rfl)
    refine WL.binS (v := .bool (x92 == x4)) rfl rfl (sb_eql _ _) ?_ (hg := (wanted_of rfl rfl (bool_tr rfl hc91)).trans rfl)
    refine WL.pickT (v := .bool (x92 == x4)) (bool_tr rfl hc91) rfl ?_
    refine WL.nil ?_
    exact Jk15 (x92 == x4) _ _ h8_0 h8_1 h8_5 rfl ((hs.mask []).pick [2]) hf }
    {
    refine WL.pass ((wanted_of rfl rfl (bool_tr rfl hc91)).trans rfl) rfl ?_
    refine WL.pass ((wanted_of rfl rfl (bool_tr rfl hc91)).trans rfl) rfl ?_
    refine WL.pass ((wanted_of rfl rfl (bool_tr rfl hc91)).trans rfl) rfl ?_
    refine WL.pass ((wanted_of rfl rfl (bool_tr rfl hc91)).trans rfl) rfl ?_
    refine WL.pass ((wanted_of rfl rfl (bool_tr rfl hc91)).trans rfl) rfl ?_
    refine WL.pass ((wanted_of rfl rfl (bool_tr rfl hc91)).trans rfl) rfl ?_
    refine WL.pickF (v := .bool false) (bool_tr rfl hc91) rfl ?_
    refine WL.nil ?_
    exact Jk15 false _ _ h8_0 h8_1 h8_5 rfl ((hs.mask []).pick [0]) hf }
  refine W.block ?_
  obtain ⟨bs97, hbs97, hfs97⟩ := bindE hf
  refine W.loop hbs97 (fun s ρ w => match s with | x96 => ρ 0 = .slice a2 x1.length c3 ∧ ρ 1 = bstr x4 ∧ ρ 5 = .int .i64 x96 ∧ St ok (bz w0) w [vl (tSlice tStr) x1 (.slice a2 x1.length c3)] []) ⟨rfl, rfl, rfl, (hs.mask []).pick [0]⟩ ?_
  intro x96 ρ w os97 hI hf hbbs97
  obtain ⟨h95_0, h95_1, h95_5, hs⟩ := hI
  unfold esref32_Insert.l1 at hf
  refine W.seqK fun K98 hK98 => ?_
  refine W.seqK fun K99 hK99 => ?_
  have Jk102 : ∀ (x101 : Bool) (ρ : Env) (w : World), ρ 0 = .slice a2 x1.length c3 → ρ 1 = bstr x4 → ρ 5 = .int .i64 x96 → ρ 18 = .bool x101 → St ok (bz w0) w [vl (tSlice tStr) x1 (.slice a2 x1.length c3)] [] → esref32_Insert.j4 x96 x101 = some os97 → K99 ρ w := by
    intro x101 ρ w h100_0 h100_1 h100_5 h100_18 hs hf
    refine hK99 _ _ ?_
    unfold esref32_Insert.j4 at hf
    rcases iteE hf with ⟨hc103, hf⟩ | ⟨hc103, hf⟩
    {
    refine W.cond_true (bool_tr h100_18 hc103) ?_
    refine W.skip ?_
    refine hK98 _ _ ?_
    refine W.block ?_
    refine W.region ?_
    refine WL.move (v := .int .i64 x96) h100_5 ?_
    obtain ⟨x104, ex104, hf⟩ := letE hf
    refine WL.bin (v := .int .i64 x104) rfl rfl (ib_as ex104 (ib_add _ _ _)) ?_
    refine WL.assign (v := .int .i64 x104) rfl ?_
    refine WL.nil ?_
    exact ⟨_, (Option.some.inj hf).symm, h100_0, h100_1, rfl, (hs.mask []).pick [0]⟩ }
    {
    refine W.cond_false (bool_tr h100_18 hc103) ?_
    refine W.exit ?_
    have hr := Option.some.inj hf; subst hr
    have hr := hbbs97 _ rfl; subst hr
    have hf := hfs97
    exact Jk10 x96 _ _ h100_0 h100_1 h100_5 ((hs.mask []).pick [0]) hf }
  refine W.region ?_
  refine WL.move (v := .int .i64 x96) h95_5 ?_
  refine WL.move (v := .slice a2 x1.length c3) h95_0 ?_
  refine WL.len (v := .slice a2 x1.length c3) rfl (len_slice UN55) ?_
  refine WL.bin (v := .bool (decide (x96 < (x1.length : Int)))) rfl rfl (ib_lss _ _ _) ?_
  refine WL.move (v := .bool (decide (x96 < (x1.length : Int)))) rfl ?_
  rcases iteE hf with ⟨hc105, hf⟩ | ⟨hc105, hf⟩
  {
  refine WL.move (v := .slice a2 x1.length c3) h95_0 ?_ (hg := (wanted_of rfl rfl (bool_tr rfl hc105)).trans rfl)
  refine WL.move (v := .int .i64 x96) h95_5 ?_ (hg := (wanted_of rfl rfl (bool_tr rfl hc105)).trans rfl)
  obtain ⟨x106, hxx106, hf⟩ := bindE hf
  refine WL.indexAddr hs 0 rfl UN55 TI9 rfl rfl hxx106 (fun ad107 hs => ?_) (hg := (wanted_of rfl rfl (bool_tr rfl hc105)).trans rfl)
  refine WL.loadP hs 0 rfl TI9 (.inr rfl) rfl (fun v108 hs => ?_) (hg := (wanted_of rfl rfl (bool_tr rfl hc105)).trans rfl)
  obtain rfl := hs.str 0 rfl
  refine WL.move (v := bstr x4) h95_1 ?_ (hg := (wanted_of rfl rfl (bool_tr rfl hc105)).trans rfl)
  refine WL.binS (v := .bool (Op.bytesLess x106 x4)) rfl rfl (sb_lss _ _) ?_ (hg := (wanted_of rfl rfl (bool_tr rfl hc105)).trans rfl)
  refine WL.pickT (v := .bool (Op.bytesLess x106 x4)) (bool_tr rfl hc105) rfl ?_
  refine WL.nil ?_
  exact Jk102 (Op.bytesLess x106 x4) _ _ h95_0 h95_1 h95_5 rfl ((hs.mask []).pick [2]) hf }
  {
  refine WL.pass ((wanted_of rfl rfl (bool_tr rfl hc105)).trans rfl) rfl ?_
  refine WL.pass ((wanted_of rfl rfl (bool_tr rfl hc105)).trans rfl) rfl ?_
  refine WL.pass ((wanted_of rfl rfl (bool_tr rfl hc105)).trans rfl) rfl ?_
  refine WL.pass ((wanted_of rfl rfl (bool_tr rfl hc105)).trans rfl) rfl ?_
  refine WL.pass ((wanted_of rfl rfl (bool_tr rfl hc105)).trans rfl) rfl ?_
  refine WL.pass ((wanted_of rfl rfl (bool_tr rfl hc105)).trans rfl) rfl ?_
  refine WL.pickF (v := .bool false) (bool_tr rfl hc105) rfl ?_
  refine WL.nil ?_
  exact Jk102 false _ _ h95_0 h95_1 h95_5 rfl ((hs.mask []).pick [0]) hf }
theorem esref32_before.calls {ok : Nat → Prop} {w0 : World} {x1 : fold_Register} {x5 : Int} {x6 : Int} {x7 : Int} {v2 : Value} {r : Bool} (hf : esref32_before x1 x5 x6 x7 = some r) (i0 : (vl t_fold_Register x1 v2).holds ok w0) :
    Calls Try.prog 51 #[v2, .int .i64 x5, .int .i64 x6, .int .i64 x7] w0 fun e w' => ∃ v, e = .returned v ∧ ∃ y : Unit, v = .bool r ∧ St ok (bz w0) w' [] [] := by
  unfold esref32_before at hf
  refine calls_of_W (fn := Try.f51) (N := 29) Try.func51 rfl Try.ntmps51 rfl ?_
  have hs : St ok (bz w0) w0 [vl t_fold_Register x1 v2] [] := St.init (All.cons i0 All.nil)
  clear i0
  obtain ⟨cs3, hl4, rfl⟩ := hs.aggv (n := 6) 0 rfl rfl rfl
  refine W.seqK fun K8 hK8 => ?_
  refine W.region ?_
  refine WL.box (vs := cs3) hs rfl rfl (fun g9 w hs => ?_)
  refine WL.assign (v := .bool false) rfl ?_
  refine WL.nil ?_
  refine hK8 _ _ ?_
  refine W.seqK fun K10 hK10 => ?_
  refine W.seqK fun K11 hK11 => ?_
  refine W.region ?_
  refine WL.fieldAddr (m := 1) rfl FA54_1 rfl ?_
  refine WL.loadF (z := x1.Tag) F_fold_Register_Tag hs 0 rfl 0 rfl rfl TI3 (.inr rfl) rfl rfl (fun v12 hs => ?_)
  obtain rfl := hs.int 0 rfl
  refine WL.move (v := .int .i64 x5) rfl ?_
  refine WL.bin (v := .bool (x1.Tag != x5)) rfl rfl (ib_neq _ _ _) ?_
  refine WL.nil ?_
  refine hK11 _ _ ?_
  rcases iteE hf with ⟨hc13, hf⟩ | ⟨hc13, hf⟩
  {
  refine W.cond_true (bool_tr rfl hc13) ?_
  refine W.seqK fun K14 hK14 => ?_
  refine W.region ?_
  refine WL.fieldAddr (m := 1) rfl FA54_1 rfl ?_
  refine WL.loadF (z := x1.Tag) F_fold_Register_Tag hs 0 rfl 1 rfl rfl TI3 (.inr rfl) rfl rfl (fun v15 hs => ?_)
  obtain rfl := hs.int 0 rfl
  refine WL.move (v := .int .i64 x5) rfl ?_
  refine WL.bin (v := .bool (decide (x1.Tag < x5))) rfl rfl (ib_lss _ _ _) ?_
  refine WL.assign (v := .bool (decide (x1.Tag < x5))) rfl ?_
  refine WL.nil ?_
  refine hK14 _ _ ?_
  refine W.ret ?_
  have hr := Option.some.inj hf; subst hr
  exact ⟨_, resOk_one rfl rfl, (), rfl, (hs.mask []).pick []⟩ }
  {
  refine W.cond_false (bool_tr rfl hc13) ?_
  refine W.skip ?_
  refine hK10 _ _ ?_
  refine W.seqK fun K16 hK16 => ?_
  refine W.seqK fun K17 hK17 => ?_
  refine W.region ?_
  refine WL.fieldAddr (m := 2) rfl FA54_2 rfl ?_
  refine WL.loadF (z := x1.Client) F_fold_Register_Client hs 0 rfl 1 rfl rfl TI3 (.inr rfl) rfl rfl (fun v18 hs => ?_)
  obtain rfl := hs.int 0 rfl
  refine WL.move (v := .int .i64 x6) rfl ?_
  refine WL.bin (v := .bool (x1.Client != x6)) rfl rfl (ib_neq _ _ _) ?_
  refine WL.nil ?_
  refine hK17 _ _ ?_
  rcases iteE hf with ⟨hc19, hf⟩ | ⟨hc19, hf⟩
  {
  refine W.cond_true (bool_tr rfl hc19) ?_
  refine W.seqK fun K20 hK20 => ?_
  refine W.region ?_
  refine WL.fieldAddr (m := 2) rfl FA54_2 rfl ?_
  refine WL.loadF (z := x1.Client) F_fold_Register_Client hs 0 rfl 2 rfl rfl TI3 (.inr rfl) rfl rfl (fun v21 hs => ?_)
  obtain rfl := hs.int 0 rfl
  refine WL.move (v := .int .i64 x6) rfl ?_
  refine WL.bin (v := .bool (decide (x1.Client < x6))) rfl rfl (ib_lss _ _ _) ?_
  refine WL.assign (v := .bool (decide (x1.Client < x6))) rfl ?_
  refine WL.nil ?_
  refine hK20 _ _ ?_
  refine W.ret ?_
  have hr := Option.some.inj hf; subst hr
  exact ⟨_, resOk_one rfl rfl, (), rfl, (hs.mask []).pick []⟩ }
  {
  refine W.cond_false (bool_tr rfl hc19) ?_
  refine W.skip ?_
  refine hK16 _ _ ?_
  refine W.seqK fun K22 hK22 => ?_
  refine W.region ?_
  refine WL.fieldAddr (m := 3) rfl FA54_3 rfl ?_
  refine WL.loadF (z := x1.Seq) F_fold_Register_Seq hs 0 rfl 2 rfl rfl TI3 (.inr rfl) rfl rfl (fun v23 hs => ?_)
  obtain rfl := hs.int 0 rfl
  refine WL.move (v := .int .i64 x7) rfl ?_
  refine WL.bin (v := .bool (decide (x1.Seq < x7))) rfl rfl (ib_lss _ _ _) ?_
  refine WL.assign (v := .bool (decide (x1.Seq < x7))) rfl ?_
  refine WL.nil ?_
  refine hK22 _ _ ?_
  refine W.ret ?_
  have hr := Option.some.inj hf; subst hr
  exact ⟨_, resOk_one rfl rfl, (), rfl, (hs.mask []).pick []⟩ } }
end Go.Proofs.Ytlbcfjblpopcnaa
set_option linter.unusedVariables false
set_option linter.unusedSimpArgs false
namespace Go.Proofs.YtlbcfjblpopcnaaL
open Go Go.RowKit
theorem bl_irrefl (a : List UInt8) : Op.bytesLess a a = false := by rw [Go.Proofs.bytesLess_eq]; simp [List.lt_irrefl]
theorem bl_trans {a b c : List UInt8} (h : Op.bytesLess a b = true) (k : Op.bytesLess b c = true) : Op.bytesLess a c = true := by
  rw [Go.Proofs.bytesLess_eq, decide_eq_true_eq] at *
  exact List.lt_trans h k
theorem bl_tri {a b : List UInt8} (h : Op.bytesLess a b = false) (k : Op.bytesLess b a = false) : a = b := by
  rw [Go.Proofs.bytesLess_eq, decide_eq_false_iff_not] at *
  exact List.le_antisymm k h
abbrev Asc (l : List (List UInt8)) : Prop := l.Pairwise fun a b => Op.bytesLess a b = true
def posS : List (List UInt8) → List UInt8 → Nat
  | [], _ => 0
  | a :: l, s => if Op.bytesLess a s then posS l s + 1 else 0
theorem posS_le : ∀ (l : List (List UInt8)) (s : List UInt8), posS l s ≤ l.length
  | [], _ => Nat.le_refl _
  | a :: l, s => by
    unfold posS
    have := posS_le l s
    split
    · simp; exact this
    · simp
theorem posS_lt : ∀ (l : List (List UInt8)) (s : List UInt8) (t : Nat), t < posS l s → Op.bytesLess (l.getD t s) s = true
  | [], s, t, h => by simp [posS] at h
  | a :: l, s, t, h => by
    unfold posS at h
    split at h
    · rename_i ha
      cases t with
      | zero => exact ha
      | succ t => simpa using posS_lt l s t (by omega)
    · omega
theorem posS_ge : ∀ (l : List (List UInt8)) (s : List UInt8), Asc l → ∀ t, posS l s ≤ t → Op.bytesLess (l.getD t s) s = false
  | [], s, _, t, _ => by simp [bl_irrefl]
  | a :: l, s, h, t, ht => by
    have h1 := (List.pairwise_cons.1 h).1
    have h2 := (List.pairwise_cons.1 h).2
    unfold posS at ht
    split at ht
    · cases t with
      | zero => omega
      | succ t => simpa using posS_ge l s h2 t (by omega)
    · rename_i ha
      have ha : Op.bytesLess a s = false := by simpa using ha
      cases t with
      | zero => simpa using ha
      | succ t =>
        rw [List.getD_cons_succ]
        rcases Nat.lt_or_ge t l.length with hl | hl
        · have e : l.getD t s = l[t] := by simp [List.getD_eq_getElem?_getD, hl]
          rw [e]
          cases k : Op.bytesLess l[t] s with
          | false => rfl
          | true =>
            have := bl_trans (h1 _ (List.getElem_mem hl)) k
            rw [this] at ha; cases ha
        · rw [List.getD_eq_getElem?_getD, List.getElem?_eq_none hl]
          exact bl_irrefl s
theorem insS_pos : ∀ (l : List (List UInt8)) (s : List UInt8), insS l s = if posS l s < l.length ∧ l.getD (posS l s) s = s then l else l.take (posS l s) ++ s :: l.drop (posS l s)
  | [], s => by simp [insS, posS]
  | a :: l, s => by
    unfold insS posS
    cases ha : Op.bytesLess a s with
    | true =>
      rw [if_pos rfl, if_pos rfl, insS_pos l s]
      simp only [List.length_cons, Nat.add_lt_add_iff_right, List.getD_cons_succ, List.take_succ_cons, List.drop_succ_cons]
      split
      · rfl
      · rfl
    | false =>
      simp only [Bool.false_eq_true, if_false]
      cases he : a == s with
      | true =>
        have : a = s := by simpa using he
        simp [this]
      | false =>
        have : a ≠ s := by simpa using he
        simp [this]
section
variable {P : Program} {w : World} {w0 : Base} {ok0 : Nat → Prop} {Γ : List It} {Λ : List LObj} {ren : Go.Shelf.Ren}
open Go.Proofs Go.Shelf
theorem bsearch_own (L : Lays2.n26 P ren) {xs : List (List UInt8)} {s : List UInt8} {v : Value} (hs : St ok0 w0 w Γ Λ) (i : Nat) (hi : Λ[i]? = some (own tStr 9 v xs)) (ha : Asc xs) (hb : xs.length < 4611686018427387904) :
    Calls P (ren.f 26) #[v, bstr s] w fun e w' => e = .returned (.tuple #[.int .i64 (posS xs s : Nat), .bool (decide (posS xs s < xs.length ∧ xs.getD (posS xs s) s = s))]) ∧ ∃ q, w' = w.drewN q := by
  have hT := hs.ownT i hi
  obtain ⟨a, c, e, hc, hr⟩ := tSlice_V.1 hT
  have e : v = .slice a xs.length c := e
  subst e
  have empty : xs = [] → Calls P (ren.f 26) #[.slice a xs.length c, bstr s] w fun e w' => e = .returned (.tuple #[.int .i64 (posS xs s : Nat), .bool (decide (posS xs s < xs.length ∧ xs.getD (posS xs s) s = s))]) ∧ ∃ q, w' = w.drewN q := by
    intro hx
    subst hx
    refine (Any2.slices_BinarySearch_string_empty L a c ⟨s.toArray⟩ w).mono ?_
    rintro e w' ⟨rfl, rfl⟩
    exact ⟨by simp [posS], 0, rfl⟩
  rcases hr with hx | ⟨g, off, rfl, _, hlt, hcell⟩
  · exact empty hx
  · have key := Any2.slices_BinarySearch_string L g off xs.length c (fun j => ⟨(xs.getD j s).toArray⟩) ⟨s.toArray⟩ w hb (fun j hj => by
      have hx : xs[j]? = some xs[j] := List.getElem?_eq_getElem hj
      obtain ⟨cs, hR, hcs⟩ := hcell j _ hx
      have hR : cs = [bstr xs[j]] := hR
      subst hR
      have := hcs 0 _ rfl
      have e1 : off + j * tStr.sz + 0 = off + j := by show off + j * 1 + 0 = _; omega
      rw [e1] at this
      rw [this]
      simp [bstr, List.getD_eq_getElem?_getD, hj])
    refine key.mono ?_
    rintro e w' ⟨rfl, q, rfl⟩
    have e1 : Lib.bsGo (fun t => Op.bytesLess (ByteArray.toList ⟨(xs.getD t s).toArray⟩) (ByteArray.toList ⟨s.toArray⟩)) xs.length 0 xs.length = posS xs s := by
      refine Lib.bsGo_spec _ (posS xs s) (fun t ht => ?_) (fun t ht => ?_) xs.length 0 xs.length (by omega) (Nat.zero_le _) (posS_le xs s)
      · rw [bl, bl]; exact posS_lt xs s t ht
      · rw [bl, bl]; exact posS_ge xs s ha t ht
    refine ⟨?_, q, rfl⟩
    simp only [e1]
    congr 5
    have : (({ data := (xs.getD (posS xs s) s).toArray } : ByteArray) = ⟨s.toArray⟩) ↔ xs.getD (posS xs s) s = s := by
      constructor
      · intro h
        have := congrArg ByteArray.toList h
        rw [bl, bl] at this
        exact this
      · intro h; rw [h]
    simp only [this]
theorem wset_eq (g : Nat) : ∀ (vs : List Value) (j : Nat) (w : World), World.setCells w g j vs = setCells w g j vs
  | [], _, _ => rfl
  | v :: vs, j, w => by rw [World.setCells, setCells, wset_eq g vs]
theorem drew_heap (w : World) : w.drew.heap = w.heap := rfl
theorem Off.drew (bs : List Nat) (w : World) : Off bs w w.drew := ⟨rfl, rfl, rfl, Nat.le_refl _, fun _ _ _ => rfl⟩
theorem own_str {v : Value} {xs : List (List UInt8)} {ok : Nat → Prop} {bs : List Nat} (h : (own tStr 9 v xs).H ok bs w) :
    (∃ a, v = .slice a 0 0 ∧ xs = [] ∧ bs = []) ∨ ∃ g c cur, v = .slice (some ⟨g, 0, none⟩) xs.length c ∧ 0 < c ∧ bs = [g] ∧ w.heap[g]? = some (.cells (xs.map bstr ++ cur).toArray 9 (0, 0)) ∧ xs.length + cur.length = c ∧ c ≤ maxLen := by
  rcases h with ⟨_, h1, h2, a, h3⟩ | ⟨h0, cs, h1, h2, h3⟩
  · exact .inl ⟨a, h3, h2, h1⟩
  · obtain ⟨_, h2⟩ := h2
    rcases h2 with ⟨rfl, _⟩ | ⟨g, c, cur, rfl, _, hg, q1, q2, q3, q4⟩
    · simp [slCap] at h0
    · have ecs : cs = xs.map bstr := by
        have hl := h3.1
        have hl : cs.length = xs.length := by rw [hl]; exact Nat.mul_one _
        refine List.ext_getElem? fun j => ?_
        rcases Nat.lt_or_ge j xs.length with hj | hj
        · have := h3.2 j _ (List.getElem?_eq_getElem hj)
          have this : ((cs.drop (j * 1)).take 1) = [bstr xs[j]] := this
          rw [Nat.mul_one, List.drop_eq_getElem_cons (by omega), List.take_succ_cons, List.take_zero] at this
          rw [List.getElem?_eq_getElem (by omega), List.getElem?_map, List.getElem?_eq_getElem hj]
          simpa using this
        · rw [List.getElem?_eq_none (by omega), List.getElem?_eq_none (by simpa using hj)]
      subst ecs
      have q4 : cur.toList.take (xs.length * 1) = xs.map bstr := q4
      have q3 : cur.size = c * 1 := q3
      rw [Nat.mul_one] at q3 q4
      refine .inr ⟨g, c, cur.toList.drop xs.length, rfl, h0, by rw [h1]; rfl, ?_, ?_, q2⟩
      · rw [← q4, List.take_append_drop]
        simpa using hg
      · rw [List.length_drop, Array.length_toList (xs := cur)]
        omega
theorem own_of {g c : Nat} {xs : List (List UInt8)} {cur : List Value} (ok : Nat → Prop) (hc : 0 < c) (hg : w.heap[g]? = some (.cells (xs.map bstr ++ cur).toArray 9 (0, 0))) (hl : xs.length + cur.length = c) (hm : c ≤ maxLen) :
    (own tStr 9 (.slice (some ⟨g, 0, none⟩) xs.length c) xs).H ok [g] w := by
  refine .inr ⟨hc, xs.map bstr, rfl, ⟨by simp [tStr], .inr ⟨g, c, _, rfl, Nat.zero_le _, hg, by omega, hm, ?_, ?_⟩⟩, cells_str xs⟩
  · show _ = c * 1
    simp; omega
  · show List.take (xs.length * 1) _ = _
    simp
theorem insert_own (L : Lays2.n22 P ren) (h9 : ren.t 9 = 9) {xs : List (List UInt8)} {s : List UInt8} {v : Value} {gl k : Nat} (hs : St ok0 w0 w Γ (blk gl 9 [bstr s] :: Λ)) (i : Nat) (hi : Λ[i]? = some (own tStr 9 v xs)) (hk : k ≤ xs.length) (hb : (xs.length + 1) * 16 ≤ 140737488355328) :
    Calls P (ren.f 22) #[v, .int .i64 (k : Nat), .slice (some ⟨gl, 0, none⟩) 1 1] w fun e w' => ∃ v', e = .returned v' ∧ St ok0 w0 w' Γ (Λ.set i (own tStr 9 v' (xs.take k ++ s :: xs.drop k))) := by
  have hgl := hs.blk_at 0 rfl
  have hs2 := hs.freezeB (A := tStr) (x := s) 0 rfl fun _ _ => rfl
  have hs2 : St ok0 w0 w (pl tStr s ⟨gl, 0, none⟩ :: Γ) Λ := hs2
  obtain ⟨ok, bs, ho, hA, hn, hbs, hput⟩ := hs2.split i hi
  have hgok : ok gl := ((hA.get 0 rfl : (pl tStr s ⟨gl, 0, none⟩).holds ok w)).2.1
  have hlt := lt_of_some hgl
  have hvs : ∀ j u, ([bstr s] : List Value)[j]? = some u → w.cell? ⟨gl, 0 + j, none⟩ = some u := by
    intro j u hu
    cases j with
    | zero => rw [blk_cell hgl]; exact hu
    | succ j => simp at hu
  have h1v : ∀ u ∈ ([bstr s] : List Value), u.oneCell' = true := by intro u hu; simp at hu; subst hu; rfl
  have h1c : ∀ u ∈ xs.map bstr, u.oneCell' = true := by intro u hu; obtain ⟨x, _, rfl⟩ := List.mem_map.1 hu; rfl
  have hlen : (xs.take k ++ s :: xs.drop k).length = xs.length + 1 := by simp; omega
  have hmap : (xs.take k ++ s :: xs.drop k).map bstr = (xs.map bstr).take k ++ bstr s :: (xs.map bstr).drop k := by simp
  have fin : ∀ {v' : Value} {bs' : List Nat} {w' : World}, Off bs w w' → bs'.Nodup → (∀ b ∈ bs', (b ∈ bs ∨ w.heap.size ≤ b) ∧ b < w'.heap.size) → (∀ ok', (own tStr 9 v' (xs.take k ++ s :: xs.drop k)).H ok' bs' w') → St ok0 w0 w' Γ (Λ.set i (own tStr 9 v' (xs.take k ++ s :: xs.drop k))) :=
    fun h1 h2 h3 h4 => (hput _ _ _ h1 h2 h3 fun ok' _ => h4 ok').sub fun it hi => List.mem_cons_of_mem _ hi
  -- a new block
  have fresh : ∀ (c' : Nat) (w' : World) (cur : List Value), w'.heap[w.heap.size]? = some (.cells ((xs.take k ++ s :: xs.drop k).map bstr ++ cur).toArray 9 (0, 0)) → Below w.heap.size w w' → xs.length + 1 + cur.length = c' → c' ≤ maxLen →
      St ok0 w0 w' Γ (Λ.set i (own tStr 9 (.slice (some ⟨w.heap.size, 0, none⟩) (xs.length + 1) c') (xs.take k ++ s :: xs.drop k))) := by
    intro c' w' cur h1 h2 h3 h4
    refine fin (bs' := [w.heap.size]) (Off.of_below h2 bs) (by simp) (fun b hb => ?_) fun ok' => ?_
    · simp at hb; subst hb
      exact ⟨.inr (Nat.le_refl _), lt_of_some h1⟩
    · have := own_of (w := w') (g := w.heap.size) (c := c') (xs := xs.take k ++ s :: xs.drop k) (cur := cur) ok' (by omega) h1 (by omega) h4
      rw [hlen] at this
      exact this
  have hge := fun c => grownCap_ge w (xs.length + 1) c (ren.t 9)
  have hle := fun c => grownCap_le_maxLen w (xs.length + 1) c (ren.t 9) (by simp only [maxLen]; omega)
  have hz : ∀ n, (Builtin.zeroCells (Value.string ⟨#[]⟩).cells n).size = n := by intro n; simp [Builtin.zeroCells, Value.cells]
  have endgrow : ∀ (base : Option Addr) (c : Nat), k = xs.length → xs.length ≤ c → c < xs.length + 1 → v = .slice base xs.length c → (base = none → xs.length = 0) → (∀ a, base = some a → ∀ (j : Nat) (u : Value), (xs.map bstr)[j]? = some u → w.cell? (a.add j) = some u) →
      Calls P (ren.f 22) #[v, .int .i64 (k : Nat), .slice (some ⟨gl, 0, none⟩) 1 1] w fun e w' => ∃ v', e = .returned v' ∧ St ok0 w0 w' Γ (Λ.set i (own tStr 9 v' (xs.take k ++ s :: xs.drop k))) := by
    intro base c ek hc1 hc2 ev hnil hcs
    subst ev
    rw [ek]
    refine (Any2.slices_Insert_string_end_grow L base xs.length c gl 0 1 1 (xs.map bstr) [bstr s] w (by omega) hc1 hc2 hb (by simp) rfl hnil hcs hvs h1v).mono ?_
    rintro e w' ⟨rfl, rfl⟩
    refine ⟨_, rfl, ?_⟩
    have := fresh (grownCap w (xs.length + 1) c (ren.t 9)) (cur := (Builtin.zeroCells (Value.string ⟨#[]⟩).cells (grownCap w (xs.length + 1) c (ren.t 9) - (xs.length + 1))).toList) (w' := w.drew.alloc (.cells ((xs.map bstr ++ [bstr s]).toArray ++ Builtin.zeroCells (Value.string ⟨#[]⟩).cells (grownCap w (xs.length + 1) c (ren.t 9) - (xs.length + 1))) (ren.t 9))) ?_ ?_ ?_ (hle c)
    · rw [ek] at this; exact this
    · have := heap_new w.drew (.cells ((xs.map bstr ++ [bstr s]).toArray ++ Builtin.zeroCells (Value.string ⟨#[]⟩).cells (grownCap w (xs.length + 1) c (ren.t 9) - (xs.length + 1))) (ren.t 9))
      rw [drew_heap] at this
      rw [this, hmap, ek, h9]
      have e1 : (xs.map bstr).take xs.length = xs.map bstr := List.take_of_length_le (by simp)
      have e2 : (xs.map bstr).drop xs.length = [] := List.drop_of_length_le (by simp)
      rw [e1, e2]
      congr 2
      simp
    · exact ⟨rfl, rfl, rfl, by simp [size_alloc, drew_heap], fun b hb => (below_alloc w.drew _).block b hb⟩
    · have e3 : ∀ n, (Builtin.zeroCells (Value.string ⟨#[]⟩).cells n).toList.length = n := fun n => by rw [Array.length_toList (xs := Builtin.zeroCells (Value.string ⟨#[]⟩).cells n), hz]
      rw [e3]
      have := hge c
      omega
  rcases own_str ho with ⟨a, rfl, rfl, rfl⟩ | ⟨g, c, cur, rfl, hc0, rfl, hg, hl, hm⟩
  · exact endgrow a 0 (by simpa using hk) (Nat.le_refl _) (by simp) rfl (fun _ => rfl) (by simp)
  · have hne : gl ≠ g := fun e => by
      have := (hbs g (by simp)).1
      rw [e] at hgok
      exact this hgok
    have hcell : ∀ j, w.cell? ⟨g, j, none⟩ = (xs.map bstr ++ cur)[j]? := blk_cell hg
    have hcs0 : ∀ (j : Nat) (u : Value), (xs.map bstr)[j]? = some u → w.cell? ⟨g, 0 + j, none⟩ = some u := by
      intro j u hu
      have hj := (List.getElem?_eq_some_iff.1 hu).1
      rw [Nat.zero_add, hcell, List.getElem?_append_left hj]
      exact hu
    have hgsz : g < w.heap.size := lt_of_some hg
    have hcs1 : ∀ a, some (⟨g, 0, none⟩ : Addr) = some a → ∀ (j : Nat) (u : Value), (xs.map bstr)[j]? = some u → w.cell? (a.add j) = some u := by
      intro a ea j u hu
      cases ea
      rw [addr_add]
      exact hcs0 j u hu
    by_cases hroom : xs.length + 1 ≤ c
    · -- there is room
      have hcur : 0 < cur.length := by omega
      obtain ⟨u0, cur', rfl⟩ : ∃ u0 cur', cur = u0 :: cur' := by
        cases cur with
        | nil => simp at hcur
        | cons u t => exact ⟨u, t, rfl⟩
      have inpl : ∀ (w' : World) (vs : List Value) (j : Nat), w' = setCells (setCells w.drew g j vs) g k [bstr s] ∨ (vs = [] ∧ w' = setCells w g k [bstr s]) → setAt (setAt (xs.map bstr ++ u0 :: cur') j vs) k [bstr s] = (xs.take k ++ s :: xs.drop k).map bstr ++ cur' →
          St ok0 w0 w' Γ (Λ.set i (own tStr 9 (.slice (some ⟨g, 0, none⟩) (xs.length + 1) c) (xs.take k ++ s :: xs.drop k))) := by
        intro w' vs j hw hset
        have hheap : w'.heap[g]? = some (.cells ((xs.take k ++ s :: xs.drop k).map bstr ++ cur').toArray 9 (0, 0)) := by
          rw [← hset]
          rcases hw with rfl | ⟨rfl, rfl⟩
          · exact heap_setCells [bstr s] (heap_setCells vs (w := w.drew) hg)
          · exact heap_setCells [bstr s] hg
        have hoff : Off [g] w w' := by
          rcases hw with rfl | ⟨rfl, rfl⟩
          · exact ((Off.drew [g] w).trans (off_setCells g vs _ _)).trans (off_setCells g [bstr s] _ _)
          · exact off_setCells g [bstr s] _ _
        refine fin (bs' := [g]) hoff (by simp) (fun b hb => ?_) fun ok' => ?_
        · simp at hb; subst hb
          exact ⟨.inl (by simp), lt_of_some hheap⟩
        · have := own_of (w := w') (g := g) (c := c) (xs := xs.take k ++ s :: xs.drop k) (cur := cur') ok' hc0 hheap (by simp at hl ⊢; omega) hm
          rw [hlen] at this
          exact this
      have hfz : ∀ j, w.frozen? ⟨g, j, none⟩ = false := by
        intro j
        simp [World.frozen?, hg]
      rcases Nat.lt_or_ge k xs.length with hk1 | hk1
      · refine (Any2.slices_Insert_string_shift L g 0 xs.length c k gl 0 1 1 (xs.map bstr) [bstr s] w hk1 (by omega) hroom (by unfold maxLen at hm; omega) hne (by simp) rfl hcs0 (fun j hj => ?_) (fun j hj => hfz _) hvs h1c h1v 9 9 1 c ?_ ?_ (by omega) ?_ ?_).mono ?_
        · rw [Nat.zero_add, hcell, List.getElem?_eq_getElem (by simp; omega)]
          rfl
        · simp [World.shape?, hgl]
        · simp [World.shape?, hg]
          simp at hl; omega
        · simp [World.frozen?, hgl]
        · simp [World.frozen?, hgl]
        · rintro e w' ⟨rfl, rfl⟩
          refine ⟨_, rfl, inpl _ ((xs.map bstr).drop k) (k + 1) (.inl ?_) ?_⟩
          · rw [wset_eq, wset_eq, Nat.zero_add, Nat.zero_add]
          · rw [hmap]
            have e1 : setAt (xs.map bstr ++ u0 :: cur') (k + 1) ((xs.map bstr).drop k) = (xs.map bstr ++ u0 :: cur').take (k + 1) ++ (xs.map bstr).drop k ++ (xs.map bstr ++ u0 :: cur').drop (k + 1 + ((xs.map bstr).drop k).length) := setAt_eq _ _ _ (by simp; omega)
            have e2 : (xs.map bstr ++ u0 :: cur').drop (k + 1 + ((xs.map bstr).drop k).length) = cur' := by
              have : k + 1 + ((xs.map bstr).drop k).length = (xs.map bstr).length + 1 := by simp; omega
              rw [this, ← List.drop_drop, List.drop_left]
              rfl
            have e3 : (xs.map bstr ++ u0 :: cur').take (k + 1) = (xs.map bstr).take k ++ [(xs.map bstr)[k]'(by simpa using hk1)] := by
              rw [List.take_append_of_le_length (by simp; omega), List.take_succ_eq_append_getElem (by simpa using hk1)]
            rw [e1, e2, e3, setAt_eq _ _ _ (by simp; omega)]
            have e4 : ((xs.map bstr).take k ++ [(xs.map bstr)[k]'(by simpa using hk1)] ++ (xs.map bstr).drop k ++ cur').take k = (xs.map bstr).take k := by
              rw [List.append_assoc, List.append_assoc, List.take_append_of_le_length (by simp; omega), List.take_of_length_le (by simp; omega)]
            have e5 : ((xs.map bstr).take k ++ [(xs.map bstr)[k]'(by simpa using hk1)] ++ (xs.map bstr).drop k ++ cur').drop (k + 1) = (xs.map bstr).drop k ++ cur' := by
              have hl1 : k + 1 = ((xs.map bstr).take k ++ [(xs.map bstr)[k]'(by simpa using hk1)]).length := by simp; omega
              rw [List.append_assoc, hl1, List.drop_left]
            rw [e4, show k + [bstr s].length = k + 1 from rfl, e5]
            simp
      · have ek : k = xs.length := by omega
        rw [ek]
        refine (Any2.slices_Insert_string_end_room L g 0 xs.length c gl 0 1 1 [bstr s] w (by omega) hroom (by unfold maxLen at hm; omega) rfl (fun j hj => ?_) (fun j hj => hfz _) hvs h1v).mono ?_
        · rw [Nat.zero_add, hcell, List.getElem?_eq_getElem (by simp; omega)]
          rfl
        · rintro e w' ⟨rfl, rfl⟩
          refine ⟨_, rfl, ?_⟩
          have := inpl (World.setCells w g (0 + xs.length) [bstr s]) [] 0 (.inr ⟨rfl, by rw [wset_eq, Nat.zero_add, ek]⟩) ?_
          · rw [ek] at this; exact this
          · rw [hmap, ek]
            show setAt (xs.map bstr ++ u0 :: cur') xs.length [bstr s] = _
            have hl1 : xs.length = (xs.map bstr).length := by simp
            rw [setAt_eq _ _ _ (by simp), hl1, List.take_left, List.take_of_length_le (Nat.le_refl _), List.drop_of_length_le (Nat.le_refl _), show [bstr s].length = 1 from rfl, ← List.drop_drop, List.drop_left]
            simp
    · have hcl : c = xs.length := by omega
      rcases Nat.lt_or_ge k xs.length with hk1 | hk1
      · refine (Any2.slices_Insert_string_grow L g 0 xs.length c k gl 0 1 1 (xs.map bstr) [bstr s] w hk1 (by omega) (by omega) (by omega) hb (by simp) rfl hcs0 hvs h1c h1v).mono ?_
        rintro e w' ⟨rfl, rfl⟩
        refine ⟨_, rfl, ?_⟩
        have hgc := hge c
        obtain ⟨W1, hW1⟩ : ∃ W1, w.alloc (.cells (((xs.map bstr).take k).toArray ++ Builtin.zeroCells (Value.string ⟨#[]⟩).cells (xs.length + 1 - k) ++ Builtin.zeroCells (Value.string ⟨#[]⟩).cells (grownCap w (xs.length + 1) c (ren.t 9) - (xs.length + 1))) (ren.t 9)) = W1 := ⟨_, rfl⟩
        have hn1 := heap_new w (.cells (((xs.map bstr).take k).toArray ++ Builtin.zeroCells (Value.string ⟨#[]⟩).cells (xs.length + 1 - k) ++ Builtin.zeroCells (Value.string ⟨#[]⟩).cells (grownCap w (xs.length + 1) c (ren.t 9) - (xs.length + 1))) (ren.t 9))
        have hb1 := below_alloc w (.cells (((xs.map bstr).take k).toArray ++ Builtin.zeroCells (Value.string ⟨#[]⟩).cells (xs.length + 1 - k) ++ Builtin.zeroCells (Value.string ⟨#[]⟩).cells (grownCap w (xs.length + 1) c (ren.t 9) - (xs.length + 1))) (ren.t 9))
        rw [hW1] at hn1 hb1 ⊢
        rw [wset_eq, wset_eq]
        obtain ⟨Z1, hZ1⟩ : ∃ Z1, (Builtin.zeroCells (Value.string ⟨#[]⟩).cells (xs.length + 1 - k)).toList = Z1 := ⟨_, rfl⟩
        obtain ⟨Z2, hZ2⟩ : ∃ Z2, (Builtin.zeroCells (Value.string ⟨#[]⟩).cells (grownCap w (xs.length + 1) c (ren.t 9) - (xs.length + 1))).toList = Z2 := ⟨_, rfl⟩
        have hz1 : Z1.length = xs.length + 1 - k := by rw [← hZ1, Array.length_toList (xs := Builtin.zeroCells (Value.string ⟨#[]⟩).cells (xs.length + 1 - k)), hz]
        have hz2 : Z2.length = grownCap w (xs.length + 1) c (ren.t 9) - (xs.length + 1) := by rw [← hZ2, Array.length_toList (xs := Builtin.zeroCells (Value.string ⟨#[]⟩).cells (grownCap w (xs.length + 1) c (ren.t 9) - (xs.length + 1))), hz]
        have hn2 : W1.heap[w.heap.size]? = some (.cells ((xs.map bstr).take k ++ Z1 ++ Z2).toArray 9 (0, 0)) := by
          rw [hn1, ← hZ1, ← hZ2, h9]
          simp
        have hl0 : ((xs.map bstr).take k).length = k := by simp; omega
        have hset : setAt (setAt ((xs.map bstr).take k ++ Z1 ++ Z2) k [bstr s]) (k + 1) ((xs.map bstr).drop k) = (xs.take k ++ s :: xs.drop k).map bstr ++ Z2 := by
          have e1 : ((xs.map bstr).take k ++ Z1 ++ Z2).take k = (xs.map bstr).take k := by
            rw [List.append_assoc, List.take_append_of_le_length (by omega), List.take_of_length_le (by omega)]
          have e0 := setAt_eq [bstr s] ((xs.map bstr).take k ++ Z1 ++ Z2) k (by rw [List.length_append, List.length_append, hz1, hl0, List.length_singleton]; omega)
          rw [e1] at e0
          rw [hmap, e0, setAt_eq _ _ _ (by simp only [List.length_append, List.length_drop, List.length_map, List.length_singleton, hz1, hl0]; omega)]
          have e2 : ((xs.map bstr).take k ++ [bstr s] ++ ((xs.map bstr).take k ++ Z1 ++ Z2).drop (k + [bstr s].length)).take (k + 1) = (xs.map bstr).take k ++ [bstr s] := by
            rw [List.take_append_of_le_length (by simp; omega), List.take_of_length_le (by simp; omega)]
          have e3 : ((xs.map bstr).take k ++ [bstr s] ++ ((xs.map bstr).take k ++ Z1 ++ Z2).drop (k + [bstr s].length)).drop (k + 1 + ((xs.map bstr).drop k).length) = Z2 := by
            have q1 : k + 1 = ((xs.map bstr).take k ++ [bstr s]).length := by simp; omega
            rw [← List.drop_drop, q1, List.drop_left, List.drop_drop]
            have q2 : k + [bstr s].length + ((xs.map bstr).drop k).length = ((xs.map bstr).take k ++ Z1).length := by simp [hz1]; omega
            rw [q2, List.drop_left]
          rw [e2, e3]
          simp
        have hheap : (setCells (setCells W1.drew w.heap.size k [bstr s]).drew w.heap.size (k + 1) ((xs.map bstr).drop k)).heap[w.heap.size]? = some (.cells ((xs.take k ++ s :: xs.drop k).map bstr ++ Z2).toArray 9 (0, 0)) := by
          rw [← hset]
          exact heap_setCells _ (w := (setCells W1.drew w.heap.size k [bstr s]).drew) (heap_setCells [bstr s] (w := W1.drew) hn2)
        refine fresh _ _ Z2 hheap ?_ (by rw [hz2]; omega) (hle c)
        have o1 : Off [w.heap.size] W1 (setCells (setCells W1.drew w.heap.size k [bstr s]).drew w.heap.size (k + 1) ((xs.map bstr).drop k)) :=
          ((Off.drew _ W1).trans (off_setCells _ _ _ _)).trans ((Off.drew _ _).trans (off_setCells _ _ _ _))
        exact ⟨o1.os.trans hb1.os, o1.tape.trans hb1.tape, o1.output.trans hb1.output, Nat.le_trans hb1.size o1.size, fun b hb => (o1.block b (Nat.lt_of_lt_of_le hb hb1.size) (by simp; omega)).trans (hb1.block b hb)⟩
      · exact endgrow _ c (by omega) (by omega) (by omega) rfl (by intro h; cases h) hcs1
end
end Go.Proofs.YtlbcfjblpopcnaaL
