/- What the row leans on, as few texts. -/
import Derived.Test.YtpfgdjfiimknlaaGreatQIEQ0
import Derived.Laws.BytesArg
import Derived.Maps.Own
import Derived.Sort.KeysCollected
import Derived.Test.YtpfgdjfiimknlaaGreatProg
import Derived.Shelf.SlIter.Nil
import Derived.Shelf.SortM.Plain
import Derived.Shelf.SortM.SortNone
import Derived.Shelf.Spec.SearchS
import Derived.Shelf.Spec.SlicesInsertGrow
set_option linter.unusedVariables false
set_option linter.unusedSimpArgs false
set_option linter.unusedSectionVars false
set_option linter.unnecessarySimpa false
namespace Go.Proofs.YtpfgdjfiimknlaaGreatL
section
open Go Go.RowKit
open Go.ChangeMaps (setBlock)
section
variable {P : Program} {N : Nat} {Q : QE} {ρ : Env} {w : World} {w0 : Base} {ok0 : Nat → Prop} {Γ : List It} {Λ : List LObj}
variable {d : Option Tmp} {ty : TypeId} {pos : String} {aft : Array Edge} {gd : Option (Nat × Bool)} {ops : Array Oper} {rest : List Oper}
theorem Y0U.drop {α : Type} {A : Ty α} {ok : Nat → Prop} {xs : List α} {cs : List Value} (h : Y0U A ok w xs cs) (l : Nat) (hl : l ≤ xs.length) : Y0U A ok w (xs.drop l) (cs.drop (l * A.sz)) := by
 refine ⟨by rw [List.length_drop, List.length_drop, h.1, Nat.sub_mul], fun j x hx => ?_⟩
 rw [List.getElem?_drop] at hx
 have := h.2 (l + j) x hx
 rw [List.drop_drop, ← Nat.add_mul]
 exact this
def cpyN {α : Type} (xs : List α) (d l : Nat) : List α := xs.take d ++ (xs.drop l).take (Nat.min (xs.length - l) (xs.length - d)) ++ xs.drop (d + Nat.min (xs.length - l) (xs.length - d))
theorem Y5B {α : Type} (xs : List α) (d l : Nat) (hd : d ≤ xs.length) (hl : l ≤ xs.length) : (cpyN xs d l).length = xs.length := by
 unfold cpyN
 have : Nat.min (xs.length - l) (xs.length - d) = min (xs.length - l) (xs.length - d) := rfl
 simp only [List.length_append, List.length_take, List.length_drop]
 omega
theorem WL.copyV {α : Type} {A : Ty α} {T T2 E : TypeId} {agg : Bool} {x y : Operand} {a : Option Addr} {n c D L : Nat} {xs ys : List α} (hs : St ok0 w0 w Γ Λ) (i : Nat) (hi : Λ[i]? = some (own A E (.slice a n c) xs))
  (hT : P.underlying T = some (.slice E)) (hE : TI P E agg A.sz) (hx : ρ.ev x = cutv a D n c A.sz) (hy : ρ.ev y = cutv a L n c A.sz) (hD : D ≤ xs.length) (hL : L ≤ xs.length) (hc : cpyN xs D L = ys)
  (K : ∀ w', St ok0 w0 w' Γ (Λ.set i (own A E (.slice a n c) ys)) → WL P N ops Q rest (putE ρ d (.int .i64 ((Nat.min (xs.length - L) (xs.length - D) : Nat) : Int))) w')
  (hg : Y0C ops ρ ⟨d, .call { callee := .builtin .copy, args := #[x, y], argTypes := #[T, T2] }, ty, pos, aft, gd⟩ = true := by rfl) (hd : fits N d = true := by rfl) :
  WL P N ops Q (⟨d, .call { callee := .builtin .copy, args := #[x, y], argTypes := #[T, T2] }, ty, pos, aft, gd⟩ :: rest) ρ w := by
 obtain rfl := hs.ownLen i hi
 obtain ⟨ok, bs, ho, hA, hn, hbs, hput⟩ := hs.split i hi
 obtain ⟨m, hm⟩ : ∃ m, Nat.min (xs.length - L) (xs.length - D) = m := ⟨_, rfl⟩
 rw [hm] at K
 have hyl := Y5B xs D L hD hL
 rw [hc] at hyl
 unfold cpyN at hc
 rw [hm] at hc
 have hmin : Nat.min (xs.length - L) (xs.length - D) = m := hm
 have hm9 : m ≤ xs.length - L ∧ m ≤ xs.length - D := by rw [← hm]; exact ⟨Nat.min_le_left _ _, Nat.min_le_right _ _⟩
 rcases Nat.eq_zero_or_pos m with h0 | h0
 ·subst h0
  have : ys = xs := by rw [← hc]; simp
  subst this
  have hsame : Λ.set i (own A E (.slice a ys.length c) ys) = Λ := by
   apply List.ext_getElem?
   intro k
   rw [List.getElem?_set]
   by_cases hk : i = k
   ·subst hk
    rw [if_pos rfl, if_pos (List.getElem?_eq_some_iff.1 hi).1, hi]
   ·rw [if_neg hk]
  refine WL.value hg hd (v := .int .i64 ((0 : Nat) : Int)) (w' := w) (Y2H fun cs => ?_) (K w (by rw [hsame]; exact hs))
  rw [List.map_toArray]
  refine Y1K ?_
  show (Builtin.copy_ #[T, T2] ty #[ρ.ev x, ρ.ev y]).run P w = _
  rw [hx, hy]
  unfold Builtin.copy_ cutv
  refine (Y0o (Y2d hT w)).trans ?_
  simp only [Builtin.lenOf]
  refine (Y0o (Y7B P w _)).trans ?_
  rw [hmin]
  refine (Y0o (hE.size_ w)).trans ?_
  generalize (if c = D then a else Option.map (fun x => x.add (D * A.sz)) a) = a1
  generalize (if c = L then a else Option.map (fun x => x.add (L * A.sz)) a) = a2
  have h1 : (Builtin.firstCells A.sz 0 (.slice a2 (ys.length - L) (c - L))).run P w = .ok #[] w := by
   unfold Builtin.firstCells
   cases a2 with
   | none => rfl
   | some ad => rw [Nat.zero_mul]; rfl
  refine (Y0o h1).trans ?_
  cases a1 <;> rfl
 obtain ⟨g, c', cur, e, hb, hgh, hc', hmx, hsz, hC⟩ := Y2Z ho (by omega)
 cases e
 have hcD : c ≠ D := by omega
 have hcL : c ≠ L := by omega
 have hDm : D + m ≤ xs.length := by omega
 have hLm : L + m ≤ xs.length := by omega
 have hDs : D * A.sz + m * A.sz ≤ xs.length * A.sz := by rw [← Nat.add_mul]; exact Nat.mul_le_mul_right _ hDm
 have hLs : L * A.sz + m * A.sz ≤ xs.length * A.sz := by rw [← Nat.add_mul]; exact Nat.mul_le_mul_right _ hLm
 have hcur : xs.length * A.sz ≤ cur.size := by rw [hsz]; exact Nat.mul_le_mul_right _ hc'
 generalize hCC : cur.toList.take (xs.length * A.sz) = C at hC
 have hCl : C.length = xs.length * A.sz := hC.1
 have hmid : Y0U A ok w ((xs.drop L).take m) ((C.drop (L * A.sz)).take (m * A.sz)) := (hC.drop L hL).take m (by rw [List.length_drop]; omega)
 generalize hvs : (C.drop (L * A.sz)).take (m * A.sz) = vs at hmid
 have hvl : vs.length = m * A.sz := by rw [← hvs, List.length_take, List.length_drop, hCl]; omega
 have hone : ∀ v ∈ vs, v.oneCell' = true := hmid.one_
 have hload : ∀ k u, vs[k]? = some u → w.cell? ⟨g, L * A.sz + 0 + k, none⟩ = some u := by
  intro k u hu
  have hk : k < m * A.sz := by rw [← hvl]; exact (List.getElem?_eq_some_iff.1 hu).1
  rw [← hvs, List.getElem?_take, if_pos hk, List.getElem?_drop, ← hCC, List.getElem?_take, if_pos (by omega)] at hu
  simp only [World.cell?, hgh, Nat.add_zero]
  simpa using hu
 have hl := Y2S (P := P) (w := w) g (L * A.sz) (m * A.sz) 0 #[] vs hvl hload
 have hst := Y2v (P := P) (g := g) (T := E) (D * A.sz) vs 0 w cur.toList hone (by simpa using hgh) (by rw [Nat.add_zero, hvl, Array.length_toList (xs := cur)]; omega)
 have hnew := Y2Y hgh (D * A.sz) vs
 refine WL.value hg hd (v := .int .i64 ((m : Nat) : Int)) (w' := setCells w g (D * A.sz) vs) (Y2H fun cs => ?_) (K _ ?_)
 ·rw [List.map_toArray]
  refine Y1K ?_
  show (Builtin.copy_ #[T, T2] ty #[ρ.ev x, ρ.ev y]).run P w = _
  rw [hx, hy]
  unfold Builtin.copy_ cutv
  rw [if_neg hcD, if_neg hcL]
  refine (Y0o (Y2d hT w)).trans ?_
  simp only [Builtin.lenOf]
  refine (Y0o (Y7B P w _)).trans ?_
  rw [hmin]
  refine (Y0o (hE.size_ w)).trans ?_
  have h1 : (Builtin.firstCells A.sz m (.slice (Option.map (fun x : Addr => x.add (L * A.sz)) (some (⟨g, 0, none⟩ : Addr))) (xs.length - L) (c - L))).run P w = .ok vs.toArray w := by
   unfold Builtin.firstCells
   simp only [Option.map_some, Y27, Nat.zero_add]
   unfold loadCells
   simpa using hl
  refine (Y0o h1).trans ?_
  simp only [Option.map_some, Y27, Nat.zero_add]
  exact (Y0o hst).trans rfl
 ·refine hput _ [g] _ (by rw [hb]; exact Y1J g vs w _) (by simp) (fun b hb' => ?_) fun ok' hm' => ?_
  ·simp at hb'; subst hb'
   refine ⟨.inl (by rw [hb]; simp), ?_⟩
   exact Y0K hnew
  ·have hC' : Y0U A ok' (setCells w g (D * A.sz) vs) xs C := hC.move hm'
   have hmid' : Y0U A ok' (setCells w g (D * A.sz) vs) ((xs.drop L).take m) vs := hmid.move hm'
   have hall : Y0U A ok' (setCells w g (D * A.sz) vs) ys (C.take (D * A.sz) ++ vs ++ C.drop ((D + m) * A.sz)) := by
    rw [← hc]
    exact ((hC'.take D (by omega)).app hmid').app (hC'.drop (D + m) hDm)
   have htk : (Y2K cur.toList (D * A.sz) vs).take (xs.length * A.sz) = C.take (D * A.sz) ++ vs ++ C.drop ((D + m) * A.sz) := by
    rw [Y3W _ _ _ _ (by rw [hvl]; exact hDs), hCC, Y2r _ _ _ (by rw [hvl, hCl]; exact hDs), hvl, Nat.add_mul]
   refine .inr ⟨by show 0 < c; omega, _, by simp [Value.ownBlock], ⟨hall.1, .inr ⟨g, c, _, by rw [hyl], Nat.zero_le _, hnew, by rw [hyl]; exact hc', hmx, by simp [Y2E, hsz], ?_⟩⟩, hall⟩
   rw [hyl]
   simpa using htk
variable {κ β : Type} [BEq κ] [LawfulBEq κ] {kv : κ → Value} {V : Ty β}
end
end
section
open Go Go.RowKit
section
variable {P : Program} {N : Nat} {Q : QE} {ρ : Env} {w : World} {w0 : Base} {ok0 : Nat → Prop} {Γ : List It} {Λ : List LObj}
variable {d : Option Tmp} {ty : TypeId} {pos : String} {aft : Array Edge} {gd : Option (Nat × Bool)} {ops : Array Oper} {rest : List Oper}
variable {κ β : Type} [BEq κ] [LawfulBEq κ] {kv : κ → Value} {V : Ty β}
end
end
section
open Go Go.RowKit
section
variable {P : Program} {N : Nat} {ops : Array Oper} {Q : QE} {ρ : Env} {w : World} {w0 : Base} {rest : List Oper} {d : Option Tmp} {ty : TypeId} {pos : String} {aft : Array Edge} {gd : Option (Nat × Bool)} {ok0 : Nat → Prop} {Γ : List It} {Λ : List LObj}
end
end
section
open Go Go.RowKit
def Y2i : Ty Value where
 sz := 1
 agg := false
 R := fun _ _ x cs => cs = [x] ∧ x.oneCell' = true
 len := by rintro _ _ _ _ ⟨rfl, _⟩; rfl
 one := by rintro _ _ _ _ ⟨rfl, h⟩ u hu; simp at hu; subst hu; exact h
 move := fun h _ => h
def tRaw (n : Nat) : Ty (List Value) where
 sz := n
 agg := true
 R := fun _ _ x cs => cs = x ∧ x.length = n ∧ ∀ u ∈ x, u.oneCell' = true
 len := by rintro _ _ _ _ ⟨rfl, h, _⟩; exact h
 one := by rintro _ _ _ _ ⟨rfl, _, h⟩; exact h
 move := fun h _ => h
theorem Y2A {ok : Nat → Prop} {w : World} {x v : Value} : Y2i.V ok w x v ↔ v = x ∧ x.oneCell' = true :=
 ⟨by rintro ⟨_, ⟨rfl, h⟩, e⟩; exact ⟨e, h⟩, by rintro ⟨rfl, h⟩; exact ⟨[v], ⟨rfl, h⟩, rfl⟩⟩
theorem Y4m {n : Nat} {ok : Nat → Prop} {w : World} {x : List Value} {v : Value} : (tRaw n).V ok w x v ↔ v = .agg x.toArray ∧ x.length = n ∧ ∀ u ∈ x, u.oneCell' = true :=
 ⟨by rintro ⟨_, ⟨rfl, h⟩, e⟩; exact ⟨e, h⟩, by rintro ⟨rfl, h⟩; exact ⟨x, ⟨rfl, h⟩, rfl⟩⟩
section
variable {w : World} {w0 : Base} {ok0 : Nat → Prop} {Γ : List It} {Λ : List LObj}
theorem St.cellv (hs : St ok0 w0 w Γ Λ) (i : Nat) {x v : Value} (hi : Γ[i]? = some (vl Y2i x v)) : v = x := by
 obtain ⟨ok, h⟩ := hs.get i hi
 exact (Y2A.1 h).1
theorem St.rawv (hs : St ok0 w0 w Γ Λ) (i : Nat) {n : Nat} {x : List Value} {v : Value} (hi : Γ[i]? = some (vl (tRaw n) x v)) : v = .agg x.toArray := by
 obtain ⟨ok, h⟩ := hs.get i hi
 exact (Y4m.1 h).1
end
section
variable {P : Program} {N : Nat} {Q : QE} {ρ : Env} {w : World} {w0 : Base} {ok0 : Nat → Prop} {Γ : List It} {Λ : List LObj}
variable {d : Option Tmp} {ty : TypeId} {pos : String} {aft : Array Edge} {gd : Option (Nat × Bool)} {ops : Array Oper} {rest : List Oper}
end
end
section
open Go Go.RowKit
structure FK (φ : Type) where
 n : Nat
 E : TypeId
 fc : φ → Value → List Value
 fe : φ → List (List UInt8)
 nm : φ → List UInt8
 inj : ∀ {x v x' v'}, fc x v = fc x' v' → v = v'
def fpV (v : Value) : List Nat := if Y6r v = 0 then [] else v.ownBlock.toList
theorem Y7F {α : Type} {T : Ty α} {E : TypeId} {v : Value} {xs : List α} {ok : Nat → Prop} {bs : List Nat} {w : World} (h : (own T E v xs).H ok bs w) : bs = fpV v := by
 unfold fpV
 rcases h with ⟨h0, h1, _⟩ | ⟨h0, _, h1, _⟩
 ·rw [if_pos h0, h1]
 ·rw [if_neg (by omega), h1]
theorem Ents.inj_ {κ β : Type} {kv : κ → Value} {V : Ty β} {ok ok' : Nat → Prop} {w : World} (hk : ∀ {a b}, kv a = kv b → a = b) (hV : ∀ {x y v}, V.V ok w x v → V.V ok' w y v → x = y) :
  ∀ {l l' : List (κ × β)} {es : List MapEntry}, Ents kv V ok w l es → Ents kv V ok' w l' es → l = l'
 | [], [], [], _, _ => rfl
 | x :: l, y :: l', e :: es, ⟨h1, h2, h3⟩, ⟨k1, k2, k3⟩ => by
  have e1 : x.1 = y.1 := hk (h1.symm.trans k1)
  have e2 : x.2 = y.2 := hV h2 k2
  rw [Ents.inj_ hk hV h3 k3, Prod.ext e1 e2]
 | [], _ :: _, [], _, h => h.elim
 | [], _, _ :: _, h, _ => h.elim
 | _ :: _, _, [], h, _ => h.elim
 | _ :: _, [], _ :: _, _, h => h.elim
theorem Y6k {a b : List UInt8} (h : bstr a = bstr b) : a = b := by
 unfold bstr at h
 have := Value.string.inj h
 simpa using this
section
variable {φ : Type} (K : FK φ)
abbrev BE (φ : Type) := List UInt8 × Nat × List (φ × Value)
def inP (o : BE φ) : List (LObj × List Nat) := (mapo bstr (tRaw K.n) o.2.1 (o.2.2.map fun e => (K.nm e.1, K.fc e.1 e.2)), [o.2.1]) :: o.2.2.map fun e => (own tStr K.E e.2 (K.fe e.1), fpV e.2)
def bldP (g : Nat) (b : List (BE φ)) : List (LObj × List Nat) := (mapo bstr Y2i g (b.map fun o => (o.1, Value.map (some o.2.1))), [g]) :: b.flatMap (inP K)
def bldL (g : Nat) (b : List (BE φ)) : List LObj := (bldP K g b).map (·.1)
def cont (b : List (BE φ)) : List (List UInt8 × List φ) := b.map fun o => (o.1, o.2.2.map (·.1))
theorem Own.eqs {ok : Nat → Prop} {w : World} : ∀ {L : List (LObj × List Nat)} {bss : List (List Nat)}, (∀ p ∈ L, ∀ ok bs w, p.1.H ok bs w → bs = p.2) → Own ok w (L.map (·.1)) bss → bss = L.map (·.2)
 | [], [], _, _ => rfl
 | p :: L, bs :: bss, h, ⟨h1, h2⟩ => by
  rw [List.map_cons, h p (by simp) _ _ _ h1, Own.eqs (fun q hq => h q (by simp [hq])) h2]
 | [], _ :: _, _, h => h.elim
 | _ :: _, [], _, h => h.elim
theorem Own.mem {ok : Nat → Prop} {w : World} : ∀ {L : List (LObj × List Nat)} {bss : List (List Nat)}, Own ok w (L.map (·.1)) bss → ∀ p ∈ L, ∃ bs, p.1.H ok bs w
 | [], _, _, p, hp => by simp at hp
 | q :: L, bs :: bss, ⟨h1, h2⟩, p, hp => by
  rcases List.mem_cons.1 hp with rfl | hp
  ·exact ⟨bs, h1⟩
  ·exact Own.mem h2 p hp
 | _ :: _, [], h, _, _ => h.elim
theorem Y99 (g : Nat) (b : List (BE φ)) : ∀ p ∈ bldP K g b, ∀ ok bs w, p.1.H ok bs w → bs = p.2 := by
 intro p hp ok bs w h
 unfold bldP at hp
 rcases List.mem_cons.1 hp with rfl | hp
 ·exact h.1
 ·obtain ⟨o, _, ho⟩ := List.mem_flatMap.1 hp
  unfold inP at ho
  rcases List.mem_cons.1 ho with rfl | ho
  ·exact h.1
  ·obtain ⟨e, _, rfl⟩ := List.mem_map.1 ho
   exact Y7F h
theorem Y7K {β : Type} {V : Ty β} {g : Nat} {l l' : List (List UInt8 × β)} {ok ok' : Nat → Prop} {bs bs' : List Nat} {w : World} (hV : ∀ {x y v}, V.V ok w x v → V.V ok' w y v → x = y) (h : (mapo bstr V g l).H ok bs w) (h' : (mapo bstr V g l').H ok' bs' w) : l = l' := by
 obtain ⟨_, es, c, h1, h2, _⟩ := h
 obtain ⟨_, es', c', k1, k2, _⟩ := h'
 rw [h1] at k1
 cases k1
 exact Ents.inj_ Y6k hV h2 k2
theorem Y7l {ok ok' : Nat → Prop} {w : World} : ∀ (b b' : List (BE φ)), (b.map fun o => (o.1, Value.map (some o.2.1))) = (b'.map fun o => (o.1, Value.map (some o.2.1))) →
  (∀ o ∈ b, ∃ bs, (mapo bstr (tRaw K.n) o.2.1 (o.2.2.map fun e => (K.nm e.1, K.fc e.1 e.2))).H ok bs w) → (∀ o ∈ b', ∃ bs, (mapo bstr (tRaw K.n) o.2.1 (o.2.2.map fun e => (K.nm e.1, K.fc e.1 e.2))).H ok' bs w) →
  (b.flatMap (inP K)).map (·.2) = (b'.flatMap (inP K)).map (·.2)
 | [], [], _, _, _ => rfl
 | o :: b, o' :: b', he, h, h' => by
  rw [List.map_cons, List.map_cons] at he
  have e1 := (List.cons.inj he).1
  have e2 := (List.cons.inj he).2
  have eid : o.2.1 = o'.2.1 := by
   have := congrArg Prod.snd e1
   simpa using this
  obtain ⟨bs, hb⟩ := h o (by simp)
  obtain ⟨bs', hb'⟩ := h' o' (by simp)
  rw [eid] at hb
  have el := Y7K (fun {x y v} hx hy => by
   have a := (Y4m.1 hx).1
   have c := (Y4m.1 hy).1
   rw [a] at c
   have := Value.agg.inj c
   simpa using this) hb hb'
  have ev : o.2.2.map (fun e => fpV e.2) = o'.2.2.map (fun e => fpV e.2) := by
   have : o.2.2.map (fun e => e.2) = o'.2.2.map (fun e => e.2) := by
    have key : ∀ (l l' : List (φ × Value)), (l.map fun e => (K.nm e.1, K.fc e.1 e.2)) = (l'.map fun e => (K.nm e.1, K.fc e.1 e.2)) → l.map (fun e => e.2) = l'.map (fun e => e.2) := by
     intro l
     induction l with
     | nil => intro l' hl; cases l' with
      | nil => rfl
      | cons a t => simp at hl
     | cons a t ih => intro l' hl; cases l' with
      | nil => simp at hl
      | cons a' t' =>
       rw [List.map_cons, List.map_cons] at hl
       have q1 := (List.cons.inj hl).1
       have q2 := (List.cons.inj hl).2
       rw [List.map_cons, List.map_cons, ih t' q2, K.inj (congrArg Prod.snd q1)]
    exact key _ _ el
   have := congrArg (List.map fpV) this
   rw [List.map_map, List.map_map] at this
   exact this
  have ih := Y7l b b' e2 (fun q hq => h q (by simp [hq])) (fun q hq => h' q (by simp [hq]))
  rw [List.flatMap_cons, List.flatMap_cons, List.map_append, List.map_append, ih]
  unfold inP
  simp only [List.map_cons, List.map_map]
  rw [eid]
  congr 2
 | [], _ :: _, he, _, _ => by simp at he
 | _ :: _, [], he, _, _ => by simp at he
def bldc (C : List (BE φ) → Prop) (g : Nat) (x : List (List UInt8 × List φ)) : LObj where
 H := fun ok bs w => ∃ (b : List (BE φ)) (bss : List (List Nat)), (C b ∧ cont b = x) ∧ bs = bss.flatten ∧ bss.flatten.Nodup ∧ Own ok w (bldL K g b) bss
 fn := by
  rintro ok ok' bs bs' w ⟨b, bss, _, rfl, _, h⟩ ⟨b', bss', _, rfl, _, h'⟩
  have e1 := Own.eqs (Y99 K g b) h
  have e2 := Own.eqs (Y99 K g b') h'
  have m1 := Own.mem h
  have m2 := Own.mem h'
  rw [e1, e2]
  congr 1
  obtain ⟨_, q1⟩ := m1 _ (List.mem_cons_self ..)
  obtain ⟨_, q2⟩ := m2 _ (List.mem_cons_self ..)
  have el := Y7K (fun {x y v} hx hy => (Y2A.1 hx).1.symm.trans (Y2A.1 hy).1) q1 q2
  have key := Y7l (ok := ok) (ok' := ok') (w := w) K b b' el (fun o ho => ?_) (fun o ho => ?_)
  ·show [g] :: (b.flatMap (inP K)).map (·.2) = [g] :: (b'.flatMap (inP K)).map (·.2)
   rw [key]
  ·exact m1 (mapo bstr (tRaw K.n) o.2.1 (o.2.2.map fun e => (K.nm e.1, K.fc e.1 e.2)), [o.2.1]) (List.mem_cons_of_mem _ (List.mem_flatMap.2 ⟨o, ho, List.mem_cons_self ..⟩))
  ·exact m2 (mapo bstr (tRaw K.n) o.2.1 (o.2.2.map fun e => (K.nm e.1, K.fc e.1 e.2)), [o.2.1]) (List.mem_cons_of_mem _ (List.mem_flatMap.2 ⟨o, ho, List.mem_cons_self ..⟩))
 lt := by
  rintro ok bs w ⟨b, bss, _, rfl, _, h⟩ k hk
  exact h.lt k hk
 move := by
  rintro ok ok' bs w w' ⟨b, bss, hc, rfl, hn, h⟩ hk hm
  exact ⟨b, bss, hc, rfl, hn, h.move hm hk⟩
abbrev bldo (g : Nat) (x : List (List UInt8 × List φ)) : LObj := bldc K (fun _ => True) g x
def At (k : List UInt8) (gi : Nat) (b : List (BE φ)) : Prop := (b.map fun o => (o.1, Value.map (some o.2.1))).lookup k = some (Value.map (some gi))
theorem Own.both {ok : Nat → Prop} {w : World} : ∀ {A B : List LObj} {a b : List (List Nat)}, Own ok w A a → Own ok w B b → Own ok w (A ++ B) (a ++ b)
 | [], _, [], _, _, h => h
 | _ :: _, _, _ :: _, _, ⟨h1, h2⟩, h => ⟨h1, Own.both h2 h⟩
 | [], _, _ :: _, _, h, _ => h.elim
 | _ :: _, _, [], _, h, _ => h.elim
theorem Own.part {ok : Nat → Prop} {w : World} : ∀ {A B : List LObj} {c : List (List Nat)}, Own ok w (A ++ B) c → ∃ a b, c = a ++ b ∧ Own ok w A a ∧ Own ok w B b
 | [], _, c, h => ⟨[], c, rfl, trivial, h⟩
 | _ :: A, B, bs :: c, ⟨h1, h2⟩ => by
  obtain ⟨a, b, rfl, ha, hb⟩ := Own.part h2
  exact ⟨bs :: a, b, rfl, ⟨h1, ha⟩, hb⟩
 | _ :: _, _, [], h => h.elim
variable {w : World} {w0 : Base} {ok0 : Nat → Prop} {Γ : List It} {Λ : List LObj} {g : Nat} {x : List (List UInt8 × List φ)} {b : List (BE φ)} {C : List (BE φ) → Prop}
theorem St.bldOpen (hs : St ok0 w0 w Γ (bldc K C g x :: Λ)) : ∃ b, (C b ∧ cont b = x) ∧ St ok0 w0 w Γ (bldL K g b ++ Λ) := by
 obtain ⟨hB, bss, hN, hlt, hO, hA⟩ := hs
 match bss, hO with
 | [], h => exact h.elim
 | bs :: bss, hO =>
  obtain ⟨⟨b, bs1, hc, e0, hn, h1⟩, h2⟩ := hO
  subst e0
  have e : (bs1 ++ bss).flatten = (bs1.flatten :: bss).flatten := by simp
  exact ⟨b, hc, hB, bs1 ++ bss, by rw [e]; exact hN, by rw [e]; exact hlt, by rw [e]; exact Own.both h1 h2, by rw [e]; exact hA⟩
theorem St.bldClose (hs : St ok0 w0 w Γ (bldL K g b ++ Λ)) (hC : C b) (hc : cont b = x) : St ok0 w0 w Γ (bldc K C g x :: Λ) := by
 obtain ⟨hB, bss, hN, hlt, hO, hA⟩ := hs
 obtain ⟨a, c, rfl, ha, hcc⟩ := Own.part hO
 have e : (a.flatten :: c).flatten = (a ++ c).flatten := by simp
 refine ⟨hB, a.flatten :: c, by rw [e]; exact hN, by rw [e]; exact hlt, ⟨⟨b, a, ⟨hC, hc⟩, rfl, ?_, by rw [e]; exact ha⟩, by rw [e]; exact hcc⟩, by rw [e]; exact hA⟩
 rw [List.flatten_append] at hN
 exact (List.nodup_append.1 hN).1
def outL (b : List (BE φ)) : List (List UInt8 × Value) := b.map fun o => (o.1, Value.map (some o.2.1))
def inL (o : BE φ) : List LObj := (inP K o).map (·.1)
def Y35 (b : List (BE φ)) : List LObj := (b.flatMap (inP K)).map (·.1)
theorem Y3U (b : List (BE φ)) : bldL K g b = mapo bstr Y2i g (outL b) :: Y35 K b := rfl
theorem Y31 (b1 b2 : List (BE φ)) (o : BE φ) : (Y35 K (b1 ++ o :: b2)).Perm (inL K o ++ Y35 K (b1 ++ b2)) := by
 unfold Y35 inL
 rw [List.flatMap_append, List.flatMap_cons, List.flatMap_append, List.map_append, List.map_append, List.map_append]
 exact List.perm_append_comm_assoc _ _ _
theorem Y6j {b : List (BE φ)} {k : List UInt8} {fs : List φ} (h : (cont b).lookup k = some fs) : ∃ b1 o b2, b = b1 ++ o :: b2 ∧ o.1 = k ∧ o.2.2.map (·.1) = fs ∧ (outL b).lookup k = some (Value.map (some o.2.1)) ∧ ∀ q ∈ b1, q.1 ≠ k := by
 induction b with
 | nil => simp [cont] at h
 | cons o b ih =>
  unfold cont at h
  rw [List.map_cons, List.lookup_cons] at h
  cases hk : k == o.1 with
  | true =>
   rw [hk] at h
   have e : k = o.1 := by simpa using hk
   refine ⟨[], o, b, rfl, e.symm, by simpa using h, ?_, by simp⟩
   unfold outL
   rw [List.map_cons, List.lookup_cons, hk]
  | false =>
   rw [hk] at h
   obtain ⟨b1, q, b2, rfl, h1, h2, h3, h4⟩ := ih h
   refine ⟨o :: b1, q, b2, rfl, h1, h2, ?_, fun r hr => ?_⟩
   ·unfold outL at h3 ⊢
    rw [List.map_cons, List.lookup_cons, hk]
    exact h3
   ·rcases List.mem_cons.1 hr with rfl | hr
    ·intro e
     rw [e] at hk
     simp at hk
    ·exact h4 r hr
theorem Y3T {b : List (BE φ)} {k : List UInt8} (h : (cont b).lookup k = none) : (outL b).lookup k = none := by
 induction b with
 | nil => rfl
 | cons o b ih =>
  unfold cont at h
  unfold outL
  rw [List.map_cons, List.lookup_cons] at h ⊢
  cases hk : k == o.1 with
  | true => rw [hk] at h; simp at h
  | false =>
   rw [hk] at h
   exact ih h
variable {P : Program} {N : Nat} {Q : QE} {ρ : Env} {d : Option Tmp} {ty : TypeId} {pos : String} {aft : Array Edge} {gd : Option (Nat × Bool)} {ops : Array Oper} {rest : List Oper}
theorem WL.bldLook {t kt et : TypeId} {m xo : Operand} {k : List UInt8} (hs : St ok0 w0 w Γ (bldc K C g x :: Λ)) (hk : KK P kt bstr) (ht : P.underlying t = some (.map kt et)) (hm : ρ.ev m = .map (some g)) (hx : ρ.ev xo = bstr k) (hz : ∀ w, (zeroValue et).run P w = .ok (.map none) w)
  (K0 : x.lookup k = none → St ok0 w0 w Γ (bldc K C g x :: Λ) → WL P N ops Q rest (putE ρ d (.map none)) w)
  (K1 : ∀ fs gi, x.lookup k = some fs → St ok0 w0 w Γ (bldc K (At k gi) g x :: Λ) → WL P N ops Q rest (putE ρ d (.map (some gi))) w)
  (hg : Y0C ops ρ ⟨d, .lookup t m xo false, ty, pos, aft, gd⟩ = true := by rfl) (hd : fits N d = true := by rfl) :
  WL P N ops Q (⟨d, .lookup t m xo false, ty, pos, aft, gd⟩ :: rest) ρ w := by
 obtain ⟨b, ⟨hC, hc⟩, h1⟩ := hs.bldOpen
 have h2 : St ok0 w0 w Γ (mapo bstr Y2i g (outL b) :: (Y35 K b ++ Λ)) := h1
 refine WL.lookup (V := Y2i) (z0 := Value.map none) h2 0 rfl hk ht hm hx hz (fun _ _ => Y2A.2 ⟨rfl, rfl⟩) rfl (fun v h3 => ?_) hg hd
 have hv := h3.cellv 0 rfl
 have h4 : St ok0 w0 w Γ (bldL K g b ++ Λ) := h3.sub fun it hi => List.mem_cons_of_mem _ hi
 subst hc
 cases hl : (cont b).lookup k with
 | none =>
  rw [Y3T hl] at hv
  rw [hv]
  exact K0 hl hs
 | some fs =>
  obtain ⟨b1, o, b2, rfl, e1, e2, e3, e4⟩ := Y6j hl
  rw [e3] at hv
  rw [hv]
  exact K1 fs o.2.1 hl (St.bldClose (K := K) (C := At k o.2.1) h4 e3 rfl)
theorem Y2w {κ β : Type} [BEq κ] {k : κ} {y : β} : ∀ {l : List (κ × β)}, l.lookup k = none → mset l k y = l ++ [(k, y)]
 | [], _ => rfl
 | e :: l, h => by
  rw [List.lookup_cons] at h
  cases hk : k == e.1 with
  | true => rw [hk] at h; simp at h
  | false =>
   rw [hk] at h
   rw [mset, hk, if_neg (by simp), Y2w h]
   rfl
theorem at_snoc {b : List (BE φ)} {k : List UInt8} {gi : Nat} {l : List (φ × Value)} (h : (outL b).lookup k = none) : At k gi (b ++ [(k, gi, l)]) := by
 induction b with
 | nil =>
  show List.lookup k [(k, Value.map (some gi))] = _
  rw [List.lookup_cons]
  simp
 | cons o b ih =>
  unfold outL at h
  rw [List.map_cons, List.lookup_cons] at h
  unfold At
  rw [List.cons_append, List.map_cons, List.lookup_cons]
  cases hk : k == o.1 with
  | true => rw [hk] at h; simp at h
  | false =>
   rw [hk] at h
   exact ih h
theorem WL.bldPut {t kt et : TypeId} {m xo u : Operand} {k : List UInt8} {gi : Nat} (hs : St ok0 w0 w Γ (mapo bstr (tRaw K.n) gi [] :: bldc K C g x :: Λ)) (hk : KK P kt bstr) (ht : P.underlying t = some (.map kt et)) (hm : ρ.ev m = .map (some g)) (hx : ρ.ev xo = bstr k) (hu : ρ.ev u = .map (some gi)) (hn : x.lookup k = none)
  (K1 : ∀ w', St ok0 w0 w' Γ (bldc K (At k gi) g (x ++ [(k, [])]) :: Λ) → WL P N ops Q rest (putE ρ d undef) w')
  (hg : Y0C ops ρ ⟨d, .mapUpdate t m xo u, ty, pos, aft, gd⟩ = true := by rfl) (hd : fits N d = true := by rfl) :
  WL P N ops Q (⟨d, .mapUpdate t m xo u, ty, pos, aft, gd⟩ :: rest) ρ w := by
 obtain ⟨b, ⟨hC, hc⟩, h1⟩ := (hs.perm (List.Perm.swap _ _ _)).bldOpen
 subst hc
 have h2 : St ok0 w0 w Γ (mapo bstr Y2i g (outL b) :: (Y35 K b ++ (mapo bstr (tRaw K.n) gi [] :: Λ))) := h1
 refine WL.mapUpdate (V := Y2i) (y := Value.map (some gi)) h2 0 rfl hk ht hm hx hu (fun _ _ => Y2A.2 ⟨rfl, rfl⟩) (Y2w (Y3T hn)) (fun w' h3 => ?_) hg hd
 refine K1 w' (St.bldClose (K := K) (b := b ++ [(k, gi, [])]) ?_ (at_snoc (Y3T hn)) (by unfold cont; rw [List.map_append]; rfl))
 have e1 : bldL K g (b ++ [(k, gi, [])]) = mapo bstr Y2i g (outL b ++ [(k, Value.map (some gi))]) :: (Y35 K b ++ [mapo bstr (tRaw K.n) gi []]) := by
  rw [Y3U]
  unfold outL Y35
  rw [List.map_append, List.flatMap_append, List.map_append]
  rfl
 rw [e1, List.cons_append, List.append_assoc]
 exact h3
theorem Own.same {ok ok' : Nat → Prop} : ∀ {R : List LObj} {a b : List (List Nat)}, Own ok w R a → Own ok' w R b → a = b
 | [], [], [], _, _ => rfl
 | o :: R, x :: a, y :: b, ⟨h1, h2⟩, ⟨k1, k2⟩ => by rw [o.fn h1 k1, Own.same h2 k2]
 | [], _ :: _, _, h, _ => h.elim
 | [], [], _ :: _, _, h => h.elim
 | _ :: _, [], _, h, _ => h.elim
 | _ :: _, _ :: _, [], _, h => h.elim
def allo (R : List LObj) : LObj where
 H := fun ok bs w => ∃ bss : List (List Nat), bs = bss.flatten ∧ bss.flatten.Nodup ∧ Own ok w R bss
 fn := by
  rintro ok ok' bs bs' w ⟨a, rfl, _, h⟩ ⟨b, rfl, _, h'⟩
  rw [Own.same h h']
 lt := by
  rintro ok bs w ⟨a, rfl, _, h⟩ k hk
  exact h.lt k hk
 move := by
  rintro ok ok' bs w w' ⟨a, rfl, hn, h⟩ hk hm
  exact ⟨a, rfl, hn, h.move hm hk⟩
theorem St.allOpen {R : List LObj} (hs : St ok0 w0 w Γ (allo R :: Λ)) : St ok0 w0 w Γ (R ++ Λ) := by
 obtain ⟨hB, bss, hN, hlt, hO, hA⟩ := hs
 match bss, hO with
 | [], h => exact h.elim
 | bs :: bss, hO =>
  obtain ⟨⟨bs1, e0, hn, h1⟩, h2⟩ := hO
  subst e0
  have e : (bs1 ++ bss).flatten = (bs1.flatten :: bss).flatten := by simp
  exact ⟨hB, bs1 ++ bss, by rw [e]; exact hN, by rw [e]; exact hlt, by rw [e]; exact Own.both h1 h2, by rw [e]; exact hA⟩
theorem St.allClose {R : List LObj} (hs : St ok0 w0 w Γ (R ++ Λ)) : St ok0 w0 w Γ (allo R :: Λ) := by
 obtain ⟨hB, bss, hN, hlt, hO, hA⟩ := hs
 obtain ⟨a, c, rfl, ha, hcc⟩ := Own.part hO
 have e : (a.flatten :: c).flatten = (a ++ c).flatten := by simp
 refine ⟨hB, a.flatten :: c, by rw [e]; exact hN, by rw [e]; exact hlt, ⟨⟨a, rfl, ?_, by rw [e]; exact ha⟩, by rw [e]; exact hcc⟩, by rw [e]; exact hA⟩
 rw [List.flatten_append] at hN
 exact (List.nodup_append.1 hN).1
structure Hole (φ : Type) where
 b1 : List (BE φ)
 k : List UInt8
 gi : Nat
 f1 : List (φ × Value)
 y : φ
 v : Value
 f2 : List (φ × Value)
 b2 : List (BE φ)
def Hole.all {φ : Type} (h : Hole φ) : List (BE φ) := h.b1 ++ (h.k, h.gi, h.f1 ++ (h.y, h.v) :: h.f2) :: h.b2
def Hole.put {φ : Type} (h : Hole φ) (y : φ) (v : Value) : Hole φ := { h with y := y, v := v }
def ents (l : List (φ × Value)) : List (List UInt8 × List Value) := l.map fun e => (K.nm e.1, K.fc e.1 e.2)
def owns (l : List (φ × Value)) : List LObj := l.map fun e => own tStr K.E e.2 (K.fe e.1)
def Y5K (g : Nat) (h : Hole φ) : List LObj := mapo bstr Y2i g (outL h.all) :: mapo bstr (tRaw K.n) h.gi (ents K (h.f1 ++ (h.y, h.v) :: h.f2)) :: (owns K (h.f1 ++ h.f2) ++ Y35 K (h.b1 ++ h.b2))
theorem Y6E (g : Nat) (h : Hole φ) : (bldL K g h.all).Perm (own tStr K.E h.v (K.fe h.y) :: Y5K K g h) := by
 rw [Y3U]
 unfold Y5K
 have e1 : inL K (h.k, h.gi, h.f1 ++ (h.y, h.v) :: h.f2) = mapo bstr (tRaw K.n) h.gi (ents K (h.f1 ++ (h.y, h.v) :: h.f2)) :: owns K (h.f1 ++ (h.y, h.v) :: h.f2) := by
  unfold inL inP ents owns
  rw [List.map_cons, List.map_map]
  rfl
 have p1 : (Y35 K h.all).Perm (inL K (h.k, h.gi, h.f1 ++ (h.y, h.v) :: h.f2) ++ Y35 K (h.b1 ++ h.b2)) := Y31 K h.b1 h.b2 _
 have p2 : (owns K (h.f1 ++ (h.y, h.v) :: h.f2)).Perm (own tStr K.E h.v (K.fe h.y) :: owns K (h.f1 ++ h.f2)) := by
  unfold owns
  rw [List.map_append, List.map_cons, List.map_append]
  exact List.perm_middle
 rw [e1] at p1
 refine (List.Perm.cons _ p1).trans ?_
 rw [List.cons_append]
 refine (List.Perm.cons _ (List.Perm.cons _ (p2.append_right _))).trans ?_
 rw [List.cons_append]
 refine (List.Perm.cons _ (List.Perm.swap _ _ _)).trans ?_
 exact List.Perm.swap _ _ _
theorem Y94 {l : List (φ × Value)} {f : List UInt8} {y : φ} (h : (l.map (·.1)).find? (fun q => f == K.nm q) = some y) : ∃ f1 v f2, l = f1 ++ (y, v) :: f2 ∧ f = K.nm y ∧ (ents K l).lookup f = some (K.fc y v) ∧ ∀ e ∈ f1, f ≠ K.nm e.1 := by
 induction l with
 | nil => simp at h
 | cons e l ih =>
  rw [List.map_cons, List.find?_cons] at h
  cases hk : f == K.nm e.1 with
  | true =>
   rw [hk] at h
   have e1 : e.1 = y := by simpa using h
   subst e1
   refine ⟨[], e.2, l, rfl, by simpa using hk, ?_, by simp⟩
   unfold ents
   rw [List.map_cons, List.lookup_cons, hk]
  | false =>
   rw [hk] at h
   obtain ⟨f1, v, f2, rfl, h1, h2, h3⟩ := ih h
   refine ⟨e :: f1, v, f2, rfl, h1, ?_, fun q hq => ?_⟩
   ·unfold ents at h2 ⊢
    rw [List.map_cons, List.lookup_cons, hk]
    exact h2
   ·rcases List.mem_cons.1 hq with rfl | hq
    ·intro he; rw [he] at hk; simp at hk
    ·exact h3 q hq
theorem Y5A {l : List (φ × Value)} {f : List UInt8} (h : (l.map (·.1)).find? (fun q => f == K.nm q) = none) : (ents K l).lookup f = none := by
 induction l with
 | nil => rfl
 | cons e l ih =>
  rw [List.map_cons, List.find?_cons] at h
  unfold ents
  rw [List.map_cons, List.lookup_cons]
  cases hk : f == K.nm e.1 with
  | true => rw [hk] at h; simp at h
  | false => rw [hk] at h; exact ih h
theorem WL.bldTake {t kt et : TypeId} {m xo : Operand} {k f : List UInt8} {gi : Nat} {fs : List φ} {z : List Value} (hs : St ok0 w0 w Γ (bldc K (At k gi) g x :: Λ)) (hk : KK P kt bstr) (ht : P.underlying t = some (.map kt et)) (hm : ρ.ev m = .map (some gi)) (hx : ρ.ev xo = bstr f)
  (hz : ∀ w, (zeroValue et).run P w = .ok (.agg z.toArray) w) (hz1 : z.length = K.n) (hz2 : ∀ u ∈ z, u.oneCell' = true) (hl : x.lookup k = some fs)
  (K0 : fs.find? (fun q => f == K.nm q) = none → St ok0 w0 w Γ (bldc K (At k gi) g x :: Λ) → WL P N ops Q rest (putE ρ d (.agg z.toArray)) w)
  (K1 : ∀ h : Hole φ, fs.find? (fun q => f == K.nm q) = some h.y → cont h.all = x → h.k = k → h.gi = gi → f = K.nm h.y → (∀ e ∈ h.f1, f ≠ K.nm e.1) → (∀ q ∈ h.b1, q.1 ≠ k) →
   St ok0 w0 w Γ (own tStr K.E h.v (K.fe h.y) :: allo (Y5K K g h) :: Λ) → WL P N ops Q rest (putE ρ d (.agg (K.fc h.y h.v).toArray)) w)
  (hg : Y0C ops ρ ⟨d, .lookup t m xo false, ty, pos, aft, gd⟩ = true := by rfl) (hd : fits N d = true := by rfl) :
  WL P N ops Q (⟨d, .lookup t m xo false, ty, pos, aft, gd⟩ :: rest) ρ w := by
 obtain ⟨b, ⟨hC, hc⟩, h1⟩ := hs.bldOpen
 subst hc
 obtain ⟨b1, o, b2, rfl, e1, e2, e3, e4⟩ := Y6j hl
 obtain ⟨ok_, gi_, l⟩ := o
 simp only at e1 e2 e3
 subst e1
 have eg : gi_ = gi := by
  have : (some (Value.map (some gi_))) = some (Value.map (some gi)) := e3.symm.trans hC
  simpa using this
 subst eg
 have p1 := Y31 K b1 b2 (ok_, gi_, l)
 have h2 : St ok0 w0 w Γ (mapo bstr (tRaw K.n) gi_ (ents K l) :: mapo bstr Y2i g (outL (b1 ++ (ok_, gi_, l) :: b2)) :: (owns K l ++ Y35 K (b1 ++ b2) ++ Λ)) := by
  refine h1.perm ?_
  rw [Y3U, List.cons_append]
  refine (List.Perm.cons _ (p1.append_right _)).trans ?_
  have e5 : inL K (ok_, gi_, l) = mapo bstr (tRaw K.n) gi_ (ents K l) :: owns K l := by
   unfold inL inP ents owns
   rw [List.map_cons, List.map_map]
   rfl
  rw [e5, List.cons_append, List.cons_append]
  exact List.Perm.swap _ _ _
 refine WL.lookup (V := tRaw K.n) (z0 := z) h2 0 rfl hk ht hm hx hz (fun _ _ => Y4m.2 ⟨rfl, hz1, hz2⟩) rfl (fun v h3 => ?_) hg hd
 have hv := h3.rawv 0 rfl
 cases hf : fs.find? (fun q => f == K.nm q) with
 | none =>
  rw [← e2] at hf
  rw [Y5A K hf] at hv
  rw [hv]
  rw [e2] at hf
  exact K0 hf hs
 | some y =>
  rw [← e2] at hf
  obtain ⟨f1, v', f2, rfl, q1, q2, q3⟩ := Y94 K hf
  rw [q2] at hv
  rw [hv]
  rw [e2] at hf
  refine K1 ⟨b1, ok_, gi_, f1, y, v', f2, b2⟩ hf rfl rfl rfl q1 q3 e4 ?_
  have h5 := h1.perm ((Y6E K g ⟨b1, ok_, gi_, f1, y, v', f2, b2⟩).append_right Λ)
  have h6 : St ok0 w0 w Γ (Y5K K g ⟨b1, ok_, gi_, f1, y, v', f2, b2⟩ ++ (own tStr K.E v' (K.fe y) :: Λ)) := h5.perm (by
   rw [List.cons_append]
   exact (List.perm_middle).symm)
  exact (h6.allClose).perm (List.Perm.swap _ _ _)
theorem Y7x {h : Hole φ} (hb : ∀ q ∈ h.b1, q.1 ≠ h.k) : At h.k h.gi h.all := by
 obtain ⟨b1, k, gi, f1, y, v, f2, b2⟩ := h
 unfold Hole.all At
 simp only at hb ⊢
 induction b1 with
 | nil =>
  show List.lookup k ((k, Value.map (some gi)) :: _) = _
  rw [List.lookup_cons]
  simp
 | cons q b1 ih =>
  rw [List.cons_append, List.map_cons, List.lookup_cons]
  have : (k == q.1) = false := by
   rw [beq_eq_false_iff_ne]
   exact fun e => hb q (by simp) e.symm
  rw [this]
  exact ih fun r hr => hb r (by simp [hr])
theorem Y6w {f1 f2 : List (φ × Value)} {y y' : φ} {v v' : Value} (h1 : K.nm y' = K.nm y) (h2 : ∀ e ∈ f1, K.nm y ≠ K.nm e.1) : mset (ents K (f1 ++ (y, v) :: f2)) (K.nm y) (K.fc y' v') = ents K (f1 ++ (y', v') :: f2) := by
 induction f1 with
 | nil =>
  unfold ents
  rw [List.nil_append, List.nil_append, List.map_cons, List.map_cons, mset, if_pos (by simp), h1]
 | cons e f1 ih =>
  unfold ents at ih ⊢
  rw [List.cons_append, List.cons_append, List.map_cons, List.map_cons, mset]
  have : (K.nm y == K.nm e.1) = false := by
   rw [beq_eq_false_iff_ne]
   exact h2 e (by simp)
  rw [this, if_neg (by simp), ih fun q hq => h2 q (by simp [hq])]
theorem WL.bldGive {t kt et : TypeId} {m xo u : Operand} {h : Hole φ} {y' : φ} {v' : Value} (hs : St ok0 w0 w Γ (own tStr K.E v' (K.fe y') :: allo (Y5K K g h) :: Λ)) (hk : KK P kt bstr) (ht : P.underlying t = some (.map kt et)) (hm : ρ.ev m = .map (some h.gi)) (hx : ρ.ev xo = bstr (K.nm h.y))
  (hu : ρ.ev u = .agg (K.fc y' v').toArray) (hn : K.nm y' = K.nm h.y) (h1 : (K.fc y' v').length = K.n) (h2 : ∀ u ∈ K.fc y' v', u.oneCell' = true) (hb : ∀ q ∈ h.b1, q.1 ≠ h.k) (hf : ∀ e ∈ h.f1, K.nm h.y ≠ K.nm e.1)
  (K1 : ∀ w', St ok0 w0 w' Γ (bldc K (At h.k h.gi) g (cont (h.put y' v').all) :: Λ) → WL P N ops Q rest (putE ρ d undef) w')
  (hg : Y0C ops ρ ⟨d, .mapUpdate t m xo u, ty, pos, aft, gd⟩ = true := by rfl) (hd : fits N d = true := by rfl) :
  WL P N ops Q (⟨d, .mapUpdate t m xo u, ty, pos, aft, gd⟩ :: rest) ρ w := by
 have h3 : St ok0 w0 w Γ (Y5K K g h ++ (own tStr K.E v' (K.fe y') :: Λ)) := (hs.perm (List.Perm.swap _ _ _)).allOpen
 have h4 : St ok0 w0 w Γ (mapo bstr Y2i g (outL h.all) :: mapo bstr (tRaw K.n) h.gi (ents K (h.f1 ++ (h.y, h.v) :: h.f2)) :: (owns K (h.f1 ++ h.f2) ++ Y35 K (h.b1 ++ h.b2) ++ (own tStr K.E v' (K.fe y') :: Λ))) := h3
 refine WL.mapUpdate (V := tRaw K.n) (y := K.fc y' v') h4 1 rfl hk ht hm hx hu (fun _ _ => Y4m.2 ⟨rfl, h1, h2⟩) (Y6w K hn hf) (fun w' h5 => ?_) hg hd
 have h6 : St ok0 w0 w' Γ (Y5K K g (h.put y' v') ++ (own tStr K.E v' (K.fe y') :: Λ)) := by
  have e : outL (h.put y' v').all = outL h.all := by
   unfold outL Hole.all Hole.put
   simp
  unfold Y5K
  rw [e]
  exact h5
 have h7 : St ok0 w0 w' Γ (bldL K g (h.put y' v').all ++ Λ) := h6.perm (by
  refine List.perm_middle.trans ?_
  rw [← List.cons_append]
  exact ((Y6E K g (h.put y' v')).symm).append_right Λ)
 exact K1 w' (St.bldClose (K := K) h7 (Y7x (h := h.put y' v') hb) rfl)
theorem Y5C {b1 b2 : List (BE φ)} {k : List UInt8} {gi : Nat} {l l' : List (φ × Value)} (hb : ∀ q ∈ b1, q.1 ≠ k) : cont (b1 ++ (k, gi, l') :: b2) = mset (cont (b1 ++ (k, gi, l) :: b2)) k (l'.map (·.1)) := by
 unfold cont
 induction b1 with
 | nil =>
  rw [List.nil_append, List.nil_append, List.map_cons, List.map_cons, mset, if_pos (by simp)]
 | cons q b1 ih =>
  rw [List.cons_append, List.cons_append, List.map_cons, List.map_cons, mset]
  have : (k == q.1) = false := by
   rw [beq_eq_false_iff_ne]
   exact fun e => hb q (by simp) e.symm
  rw [this, if_neg (by simp), ih fun r hr => hb r (by simp [hr])]
def fput (nm : φ → List UInt8) (y : φ) : List φ → List φ
 | [] => [y]
 | q :: t => if nm y == nm q then y :: t else q :: fput nm y t
theorem Y4w {nm : φ → List UInt8} {y : φ} : ∀ {l : List φ}, l.find? (fun q => nm y == nm q) = none → fput nm y l = l ++ [y]
 | [], _ => rfl
 | q :: t, h => by
  rw [List.find?_cons] at h
  cases hk : nm y == nm q with
  | true => rw [hk] at h; simp at h
  | false => rw [hk] at h; rw [fput, hk, if_neg (by simp), Y4w h]; rfl
theorem Y7p {nm : φ → List UInt8} {y y0 : φ} (hn : nm y = nm y0) : ∀ {f1 : List φ} {f2 : List φ}, (∀ e ∈ f1, nm y0 ≠ nm e) → fput nm y (f1 ++ y0 :: f2) = f1 ++ y :: f2
 | [], _, _ => by rw [List.nil_append, fput, hn, if_pos (by simp)]; rfl
 | q :: f1, f2, h => by
  have : (nm y == nm q) = false := by
   rw [beq_eq_false_iff_ne, hn]
   exact h q (by simp)
  rw [List.cons_append, fput, this, if_neg (by simp), Y7p hn fun e he => h e (by simp [he])]
  rfl
theorem Y8Y {h : Hole φ} {y' : φ} {v' : Value} {x : List (List UInt8 × List φ)} {fs : List φ} (hx : cont h.all = x) (hl : x.lookup h.k = some fs) (hn : K.nm y' = K.nm h.y) (hb : ∀ q ∈ h.b1, q.1 ≠ h.k) (hf : ∀ e ∈ h.f1, K.nm h.y ≠ K.nm e.1) :
  cont (h.put y' v').all = mset x h.k (fput K.nm y' fs) := by
 subst hx
 obtain ⟨b1, k, gi, f1, y, v, f2, b2⟩ := h
 simp only [Hole.all, Hole.put] at *
 have hfs : fs = (f1 ++ (y, v) :: f2).map (·.1) := by
  clear hn hf
  induction b1 with
  | nil =>
   unfold cont at hl
   rw [List.nil_append, List.map_cons, List.lookup_cons] at hl
   simp at hl
   rw [← hl]
   simp
  | cons q b1 ih =>
   unfold cont at hl ih
   rw [List.cons_append, List.map_cons, List.lookup_cons] at hl
   have : (k == q.1) = false := by
    rw [beq_eq_false_iff_ne]
    exact fun e => hb q (by simp) e.symm
   rw [this] at hl
   exact ih (fun r hr => hb r (by simp [hr])) hl
 rw [Y5C (l := f1 ++ (y, v) :: f2) hb, hfs, List.map_append, List.map_append, List.map_cons, List.map_cons, Y7p hn (fun e he => by
  obtain ⟨q, hq, rfl⟩ := List.mem_map.1 he
  exact hf q hq)]
theorem WL.bldAdd {t kt et : TypeId} {m xo u : Operand} {k : List UInt8} {gi : Nat} {fs : List φ} {y' : φ} {v' : Value} (hs : St ok0 w0 w Γ (own tStr K.E v' (K.fe y') :: bldc K (At k gi) g x :: Λ)) (hk : KK P kt bstr) (ht : P.underlying t = some (.map kt et)) (hm : ρ.ev m = .map (some gi)) (hx : ρ.ev xo = bstr (K.nm y'))
  (hu : ρ.ev u = .agg (K.fc y' v').toArray) (h1 : (K.fc y' v').length = K.n) (h2 : ∀ u ∈ K.fc y' v', u.oneCell' = true) (hl : x.lookup k = some fs) (hfn : fs.find? (fun q => K.nm y' == K.nm q) = none)
  (K1 : ∀ w', St ok0 w0 w' Γ (bldc K (At k gi) g (mset x k (fput K.nm y' fs)) :: Λ) → WL P N ops Q rest (putE ρ d undef) w')
  (hg : Y0C ops ρ ⟨d, .mapUpdate t m xo u, ty, pos, aft, gd⟩ = true := by rfl) (hd : fits N d = true := by rfl) :
  WL P N ops Q (⟨d, .mapUpdate t m xo u, ty, pos, aft, gd⟩ :: rest) ρ w := by
 obtain ⟨b, ⟨hC, hc⟩, h3⟩ := (hs.perm (List.Perm.swap _ _ _)).bldOpen
 subst hc
 obtain ⟨b1, o, b2, rfl, e1, e2, e3, e4⟩ := Y6j hl
 obtain ⟨ok_, gi_, l⟩ := o
 simp only at e1 e2 e3
 subst e1
 have eg : gi_ = gi := by
  have : (some (Value.map (some gi_))) = some (Value.map (some gi)) := e3.symm.trans hC
  simpa using this
 subst eg
 have e5 : ∀ l : List (φ × Value), inL K (ok_, gi_, l) = mapo bstr (tRaw K.n) gi_ (ents K l) :: owns K l := fun l => by
  unfold inL inP ents owns
  rw [List.map_cons, List.map_map]
  rfl
 have h4 : St ok0 w0 w Γ (mapo bstr (tRaw K.n) gi_ (ents K l) :: mapo bstr Y2i g (outL (b1 ++ (ok_, gi_, l) :: b2)) :: (owns K l ++ Y35 K (b1 ++ b2) ++ (own tStr K.E v' (K.fe y') :: Λ))) := by
  refine h3.perm ?_
  rw [Y3U, List.cons_append]
  refine (List.Perm.cons _ ((Y31 K b1 b2 (ok_, gi_, l)).append_right _)).trans ?_
  rw [e5, List.cons_append, List.cons_append]
  exact List.Perm.swap _ _ _
 have e6 : ents K l ++ [(K.nm y', K.fc y' v')] = ents K (l ++ [(y', v')]) := by
  unfold ents
  rw [List.map_append]
  rfl
 refine WL.mapUpdate (V := tRaw K.n) (y := K.fc y' v') h4 0 rfl hk ht hm hx hu (fun _ _ => Y4m.2 ⟨rfl, h1, h2⟩) ((Y2w (Y5A K (by rw [e2]; exact hfn))).trans e6) (fun w' h5 => ?_) hg hd
 have e7 : cont (b1 ++ (ok_, gi_, l ++ [(y', v')]) :: b2) = mset (cont (b1 ++ (ok_, gi_, l) :: b2)) ok_ (fput K.nm y' fs) := by
  rw [Y5C (l := l) e4, Y4w hfn, List.map_append, e2]
  rfl
 have h6 : St ok0 w0 w' Γ (bldL K g (b1 ++ (ok_, gi_, l ++ [(y', v')]) :: b2) ++ Λ) := by
  refine h5.perm ?_
  show (mapo bstr (tRaw K.n) gi_ (ents K (l ++ [(y', v')])) :: mapo bstr Y2i g (outL (b1 ++ (ok_, gi_, l) :: b2)) :: (owns K l ++ Y35 K (b1 ++ b2) ++ (own tStr K.E v' (K.fe y') :: Λ))).Perm _
  rw [Y3U, List.cons_append]
  have e8 : outL (b1 ++ (ok_, gi_, l ++ [(y', v')]) :: b2) = outL (b1 ++ (ok_, gi_, l) :: b2) := by
   unfold outL
   simp
  rw [e8]
  refine (List.Perm.swap _ _ _).trans (List.Perm.cons _ ?_)
  refine List.Perm.trans ?_ ((Y31 K b1 b2 (ok_, gi_, l ++ [(y', v')])).symm.append_right Λ)
  rw [e5, List.cons_append, List.cons_append]
  refine List.Perm.cons _ ?_
  have e9 : owns K (l ++ [(y', v')]) = owns K l ++ [own tStr K.E v' (K.fe y')] := by
   unfold owns
   rw [List.map_append]
   rfl
  rw [e9, List.append_assoc, List.append_assoc, List.append_assoc]
  refine List.Perm.append_left _ ?_
  exact List.perm_middle
 exact K1 w' (St.bldClose (K := K) h6 (Y7x (h := ⟨b1, ok_, gi_, l, y', v', [], b2⟩) e4) e7)
end
end
section
open Go Go.RowKit
section
variable {κ β : Type} [BEq κ] [LawfulBEq κ]
def tMap (kv : κ → Value) (V : Ty β) : Ty (List (κ × β)) where
 sz := 1
 agg := false
 R := fun ok w l cs => (cs = [.map none] ∧ l = []) ∨ ∃ g es c, cs = [.map (some g)] ∧ ok g ∧ w.heap[g]? = some (.map es c) ∧ Ents kv V ok w l es.toList ∧ (es.toList.map (·.born)).Nodup ∧ (∀ e ∈ es.toList, e.born < c) ∧ (l.map (·.1)).Nodup
 len := by rintro _ _ _ _ (⟨rfl, _⟩ | ⟨g, es, c, rfl, _⟩) <;> rfl
 one := by
  rintro _ _ _ _ (⟨rfl, _⟩ | ⟨g, es, c, rfl, _⟩) u hu <;> simp at hu <;> subst hu <;> rfl
 move := by
  rintro ok ok' w w' l cs (h | ⟨g, es, c, rfl, hg, hh, he, h1, h2, h3⟩) hm
  ·exact .inl h
  ·obtain ⟨e, hg'⟩ := hm g hg (Y0K hh)
   exact .inr ⟨g, es, c, rfl, hg', e.trans hh, he.move hm, h1, h2, h3⟩
theorem Y5c {kv : κ → Value} {V : Ty β} {ok : Nat → Prop} {w : World} {l : List (κ × β)} {v : Value} :
  (tMap kv V).V ok w l v ↔ (v = .map none ∧ l = []) ∨ ∃ g es c, v = .map (some g) ∧ ok g ∧ w.heap[g]? = some (.map es c) ∧ Ents kv V ok w l es.toList ∧ (es.toList.map (·.born)).Nodup ∧ (∀ e ∈ es.toList, e.born < c) ∧ (l.map (·.1)).Nodup := by
 constructor
 ·rintro ⟨_, (⟨rfl, h⟩ | ⟨g, es, c, rfl, h⟩), rfl⟩
  ·exact .inl ⟨rfl, h⟩
  ·exact .inr ⟨g, es, c, rfl, h⟩
 ·rintro (⟨rfl, h⟩ | ⟨g, es, c, rfl, h⟩)
  ·exact ⟨_, .inl ⟨rfl, h⟩, rfl⟩
  ·exact ⟨_, .inr ⟨g, es, c, rfl, h⟩, rfl⟩
omit [BEq κ] [LawfulBEq κ] in
theorem Ents.conv {β γ ι : Type} {kv : κ → Value} {V : Ty β} {V' : Ty γ} {ok ok' : Nat → Prop} {w w' : World} {p : ι → κ × β} {p' : ι → κ × γ} : ∀ {b : List ι} {es : List MapEntry}, (∀ o ∈ b, (p o).1 = (p' o).1) → (∀ o ∈ b, ∀ v, V.V ok w (p o).2 v → V'.V ok' w' (p' o).2 v) →
  Ents kv V ok w (b.map p) es → Ents kv V' ok' w' (b.map p') es
 | [], [], _, _, _ => trivial
 | o :: b, e :: es, hk, hv, ⟨h1, h2, h3⟩ => ⟨by rw [← hk o (by simp)]; exact h1, hv o (by simp) _ h2, Ents.conv (fun q hq => hk q (by simp [hq])) (fun q hq => hv q (by simp [hq])) h3⟩
 | [], _ :: _, _, _, h => h.elim
 | _ :: _, [], _, _, h => h.elim
theorem Own.memS {ok : Nat → Prop} {w : World} : ∀ {L : List LObj} {bss : List (List Nat)}, Own ok w L bss → ∀ o ∈ L, ∃ bs, o.H ok bs w ∧ ∀ b ∈ bs, b ∈ bss.flatten
 | [], _, _, o, ho => by simp at ho
 | q :: L, bs :: bss, ⟨h1, h2⟩, o, ho => by
  rcases List.mem_cons.1 ho with rfl | ho
  ·exact ⟨bs, h1, fun b hb => by simp [hb]⟩
  ·obtain ⟨bs', h3, h4⟩ := Own.memS h2 o ho
   exact ⟨bs', h3, fun b hb => by rw [List.flatten_cons]; exact List.mem_append.2 (.inr (h4 b hb))⟩
 | _ :: _, [], h, _, _ => h.elim
end
section
variable {φ : Type} (K : FK φ)
def frz (x : List (List UInt8 × List φ)) : List (List UInt8 × List (List UInt8 × φ)) := x.map fun o => (o.1, o.2.map fun y => (K.nm y, y))
variable {w : World} {w0 : Base} {ok0 : Nat → Prop} {Γ : List It} {Λ : List LObj} {g : Nat} {x : List (List UInt8 × List φ)} {C : List (BE φ) → Prop}
theorem St.bldFreeze {T : Ty φ} (hT : ∀ (ok : Nat → Prop) (w : World) (y : φ) (v : Value), (Y0b tStr).V ok w (K.fe y) v → T.R ok w y (K.fc y v)) (hTa : T.agg = true) (hs : St ok0 w0 w Γ (bldc K C g x :: Λ)) :
  St ok0 w0 w (vl (tMap bstr (tMap bstr T)) (frz K x) (.map (some g)) :: Γ) Λ := by
 refine St.freeze hs 0 rfl (it := vl (tMap bstr (tMap bstr T)) (frz K x) (.map (some g))) ?_
 rintro ok bs ⟨b, bss, ⟨_, rfl⟩, rfl, _, hO⟩
 have hmem := Own.memS hO
 have e1 : frz K (cont b) = b.map fun o => (o.1, o.2.2.map fun e => (K.nm e.1, e.1)) := by
  unfold frz cont
  rw [List.map_map]
  refine List.map_congr_left fun o _ => ?_
  simp
 have mv : ∀ k, ok k → k < w.heap.size → w.heap[k]? = w.heap[k]? ∧ (ok k ∨ k ∈ bss.flatten) := fun k hk _ => ⟨rfl, .inl hk⟩
 obtain ⟨bs0, h0, hb0⟩ := hmem _ (by rw [Y3U]; exact List.mem_cons_self ..)
 obtain ⟨rfl, es, c, hh, he, h1, h2, h3⟩ := h0
 refine Y5c.2 (.inr ⟨g, es, c, rfl, .inr (hb0 g (by simp)), hh, ?_, h1, h2, ?_⟩)
 ·rw [e1]
  refine Ents.conv (p := fun o : BE φ => (o.1, Value.map (some o.2.1))) (fun _ _ => rfl) (fun o ho v hv => ?_) he
  have ev := (Y2A.1 hv).1
  subst ev
  have hin : ∀ q ∈ inP K o, q.1 ∈ bldL K g b := fun q hq => by
   unfold bldL bldP
   exact List.mem_map.2 ⟨q, List.mem_cons_of_mem _ (List.mem_flatMap.2 ⟨o, ho, hq⟩), rfl⟩
  obtain ⟨bs1, q0, hb1⟩ := hmem _ (hin _ (List.mem_cons_self ..))
  obtain ⟨rfl, es1, c1, hh1, he1, k1, k2, k3⟩ := q0
  refine Y5c.2 (.inr ⟨o.2.1, es1, c1, rfl, .inr (hb1 _ (by simp)), hh1, ?_, k1, k2, ?_⟩)
  ·refine Ents.conv (p := fun e : φ × Value => (K.nm e.1, K.fc e.1 e.2)) (fun _ _ => rfl) (fun e he' v hv => ?_) he1
   obtain ⟨ev, _⟩ := Y4m.1 hv
   subst ev
   obtain ⟨bs2, r0, hb2⟩ := hmem _ (hin (own tStr K.E e.2 (K.fe e.1), fpV e.2) (List.mem_cons_of_mem _ (List.mem_map.2 ⟨e, he', rfl⟩)))
   refine ⟨K.fc e.1 e.2, hT _ _ _ _ ?_, by rw [hTa]; rfl⟩
   rcases r0 with ⟨_, _, r1, a, r2⟩ | ⟨_, cs, r1, r2, r3⟩
   ·rw [r1, r2]
    exact Y2h.2 ⟨a, 0, rfl, Nat.le_refl _, .inl rfl⟩
   ·refine (Y5e (ok := ok) r2 r3).move fun k hk _ => ⟨rfl, ?_⟩
    rcases hk with hk | hk
    ·exact .inl hk
    ·exact .inr (hb2 k (by rw [r1]; exact hk))
  ·rw [List.map_map] at k3 ⊢
   exact k3
 ·rw [e1, List.map_map]
  unfold outL at h3
  rw [List.map_map] at h3
  exact h3
end
section
variable {P : Program} {N : Nat} {Q : QE} {ρ : Env} {w : World} {w0 : Base} {ok0 : Nat → Prop} {Γ : List It} {Λ : List LObj}
variable {d : Option Tmp} {ty : TypeId} {pos : String} {aft : Array Edge} {gd : Option (Nat × Bool)} {ops : Array Oper} {rest : List Oper}
variable {κ β : Type} [BEq κ] [LawfulBEq κ] {kv : κ → Value} {V : Ty β}
theorem WL.lookupT {t kt et : TypeId} {m x : Operand} {mv : Value} {l : List (κ × β)} {a : κ} {z0 : β} {zc : Value} (hs : St ok0 w0 w Γ Λ) (i : Nat) (hi : Γ[i]? = some (vl (tMap kv V) l mv)) (hk : KK P kt kv) (ht : P.underlying t = some (.map kt et))
  (hm : ρ.ev m = mv) (hx : ρ.ev x = kv a) (hz : ∀ w, (zeroValue et).run P w = .ok zc w) (hzV : ∀ (ok : Nat → Prop) (w : World), V.V ok w z0 zc) {y : β} (hy : (l.lookup a).getD z0 = y)
  (K : ∀ v, St ok0 w0 w (vl V y v :: Γ) Λ → WL P N ops Q rest (putE ρ d v) w)
  (hg : Y0C ops ρ ⟨d, .lookup t m x false, ty, pos, aft, gd⟩ = true := by rfl) (hd : fits N d = true := by rfl) :
  WL P N ops Q (⟨d, .lookup t m x false, ty, pos, aft, gd⟩ :: rest) ρ w := by
 subst hy
 subst hm
 obtain ⟨desc, hu, hsame⟩ := hk.und
 have fin : ∀ v, (Instr.lookup t (ρ.ev m) (kv a) false).run P w = .ok v w → St ok0 w0 w (vl V ((l.lookup a).getD z0) v :: Γ) Λ → WL P N ops Q (⟨d, .lookup t m x false, ty, pos, aft, gd⟩ :: rest) ρ w := by
  intro v hv hst
  exact WL.value hg hd (v := v) (w' := w) (by
   show (do pure (Next.value (← Instr.lookup t (ρ.ev m) (ρ.ev x) false)) : Sem Next).run P w = _
   rw [hx]
   exact Y1K hv) (K v hst)
 obtain ⟨ok, hh⟩ := hs.get i hi
 rcases Y5c.1 hh with ⟨em, el⟩ | ⟨g, es, c, em, hok, hb, he, _⟩
 ·subst el
  refine fin zc ?_ (hs.add fun ok _ => hzV ok w)
  rw [em]
  unfold Instr.lookup
  refine (Y0o (Y2d ht w)).trans ?_
  refine (Y0o (x := (#[] : Array MapEntry)) (w' := w) rfl).trans ?_
  refine (Y0o (hk.chk _ a w)).trans ?_
  refine (Y0o (Y3u hu (r := none) rfl w)).trans ?_
  exact (Y0o (hz w)).trans rfl
 ·have go : ∀ r : Option (Nat × Value), Instr.findNow desc (kv a) es.toList 0 = some r → ∀ v, (match r with | some (_, v) => v | none => zc) = v → (Instr.lookup t (ρ.ev m) (kv a) false).run P w = .ok v w := by
   intro r hr v hv
   rw [em]
   unfold Instr.lookup
   refine (Y0o (Y2d ht w)).trans ?_
   refine (Y0o ((Y0o (Y3X hb)).trans rfl)).trans ?_
   refine (Y0o (hk.chk _ a w)).trans ?_
   refine (Y0o (Y3u hu hr w)).trans ?_
   cases r with
   | none => subst hv; exact (Y0o (hz w)).trans rfl
   | some p => obtain ⟨j, u⟩ := p; subst hv; rfl
  rcases Y2G (P := P) (t := t) hsame a 0 he with ⟨a1, a2, _⟩ | ⟨j, y, e, a1, a2, a3, a4, a5, _⟩
  ·exact fin zc (go _ a2 _ rfl) (hs.add fun ok _ => by rw [a1]; exact hzV ok w)
  ·refine fin e.val (go _ a4 _ rfl) (hs.add fun ok' hA => ?_)
   rcases Y5c.1 (hA.get i hi) with ⟨em', _⟩ | ⟨g', es', c', em', _, hb', he', _⟩
   ·rw [em] at em'; cases em'
   ·rw [em] at em'
    cases em'
    rw [hb] at hb'
    cases hb'
    rcases Y2G (P := P) (t := t) hsame a 0 he' with ⟨b1, _⟩ | ⟨j', y', e', b1, b2, b3, b4, b5, _⟩
    ·rw [a1] at b1; cases b1
    ·rw [a4] at b4
     simp only [Option.some.injEq, Prod.mk.injEq] at b4
     rw [b1]
     show V.V ok' w y' e.val
     rw [b4.2]
     exact b5
end
def insS : List (List UInt8) → List UInt8 → List (List UInt8)
 | [], s => [s]
 | a :: l, s => if Op.bytesLess a s then a :: insS l s else if a == s then a :: l else s :: a :: l
noncomputable def insO (l : List (List UInt8)) (s : List UInt8) : Option (List (List UInt8)) := if l.Pairwise (fun a b => Op.bytesLess a b = true) ∧ l.length < 1000000000000 then some (insS l s) else none
def Y65 {β : Type} (l : List (List UInt8 × β)) : Option (List (List UInt8)) :=
 if (∀ x ∈ l, x.1.length ≤ maxLen) ∧ l.length * 16 ≤ 140737488355328 then some ((l.map (·.1)).mergeSort fun a b => decide (a ≤ b)) else none
theorem map_owns {P : Program} {kt : TypeId} {β : Type} {V : Ty β} {l : List (List UInt8 × β)} {ok : Nat → Prop} {w : World} {g : Nat} {es : Array MapEntry} {c : Nat} (hk : P.underlying kt = some .string) (hh : w.heap[g]? = some (.map es c)) (he : Ents bstr V ok w l es.toList)
  (h1 : (es.toList.map (·.born)).Nodup) (h2 : ∀ e ∈ es.toList, e.born < c) (hn : (l.map (·.1)).Nodup) (hm : l.length ≤ maxLen) (hks : ∀ x ∈ l, x.1.length ≤ maxLen) :
  ∃ (R : Value → Option (DataW Unit × List MemPlace)) (D0 : DataW Unit), w.ownsMap P kt R g l.length D0 ∧ Maps.size D0 = l.length ∧ ∀ ss : List (List UInt8), ss.Perm (strKeys D0) → ss.Perm (l.map (·.1)) := by
 let R : Value → Option (DataW Unit × List MemPlace) := fun _ => some (.lit (.bool true), [])
 have hrd : ∀ (l : List (List UInt8 × β)) (es : List MapEntry), Ents bstr V ok w l es → (∀ x ∈ l, x.1.length ≤ maxLen) → (∀ e ∈ es, ∃ y, Go.WideElems.rd P kt R e = some y) ∧ es.map (Go.WideElems.rg P kt R) = l.map fun x => (Lit.string x.1, DataW.lit (.bool true)) := by
  intro l
  induction l with
  | nil => intro es h _; cases es with
   | nil => exact ⟨by simp, rfl⟩
   | cons _ _ => exact h.elim
  | cons x l ih => intro es h hx; cases es with
   | nil => exact h.elim
   | cons e es =>
    obtain ⟨k1, _, k3⟩ := h
    obtain ⟨i1, i2⟩ := ih es k3 fun q hq => hx q (by simp [hq])
    have e0 : Go.WideElems.rd P kt R e = some (Lit.string x.1, DataW.lit (.bool true)) := by
     unfold Go.WideElems.rd
     have hl := hx x (by simp)
     have : keyOf P kt e.key = some (.string x.1) := by
      rw [k1]
      unfold keyOf
      rw [hk]
      simp [mapKey, hk, bstr, ByteArray.size, hl]
     rw [this]
     rfl
    refine ⟨fun q hq => ?_, ?_⟩
    ·rcases List.mem_cons.1 hq with rfl | hq
     ·exact ⟨_, e0⟩
     ·exact i1 q hq
    ·rw [List.map_cons, List.map_cons, i2]
     unfold Go.WideElems.rg
     rw [e0]
     rfl
 obtain ⟨hr1, hr2⟩ := hrd l es.toList he hks
 have hlen : l.length = es.size := by rw [he.length]; simp
 have hkeys : es.toList.map (·.key) = l.map fun x => bstr x.1 := by
  have : ∀ (l : List (List UInt8 × β)) (es : List MapEntry), Ents bstr V ok w l es → es.map (·.key) = l.map fun x => bstr x.1 := by
   intro l
   induction l with
   | nil => intro es h; cases es with
    | nil => rfl
    | cons _ _ => exact h.elim
   | cons x l ih => intro es h; cases es with
    | nil => exact h.elim
    | cons e es => obtain ⟨k1, _, k3⟩ := h; rw [List.map_cons, List.map_cons, ih es k3, k1]
  exact this l _ he
 refine ⟨R, .map ((es.toList.map (Go.WideElems.rg P kt R)).foldr DataW.insert []), ⟨es, c, hh, ⟨by omega, ⟨h2, h1, ?_⟩, hr1⟩, by omega, rfl⟩, ?_, ?_⟩
 ·rw [hkeys]
  have : (l.map fun x => bstr x.1) = (l.map (·.1)).map bstr := by rw [List.map_map]; rfl
  rw [this]
  exact List.pairwise_map.2 (hn.imp fun hab e => hab (Y6k e))
 ·rw [Maps.size_eq, Go.length_sorted]
  simp [hlen]
 ·intro ss hss
  refine hss.trans ?_
  unfold strKeys
  rw [hr2]
  have := (Go.WideShapes.sorted_perm (l.map fun x => ((Lit.string x.1, DataW.lit (.bool true)) : Lit × DataW Unit))).map (fun p => strOf p.1)
  refine this.trans ?_
  rw [List.map_map]
  exact List.Perm.of_eq rfl
section
variable {P : Program} {N : Nat} {Q : QE} {ρ : Env} {w : World} {w0 : Base} {ok0 : Nat → Prop} {Γ : List It} {Λ : List LObj}
variable {d d2 : Option Tmp} {ty ty2 : TypeId} {pos pos2 : String} {aft aft2 : Array Edge} {gd : Option (Nat × Bool)} {ops : Array Oper} {rest : List Oper}
structure SK (P : Program) (fk fs g : FuncId) (M : TypeId) : Prop where
 fk_ : FN P fk
 fs_ : FN P fs
 keys : ∀ (mb : Option Nat) (W : World), Calls P fk #[.map mb] W fun e w' => e = .returned (.func (.func g) #[] #[.pointer (some ⟨W.heap.size, 0, none⟩)]) ∧ w' = W.alloc (.cells #[.map mb] M)
 sorted : ∀ (b nn : Nat) (D0 : DataW Unit) (R : Value → Option (DataW Unit × List MemPlace)) (w : World) (hown : w.ownsMap P 9 R b nn D0) (hmax : Maps.size D0 ≤ maxLen) (hbytes : Maps.size D0 * 16 ≤ 140737488355328),
  Calls P fs #[.func (.func g) #[] #[.pointer (some ⟨w.heap.size, 0, none⟩)]] (w.alloc (.cells #[.map (some b)] M)) fun e w' => ∃ (v : Value) (ss : List (List UInt8)), e = .returned v ∧ ss.Perm (strKeys D0) ∧
   w'.ownsRow (w.alloc (.cells #[.map (some b)] M)).heap.size 9 1 v ss.length ((ss.mergeSort (fun x y => decide (x ≤ y))).map encStr) ∧ (v = .slice none 0 0 ↔ ss = []) ∧ Below (w.alloc (.cells #[.map (some b)] M)).heap.size (w.alloc (.cells #[.map (some b)] M)) w'
 sortedN : ∀ w : World, Calls P fs #[.func (.func g) #[] #[.pointer (some ⟨w.heap.size, 0, none⟩)]] (w.alloc (.cells #[.map none] M)) fun e w' => ∃ (v : Value) (ss : List (List UInt8)), e = .returned v ∧ ss = [] ∧
   w'.ownsRow (w.alloc (.cells #[.map none] M)).heap.size 9 1 v ss.length ((ss.mergeSort (fun x y => decide (x ≤ y))).map encStr) ∧ (v = .slice none 0 0 ↔ ss = []) ∧ Below (w.alloc (.cells #[.map none] M)).heap.size (w.alloc (.cells #[.map none] M)) w'
theorem Y6P {ok : Nat → Prop} {w : World} (xs : List (List UInt8)) : Y0U tStr ok w xs (xs.map encStr) := by
 refine ⟨by simp [tStr], fun j x hx => ?_⟩
 show _ = [bstr x]
 have hj := (List.getElem?_eq_some_iff.1 hx).1
 rw [show j * tStr.sz = j from Nat.mul_one j, show tStr.sz = 1 from rfl, List.drop_eq_getElem_cons (by simpa using hj), List.take_succ_cons, List.take_zero, List.getElem_map, (List.getElem?_eq_some_iff.1 hx).2]
 rfl
theorem St.ownNew {v : Value} {xs : List (List UInt8)} {w' : World} (hs : St ok0 w0 w Γ Λ) (hb : Below w.heap.size w w') (h : w'.ownsRow w.heap.size 9 1 v xs.length (xs.map encStr)) : St ok0 w0 w' Γ (own tStr 9 v xs :: Λ) := by
 have hs' : St ok0 w0 w' Γ Λ := hs.below hb
 have hx := h
 obtain ⟨_, h⟩ := h
 rcases h with ⟨rfl, hn⟩ | ⟨g, cap, cur, rfl, hb1, hg, h1, h2, h3, h4⟩
 ·have : xs = [] := List.length_eq_zero_iff.1 hn
  subst this
  exact hs'.ownNil tStr 9
 ·rcases Nat.eq_zero_or_pos cap with hc | hc
  ·have : xs = [] := List.length_eq_zero_iff.1 (by omega)
   subst this
   subst hc
   exact hs'.ownEmpty tStr 9 _
  ·refine hs.new hb (bs := [g]) (by simp) (fun b hb => ?_) fun ok _ _ _ => .inr ⟨hc, xs.map encStr, rfl, ⟨by simp [tStr], .inr ⟨g, cap, cur, rfl, Nat.zero_le _, hg, h1, h2, h3, h4⟩⟩, Y6P xs⟩
   simp at hb; subst hb; exact ⟨hb1, Y0K hg⟩
theorem WL.sortedKeys {β : Type} {V : Ty β} {fk fs g : FuncId} {M T1 T2 : TypeId} {x : Operand} {t : Tmp} {mv : Value} {l : List (List UInt8 × β)} {r : List (List UInt8)} (S : SK P fk fs g M) (hk : P.underlying 9 = some .string) (hs : St ok0 w0 w Γ Λ) (i : Nat) (hi : Γ[i]? = some (vl (tMap bstr V) l mv))
  (hx : ρ.ev x = mv) (hr : Y65 l = some r)
  (K : ∀ c v w', St ok0 w0 w' Γ (own tStr 9 v r :: Λ) → WL P N ops Q rest (putE (putE ρ (some t) c) d2 v) w')
  (hg : Y0C ops ρ ⟨some t, .call { callee := .value (.func fk), args := [x].toArray, argTypes := #[T1] }, ty, pos, aft, none⟩ = true := by rfl) (hd : fits N (some t) = true := by rfl) (hd2 : fits N d2 = true := by rfl) :
  WL P N ops Q (⟨some t, .call { callee := .value (.func fk), args := [x].toArray, argTypes := #[T1] }, ty, pos, aft, none⟩ :: ⟨d2, .call { callee := .value (.func fs), args := [.tmp t].toArray, argTypes := #[T2] }, ty2, pos2, aft2, none⟩ :: rest) ρ w := by
 unfold Y65 at hr
 split at hr
 ·rename_i hc
  obtain ⟨hc1, hc2⟩ := hc
  have hr := Option.some.inj hr
  have step : ∀ mb : Option Nat, mv = .map mb → ∀ R : Value → World → Prop, (Calls P fs #[.func (.func g) #[] #[.pointer (some ⟨w.heap.size, 0, none⟩)]] (w.alloc (.cells #[.map mb] M)) fun e w' => ∃ v, e = .returned v ∧ R v w') →
    (∀ v w', R v w' → St ok0 w0 w' Γ (own tStr 9 v r :: Λ)) → WL P N ops Q (⟨some t, .call { callee := .value (.func fk), args := [x].toArray, argTypes := #[T1] }, ty, pos, aft, none⟩ :: ⟨d2, .call { callee := .value (.func fs), args := [.tmp t].toArray, argTypes := #[T2] }, ty2, pos2, aft2, none⟩ :: rest) ρ w := by
   intro mb em R h1 h2
   refine WL.enter (R := fun v w' => v = .func (.func g) #[] #[.pointer (some ⟨w.heap.size, 0, none⟩)] ∧ w' = w.alloc (.cells #[.map mb] M)) hg hd (w' := w) (f := fk) (args := [mv].toArray) ?_ ?_ ?_
   ·show (invoke (.fn (.func fk) #[]) (#[] ++ [x].toArray.map ρ.ev)).run P w = _
    rw [List.map_toArray, List.map_cons, hx]
    simpa [invoke] using S.fk_ [mv].toArray w
   ·rw [em]
    refine (S.keys mb w).mono ?_
    rintro e w' ⟨h3, h4⟩
    exact ⟨_, h3, rfl, h4⟩
   ·rintro v w' ⟨rfl, rfl⟩
    refine WL.enter (R := R) rfl hd2 (w' := w.alloc (.cells #[.map mb] M)) (f := fs) (args := #[.func (.func g) #[] #[.pointer (some ⟨w.heap.size, 0, none⟩)]]) ?_ h1 ?_
    ·show (invoke (.fn (.func fs) #[]) (#[] ++ [Operand.tmp t].toArray.map (putE ρ (some t) _).ev)).run P _ = _
     rw [List.map_toArray, List.map_cons]
     have e : (putE ρ (some t) (.func (.func g) #[] #[.pointer (some ⟨w.heap.size, 0, none⟩)])).ev (.tmp t) = .func (.func g) #[] #[.pointer (some ⟨w.heap.size, 0, none⟩)] := Y62 ρ t _
     rw [e]
     simpa [invoke] using S.fs_ #[.func (.func g) #[] #[.pointer (some ⟨w.heap.size, 0, none⟩)]] (w.alloc (.cells #[.map mb] M))
    ·intro v w' hR
     exact K _ v w' (h2 v w' hR)
  have hml : l.length ≤ maxLen := by unfold maxLen; omega
  obtain ⟨ok, hh⟩ := hs.get i hi
  rcases Y5c.1 hh with ⟨em, el⟩ | ⟨b, es, c, em, hok, hb, he, h1, h2, h3⟩
  ·subst el
   refine step none em (fun v w' => w'.ownsRow (w.alloc (.cells #[.map none] M)).heap.size 9 1 v 0 [] ∧ Below (w.alloc (.cells #[.map none] M)).heap.size (w.alloc (.cells #[.map none] M)) w') ((S.sortedN w).mono ?_) ?_
   ·rintro e w' ⟨v, ss, rfl, rfl, q1, q2, q3⟩
    exact ⟨v, rfl, by simpa using q1, q3⟩
   ·rintro v w' ⟨q1, q2⟩
    have : r = [] := by rw [← hr]; simp
    subst this
    exact (hs.below (Y1A w _)).ownNew q2 q1
  ·obtain ⟨R, D0, o1, o2, o3⟩ := map_owns hk hb he h1 h2 h3 hml hc1
   refine step (some b) em (fun v w' => w'.ownsRow (w.alloc (.cells #[.map (some b)] M)).heap.size 9 1 v r.length (r.map encStr) ∧ Below (w.alloc (.cells #[.map (some b)] M)).heap.size (w.alloc (.cells #[.map (some b)] M)) w') ((S.sorted b l.length D0 R w o1 (o2.symm ▸ hml) (o2.symm ▸ hc2)).mono ?_) ?_
   ·rintro e w' ⟨v, ss, rfl, q0, q1, q2, q3⟩
    have e1 : ss.mergeSort (fun x y => decide (x ≤ y)) = r := by
     rw [← hr]
     exact mergeSort_of_perm (o3 ss q0)
    rw [e1] at q1
    have e2 : r.length = ss.length := by rw [← e1, List.length_mergeSort]
    rw [← e2] at q1
    exact ⟨v, rfl, q1, q3⟩
   ·rintro v w' ⟨q1, q2⟩
    exact (hs.below (Y1A w _)).ownNew q2 q1
 ·cases hr
end
end
end Go.Proofs.YtpfgdjfiimknlaaGreatL
namespace Go.Proofs.YtpfgdjfiimknlaaGreat
section
open Go Go.RowKit Go.Proofs.YtpfgdjfiimknlaaGreatL
structure Y0y where
 Kind : Int
 Object : List UInt8
 Field : List UInt8
 N : Int
 S : List UInt8
 deriving DecidableEq
structure Y0l where
 Client : Int
 Seq : Int
 Tag : Int
 Effects : List Y0y
 deriving DecidableEq
structure Y0L where
 Set : Bool
 Tag : Int
 Client : Int
 Seq : Int
 N : Int
 S : List UInt8
 deriving DecidableEq
structure Y04 where
 f_Type : Int
 N : Int
 S : List UInt8
 deriving DecidableEq
structure Y0u where
 f_key : Y04
 f_object : List UInt8
 deriving DecidableEq
structure Y07 where
 Name : List UInt8
 Register : Y0L
 HasMax : Bool
 Max : Int
 Sum : Int
 Elems : List (List UInt8)
 Flag : Bool
 deriving DecidableEq
structure Y0f where
 Name : List UInt8
 Fields : List Y07
 deriving DecidableEq
structure Y0N where
 Objects : List Y0f
 deriving DecidableEq
structure Y0c where
 Name : List UInt8
 Kind : Int
 f_Type : Int
 At : Int
 deriving DecidableEq
structure Y0a where
 Key : Y04
 Objects : List (List UInt8)
 deriving DecidableEq
structure Y0Y where
 Field : Y0c
 Entries : List Y0a
 deriving DecidableEq
structure Y00 where
 f_Type : Int
 N : Int
 S : List UInt8
 deriving DecidableEq
structure Y06 where
 Key : Y00
 Objects : List (List UInt8)
 deriving DecidableEq
noncomputable def Y1q (x1 : Int) : Option Bool :=
 some (x1 != x1)
noncomputable def Y0W (x1 : Int) (x2 : Int) : Option Int :=
 ((Y1q x1).bind fun x5 =>
 ((Y1q x2).bind fun x7 =>
 (if x5 then (if x7 then some 0 else some (-1)) else (if x7 then some 1 else (if (decide (x1 < x2)) then some (-1) else (if (decide (x2 < x1)) then some 1 else some 0))))))
noncomputable def Y0S.j1   : Option Int :=
 some 0
noncomputable def Y0S.l1 (x1 : List Int) : Int → Option ((Int) ⊕ (Unit ⊕ Int)) := fun x12 =>
 (if (decide (x12 < (x1.length : Int))) then ((idx x1 x12).bind fun x19 =>
 (if (x19 != 0) then some (.inr (.inr x19)) else (letV (IntKind.i64.wrap (x12 + 1)) fun x25 =>
 some (.inl x25)))) else some (.inr (.inl ())))
noncomputable def Y0S (x1 : List Int) : Option Int :=
 ((Y18 (Y0S.l1 x1) 0).bind fun b => match b with | .inl _ => Y0S.j1 | .inr x26 => some x26)
noncomputable def Y23.j1  (x14 : Bool) : Option Bool :=
 some x14
noncomputable def Y23 (x1 : Y0l) (x5 : Y0L) : Option Bool :=
 (if (!x5.Set) then Y23.j1 true else ((Y0W x1.Tag x5.Tag).bind fun x84 =>
 ((Y0W x1.Client x5.Client).bind fun x87 =>
 ((Y0W x1.Seq x5.Seq).bind fun x90 =>
 ((Y0S [x84, x87, x90]).bind fun x93 =>
 Y23.j1 (decide (0 < x93)))))))
noncomputable def Y1k (x1 : List (List UInt8)) : Option (List (List UInt8)) :=
 ((app 16 [] x1).bind fun x11 =>
 some x11)
noncomputable def Y1d (x1 : Int) : Option Bool :=
 some (x1 != x1)
noncomputable def Y1e (x1 : Int) (x2 : Int) : Option Int :=
 ((Y1d x1).bind fun x5 =>
 ((Y1d x2).bind fun x7 =>
 (if x5 then (if x7 then some 0 else some (-1)) else (if x7 then some 1 else (if (decide (x1 < x2)) then some (-1) else (if (decide (x2 < x1)) then some 1 else some 0))))))
noncomputable def Y16 (x1 : List UInt8) : Option Bool :=
 some (x1 != x1)
noncomputable def Y17 (x1 : List UInt8) (x2 : List UInt8) : Option Int :=
 ((Y16 x1).bind fun x5 =>
 ((Y16 x2).bind fun x7 =>
 (if x5 then (if x7 then some 0 else some (-1)) else (if x7 then some 1 else (if (Op.bytesLess x1 x2) then some (-1) else (if (!(Op.bytesLess x1 x2 || x1 == x2)) then some 1 else some 0))))))
noncomputable def Y0j.j1  (x11 : List (List UInt8)) : Option (List (List UInt8)) :=
 some x11
noncomputable def Y0j.j2  (x24 : List (List UInt8)) (x26 : Int) : Option (((List (List UInt8)) × Int) ⊕ ((List (List UInt8)) ⊕ (List (List UInt8)))) :=
 (letV (IntKind.i64.wrap (x26 + 1)) fun x28 =>
 some (.inl (x24, x28)))
noncomputable def Y0j.j3  (x61 : List (List UInt8)) (x63 : Int) : Option (((List (List UInt8)) × Int) ⊕ ((List (List UInt8)) ⊕ (List (List UInt8)))) :=
 (if 0 ≤ x63 ∧ x63 ≤ (x61.length : Int) then ((clr x61 x63 ([] : List UInt8)).bind fun x67 =>
 ((cut x67 0 x63).bind fun x69 =>
 some (.inr (.inr x69)))) else none)
noncomputable def Y0j.j4 (x74 : Int) (x80 : List (List UInt8)) (x82 : Int) : Option (((List (List UInt8)) × Int × Int) ⊕ ((List (List UInt8)) × Int)) :=
 (letV (IntKind.i64.wrap (x74 + 1)) fun x84 =>
 some (.inl (x80, x82, x84)))
noncomputable def Y0j.l1 (x18 : Int) : ((List (List UInt8)) × Int × Int) → Option (((List (List UInt8)) × Int × Int) ⊕ ((List (List UInt8)) × Int)) := fun (x71, x73, x74) =>
 (if (decide (x74 < ((x71.length - (x18).toNat : Nat) : Int))) then ((idx (List.drop ((x18).toNat) x71) x74).bind fun x86 =>
 (letV (IntKind.i64.wrap (x74 - 1)) fun x89 =>
 ((idx (List.drop ((x18).toNat) x71) x89).bind fun x90 =>
 (if (x86 != x90) then ((idx (List.drop ((x18).toNat) x71) x74).bind fun x115 =>
 ((idx x71 x73).bind fun x118 =>
 (letV (x71.set (x73).toNat x115) fun x120 =>
 (letV (IntKind.i64.wrap (x73 + 1)) fun x121 =>
 Y0j.j4 x74 x120 x121)))) else Y0j.j4 x74 x71 x73)))) else some (.inr (x71, x73)))
noncomputable def Y0j.l2  : ((List (List UInt8)) × Int) → Option (((List (List UInt8)) × Int) ⊕ ((List (List UInt8)) ⊕ (List (List UInt8)))) := fun (x16, x18) =>
 (if (decide (x18 < (x16.length : Int))) then ((idx x16 x18).bind fun x30 =>
 (letV (IntKind.i64.wrap (x18 - 1)) fun x33 =>
 ((idx x16 x33).bind fun x34 =>
 (if (x30 == x34) then (if 0 ≤ x18 ∧ x18 ≤ (x16.length : Int) then ((Y18 (Y0j.l1 x18) (x16, x18, 1)).bind fun (x122, x123) => Y0j.j3 x122 x123) else none) else Y0j.j2 x16 x18)))) else some (.inr (.inl x16)))
noncomputable def Y0j (x1 : List (List UInt8)) : Option (List (List UInt8)) :=
 (if (decide ((x1.length : Int) < 2)) then some x1 else ((Y18 Y0j.l2 (x1, 1)).bind fun b => match b with | .inl x124 => Y0j.j1 x124 | .inr x125 => some x125))
noncomputable def Y1U (x1 : Y0u) : Option Y04 :=
 some x1.f_key
abbrev Y1u := List (List UInt8 × List Y07)
abbrev Y7U := List (List UInt8 × List (List UInt8 × Y07))
def Y19 : Y07 := ⟨[], ⟨false, 0, 0, 0, 0, []⟩, false, 0, 0, [], false⟩
noncomputable def Y4x (u : Y0l) (e : Y0y) (f : Y07) : Option Y07 :=
 if e.Kind == 1 then ((Y23 u f.Register).bind fun b => if b then some { f with Register := ⟨true, u.Tag, u.Client, u.Seq, e.N, e.S⟩ } else some f) else
 if e.Kind == 2 then (if (!f.HasMax) then some { f with HasMax := true, Max := e.N } else if decide (f.Max < e.N) then some { f with HasMax := true, Max := e.N } else some f) else
 if e.Kind == 3 then some { f with Sum := IntKind.i64.wrap (f.Sum + e.N) } else
 if e.Kind == 4 then ((insO f.Elems e.S).bind fun l => some { f with Elems := l }) else
 if e.Kind == 5 then some { f with Flag := true } else some f
def Y1i (x : Y1u) (k : List UInt8) : Y1u := if (x.lookup k).isNone then x ++ [(k, [])] else x
def Y4I (x : Y1u) (k f : List UInt8) : Y07 := (((x.lookup k).getD []).find? fun q => f == q.Name).getD Y19
def Y2y (x : Y1u) (k : List UInt8) (y : Y07) : Y1u := mset x k (fput Y07.Name y ((x.lookup k).getD []))
noncomputable def Y55 (u : Y0l) (x : Y1u) (e : Y0y) : Option Y1u :=
 (Y4x u e { Y4I (Y1i x e.Object) e.Object e.Field with Name := e.Field }).bind fun f => some (Y2y (Y1i x e.Object) e.Object f)
noncomputable def Y1T.l1 (u : Y0l) : (Int × Y1u) → Option ((Int × Y1u) ⊕ Y1u) := fun (i, x) =>
 if decide (i < (u.Effects.length : Int)) then ((idx u.Effects i).bind fun e => (Y55 u x e).bind fun x' => letV (IntKind.i64.wrap (i + 1)) fun j => some (.inl (j, x'))) else some (.inr x)
noncomputable def Y1T (u : Y0l) (x : Y1u) : Option Y1u := Y18 (Y1T.l1 u) (0, x)
noncomputable def Y1D.l1 (o : Y0f) : (Int × List Y07) → Option ((Int × List Y07) ⊕ List Y07) := fun (i, fs) =>
 if decide (i < (o.Fields.length : Int)) then ((idx o.Fields i).bind fun f => (Y1k f.Elems).bind fun l => letV (IntKind.i64.wrap (i + 1)) fun j => some (.inl (j, fput Y07.Name { f with Elems := l } fs))) else some (.inr fs)
noncomputable def Y1D.l2 (t : Y0N) : (Int × Y1u) → Option ((Int × Y1u) ⊕ Y1u) := fun (i, x) =>
 if decide (i < (t.Objects.length : Int)) then ((idx t.Objects i).bind fun o => (Y18 (Y1D.l1 o) (0, [])).bind fun fs => letV (IntKind.i64.wrap (i + 1)) fun j => some (.inl (j, mset x o.Name fs))) else some (.inr x)
noncomputable def Y1D (t : Y0N) : Option Y1u := Y18 (Y1D.l2 t) (0, [])
def Y2z (x : Y1u) : Y7U := x.map fun o => (o.1, o.2.map fun y => (y.Name, y))
noncomputable def Y1o.l1 (m : List (List UInt8 × Y07)) (ns : List (List UInt8)) : (Int × List Y07) → Option ((Int × List Y07) ⊕ List Y07) := fun (i, out) =>
 if decide (i < (ns.length : Int)) then ((idx ns i).bind fun n => (app 128 out [(m.lookup n).getD Y19]).bind fun out' => letV (IntKind.i64.wrap (i + 1)) fun j => some (.inl (j, out'))) else some (.inr out)
noncomputable def Y1o.l2 (x : Y7U) (ns : List (List UInt8)) : (Int × List Y0f) → Option ((Int × List Y0f) ⊕ List Y0f) := fun (i, out) =>
 if decide (i < (ns.length : Int)) then ((idx ns i).bind fun n => (Y65 ((x.lookup n).getD [])).bind fun fs => (Y18 (Y1o.l1 ((x.lookup n).getD []) fs) (0, [])).bind fun l => (app 40 out [⟨n, l⟩]).bind fun out' => letV (IntKind.i64.wrap (i + 1)) fun j => some (.inl (j, out'))) else some (.inr out)
noncomputable def Y1o (x : Y7U) : Option Y0N := (Y65 x).bind fun ns => (Y18 (Y1o.l2 x ns) (0, [])).bind fun l => some ⟨l⟩
def cmpS (a b : List UInt8) : Int := if Op.bytesLess a b then -1 else if Op.bytesLess b a then 1 else 0
def Y1W (a b : Y04) : Int := if cmpI a.f_Type b.f_Type ≠ 0 then cmpI a.f_Type b.f_Type else if cmpI a.N b.N ≠ 0 then cmpI a.N b.N else cmpS a.S b.S
noncomputable def Y2m (x1 : Y0N) (x2 : Y0l) : Option Y0N := (Y1D x1).bind fun b => (Y1T x2 b).bind fun b' => Y1o (Y2z b')
noncomputable def Y1a.j1 (x5 : List UInt8) (x11 : Y07) : Option Y07 :=
 some (⟨x5, (⟨false, 0, 0, 0, 0, []⟩ : Y0L), false, 0, 0, [], false⟩ : Y07)
noncomputable def Y1a.l1 (x1 : Y0f) (x5 : List UInt8) : (Int × Y07) → Option ((Int × Y07) ⊕ (Y07 ⊕ Y07)) := fun (x21, x22) =>
 (if (decide (x21 < ((x1.Fields).length : Int))) then ((idx x1.Fields x21).bind fun x31 =>
 (if (x31.Name == x5) then ((Y1k x31.Elems).bind fun x42 =>
 some (.inr (.inr (⟨x31.Name, (⟨x31.Register.Set, x31.Register.Tag, x31.Register.Client, x31.Register.Seq, x31.Register.N, x31.Register.S⟩ : Y0L), x31.HasMax, x31.Max, x31.Sum, x42, x31.Flag⟩ : Y07)))) else (letV (IntKind.i64.wrap (x21 + 1)) fun x47 =>
 some (.inl (x47, x22))))) else some (.inr (.inl x22)))
noncomputable def Y1a (x1 : Y0f) (x5 : List UInt8) : Option Y07 :=
 ((Y18 (Y1a.l1 x1 x5) (0, (⟨[], (⟨false, 0, 0, 0, 0, []⟩ : Y0L), false, 0, 0, [], false⟩ : Y07))).bind fun b => match b with | .inl x48 => Y1a.j1 x5 x48 | .inr x49 => some x49)
def Y1N (x1 : List Y04) : Option (List Y04) := Y79 (fun a b => decide (Y1W a b < 0)) x1
noncomputable def Y1Z (x1 : Y04) (x5 : Y04) : Option Int :=
 ((Y0W x1.f_Type x5.f_Type).bind fun x15 =>
 ((Y1e x1.N x5.N).bind fun x18 =>
 ((Y17 x1.S x5.S).bind fun x21 =>
 ((Y0S [x15, x18, x21]).bind fun x24 =>
 some x24))))
noncomputable def Y0n.j1  (x11 : List Y04) : Option (List Y04) :=
 some x11
noncomputable def Y0n.j2  (x24 : List Y04) (x26 : Int) : Option (((List Y04) × Int) ⊕ ((List Y04) ⊕ (List Y04))) :=
 (letV (IntKind.i64.wrap (x26 + 1)) fun x28 =>
 some (.inl (x24, x28)))
noncomputable def Y0n.j3  (x75 : List Y04) (x77 : Int) : Option (((List Y04) × Int) ⊕ ((List Y04) ⊕ (List Y04))) :=
 (if 0 ≤ x77 ∧ x77 ≤ (x75.length : Int) then ((clr x75 x77 (⟨0, 0, []⟩ : Y04)).bind fun x81 =>
 ((cut x81 0 x77).bind fun x83 =>
 some (.inr (.inr x83)))) else none)
noncomputable def Y0n.j4 (x88 : Int) (x94 : List Y04) (x96 : Int) : Option (((List Y04) × Int × Int) ⊕ ((List Y04) × Int)) :=
 (letV (IntKind.i64.wrap (x88 + 1)) fun x98 =>
 some (.inl (x94, x96, x98)))
noncomputable def Y0n.l1 (x18 : Int) : ((List Y04) × Int × Int) → Option (((List Y04) × Int × Int) ⊕ ((List Y04) × Int)) := fun (x85, x87, x88) =>
 (if (decide (x88 < ((x85.length - (x18).toNat : Nat) : Int))) then ((idx (List.drop ((x18).toNat) x85) x88).bind fun x100 =>
 (letV (IntKind.i64.wrap (x88 - 1)) fun x105 =>
 ((idx (List.drop ((x18).toNat) x85) x105).bind fun x106 =>
 (if (!decide ((⟨x100.f_Type, x100.N, x100.S⟩ : Y04) = (⟨x106.f_Type, x106.N, x106.S⟩ : Y04))) then ((idx (List.drop ((x18).toNat) x85) x88).bind fun x143 =>
 ((idx x85 x87).bind fun x148 =>
 (letV (x85.set (x87).toNat x143) fun x150 =>
 (letV (IntKind.i64.wrap (x87 + 1)) fun x151 =>
 Y0n.j4 x88 x150 x151)))) else Y0n.j4 x88 x85 x87)))) else some (.inr (x85, x87)))
noncomputable def Y0n.l2  : ((List Y04) × Int) → Option (((List Y04) × Int) ⊕ ((List Y04) ⊕ (List Y04))) := fun (x16, x18) =>
 (if (decide (x18 < (x16.length : Int))) then ((idx x16 x18).bind fun x30 =>
 (letV (IntKind.i64.wrap (x18 - 1)) fun x35 =>
 ((idx x16 x35).bind fun x36 =>
 (if (decide ((⟨x30.f_Type, x30.N, x30.S⟩ : Y04) = (⟨x36.f_Type, x36.N, x36.S⟩ : Y04))) then (if 0 ≤ x18 ∧ x18 ≤ (x16.length : Int) then ((Y18 (Y0n.l1 x18) (x16, x18, 1)).bind fun (x152, x153) => Y0n.j3 x152 x153) else none) else Y0n.j2 x16 x18)))) else some (.inr (.inl x16)))
noncomputable def Y0n (x1 : List Y04) : Option (List Y04) :=
 (if (decide ((x1.length : Int) < 2)) then some x1 else ((Y18 Y0n.l2 (x1, 1)).bind fun b => match b with | .inl x154 => Y0n.j1 x154 | .inr x155 => some x155))
noncomputable def Y0H.j1  (x22 : List Y04) : Option (List Y04) :=
 ((Y1N x22).bind fun x28 =>
 ((Y0n x28).bind fun x30 =>
 some x30))
noncomputable def Y0H.l1 (x14 : Y07) : ((List Y04) × Int) → Option (((List Y04) × Int) ⊕ (List Y04)) := fun (x63, x67) =>
 (if (decide (x67 < ((x14.Elems).length : Int))) then ((idx x14.Elems x67).bind fun x74 =>
 ((app 32 x63 [(⟨2, 0, x74⟩ : Y04)]).bind fun x78 =>
 (letV (IntKind.i64.wrap (x67 + 1)) fun x83 =>
 some (.inl (x78, x83))))) else some (.inr x63))
noncomputable def Y0H.j2 (x1 : Y0c) (x14 : Y07) (x48 : Bool) : Option (List Y04) :=
 (if x48 then ((app 32 [] [(⟨x1.f_Type, 0, x14.Register.S⟩ : Y04)]).bind fun x53 =>
 Y0H.j1 x53) else (if (x1.Kind == 4) then ((Y18 (Y0H.l1 x14) ([], 0)).bind fun x84 => Y0H.j1 x84) else Y0H.j1 []))
noncomputable def Y0H.j3 (x1 : Y0c) (x14 : Y07) (x36 : Bool) : Option (List Y04) :=
 (if x36 then ((app 32 [] ([(⟨x1.f_Type, x14.Register.N, []⟩ : Y04)])).bind fun x41 =>
 Y0H.j1 x41) else (if (x1.Kind == 1) then (if x14.Register.Set then Y0H.j2 x1 x14 (x1.f_Type == 2) else Y0H.j2 x1 x14 false) else Y0H.j2 x1 x14 false))
noncomputable def Y0H (x1 : Y0c) (x5 : Y0f) : Option (List Y04) :=
 ((Y1a x5 x1.Name).bind fun x14 =>
 (if (x1.Kind == 1) then (if x14.Register.Set then Y0H.j3 x1 x14 (x1.f_Type == 1) else Y0H.j3 x1 x14 false) else Y0H.j3 x1 x14 false))
noncomputable def Y0O.j1  (x13 : List Y0u) : Option (List Y0u) :=
 some x13
noncomputable def Y0O.j2 (x25 : Int) (x32 : List Y0u) : Option (((List Y0u) × Int) ⊕ (List Y0u)) :=
 (letV (IntKind.i64.wrap (x25 + 1)) fun x37 =>
 some (.inl (x32, x37)))
noncomputable def Y0O.l1 (x39 : Y0f) (x46 : List Y04) : ((List Y0u) × Int) → Option (((List Y0u) × Int) ⊕ (List Y0u)) := fun (x51, x55) =>
 (if (decide (x55 < (x46.length : Int))) then ((idx x46 x55).bind fun x62 =>
 ((app 48 x51 [(⟨x62, x39.Name⟩ : Y0u)]).bind fun x70 =>
 (letV (IntKind.i64.wrap (x55 + 1)) fun x75 =>
 some (.inl (x70, x75))))) else some (.inr x51))
noncomputable def Y0O.l2 (x1 : Y0c) (x5 : List Y0f) : ((List Y0u) × Int) → Option (((List Y0u) × Int) ⊕ (List Y0u)) := fun (x21, x25) =>
 (if (decide (x25 < (x5.length : Int))) then ((idx x5 x25).bind fun x39 =>
 ((Y0H x1 x39).bind fun x46 =>
 ((Y18 (Y0O.l1 x39 x46) (x21, 0)).bind fun x76 => Y0O.j2 x25 x76))) else some (.inr x21))
noncomputable def Y0O (x1 : Y0c) (x5 : List Y0f) : Option (List Y0u) :=
 ((Y18 (Y0O.l2 x1 x5) ([], 0)).bind fun x77 => Y0O.j1 x77)
noncomputable def Y1x.l1 (x1 : List Y0u) : (Int × List (Y04 × List Y0u)) → Option ((Int × List (Y04 × List Y0u)) ⊕ List (Y04 × List Y0u)) := fun (i, gs) =>
 if decide (i < (x1.length : Int)) then ((idx x1 i).bind fun p => (Y1U p).bind fun k => (app 48 ((gs.lookup k).getD []) [p]).bind fun l => letV (IntKind.i64.wrap (i + 1)) fun j => some (.inl (j, mset gs k l))) else some (.inr gs)
noncomputable def Y1x (x1 : List Y0u) : Option (List (Y04 × List Y0u)) := Y18 (Y1x.l1 x1) (0, [])
noncomputable def Y1G (x1 : List (List UInt8)) : Option (List (List UInt8)) := if x1.length * 16 ≤ 140737488355328 then Y0j (x1.mergeSort fun a b => decide (a ≤ b)) else none
def Y1h (x1 : List Y0a) : Option (List Y0a) := Y79 (fun a b => decide (Y1W a.Key b.Key < 0)) x1
noncomputable def Y0z.j1 (x1 : Y0c) (x15 : List Y0a) : Option Y0Y :=
 ((Y1h x15).bind fun x21 =>
 some (⟨(⟨x1.Name, x1.Kind, x1.f_Type, x1.At⟩ : Y0c), x21⟩ : Y0Y))
noncomputable def Y0z.j2 (x29 : List Y0a) (x34 : Y04) (x49 : List (List UInt8)) : Option ((List Y0a) ⊕ (Unit)) :=
 ((Y1G x49).bind fun x55 =>
 ((app 56 x29 [(⟨(⟨x34.f_Type, x34.N, x34.S⟩ : Y04), x55⟩ : Y0a)]).bind fun x60 =>
 some (.inl x60)))
noncomputable def Y0z.l1 (x35 : List Y0u) : (Int × (List (List UInt8))) → Option ((Int × (List (List UInt8))) ⊕ (List (List UInt8))) := fun (x67, x68) =>
 (if (decide (x67 < (x35.length : Int))) then ((idx x35 x67).bind fun x78 =>
 ((app 16 x68 [x78.f_object]).bind fun x86 =>
 (letV (IntKind.i64.wrap (x67 + 1)) fun x91 =>
 some (.inl (x91, x86))))) else some (.inr x68))
noncomputable def Y0z.l2  (x34 : Y04) (x35 : List Y0u) : List Y0a → Option ((List Y0a) ⊕ (Unit)) := fun x29 =>
 ((Y18 (Y0z.l1 x35) (0, [])).bind fun x92 => Y0z.j2 x29 x34 x92)
noncomputable def Y0z (x1 : Y0c) (x5 : List Y0u) : Option Y0Y :=
 ((Y1x x5).bind fun x24 =>
 (Y8G x24 fun t27 =>
 ((Y5w (fun p : Y04 × (List Y0u) => Y0z.l2 p.1 p.2) t27 []).bind fun b => match b with | .inl x29 => Y0z.j1 x1 x29 | .inr _ => none)))
noncomputable def Y1s (x1 : Y0c) (x5 : Y0N) : Option Y0Y :=
 ((Y0O x1 x5.Objects).bind fun x17 =>
 ((Y0z x1 x17).bind fun x20 =>
 some x20))
noncomputable def Y0J.j1  (x20 : List (List UInt8)) : Option (List (List UInt8)) :=
 ((Y1G x20).bind fun x26 =>
 some x26)
noncomputable def Y0J.j2 (x39 : Int) (x46 : List (List UInt8)) : Option (((List (List UInt8)) × Int) ⊕ (List (List UInt8))) :=
 (letV (IntKind.i64.wrap (x39 + 1)) fun x51 =>
 some (.inl (x46, x51)))
noncomputable def Y0J.j3 (x35 : List (List UInt8)) (x39 : Int) (x53 : Y0a) (x61 : Bool) : Option (((List (List UInt8)) × Int) ⊕ (List (List UInt8))) :=
 (if x61 then ((app 16 x35 x53.Objects).bind fun x67 =>
 Y0J.j2 x39 x67) else Y0J.j2 x39 x35)
noncomputable def Y0J.l1 (x1 : Y0Y) (x5 : Y04) (x9 : Y04) : ((List (List UInt8)) × Int) → Option (((List (List UInt8)) × Int) ⊕ (List (List UInt8))) := fun (x35, x39) =>
 (if (decide (x39 < ((x1.Entries).length : Int))) then ((idx x1.Entries x39).bind fun x53 =>
 ((Y1Z x5 x53.Key).bind fun x75 =>
 (if (decide (x75 ≤ 0)) then ((Y1Z x53.Key x9).bind fun x80 =>
 Y0J.j3 x35 x39 x53 (decide (x80 ≤ 0))) else Y0J.j3 x35 x39 x53 false))) else some (.inr x35))
noncomputable def Y0J (x1 : Y0Y) (x5 : Y04) (x9 : Y04) : Option (List (List UInt8)) :=
 ((Y18 (Y0J.l1 x1 x5 x9) ([], 0)).bind fun x81 => Y0J.j1 x81)
noncomputable def Y21 (x1 : Y0Y) (x5 : Y04) : Option (List (List UInt8)) :=
 ((Y0J x1 x5 x5).bind fun x13 =>
 some x13)
noncomputable def Y0I.j1  (x27 : Bool) : Option Bool :=
 some x27
noncomputable def Y0I.j2  (x6 : List Y0f) : Option Bool :=
 ((Y1s (⟨([111, 119, 110, 101, 114] : List UInt8), 1, 2, 0⟩ : Y0c) (⟨x6⟩ : Y0N)).bind fun x11 =>
 ((Y21 x11 (⟨2, 0, ([97, 110, 110] : List UInt8)⟩ : Y04)).bind fun x16 =>
 ((Y0J x11 (⟨2, 0, ([98] : List UInt8)⟩ : Y04) (⟨2, 0, ([99] : List UInt8)⟩ : Y04)).bind fun x21 =>
 (if (((x11.Entries).length : Int) == 2) then (if ((x16.length : Int) == 2) then ((idx x16 0).bind fun x34 =>
 (if (x34 == ([97] : List UInt8)) then ((idx x16 1).bind fun x38 =>
 (if (x38 == ([98] : List UInt8)) then (if ((x21.length : Int) == 1) then ((idx x21 0).bind fun x43 =>
 (if (x43 == ([99] : List UInt8)) then ((Y21 x11 (⟨0, 0, []⟩ : Y04)).bind fun x47 =>
 Y0I.j1 ((x47.length : Int) == 0)) else Y0I.j1 false)) else Y0I.j1 false) else Y0I.j1 false)) else Y0I.j1 false)) else Y0I.j1 false) else Y0I.j1 false))))
noncomputable def Y0I.l1  : (Int × (List Y0f)) → Option ((Int × (List Y0f)) ⊕ (List Y0f)) := fun (x54, x55) =>
 (if (decide (x54 < (([([98] : List UInt8), ([97] : List UInt8), ([99] : List UInt8)]).length : Int))) then ((idx ([([98] : List UInt8), ([97] : List UInt8), ([99] : List UInt8)]) x54).bind fun x64 =>
 (letV (IntKind.i64.wrap (101 + x54)) fun x67 =>
 ((idx ([([97, 110, 110] : List UInt8), ([97, 110, 110] : List UInt8), ([98, 111, 98] : List UInt8)]) x54).bind fun x70 =>
 ((Y2m (⟨x55⟩ : Y0N) (⟨x67, 1, 0, [(⟨1, x64, ([111, 119, 110, 101, 114] : List UInt8), 0, x70⟩ : Y0y)]⟩ : Y0l)).bind fun x75 =>
 (letV (IntKind.i64.wrap (x54 + 1)) fun x121 =>
 some (.inl (x121, x75.Objects))))))) else some (.inr x55))
noncomputable def Y0I  : Option Bool :=
 ((Y18 Y0I.l1 (0, [])).bind fun x126 => Y0I.j2 x126)
noncomputable def Y1p (x1 : Int) (x2 : Int) : Option Int :=
 (if (decide (x2 < 1)) then some 0 else (if x2 ≠ 0 then (letV (IntKind.i64.wrap ((Int.tmod x1 x2) + x2)) fun x10 =>
 (if x2 ≠ 0 then some (Int.tmod x10 x2) else none)) else none))
noncomputable def Y0h.j1 (x2 : Int) (x9 : Int) : Option Int :=
 (if x2 ≠ 0 then some (Int.tmod x9 x2) else none)
noncomputable def Y0h.l1 (x2 : Int) (x3 : Int) : (Int × Int) → Option ((Int × Int) ⊕ (Int)) := fun (x15, x16) =>
 (if (decide (x16 < x3)) then (if x2 ≠ 0 then (letV (IntKind.i64.wrap (Int.tdiv x15 x2)) fun x22 =>
 (letV (IntKind.i64.wrap (x16 + 1)) fun x24 =>
 some (.inl (x22, x24)))) else none) else some (.inr x15))
noncomputable def Y0h (x1 : Int) (x2 : Int) (x3 : Int) : Option Int :=
 ((Y1p x1 1099511627776).bind fun x6 =>
 ((Y18 (Y0h.l1 x2 x3) (x6, 0)).bind fun x25 => Y0h.j1 x2 x25))
noncomputable def Y0V.j1 (x8 : List UInt8) (x44 : Int) (x48 : Int) : Option Y0c :=
 some (⟨x8, x44, x48, 0⟩ : Y0c)
noncomputable def Y0V.j2 (x1 : Int) (x8 : List UInt8) (x44 : Int) : Option Y0c :=
 (if (x44 == 1) then ((Y0h x1 2 8).bind fun x53 =>
 (letV (IntKind.i64.wrap (1 + x53)) fun x54 =>
 Y0V.j1 x8 x44 x54)) else Y0V.j1 x8 x44 0)
noncomputable def Y0V (x1 : Int) : Option Y0c :=
 ((Y0h x1 5 0).bind fun x7 =>
 ((idx ([([97] : List UInt8), ([98] : List UInt8), ([99] : List UInt8), ([120, 49] : List UInt8), ([110, 111, 110, 101] : List UInt8)]) x7).bind fun x8 =>
 ((Y0h x1 5 1).bind fun x11 =>
 (letV (IntKind.i64.wrap (1 + x11)) fun x12 =>
 ((Y0h x1 3 4).bind fun x56 =>
 (if (decide (0 < x56)) then ((Y0h x1 2 6).bind fun x59 =>
 ((idx [1, 4] x59).bind fun x60 =>
 Y0V.j2 x1 x8 x60)) else Y0V.j2 x1 x8 x12))))))
noncomputable def Y1E (x1 : Int) : Option (List UInt8) :=
 ((Y1p x1 4).bind fun x5 =>
 ((idx ([([97] : List UInt8), ([98] : List UInt8), ([99] : List UInt8), ([120, 49] : List UInt8)]) x5).bind fun x6 =>
 some x6))
noncomputable def Y0X.j1 (x7 : List UInt8) (x9 : List UInt8) (x16 : Int) (x17 : Int) (x18 : List UInt8) : Option Y0y :=
 some (⟨x16, x7, x9, x17, x18⟩ : Y0y)
noncomputable def Y0X (x1 : Int) (x2 : Bool) : Option Y0y :=
 ((Y0h x1 4 1).bind fun x6 =>
 ((Y1E x6).bind fun x7 =>
 ((Y0h x1 4 2).bind fun x8 =>
 ((Y1E x8).bind fun x9 =>
 ((Y0h x1 16 3).bind fun x12 =>
 (letV (IntKind.i64.wrap (x12 - 5)) fun x13 =>
 (if x2 then ((Y0h x1 4 5).bind fun x25 =>
 ((Y1E x25).bind fun x26 =>
 Y0X.j1 x7 x9 1 x13 x26)) else ((Y0h x1 4 0).bind fun x28 =>
 (if (x28 == 0) then Y0X.j1 x7 x9 2 x13 [] else ((Y0h x1 4 0).bind fun x32 =>
 (if (x32 == 1) then Y0X.j1 x7 x9 3 x13 [] else ((Y0h x1 4 0).bind fun x36 =>
 (if (x36 == 2) then ((Y0h x1 4 5).bind fun x39 =>
 ((Y1E x39).bind fun x40 =>
 Y0X.j1 x7 x9 4 0 x40)) else Y0X.j1 x7 x9 5 0 [])))))))))))))
noncomputable def Y15.j1 (x1 : Int) (x2 : Int) (x22 : List Y0y) : Option Y0l :=
 some (⟨x1, x2, 0, x22⟩ : Y0l)
noncomputable def Y15.l1 (x3 : Int) : (Int × (List Y0y)) → Option ((Int × (List Y0y)) ⊕ (List Y0y)) := fun (x30, x31) =>
 ((Y0h x3 3 9).bind fun x38 =>
 (if (decide (x30 ≤ x38)) then ((Y1p x3 1099511627776).bind fun x41 =>
 (letV (IntKind.i64.wrap (x30 + 1)) fun x42 =>
 (if x42 ≠ 0 then (letV (IntKind.i64.wrap (Int.tdiv x41 x42)) fun x43 =>
 ((Y0X x43 false).bind fun x45 =>
 ((app 64 x31 [x45]).bind fun x74 =>
 (letV (IntKind.i64.wrap (x30 + 1)) fun x79 =>
 some (.inl (x79, x74)))))) else none))) else some (.inr x31)))
noncomputable def Y15 (x1 : Int) (x2 : Int) (x3 : Int) : Option Y0l :=
 ((Y0h x3 3 8).bind fun x10 =>
 (if (x10 == 0) then ((Y0h x3 16 4).bind fun x13 =>
 ((Y0X x3 true).bind fun x15 =>
 some (⟨x1, x2, x13, [x15]⟩ : Y0l))) else ((Y18 (Y15.l1 x3) (0, [])).bind fun x80 => Y15.j1 x1 x2 x80)))
noncomputable def Y0k.j1  (x8 : List Y0l) : Option (List Y0l) :=
 some x8
noncomputable def Y0k.j2 (x20 : Int) (x27 : List Y0l) : Option (((List Y0l) × Int) ⊕ (List Y0l)) :=
 (letV (IntKind.i64.wrap (x20 + 1)) fun x32 =>
 some (.inl (x27, x32)))
noncomputable def Y0k.j3 (x41 : Int) (x51 : List Y0l) (x55 : Int) : Option (((List Y0l) × Int × Int) ⊕ (List Y0l)) :=
 (letV (IntKind.i64.wrap (x41 + 1)) fun x57 =>
 some (.inl (x51, x55, x57)))
noncomputable def Y0k.j4 (x1 : List Int) (x20 : Int) (x36 : List Y0l) (x40 : Int) (x41 : Int) (x60 : Bool) : Option (((List Y0l) × Int × Int) ⊕ (List Y0l)) :=
 (if x60 then (letV (IntKind.i64.wrap (x40 + 1)) fun x64 =>
 (letV (IntKind.i64.wrap (101 + x20)) fun x65 =>
 ((idx x1 x41).bind fun x66 =>
 ((Y1p x66 1099511627776).bind fun x69 =>
 (letV (IntKind.i64.wrap (Int.tdiv x69 3)) fun x70 =>
 ((Y15 x65 x64 x70).bind fun x71 =>
 ((app 48 x36 [(⟨x71.Client, x71.Seq, x71.Tag, x71.Effects⟩ : Y0l)]).bind fun x76 =>
 Y0k.j3 x41 x76 x64))))))) else Y0k.j3 x41 x36 x40)
noncomputable def Y0k.j5 (x1 : List Int) (x20 : Int) (x36 : List Y0l) (x40 : Int) (x41 : Int) (x46 : Bool) : Option (((List Y0l) × Int × Int) ⊕ (List Y0l)) :=
 (if x46 then ((idx x1 x41).bind fun x81 =>
 ((Y0h x81 3 0).bind fun x84 =>
 (if (x84 == x20) then Y0k.j4 x1 x20 x36 x40 x41 (decide (x40 < 8)) else Y0k.j4 x1 x20 x36 x40 x41 false))) else some (.inr x36))
noncomputable def Y0k.l1 (x1 : List Int) (x20 : Int) : ((List Y0l) × Int × Int) → Option (((List Y0l) × Int × Int) ⊕ (List Y0l)) := fun (x36, x40, x41) =>
 (if (decide (x41 < (x1.length : Int))) then Y0k.j5 x1 x20 x36 x40 x41 (decide (x41 < 24)) else Y0k.j5 x1 x20 x36 x40 x41 false)
noncomputable def Y0k.l2 (x1 : List Int) : ((List Y0l) × Int) → Option (((List Y0l) × Int) ⊕ (List Y0l)) := fun (x16, x20) =>
 (if (decide (x20 < 3)) then ((Y18 (Y0k.l1 x1 x20) (x16, 0, 0)).bind fun x87 => Y0k.j2 x20 x87) else some (.inr x16))
noncomputable def Y0k (x1 : List Int) : Option (List Y0l) :=
 ((Y18 (Y0k.l2 x1) ([], 0)).bind fun x88 => Y0k.j1 x88)
noncomputable def Y1X.l1 (x1 : List Y0l) : (Int × Y1u) → Option ((Int × Y1u) ⊕ Y1u) := fun (i, x) =>
 if decide (i < (x1.length : Int)) then ((idx x1 i).bind fun u => (Y1T u x).bind fun x' => letV (IntKind.i64.wrap (i + 1)) fun j => some (.inl (j, x'))) else some (.inr x)
noncomputable def Y1X (x1 : List Y0l) : Option Y0N := (Y18 (Y1X.l1 x1) (0, [])).bind fun b => Y1o (Y2z b)
noncomputable def Y26 (x1 : Y04) : Option Y00 :=
 some (⟨x1.f_Type, x1.N, x1.S⟩ : Y00)
noncomputable def Y0M.j1 (x1 : Y00) (x5 : Y00) (x15 : Bool) : Option Int :=
 (if x15 then some (-1) else (if (decide ((⟨x1.f_Type, x1.N, x1.S⟩ : Y00) = (⟨x5.f_Type, x5.N, x5.S⟩ : Y00))) then some 0 else some 1))
noncomputable def Y0M (x1 : Y00) (x5 : Y00) : Option Int :=
 (if (decide (x1.f_Type < x5.f_Type)) then Y0M.j1 x1 x5 true else (if (x1.f_Type == x5.f_Type) then (if (decide (x1.N < x5.N)) then Y0M.j1 x1 x5 true else (if (x1.N == x5.N) then Y0M.j1 x1 x5 (Op.bytesLess x1.S x5.S) else Y0M.j1 x1 x5 false)) else Y0M.j1 x1 x5 false))
noncomputable def Y0F.j1   : Option Bool :=
 some true
noncomputable def Y0F.l1 (x1 : List (List UInt8)) (x4 : List (List UInt8)) : Int → Option ((Int) ⊕ (Unit ⊕ Bool)) := fun x18 =>
 (if (decide (x18 < (x1.length : Int))) then ((idx x1 x18).bind fun x25 =>
 ((idx x4 x18).bind fun x28 =>
 (if (x25 != x28) then some (.inr (.inr false)) else (letV (IntKind.i64.wrap (x18 + 1)) fun x57 =>
 some (.inl x57))))) else some (.inr (.inl ())))
noncomputable def Y0F (x1 : List (List UInt8)) (x4 : List (List UInt8)) : Option Bool :=
 (if ((x1.length : Int) != (x4.length : Int)) then some false else ((Y18 (Y0F.l1 x1 x4) 0).bind fun b => match b with | .inl _ => Y0F.j1 | .inr x58 => some x58))
noncomputable def Y0T.j1 (x5 : List UInt8) (x11 : Y07) : Option Y07 :=
 some (⟨x5, (⟨false, 0, 0, 0, 0, []⟩ : Y0L), false, 0, 0, [], false⟩ : Y07)
noncomputable def Y0T.l1 (x1 : Y0f) (x5 : List UInt8) : (Int × Y07) → Option ((Int × Y07) ⊕ (Y07 ⊕ Y07)) := fun (x18, x19) =>
 (if (decide (x18 < ((x1.Fields).length : Int))) then ((idx x1.Fields x18).bind fun x34 =>
 (if (x34.Name == x5) then ((idx x1.Fields x18).bind fun x43 =>
 some (.inr (.inr x43))) else (letV (IntKind.i64.wrap (x18 + 1)) fun x48 =>
 some (.inl (x48, x19))))) else some (.inr (.inl x19)))
noncomputable def Y0T (x1 : Y0f) (x5 : List UInt8) : Option Y07 :=
 ((Y18 (Y0T.l1 x1 x5) (0, (⟨[], (⟨false, 0, 0, 0, 0, []⟩ : Y0L), false, 0, 0, [], false⟩ : Y07))).bind fun b => match b with | .inl x49 => Y0T.j1 x5 x49 | .inr x50 => some x50)
noncomputable def Y0B.j1  (x21 : List Y00) : Option (List Y00) :=
 some x21
noncomputable def Y0B.l1 (x14 : Y07) : ((List Y00) × Int) → Option (((List Y00) × Int) ⊕ (List Y00)) := fun (x56, x60) =>
 (if (decide (x60 < ((x14.Elems).length : Int))) then ((idx x14.Elems x60).bind fun x72 =>
 ((app 32 x56 [(⟨2, 0, x72⟩ : Y00)]).bind fun x76 =>
 (letV (IntKind.i64.wrap (x60 + 1)) fun x81 =>
 some (.inl (x76, x81))))) else some (.inr x56))
noncomputable def Y0B.j2 (x1 : Y0c) (x14 : Y07) (x41 : Bool) : Option (List Y00) :=
 (if x41 then ((app 32 [] [(⟨2, 0, x14.Register.S⟩ : Y00)]).bind fun x46 =>
 Y0B.j1 x46) else (if (x1.Kind == 4) then ((Y18 (Y0B.l1 x14) ([], 0)).bind fun x82 => Y0B.j1 x82) else Y0B.j1 []))
noncomputable def Y0B.j3 (x1 : Y0c) (x14 : Y07) (x29 : Bool) : Option (List Y00) :=
 (if x29 then ((app 32 [] ([(⟨1, x14.Register.N, []⟩ : Y00)])).bind fun x34 =>
 Y0B.j1 x34) else (if (x1.Kind == 1) then (if x14.Register.Set then Y0B.j2 x1 x14 (x1.f_Type == 2) else Y0B.j2 x1 x14 false) else Y0B.j2 x1 x14 false))
noncomputable def Y0B (x1 : Y0c) (x5 : Y0f) : Option (List Y00) :=
 ((Y0T x5 x1.Name).bind fun x14 =>
 (if (x1.Kind == 1) then (if x14.Register.Set then Y0B.j3 x1 x14 (x1.f_Type == 1) else Y0B.j3 x1 x14 false) else Y0B.j3 x1 x14 false))
noncomputable def Y0d.j1  (x15 : List Y06) : Option (List Y06) :=
 some x15
noncomputable def Y0d.j2 (x27 : Int) (x37 : List Y06) : Option (((List Y06) × Int) ⊕ (List Y06)) :=
 (letV (IntKind.i64.wrap (x27 + 1)) fun x42 =>
 some (.inl (x37, x42)))
noncomputable def Y0d.j3 (x92 : Int) (x99 : List Y06) : Option (((List Y06) × Int) ⊕ (List Y06)) :=
 (letV (IntKind.i64.wrap (x92 + 1)) fun x104 =>
 some (.inl (x99, x104)))
noncomputable def Y0d.j4 (x5 : Y0N) (x27 : Int) (x92 : Int) (x108 : Int) (x112 : List Y06) : Option (((List Y06) × Int) ⊕ (List Y06)) :=
 ((idx x112 x108).bind fun x177 =>
 ((app 16 [] x177.Objects).bind fun x183 =>
 ((idx x5.Objects x27).bind fun x191 =>
 ((app 16 x183 [x191.Name]).bind fun x197 =>
 ((idx x112 x108).bind fun x202 =>
 (letV (x112.set (x108).toNat ({ x202 with Objects := x197 })) fun x277 =>
 Y0d.j3 x92 x277))))))
noncomputable def Y0d.j5 (x5 : Y0N) (x27 : Int) (x52 : List Y00) (x88 : List Y06) (x92 : Int) (x108 : Int) (x280 : Bool) : Option (((List Y06) × Int) ⊕ (List Y06)) :=
 (if x280 then ((app 56 x88 ([(⟨(⟨0, 0, []⟩ : Y00), []⟩ : Y06)])).bind fun x285 =>
 (letV (IntKind.i64.wrap (x108 + 1)) fun x291 =>
 (if 0 ≤ x291 ∧ x291 ≤ (x285.length : Int) then (if 0 ≤ x108 ∧ x108 ≤ (x285.length : Int) then (letV (cpyN x285 ((x291).toNat) ((x108).toNat)) fun x307 =>
 ((idx x52 x92).bind fun x308 =>
 ((idx x307 x108).bind fun x313 =>
 (letV (x307.set (x108).toNat (⟨x308, []⟩ : Y06)) fun x315 =>
 Y0d.j4 x5 x27 x92 x108 x315)))) else none) else none))) else Y0d.j4 x5 x27 x92 x108 x88)
noncomputable def Y0d.j6 (x5 : Y0N) (x27 : Int) (x52 : List Y00) (x88 : List Y06) (x92 : Int) (x108 : Int) : Option (((List Y06) × Int) ⊕ (List Y06)) :=
 (if (x108 == (x88.length : Int)) then Y0d.j5 x5 x27 x52 x88 x92 x108 true else ((idx x88 x108).bind fun x359 =>
 ((idx x52 x92).bind fun x365 =>
 Y0d.j5 x5 x27 x52 x88 x92 x108 (!decide ((⟨x359.Key.f_Type, x359.Key.N, x359.Key.S⟩ : Y00) = (⟨x365.f_Type, x365.N, x365.S⟩ : Y00))))))
noncomputable def Y0d.j7 (x423 : Int) (x428 : Bool) : Option ((Int) ⊕ (Int)) :=
 (if x428 then (letV (IntKind.i64.wrap (x423 + 1)) fun x431 =>
 some (.inl x431)) else some (.inr x423))
noncomputable def Y0d.l1 (x52 : List Y00) (x88 : List Y06) (x92 : Int) : Int → Option ((Int) ⊕ (Int)) := fun x423 =>
 (if (decide (x423 < (x88.length : Int))) then ((idx x88 x423).bind fun x433 =>
 ((idx x52 x92).bind fun x439 =>
 ((Y0M x433.Key x439).bind fun x444 =>
 Y0d.j7 x423 (decide (x444 < 0))))) else Y0d.j7 x423 false)
noncomputable def Y0d.l2 (x5 : Y0N) (x27 : Int) (x52 : List Y00) : ((List Y06) × Int) → Option (((List Y06) × Int) ⊕ (List Y06)) := fun (x88, x92) =>
 (if (decide (x92 < (x52.length : Int))) then ((Y18 (Y0d.l1 x52 x88 x92) 0).bind fun x545 => Y0d.j6 x5 x27 x52 x88 x92 x545) else some (.inr x88))
noncomputable def Y0d.l3 (x1 : Y0c) (x5 : Y0N) : ((List Y06) × Int) → Option (((List Y06) × Int) ⊕ (List Y06)) := fun (x23, x27) =>
 (if (decide (x27 < ((x5.Objects).length : Int))) then ((idx x5.Objects x27).bind fun x47 =>
 ((Y0B x1 x47).bind fun x52 =>
 ((Y18 (Y0d.l2 x5 x27 x52) (x23, 0)).bind fun x546 => Y0d.j2 x27 x546))) else some (.inr x23))
noncomputable def Y0d (x1 : Y0c) (x5 : Y0N) : Option (List Y06) :=
 ((Y18 (Y0d.l3 x1 x5) ([], 0)).bind fun x547 => Y0d.j1 x547)
noncomputable def Y0R.j1   : Option Bool :=
 some true
noncomputable def Y0R.j2 (x18 : Int) (x26 : Bool) : Option ((Int) ⊕ (Unit ⊕ Bool)) :=
 (if x26 then some (.inr (.inr false)) else (letV (IntKind.i64.wrap (x18 + 1)) fun x30 =>
 some (.inl x30)))
noncomputable def Y0R.l1 (x1 : List Y0a) (x4 : List Y06) : Int → Option ((Int) ⊕ (Unit ⊕ Bool)) := fun x18 =>
 (if (decide (x18 < (x1.length : Int))) then ((idx x1 x18).bind fun x31 =>
 ((Y26 x31.Key).bind fun x37 =>
 ((idx x4 x18).bind fun x40 =>
 (if (!decide ((⟨x37.f_Type, x37.N, x37.S⟩ : Y00) = (⟨x40.Key.f_Type, x40.Key.N, x40.Key.S⟩ : Y00))) then Y0R.j2 x18 true else ((idx x1 x18).bind fun x138 =>
 ((idx x4 x18).bind fun x144 =>
 ((Y0F x138.Objects x144.Objects).bind fun x150 =>
 Y0R.j2 x18 (!x150)))))))) else some (.inr (.inl ())))
noncomputable def Y0R (x1 : List Y0a) (x4 : List Y06) : Option Bool :=
 (if ((x1.length : Int) != (x4.length : Int)) then some false else ((Y18 (Y0R.l1 x1 x4) 0).bind fun b => match b with | .inl _ => Y0R.j1 | .inr x264 => some x264))
noncomputable def Y0x.j1   : Option Bool :=
 some true
noncomputable def Y0x.l1 (x1 : List Y0a) (x4 : List Y0a) (x7 : Y0a × Y0a → Option Bool) : Int → Option ((Int) ⊕ (Unit ⊕ Bool)) := fun x20 =>
 (if (decide (x20 < (x1.length : Int))) then ((idx x1 x20).bind fun x27 =>
 ((idx x4 x20).bind fun x34 =>
 ((x7 (x27, x34)).bind fun x41 =>
 (if (!x41) then some (.inr (.inr false)) else (letV (IntKind.i64.wrap (x20 + 1)) fun x44 =>
 some (.inl x44)))))) else some (.inr (.inl ())))
noncomputable def Y0x (x1 : List Y0a) (x4 : List Y0a) (x7 : Y0a × Y0a → Option Bool) : Option Bool :=
 (if ((x1.length : Int) != (x4.length : Int)) then some false else ((Y18 (Y0x.l1 x1 x4 x7) 0).bind fun b => match b with | .inl _ => Y0x.j1 | .inr x45 => some x45))
noncomputable def Y0G.j1   : Option Bool :=
 some true
noncomputable def Y0G.l1 (x1 : List (List UInt8)) (x4 : List (List UInt8)) : Int → Option ((Int) ⊕ (Unit ⊕ Bool)) := fun x18 =>
 (if (decide (x18 < (x1.length : Int))) then ((idx x1 x18).bind fun x26 =>
 ((idx x4 x18).bind fun x29 =>
 (if (x26 != x29) then some (.inr (.inr false)) else (letV (IntKind.i64.wrap (x18 + 1)) fun x58 =>
 some (.inl x58))))) else some (.inr (.inl ())))
noncomputable def Y0G (x1 : List (List UInt8)) (x4 : List (List UInt8)) : Option Bool :=
 (if ((x1.length : Int) != (x4.length : Int)) then some false else ((Y18 (Y0G.l1 x1 x4) 0).bind fun b => match b with | .inl _ => Y0G.j1 | .inr x59 => some x59))
noncomputable def Y13.j1  (x14 : Bool) : Option Bool :=
 some x14
noncomputable def Y13 (x1 : Y0a) (x5 : Y0a) : Option Bool :=
 (if (decide ((⟨x1.Key.f_Type, x1.Key.N, x1.Key.S⟩ : Y04) = (⟨x5.Key.f_Type, x5.Key.N, x5.Key.S⟩ : Y04))) then ((Y0G x1.Objects x5.Objects).bind fun x29 =>
 Y13.j1 x29) else Y13.j1 false)
noncomputable def Y0Q.j1  (x25 : Bool) : Option Bool :=
 some x25
noncomputable def Y0Q.j2 (x1 : Y0Y) (x5 : Y0Y) (x15 : Y0c) (x19 : Y0c) : Option Bool :=
 (if (x15.Name == x19.Name) then (if (x15.Kind == x19.Kind) then (if (x15.f_Type == x19.f_Type) then ((Y0x x1.Entries x5.Entries (fun p : Y0a × Y0a => Y13 p.1 p.2)).bind fun x42 =>
 Y0Q.j1 x42) else Y0Q.j1 false) else Y0Q.j1 false) else Y0Q.j1 false)
noncomputable def Y0Q (x1 : Y0Y) (x5 : Y0Y) : Option Bool :=
 Y0Q.j2 x1 x5 x1.Field x5.Field
noncomputable def Y0E.j1  (x74 : Bool) : Option Bool :=
 some x74
noncomputable def Y0E.j2 (x11 : Y0c) (x24 : Y0N) (x37 : Y0Y) (x40 : Y0Y) (x67 : Bool) : Option Bool :=
 ((Y0Q x37 x40).bind fun x76 =>
 (if (x76 == x67) then ((Y1s (⟨x11.Name, x11.Kind, x11.f_Type, 9⟩ : Y0c) x24).bind fun x78 =>
 ((Y0Q x37 x78).bind fun x81 =>
 (if x81 then ((Y0I).bind fun x83 =>
 Y0E.j1 x83) else Y0E.j1 false))) else Y0E.j1 false))
noncomputable def Y0E (x1 : List Int) (x4 : List Int) (x7 : Int) (x8 : Int) : Option Bool :=
 ((Y0V x7).bind fun x11 =>
 ((Y0V x8).bind fun x14 =>
 ((Y0k x1).bind fun x20 =>
 ((Y1X x20).bind fun x24 =>
 ((Y0k x4).bind fun x27 =>
 ((Y1X x27).bind fun x31 =>
 ((Y1s x11 x24).bind fun x37 =>
 ((Y1s (⟨x14.Name, x14.Kind, x14.f_Type, x14.At⟩ : Y0c) x31).bind fun x40 =>
 (if (x11.Name == x14.Name) then (if (x11.Kind == x14.Kind) then (if (x11.f_Type == x14.f_Type) then ((Y0d (⟨x14.Name, x14.Kind, x14.f_Type, x8⟩ : Y0c) x31).bind fun x211 =>
 ((Y0R x37.Entries x211).bind fun x214 =>
 Y0E.j2 x11 x24 x37 x40 x214)) else Y0E.j2 x11 x24 x37 x40 false) else Y0E.j2 x11 x24 x37 x40 false) else Y0E.j2 x11 x24 x37 x40 false)))))))))
end
section
open Go Go.RowKit Go.Proofs.YtpfgdjfiimknlaaGreatL
set_option maxRecDepth 20000
def Y0A : Ty Y0y := tIso (Y2u (tInt .i64) (Y2u tStr (Y2u tStr (Y2u (tInt .i64) tStr)))) fun x : Y0y => (x.Kind, x.Object, x.Field, x.N, x.S)
def Y0r : Ty Y0l := tIso (Y2u (tInt .i64) (Y2u (tInt .i64) (Y2u (tInt .i64) (Y0b Y0A)))) fun x : Y0l => (x.Client, x.Seq, x.Tag, x.Effects)
theorem Y4l : Fld Y0r (tInt .i64) 0 Y0l.Client (fun x y => { x with Client := y }) := (Fld.iso (Fld.fst _ _) (fun _ => rfl) (fun _ _ => rfl))
theorem Y51 : Fld Y0r (tInt .i64) 1 Y0l.Seq (fun x y => { x with Seq := y }) := (Fld.iso (Fld.snd (Fld.fst _ _)) (fun _ => rfl) (fun _ _ => rfl))
theorem Y50 : Fld Y0r (tInt .i64) 2 Y0l.Tag (fun x y => { x with Tag := y }) := (Fld.iso (Fld.snd (Fld.snd (Fld.fst _ _))) (fun _ => rfl) (fun _ _ => rfl))
theorem Y46 : Fld Y0r (Y0b Y0A) 3 Y0l.Effects (fun x y => { x with Effects := y }) := (Fld.iso (Fld.snd (Fld.snd (Fld.snd Fld.self))) (fun _ => rfl) (fun _ _ => rfl))
def Y1c : Ty Y0L := tIso (Y2u Y8d (Y2u (tInt .i64) (Y2u (tInt .i64) (Y2u (tInt .i64) (Y2u (tInt .i64) tStr))))) fun x : Y0L => (x.Set, x.Tag, x.Client, x.Seq, x.N, x.S)
theorem Y2k : Fld Y1c Y8d 0 Y0L.Set (fun x y => { x with Set := y }) := (Fld.iso (Fld.fst _ _) (fun _ => rfl) (fun _ _ => rfl))
theorem Y4j : Fld Y1c (tInt .i64) 1 Y0L.Tag (fun x y => { x with Tag := y }) := (Fld.iso (Fld.snd (Fld.fst _ _)) (fun _ => rfl) (fun _ _ => rfl))
theorem Y3M : Fld Y1c (tInt .i64) 2 Y0L.Client (fun x y => { x with Client := y }) := (Fld.iso (Fld.snd (Fld.snd (Fld.fst _ _))) (fun _ => rfl) (fun _ _ => rfl))
theorem Y4k : Fld Y1c (tInt .i64) 3 Y0L.Seq (fun x y => { x with Seq := y }) := (Fld.iso (Fld.snd (Fld.snd (Fld.snd (Fld.fst _ _)))) (fun _ => rfl) (fun _ _ => rfl))
theorem Y4M : Fld Y1c (tInt .i64) 4 Y0L.N (fun x y => { x with N := y }) := (Fld.iso (Fld.snd (Fld.snd (Fld.snd (Fld.snd (Fld.fst _ _))))) (fun _ => rfl) (fun _ _ => rfl))
theorem Y4L : Fld Y1c tStr 5 Y0L.S (fun x y => { x with S := y }) := (Fld.iso (Fld.snd (Fld.snd (Fld.snd (Fld.snd (Fld.snd Fld.self))))) (fun _ => rfl) (fun _ _ => rfl))
def Y09 : Ty Y04 := tIso (Y2u (tInt .i64) (Y2u (tInt .i64) tStr)) fun x : Y04 => (x.f_Type, x.N, x.S)
theorem Y2Q : Fld Y09 (tInt .i64) 0 Y04.f_Type (fun x y => { x with f_Type := y }) := (Fld.iso (Fld.fst _ _) (fun _ => rfl) (fun _ _ => rfl))
theorem Y3H : Fld Y09 (tInt .i64) 1 Y04.N (fun x y => { x with N := y }) := (Fld.iso (Fld.snd (Fld.fst _ _)) (fun _ => rfl) (fun _ _ => rfl))
theorem Y3G : Fld Y09 tStr 2 Y04.S (fun x y => { x with S := y }) := (Fld.iso (Fld.snd (Fld.snd Fld.self)) (fun _ => rfl) (fun _ _ => rfl))
def Y0v : Ty Y0u := tIso (Y2u Y09 tStr) fun x : Y0u => (x.f_key, x.f_object)
theorem Y4C : Fld Y0v Y09 0 Y0u.f_key (fun x y => { x with f_key := y }) := (Fld.iso (Fld.fst _ _) (fun _ => rfl) (fun _ _ => rfl))
theorem Y3V : Fld Y0v tStr 3 Y0u.f_object (fun x y => { x with f_object := y }) := (Fld.iso (Fld.snd Fld.self) (fun _ => rfl) (fun _ _ => rfl))
def Y0w : Ty Y07 := tIso (Y2u tStr (Y2u Y1c (Y2u Y8d (Y2u (tInt .i64) (Y2u (tInt .i64) (Y2u (Y0b tStr) Y8d)))))) fun x : Y07 => (x.Name, x.Register, x.HasMax, x.Max, x.Sum, x.Elems, x.Flag)
theorem Y4N : Fld Y0w tStr 0 Y07.Name (fun x y => { x with Name := y }) := (Fld.iso (Fld.fst _ _) (fun _ => rfl) (fun _ _ => rfl))
theorem Y2c : Fld Y0w Y1c 1 Y07.Register (fun x y => { x with Register := y }) := (Fld.iso (Fld.snd (Fld.fst _ _)) (fun _ => rfl) (fun _ _ => rfl))
theorem Y2n : Fld Y0w (Y0b tStr) 10 Y07.Elems (fun x y => { x with Elems := y }) := (Fld.iso (Fld.snd (Fld.snd (Fld.snd (Fld.snd (Fld.snd (Fld.fst _ _)))))) (fun _ => rfl) (fun _ _ => rfl))
def Y0g : Ty Y0f := tIso (Y2u tStr (Y0b Y0w)) fun x : Y0f => (x.Name, x.Fields)
theorem Y3i : Fld Y0g tStr 0 Y0f.Name (fun x y => { x with Name := y }) := (Fld.iso (Fld.fst _ _) (fun _ => rfl) (fun _ _ => rfl))
theorem Y1Y : Fld Y0g (Y0b Y0w) 1 Y0f.Fields (fun x y => { x with Fields := y }) := (Fld.iso (Fld.snd Fld.self) (fun _ => rfl) (fun _ _ => rfl))
def Y0p : Ty Y0N := tIso (Y0b Y0g) fun x : Y0N => x.Objects
theorem Y1I : Fld Y0p (Y0b Y0g) 0 Y0N.Objects (fun x y => { x with Objects := y }) := (Fld.iso Fld.self (fun _ => rfl) (fun _ _ => rfl))
def Y08 : Ty Y0c := tIso (Y2u tStr (Y2u (tInt .i64) (Y2u (tInt .i64) (tInt .i64)))) fun x : Y0c => (x.Name, x.Kind, x.f_Type, x.At)
theorem Y1m : Fld Y08 tStr 0 Y0c.Name (fun x y => { x with Name := y }) := (Fld.iso (Fld.fst _ _) (fun _ => rfl) (fun _ _ => rfl))
theorem Y12 : Fld Y08 (tInt .i64) 1 Y0c.Kind (fun x y => { x with Kind := y }) := (Fld.iso (Fld.snd (Fld.fst _ _)) (fun _ => rfl) (fun _ _ => rfl))
theorem Y11 : Fld Y08 (tInt .i64) 2 Y0c.f_Type (fun x y => { x with f_Type := y }) := (Fld.iso (Fld.snd (Fld.snd (Fld.fst _ _))) (fun _ => rfl) (fun _ _ => rfl))
def Y0i : Ty Y0a := tIso (Y2u Y09 (Y0b tStr)) fun x : Y0a => (x.Key, x.Objects)
theorem Y24 : Fld Y0i Y09 0 Y0a.Key (fun x y => { x with Key := y }) := (Fld.iso (Fld.fst _ _) (fun _ => rfl) (fun _ _ => rfl))
theorem Y2b : Fld Y0i (Y0b tStr) 3 Y0a.Objects (fun x y => { x with Objects := y }) := (Fld.iso (Fld.snd Fld.self) (fun _ => rfl) (fun _ _ => rfl))
def Y0m : Ty Y0Y := tIso (Y2u Y08 (Y0b Y0i)) fun x : Y0Y => (x.Field, x.Entries)
theorem Y3c : Fld Y0m Y08 0 Y0Y.Field (fun x y => { x with Field := y }) := (Fld.iso (Fld.fst _ _) (fun _ => rfl) (fun _ _ => rfl))
theorem Y1S : Fld Y0m (Y0b Y0i) 4 Y0Y.Entries (fun x y => { x with Entries := y }) := (Fld.iso (Fld.snd Fld.self) (fun _ => rfl) (fun _ _ => rfl))
def Y03 : Ty Y00 := tIso (Y2u (tInt .i64) (Y2u (tInt .i64) tStr)) fun x : Y00 => (x.f_Type, x.N, x.S)
theorem Y1v : Fld Y03 (tInt .i64) 0 Y00.f_Type (fun x y => { x with f_Type := y }) := (Fld.iso (Fld.fst _ _) (fun _ => rfl) (fun _ _ => rfl))
theorem Y1R : Fld Y03 (tInt .i64) 1 Y00.N (fun x y => { x with N := y }) := (Fld.iso (Fld.snd (Fld.fst _ _)) (fun _ => rfl) (fun _ _ => rfl))
theorem Y2x : Fld Y03 tStr 2 Y00.S (fun x y => { x with S := y }) := (Fld.iso (Fld.snd (Fld.snd Fld.self)) (fun _ => rfl) (fun _ _ => rfl))
def Y05 : Ty Y06 := tIso (Y2u Y03 (Y0b tStr)) fun x : Y06 => (x.Key, x.Objects)
theorem Y1y : Fld Y05 Y03 0 Y06.Key (fun x y => { x with Key := y }) := (Fld.iso (Fld.fst _ _) (fun _ => rfl) (fun _ _ => rfl))
theorem Y1H : Fld Y05 (Y0b tStr) 3 Y06.Objects (fun x y => { x with Objects := y }) := (Fld.iso (Fld.snd Fld.self) (fun _ => rfl) (fun _ _ => rfl))
abbrev Y1C (x : Y04) : Value := .agg ([.int .i64 x.f_Type, .int .i64 x.N, bstr x.S] : List Value).toArray
theorem EI105 : EI Tryz.prog 105 (.agg #[.int .i64 0, .int .i64 0, .string ⟨#[]⟩, .string ⟨#[]⟩]) 4 48 := ⟨by kernel_rfl, rfl, by decide⟩
theorem EI41 : EI Tryz.prog 41 (.agg #[.string ⟨#[]⟩, .slice none 0 0]) 2 40 := ⟨by kernel_rfl, rfl, by decide⟩
theorem EI45 : EI Tryz.prog 45 (.agg #[.int .i64 0, .int .i64 0, .string ⟨#[]⟩]) 3 32 := ⟨by kernel_rfl, rfl, by decide⟩
theorem EI47 : EI Tryz.prog 47 (.agg #[.int .i64 0, .int .i64 0, .string ⟨#[]⟩]) 3 32 := ⟨by kernel_rfl, rfl, by decide⟩
theorem EI65 : EI Tryz.prog 65 (.agg #[.int .i64 0, .int .i64 0, .string ⟨#[]⟩, .slice none 0 0]) 4 56 := ⟨by kernel_rfl, rfl, by decide⟩
theorem EI74 : EI Tryz.prog 74 (.agg #[.int .i64 0, .int .i64 0, .int .i64 0, .slice none 0 0]) 4 48 := ⟨by kernel_rfl, rfl, by decide⟩
theorem EI86 : EI Tryz.prog 86 (.agg #[.string ⟨#[]⟩, .bool false, .int .i64 0, .int .i64 0, .int .i64 0, .int .i64 0, .string ⟨#[]⟩, .bool false, .int .i64 0, .int .i64 0, .slice none 0 0, .bool false]) 12 128 := ⟨by kernel_rfl, rfl, by decide⟩
theorem EI9 : EI Tryz.prog 9 (.string ⟨#[]⟩) 1 16 := ⟨by kernel_rfl, rfl, by decide⟩
theorem EI92 : EI Tryz.prog 92 (.agg #[.int .i64 0, .int .i64 0, .string ⟨#[]⟩, .slice none 0 0]) 4 56 := ⟨by kernel_rfl, rfl, by decide⟩
theorem EI96 : EI Tryz.prog 96 (.agg #[.int .i64 0, .string ⟨#[]⟩, .string ⟨#[]⟩, .int .i64 0, .string ⟨#[]⟩]) 5 64 := ⟨by kernel_rfl, rfl, by decide⟩
theorem FA105_0 : FA Tryz.prog 105 0 0 := fun _ _ => by kernel_rfl
theorem FA105_1 : FA Tryz.prog 105 1 3 := fun _ _ => by kernel_rfl
theorem Y5I : FA Tryz.prog 25 0 0 := fun _ _ => by kernel_rfl
theorem Y3K : FA Tryz.prog 31 0 0 := fun _ _ => by kernel_rfl
theorem Y2X : FA Tryz.prog 31 1 1 := fun _ _ => by kernel_rfl
theorem Y3s : FA Tryz.prog 31 2 2 := fun _ _ => by kernel_rfl
theorem FA31_3 : FA Tryz.prog 31 3 3 := fun _ _ => by kernel_rfl
theorem FA35_0 : FA Tryz.prog 35 0 0 := fun _ _ => by kernel_rfl
theorem Y4X : FA Tryz.prog 35 1 4 := fun _ _ => by kernel_rfl
theorem Y9f : FA Tryz.prog 41 0 0 := fun _ _ => by kernel_rfl
theorem Y5H : FA Tryz.prog 41 1 1 := fun _ _ => by kernel_rfl
theorem Y8a : FA Tryz.prog 45 0 0 := fun _ _ => by kernel_rfl
theorem Y89 : FA Tryz.prog 45 1 1 := fun _ _ => by kernel_rfl
theorem FA45_2 : FA Tryz.prog 45 2 2 := fun _ _ => by kernel_rfl
theorem Y71 : FA Tryz.prog 47 0 0 := fun _ _ => by kernel_rfl
theorem Y70 : FA Tryz.prog 47 1 1 := fun _ _ => by kernel_rfl
theorem Y6Z : FA Tryz.prog 47 2 2 := fun _ _ => by kernel_rfl
theorem Y4W : FA Tryz.prog 65 0 0 := fun _ _ => by kernel_rfl
theorem Y4V : FA Tryz.prog 65 1 3 := fun _ _ => by kernel_rfl
theorem FA74_0 : FA Tryz.prog 74 0 0 := fun _ _ => by kernel_rfl
theorem FA74_1 : FA Tryz.prog 74 1 1 := fun _ _ => by kernel_rfl
theorem Y9e : FA Tryz.prog 74 2 2 := fun _ _ => by kernel_rfl
theorem Y88 : FA Tryz.prog 74 3 3 := fun _ _ => by kernel_rfl
theorem Y61 : FA Tryz.prog 84 0 0 := fun _ _ => by kernel_rfl
theorem FA84_1 : FA Tryz.prog 84 1 1 := fun _ _ => by kernel_rfl
theorem FA84_2 : FA Tryz.prog 84 2 2 := fun _ _ => by kernel_rfl
theorem FA84_3 : FA Tryz.prog 84 3 3 := fun _ _ => by kernel_rfl
theorem FA84_4 : FA Tryz.prog 84 4 4 := fun _ _ => by kernel_rfl
theorem FA84_5 : FA Tryz.prog 84 5 5 := fun _ _ => by kernel_rfl
theorem Y87 : FA Tryz.prog 86 0 0 := fun _ _ => by kernel_rfl
theorem Y4c : FA Tryz.prog 86 1 1 := fun _ _ => by kernel_rfl
theorem FA86_2 : FA Tryz.prog 86 2 7 := fun _ _ => by kernel_rfl
theorem FA86_3 : FA Tryz.prog 86 3 8 := fun _ _ => by kernel_rfl
theorem FA86_4 : FA Tryz.prog 86 4 9 := fun _ _ => by kernel_rfl
theorem Y4b : FA Tryz.prog 86 5 10 := fun _ _ => by kernel_rfl
theorem FA86_6 : FA Tryz.prog 86 6 11 := fun _ _ => by kernel_rfl
theorem Y86 : FA Tryz.prog 92 0 0 := fun _ _ => by kernel_rfl
theorem Y9d : FA Tryz.prog 92 1 3 := fun _ _ => by kernel_rfl
theorem Y60 : FA Tryz.prog 96 0 0 := fun _ _ => by kernel_rfl
theorem Y85 : FA Tryz.prog 96 1 1 := fun _ _ => by kernel_rfl
theorem Y84 : FA Tryz.prog 96 2 2 := fun _ _ => by kernel_rfl
theorem Y5G : FA Tryz.prog 96 3 3 := fun _ _ => by kernel_rfl
theorem Y6Y : FA Tryz.prog 96 4 4 := fun _ _ => by kernel_rfl
theorem FN10 : FN Tryz.prog 10 := fun _ _ => by kernel_rfl
theorem FN11 : FN Tryz.prog 11 := fun _ _ => by kernel_rfl
theorem FN12 : FN Tryz.prog 12 := fun _ _ => by kernel_rfl
theorem FN13 : FN Tryz.prog 13 := fun _ _ => by kernel_rfl
theorem FN14 : FN Tryz.prog 14 := fun _ _ => by kernel_rfl
theorem FN15 : FN Tryz.prog 15 := fun _ _ => by kernel_rfl
theorem FN16 : FN Tryz.prog 16 := fun _ _ => by kernel_rfl
theorem FN17 : FN Tryz.prog 17 := fun _ _ => by kernel_rfl
theorem FN18 : FN Tryz.prog 18 := fun _ _ => by kernel_rfl
theorem FN21 : FN Tryz.prog 21 := fun _ _ => by kernel_rfl
theorem FN22 : FN Tryz.prog 22 := fun _ _ => by kernel_rfl
theorem FN24 : FN Tryz.prog 24 := fun _ _ => by kernel_rfl
theorem FN27 : FN Tryz.prog 27 := fun _ _ => by kernel_rfl
theorem FN29 : FN Tryz.prog 29 := fun _ _ => by kernel_rfl
theorem FN30 : FN Tryz.prog 30 := fun _ _ => by kernel_rfl
theorem FN31 : FN Tryz.prog 31 := fun _ _ => by kernel_rfl
theorem FN32 : FN Tryz.prog 32 := fun _ _ => by kernel_rfl
theorem FN33 : FN Tryz.prog 33 := fun _ _ => by kernel_rfl
theorem FN34 : FN Tryz.prog 34 := fun _ _ => by kernel_rfl
theorem FN35 : FN Tryz.prog 35 := fun _ _ => by kernel_rfl
theorem FN36 : FN Tryz.prog 36 := fun _ _ => by kernel_rfl
theorem FN37 : FN Tryz.prog 37 := fun _ _ => by kernel_rfl
theorem FN38 : FN Tryz.prog 38 := fun _ _ => by kernel_rfl
theorem FN39 : FN Tryz.prog 39 := fun _ _ => by kernel_rfl
theorem FN40 : FN Tryz.prog 40 := fun _ _ => by kernel_rfl
theorem FN41 : FN Tryz.prog 41 := fun _ _ => by kernel_rfl
theorem FN42 : FN Tryz.prog 42 := fun _ _ => by kernel_rfl
theorem FN44 : FN Tryz.prog 44 := fun _ _ => by kernel_rfl
theorem FN45 : FN Tryz.prog 45 := fun _ _ => by kernel_rfl
theorem FN46 : FN Tryz.prog 46 := fun _ _ => by kernel_rfl
theorem FN47 : FN Tryz.prog 47 := fun _ _ => by kernel_rfl
theorem FN49 : FN Tryz.prog 49 := fun _ _ => by kernel_rfl
theorem FN50 : FN Tryz.prog 50 := fun _ _ => by kernel_rfl
theorem FN51 : FN Tryz.prog 51 := fun _ _ => by kernel_rfl
theorem FN52 : FN Tryz.prog 52 := fun _ _ => by kernel_rfl
theorem FN55 : FN Tryz.prog 55 := fun _ _ => by kernel_rfl
theorem FN56 : FN Tryz.prog 56 := fun _ _ => by kernel_rfl
theorem FN57 : FN Tryz.prog 57 := fun _ _ => by kernel_rfl
theorem FN58 : FN Tryz.prog 58 := fun _ _ => by kernel_rfl
theorem FN60 : FN Tryz.prog 60 := fun _ _ => by kernel_rfl
theorem FN63 : FN Tryz.prog 63 := fun _ _ => by kernel_rfl
theorem FN64 : FN Tryz.prog 64 := fun _ _ => by kernel_rfl
theorem FN65 : FN Tryz.prog 65 := fun _ _ => by kernel_rfl
theorem FN66 : FN Tryz.prog 66 := fun _ _ => by kernel_rfl
theorem FN67 : FN Tryz.prog 67 := fun _ _ => by kernel_rfl
theorem FN68 : FN Tryz.prog 68 := fun _ _ => by kernel_rfl
theorem FN69 : FN Tryz.prog 69 := fun _ _ => by kernel_rfl
theorem FN75 : FN Tryz.prog 75 := fun _ _ => by kernel_rfl
theorem FN76 : FN Tryz.prog 76 := fun _ _ => by kernel_rfl
theorem FN79 : FN Tryz.prog 79 := fun _ _ => by kernel_rfl
theorem FN9 : FN Tryz.prog 9 := fun _ _ => by kernel_rfl
theorem FN91 : FN Tryz.prog 91 := fun _ _ => by kernel_rfl
theorem FN92 : FN Tryz.prog 92 := fun _ _ => by kernel_rfl
theorem FN93 : FN Tryz.prog 93 := fun _ _ => by kernel_rfl
theorem FN98 : FN Tryz.prog 98 := fun _ _ => by kernel_rfl
theorem PL105 : PL Tryz.prog 105 [(0, 3), (3, 1)] [.int .i64 0, .int .i64 0, .string ⟨#[]⟩, .string ⟨#[]⟩] := ⟨⟨_, Tryz.underlying105, fun _ => by kernel_rfl⟩, .agg #[.int .i64 0, .int .i64 0, .string ⟨#[]⟩, .string ⟨#[]⟩], fun _ => by kernel_rfl, rfl⟩
theorem PL25 : PL Tryz.prog 25 [(0, 1)] [.slice none 0 0] := ⟨⟨_, Tryz.underlying25, fun _ => by kernel_rfl⟩, .agg #[.slice none 0 0], fun _ => by kernel_rfl, rfl⟩
theorem PL31 : PL Tryz.prog 31 [(0, 1), (1, 1), (2, 1), (3, 1)] [.string ⟨#[]⟩, .int .i64 0, .int .i64 0, .int .i64 0] := ⟨⟨_, Tryz.underlying31, fun _ => by kernel_rfl⟩, .agg #[.string ⟨#[]⟩, .int .i64 0, .int .i64 0, .int .i64 0], fun _ => by kernel_rfl, rfl⟩
theorem PL35 : PL Tryz.prog 35 [(0, 4), (4, 1)] [.string ⟨#[]⟩, .int .i64 0, .int .i64 0, .int .i64 0, .slice none 0 0] := ⟨⟨_, Tryz.underlying35, fun _ => by kernel_rfl⟩, .agg #[.string ⟨#[]⟩, .int .i64 0, .int .i64 0, .int .i64 0, .slice none 0 0], fun _ => by kernel_rfl, rfl⟩
theorem PL41 : PL Tryz.prog 41 [(0, 1), (1, 1)] [.string ⟨#[]⟩, .slice none 0 0] := ⟨⟨_, Tryz.underlying41, fun _ => by kernel_rfl⟩, .agg #[.string ⟨#[]⟩, .slice none 0 0], fun _ => by kernel_rfl, rfl⟩
theorem PL45 : PL Tryz.prog 45 [(0, 1), (1, 1), (2, 1)] [.int .i64 0, .int .i64 0, .string ⟨#[]⟩] := ⟨⟨_, Tryz.underlying45, fun _ => by kernel_rfl⟩, .agg #[.int .i64 0, .int .i64 0, .string ⟨#[]⟩], fun _ => by kernel_rfl, rfl⟩
theorem PL47 : PL Tryz.prog 47 [(0, 1), (1, 1), (2, 1)] [.int .i64 0, .int .i64 0, .string ⟨#[]⟩] := ⟨⟨_, Tryz.underlying47, fun _ => by kernel_rfl⟩, .agg #[.int .i64 0, .int .i64 0, .string ⟨#[]⟩], fun _ => by kernel_rfl, rfl⟩
theorem PL65 : PL Tryz.prog 65 [(0, 3), (3, 1)] [.int .i64 0, .int .i64 0, .string ⟨#[]⟩, .slice none 0 0] := ⟨⟨_, Tryz.underlying65, fun _ => by kernel_rfl⟩, .agg #[.int .i64 0, .int .i64 0, .string ⟨#[]⟩, .slice none 0 0], fun _ => by kernel_rfl, rfl⟩
theorem PL74 : PL Tryz.prog 74 [(0, 1), (1, 1), (2, 1), (3, 1)] [.int .i64 0, .int .i64 0, .int .i64 0, .slice none 0 0] := ⟨⟨_, Tryz.underlying74, fun _ => by kernel_rfl⟩, .agg #[.int .i64 0, .int .i64 0, .int .i64 0, .slice none 0 0], fun _ => by kernel_rfl, rfl⟩
theorem PL84 : PL Tryz.prog 84 [(0, 1), (1, 1), (2, 1), (3, 1), (4, 1), (5, 1)] [.bool false, .int .i64 0, .int .i64 0, .int .i64 0, .int .i64 0, .string ⟨#[]⟩] := ⟨⟨_, Tryz.underlying84, fun _ => by kernel_rfl⟩, .agg #[.bool false, .int .i64 0, .int .i64 0, .int .i64 0, .int .i64 0, .string ⟨#[]⟩], fun _ => by kernel_rfl, rfl⟩
theorem PL86 : PL Tryz.prog 86 [(0, 1), (1, 6), (7, 1), (8, 1), (9, 1), (10, 1), (11, 1)] [.string ⟨#[]⟩, .bool false, .int .i64 0, .int .i64 0, .int .i64 0, .int .i64 0, .string ⟨#[]⟩, .bool false, .int .i64 0, .int .i64 0, .slice none 0 0, .bool false] := ⟨⟨_, Tryz.underlying86, fun _ => by kernel_rfl⟩, .agg #[.string ⟨#[]⟩, .bool false, .int .i64 0, .int .i64 0, .int .i64 0, .int .i64 0, .string ⟨#[]⟩, .bool false, .int .i64 0, .int .i64 0, .slice none 0 0, .bool false], fun _ => by kernel_rfl, rfl⟩
theorem PL92 : PL Tryz.prog 92 [(0, 3), (3, 1)] [.int .i64 0, .int .i64 0, .string ⟨#[]⟩, .slice none 0 0] := ⟨⟨_, Tryz.underlying92, fun _ => by kernel_rfl⟩, .agg #[.int .i64 0, .int .i64 0, .string ⟨#[]⟩, .slice none 0 0], fun _ => by kernel_rfl, rfl⟩
theorem PL96 : PL Tryz.prog 96 [(0, 1), (1, 1), (2, 1), (3, 1), (4, 1)] [.int .i64 0, .string ⟨#[]⟩, .string ⟨#[]⟩, .int .i64 0, .string ⟨#[]⟩] := ⟨⟨_, Tryz.underlying96, fun _ => by kernel_rfl⟩, .agg #[.int .i64 0, .string ⟨#[]⟩, .string ⟨#[]⟩, .int .i64 0, .string ⟨#[]⟩], fun _ => by kernel_rfl, rfl⟩
theorem PS22 : PS Tryz.prog 22 3 1 [.int .i64 0] := ⟨by kernel_rfl, fun _ => by kernel_rfl, .int .i64 0, fun _ => by kernel_rfl, rfl⟩
theorem PS23 : PS Tryz.prog 23 41 2 [.string ⟨#[]⟩, .slice none 0 0] := ⟨by kernel_rfl, fun _ => by kernel_rfl, .agg #[.string ⟨#[]⟩, .slice none 0 0], fun _ => by kernel_rfl, rfl⟩
theorem PS28 : PS Tryz.prog 28 74 4 [.int .i64 0, .int .i64 0, .int .i64 0, .slice none 0 0] := ⟨by kernel_rfl, fun _ => by kernel_rfl, .agg #[.int .i64 0, .int .i64 0, .int .i64 0, .slice none 0 0], fun _ => by kernel_rfl, rfl⟩
theorem PS33 : PS Tryz.prog 33 65 4 [.int .i64 0, .int .i64 0, .string ⟨#[]⟩, .slice none 0 0] := ⟨by kernel_rfl, fun _ => by kernel_rfl, .agg #[.int .i64 0, .int .i64 0, .string ⟨#[]⟩, .slice none 0 0], fun _ => by kernel_rfl, rfl⟩
theorem PS37 : PS Tryz.prog 37 47 3 [.int .i64 0, .int .i64 0, .string ⟨#[]⟩] := ⟨by kernel_rfl, fun _ => by kernel_rfl, .agg #[.int .i64 0, .int .i64 0, .string ⟨#[]⟩], fun _ => by kernel_rfl, rfl⟩
theorem PS39 : PS Tryz.prog 39 86 12 [.string ⟨#[]⟩, .bool false, .int .i64 0, .int .i64 0, .int .i64 0, .int .i64 0, .string ⟨#[]⟩, .bool false, .int .i64 0, .int .i64 0, .slice none 0 0, .bool false] := ⟨by kernel_rfl, fun _ => by kernel_rfl, .agg #[.string ⟨#[]⟩, .bool false, .int .i64 0, .int .i64 0, .int .i64 0, .int .i64 0, .string ⟨#[]⟩, .bool false, .int .i64 0, .int .i64 0, .slice none 0 0, .bool false], fun _ => by kernel_rfl, rfl⟩
theorem PS42 : PS Tryz.prog 42 45 3 [.int .i64 0, .int .i64 0, .string ⟨#[]⟩] := ⟨by kernel_rfl, fun _ => by kernel_rfl, .agg #[.int .i64 0, .int .i64 0, .string ⟨#[]⟩], fun _ => by kernel_rfl, rfl⟩
theorem PS49 : PS Tryz.prog 49 92 4 [.int .i64 0, .int .i64 0, .string ⟨#[]⟩, .slice none 0 0] := ⟨by kernel_rfl, fun _ => by kernel_rfl, .agg #[.int .i64 0, .int .i64 0, .string ⟨#[]⟩, .slice none 0 0], fun _ => by kernel_rfl, rfl⟩
theorem PS56 : PS Tryz.prog 56 9 1 [.string ⟨#[]⟩] := ⟨by kernel_rfl, fun _ => by kernel_rfl, .string ⟨#[]⟩, fun _ => by kernel_rfl, rfl⟩
theorem PS72 : PS Tryz.prog 72 96 5 [.int .i64 0, .string ⟨#[]⟩, .string ⟨#[]⟩, .int .i64 0, .string ⟨#[]⟩] := ⟨by kernel_rfl, fun _ => by kernel_rfl, .agg #[.int .i64 0, .string ⟨#[]⟩, .string ⟨#[]⟩, .int .i64 0, .string ⟨#[]⟩], fun _ => by kernel_rfl, rfl⟩
theorem PS81 : PS Tryz.prog 81 105 4 [.int .i64 0, .int .i64 0, .string ⟨#[]⟩, .string ⟨#[]⟩] := ⟨by kernel_rfl, fun _ => by kernel_rfl, .agg #[.int .i64 0, .int .i64 0, .string ⟨#[]⟩, .string ⟨#[]⟩], fun _ => by kernel_rfl, rfl⟩
theorem Y6l : TI Tryz.prog 105 true 4 := ⟨fun _ => by kernel_rfl, fun _ => by kernel_rfl⟩
theorem TI2 : TI Tryz.prog 2 false 1 := ⟨fun _ => by kernel_rfl, fun _ => by kernel_rfl⟩
theorem TI23 : TI Tryz.prog 23 false 1 := ⟨fun _ => by kernel_rfl, fun _ => by kernel_rfl⟩
theorem TI25 : TI Tryz.prog 25 true 1 := ⟨fun _ => by kernel_rfl, fun _ => by kernel_rfl⟩
theorem TI3 : TI Tryz.prog 3 false 1 := ⟨fun _ => by kernel_rfl, fun _ => by kernel_rfl⟩
theorem TI31 : TI Tryz.prog 31 true 4 := ⟨fun _ => by kernel_rfl, fun _ => by kernel_rfl⟩
theorem TI33 : TI Tryz.prog 33 false 1 := ⟨fun _ => by kernel_rfl, fun _ => by kernel_rfl⟩
theorem TI35 : TI Tryz.prog 35 true 5 := ⟨fun _ => by kernel_rfl, fun _ => by kernel_rfl⟩
theorem TI39 : TI Tryz.prog 39 false 1 := ⟨fun _ => by kernel_rfl, fun _ => by kernel_rfl⟩
theorem TI4 : TI Tryz.prog 4 false 1 := ⟨fun _ => by kernel_rfl, fun _ => by kernel_rfl⟩
theorem TI41 : TI Tryz.prog 41 true 2 := ⟨fun _ => by kernel_rfl, fun _ => by kernel_rfl⟩
theorem TI45 : TI Tryz.prog 45 true 3 := ⟨fun _ => by kernel_rfl, fun _ => by kernel_rfl⟩
theorem TI47 : TI Tryz.prog 47 true 3 := ⟨fun _ => by kernel_rfl, fun _ => by kernel_rfl⟩
theorem TI56 : TI Tryz.prog 56 false 1 := ⟨fun _ => by kernel_rfl, fun _ => by kernel_rfl⟩
theorem TI65 : TI Tryz.prog 65 true 4 := ⟨fun _ => by kernel_rfl, fun _ => by kernel_rfl⟩
theorem TI72 : TI Tryz.prog 72 false 1 := ⟨fun _ => by kernel_rfl, fun _ => by kernel_rfl⟩
theorem TI74 : TI Tryz.prog 74 true 4 := ⟨fun _ => by kernel_rfl, fun _ => by kernel_rfl⟩
theorem TI84 : TI Tryz.prog 84 true 6 := ⟨fun _ => by kernel_rfl, fun _ => by kernel_rfl⟩
theorem TI86 : TI Tryz.prog 86 true 12 := ⟨fun _ => by kernel_rfl, fun _ => by kernel_rfl⟩
theorem TI9 : TI Tryz.prog 9 false 1 := ⟨fun _ => by kernel_rfl, fun _ => by kernel_rfl⟩
theorem TI92 : TI Tryz.prog 92 true 4 := ⟨fun _ => by kernel_rfl, fun _ => by kernel_rfl⟩
theorem TI96 : TI Tryz.prog 96 true 5 := ⟨fun _ => by kernel_rfl, fun _ => by kernel_rfl⟩
theorem Y7y : Tryz.prog.underlying 106 = some (.map 9 86) := by kernel_rfl
theorem UN117 : Tryz.prog.underlying 117 = some (.map 47 81) := by kernel_rfl
theorem UN22 : Tryz.prog.underlying 22 = some (.slice 3) := by kernel_rfl
theorem UN23 : Tryz.prog.underlying 23 = some (.slice 41) := by kernel_rfl
theorem UN28 : Tryz.prog.underlying 28 = some (.slice 74) := by kernel_rfl
theorem UN33 : Tryz.prog.underlying 33 = some (.slice 65) := by kernel_rfl
theorem UN37 : Tryz.prog.underlying 37 = some (.slice 47) := by kernel_rfl
theorem UN39 : Tryz.prog.underlying 39 = some (.slice 86) := by kernel_rfl
theorem UN4 : Tryz.prog.underlying 4 = some (.bool) := by kernel_rfl
theorem UN42 : Tryz.prog.underlying 42 = some (.slice 45) := by kernel_rfl
theorem UN49 : Tryz.prog.underlying 49 = some (.slice 92) := by kernel_rfl
theorem UN56 : Tryz.prog.underlying 56 = some (.slice 9) := by kernel_rfl
theorem UN71 : Tryz.prog.underlying 71 = some (.map 9 106) := by kernel_rfl
theorem UN72 : Tryz.prog.underlying 72 = some (.slice 96) := by kernel_rfl
theorem UN81 : Tryz.prog.underlying 81 = some (.slice 105) := by kernel_rfl
theorem UN9 : Tryz.prog.underlying 9 = some (.string) := by kernel_rfl
theorem Y8u : ∀ w : World, (zeroValue 106).run Tryz.prog w = .ok (.map none) w := fun _ => by kernel_rfl
theorem ZR47 : ∀ w : World, (zeroValue 47).run Tryz.prog w = .ok (.agg #[.int .i64 0, .int .i64 0, .string ⟨#[]⟩]) w := fun _ => by kernel_rfl
theorem ZR81 : ∀ w : World, (zeroValue 81).run Tryz.prog w = .ok (.slice none 0 0) w := fun _ => by kernel_rfl
theorem ZR86 : ∀ w : World, (zeroValue 86).run Tryz.prog w = .ok (.agg #[.string ⟨#[]⟩, .bool false, .int .i64 0, .int .i64 0, .int .i64 0, .int .i64 0, .string ⟨#[]⟩, .bool false, .int .i64 0, .int .i64 0, .slice none 0 0, .bool false]) w := fun _ => by kernel_rfl
theorem ZR9 : ∀ w : World, (zeroValue 9).run Tryz.prog w = .ok (.string ⟨#[]⟩) w := fun _ => by kernel_rfl
theorem ZV105 : ZV Tryz.prog 105 [.int .i64 0, .int .i64 0, .string ⟨#[]⟩, .string ⟨#[]⟩] := ⟨.agg #[.int .i64 0, .int .i64 0, .string ⟨#[]⟩, .string ⟨#[]⟩], fun _ => by kernel_rfl, rfl⟩
theorem ZV25 : ZV Tryz.prog 25 [.slice none 0 0] := ⟨.agg #[.slice none 0 0], fun _ => by kernel_rfl, rfl⟩
theorem ZV31 : ZV Tryz.prog 31 [.string ⟨#[]⟩, .int .i64 0, .int .i64 0, .int .i64 0] := ⟨.agg #[.string ⟨#[]⟩, .int .i64 0, .int .i64 0, .int .i64 0], fun _ => by kernel_rfl, rfl⟩
theorem ZV35 : ZV Tryz.prog 35 [.string ⟨#[]⟩, .int .i64 0, .int .i64 0, .int .i64 0, .slice none 0 0] := ⟨.agg #[.string ⟨#[]⟩, .int .i64 0, .int .i64 0, .int .i64 0, .slice none 0 0], fun _ => by kernel_rfl, rfl⟩
theorem ZV41 : ZV Tryz.prog 41 [.string ⟨#[]⟩, .slice none 0 0] := ⟨.agg #[.string ⟨#[]⟩, .slice none 0 0], fun _ => by kernel_rfl, rfl⟩
theorem ZV45 : ZV Tryz.prog 45 [.int .i64 0, .int .i64 0, .string ⟨#[]⟩] := ⟨.agg #[.int .i64 0, .int .i64 0, .string ⟨#[]⟩], fun _ => by kernel_rfl, rfl⟩
theorem ZV47 : ZV Tryz.prog 47 [.int .i64 0, .int .i64 0, .string ⟨#[]⟩] := ⟨.agg #[.int .i64 0, .int .i64 0, .string ⟨#[]⟩], fun _ => by kernel_rfl, rfl⟩
theorem ZV65 : ZV Tryz.prog 65 [.int .i64 0, .int .i64 0, .string ⟨#[]⟩, .slice none 0 0] := ⟨.agg #[.int .i64 0, .int .i64 0, .string ⟨#[]⟩, .slice none 0 0], fun _ => by kernel_rfl, rfl⟩
theorem ZV74 : ZV Tryz.prog 74 [.int .i64 0, .int .i64 0, .int .i64 0, .slice none 0 0] := ⟨.agg #[.int .i64 0, .int .i64 0, .int .i64 0, .slice none 0 0], fun _ => by kernel_rfl, rfl⟩
theorem ZV86 : ZV Tryz.prog 86 [.string ⟨#[]⟩, .bool false, .int .i64 0, .int .i64 0, .int .i64 0, .int .i64 0, .string ⟨#[]⟩, .bool false, .int .i64 0, .int .i64 0, .slice none 0 0, .bool false] := ⟨.agg #[.string ⟨#[]⟩, .bool false, .int .i64 0, .int .i64 0, .int .i64 0, .int .i64 0, .string ⟨#[]⟩, .bool false, .int .i64 0, .int .i64 0, .slice none 0 0, .bool false], fun _ => by kernel_rfl, rfl⟩
theorem ZV96 : ZV Tryz.prog 96 [.int .i64 0, .string ⟨#[]⟩, .string ⟨#[]⟩, .int .i64 0, .string ⟨#[]⟩] := ⟨.agg #[.int .i64 0, .string ⟨#[]⟩, .string ⟨#[]⟩, .int .i64 0, .string ⟨#[]⟩], fun _ => by kernel_rfl, rfl⟩
theorem Y5h {ok0 : Nat → Prop} {w0 : Base} {w : World} {Γ : List It} {Λ : List LObj} (hs : St ok0 w0 w Γ Λ) (i : Nat) {x : Y0y} {cs : List Value} (hi : Γ[i]? = some (vl Y0A x (.agg cs.toArray))) : cs = [.int .i64 x.Kind, bstr x.Object, bstr x.Field, .int .i64 x.N, bstr x.S] := by
 obtain ⟨ok, h⟩ := hs.get i hi
 have h := Y3F h rfl
 obtain ⟨_, _, rfl, rfl, ⟨_, _, rfl, rfl, ⟨_, _, rfl, rfl, ⟨_, _, rfl, rfl, rfl⟩⟩⟩⟩ := h
 exact rfl
theorem Y5g {ok0 : Nat → Prop} {w0 : Base} {w : World} {Γ : List It} {Λ : List LObj} (hs : St ok0 w0 w Γ Λ) (i : Nat) {x : Y0l} {cs : List Value} (hi : Γ[i]? = some (vl Y0r x (.agg cs.toArray))) : ∃ (a0 : Option Addr), ∃ (c1 : Nat), cs = [.int .i64 x.Client, .int .i64 x.Seq, .int .i64 x.Tag, .slice a0 x.Effects.length c1] := by
 obtain ⟨ok, h⟩ := hs.get i hi
 have h := Y3F h rfl
 obtain ⟨_, _, rfl, rfl, ⟨_, _, rfl, rfl, ⟨_, _, rfl, rfl, ⟨a0, c1, rfl, _, _⟩⟩⟩⟩ := h
 exact ⟨a0, c1, rfl⟩
theorem Y0Z {ok0 : Nat → Prop} {w0 : Base} {w : World} {Γ : List It} {Λ : List LObj} (hs : St ok0 w0 w Γ Λ) (i : Nat) {x : Y00} {cs : List Value} (hi : Γ[i]? = some (vl Y03 x (.agg cs.toArray))) : cs = [.int .i64 x.f_Type, .int .i64 x.N, bstr x.S] := by
 obtain ⟨ok, h⟩ := hs.get i hi
 have h := Y3F h rfl
 obtain ⟨_, _, rfl, rfl, ⟨_, _, rfl, rfl, rfl⟩⟩ := h
 exact rfl
theorem Y36 {ok0 : Nat → Prop} {w0 : Base} {w : World} {Γ : List It} {Λ : List LObj} (hs : St ok0 w0 w Γ Λ) (i : Nat) {x : Y07} {cs : List Value} (hi : Γ[i]? = some (vl Y0w x (.agg cs.toArray))) : ∃ (a0 : Option Addr), ∃ (c1 : Nat), cs = [bstr x.Name, .bool x.Register.Set, .int .i64 x.Register.Tag, .int .i64 x.Register.Client, .int .i64 x.Register.Seq, .int .i64 x.Register.N, bstr x.Register.S, .bool x.HasMax, .int .i64 x.Max, .int .i64 x.Sum, .slice a0 x.Elems.length c1, .bool x.Flag] := by
 obtain ⟨ok, h⟩ := hs.get i hi
 have h := Y3F h rfl
 obtain ⟨_, _, rfl, rfl, ⟨_, _, rfl, ⟨_, _, rfl, rfl, ⟨_, _, rfl, rfl, ⟨_, _, rfl, rfl, ⟨_, _, rfl, rfl, ⟨_, _, rfl, rfl, rfl⟩⟩⟩⟩⟩, ⟨_, _, rfl, rfl, ⟨_, _, rfl, rfl, ⟨_, _, rfl, rfl, ⟨_, _, rfl, ⟨a0, c1, rfl, _, _⟩, rfl⟩⟩⟩⟩⟩⟩ := h
 exact ⟨a0, c1, rfl⟩
theorem Y4Z {ok0 : Nat → Prop} {w0 : Base} {w : World} {Γ : List It} {Λ : List LObj} (hs : St ok0 w0 w Γ Λ) (i : Nat) {x : Y0f} {cs : List Value} (hi : Γ[i]? = some (vl Y0g x (.agg cs.toArray))) : ∃ (a0 : Option Addr), ∃ (c1 : Nat), cs = [bstr x.Name, .slice a0 x.Fields.length c1] := by
 obtain ⟨ok, h⟩ := hs.get i hi
 have h := Y3F h rfl
 obtain ⟨_, _, rfl, rfl, ⟨a0, c1, rfl, _, _⟩⟩ := h
 exact ⟨a0, c1, rfl⟩
theorem Y5f {ok0 : Nat → Prop} {w0 : Base} {w : World} {Γ : List It} {Λ : List LObj} (hs : St ok0 w0 w Γ Λ) (i : Nat) {x : Y0N} {cs : List Value} (hi : Γ[i]? = some (vl Y0p x (.agg cs.toArray))) : ∃ (a0 : Option Addr), ∃ (c1 : Nat), cs = [.slice a0 x.Objects.length c1] := by
 obtain ⟨ok, h⟩ := hs.get i hi
 have h := Y3F h rfl
 obtain ⟨a0, c1, rfl, _, _⟩ := h
 exact ⟨a0, c1, rfl⟩
theorem Y20 {ok0 : Nat → Prop} {w0 : Base} {w : World} {Γ : List It} {Λ : List LObj} (hs : St ok0 w0 w Γ Λ) (i : Nat) {x : Y04} {cs : List Value} (hi : Γ[i]? = some (vl Y09 x (.agg cs.toArray))) : cs = [.int .i64 x.f_Type, .int .i64 x.N, bstr x.S] := by
 obtain ⟨ok, h⟩ := hs.get i hi
 have h := Y3F h rfl
 obtain ⟨_, _, rfl, rfl, ⟨_, _, rfl, rfl, rfl⟩⟩ := h
 exact rfl
theorem Y2T {ok0 : Nat → Prop} {w0 : Base} {w : World} {Γ : List It} {Λ : List LObj} (hs : St ok0 w0 w Γ Λ) (i : Nat) {x : Y0c} {cs : List Value} (hi : Γ[i]? = some (vl Y08 x (.agg cs.toArray))) : cs = [bstr x.Name, .int .i64 x.Kind, .int .i64 x.f_Type, .int .i64 x.At] := by
 obtain ⟨ok, h⟩ := hs.get i hi
 have h := Y3F h rfl
 obtain ⟨_, _, rfl, rfl, ⟨_, _, rfl, rfl, ⟨_, _, rfl, rfl, rfl⟩⟩⟩ := h
 exact rfl
theorem EG45 : Tryz.prog.eqGuardType Tryz.prog.depth 45 = false := by kernel_rfl
theorem EQ45 (x y : Y00) (w : World) : (binOp .eql 45 (.agg ([.int .i64 x.f_Type, .int .i64 x.N, bstr x.S] : List Value).toArray) (.agg ([.int .i64 y.f_Type, .int .i64 y.N, bstr y.S] : List Value).toArray)).run Tryz.prog w = .ok (.bool (decide (x = y))) w :=
 eql_of (EqR.agg Tryz.underlying45 (by kernel_rfl) (EqL.cons (by decide) (u := .int .i64 x.f_Type) (v := .int .i64 y.f_Type) (fun _ => by kernel_rfl) (fun _ => by kernel_rfl) (EqR.int x.f_Type y.f_Type Tryz.underlying3) (EqL.cons (by decide) (u := .int .i64 x.N) (v := .int .i64 y.N) (fun _ => by kernel_rfl) (fun _ => by kernel_rfl) (EqR.int x.N y.N Tryz.underlying2) (EqL.cons (by decide) (u := bstr x.S) (v := bstr y.S) (fun _ => by kernel_rfl) (fun _ => by kernel_rfl) (EqR.str x.S y.S Tryz.underlying9) EqL.nil)))) (by obtain ⟨p1, p2, p3⟩ := x; obtain ⟨q1, q2, q3⟩ := y; rw [Bool.eq_iff_iff]; simp [Y00.mk.injEq]) w
theorem NQ45 (x y : Y00) (w : World) : (binOp .neq 45 (.agg ([.int .i64 x.f_Type, .int .i64 x.N, bstr x.S] : List Value).toArray) (.agg ([.int .i64 y.f_Type, .int .i64 y.N, bstr y.S] : List Value).toArray)).run Tryz.prog w = .ok (.bool (!decide (x = y))) w :=
 neq_of (EqR.agg Tryz.underlying45 (by kernel_rfl) (EqL.cons (by decide) (u := .int .i64 x.f_Type) (v := .int .i64 y.f_Type) (fun _ => by kernel_rfl) (fun _ => by kernel_rfl) (EqR.int x.f_Type y.f_Type Tryz.underlying3) (EqL.cons (by decide) (u := .int .i64 x.N) (v := .int .i64 y.N) (fun _ => by kernel_rfl) (fun _ => by kernel_rfl) (EqR.int x.N y.N Tryz.underlying2) (EqL.cons (by decide) (u := bstr x.S) (v := bstr y.S) (fun _ => by kernel_rfl) (fun _ => by kernel_rfl) (EqR.str x.S y.S Tryz.underlying9) EqL.nil)))) (by obtain ⟨p1, p2, p3⟩ := x; obtain ⟨q1, q2, q3⟩ := y; rw [Bool.eq_iff_iff]; simp [Y00.mk.injEq]) w
theorem EG47 : Tryz.prog.eqGuardType Tryz.prog.depth 47 = false := by kernel_rfl
theorem EQ47 (x y : Y04) (w : World) : (binOp .eql 47 (.agg ([.int .i64 x.f_Type, .int .i64 x.N, bstr x.S] : List Value).toArray) (.agg ([.int .i64 y.f_Type, .int .i64 y.N, bstr y.S] : List Value).toArray)).run Tryz.prog w = .ok (.bool (decide (x = y))) w :=
 eql_of (EqR.agg Tryz.underlying47 (by kernel_rfl) (EqL.cons (by decide) (u := .int .i64 x.f_Type) (v := .int .i64 y.f_Type) (fun _ => by kernel_rfl) (fun _ => by kernel_rfl) (EqR.int x.f_Type y.f_Type Tryz.underlying3) (EqL.cons (by decide) (u := .int .i64 x.N) (v := .int .i64 y.N) (fun _ => by kernel_rfl) (fun _ => by kernel_rfl) (EqR.int x.N y.N Tryz.underlying2) (EqL.cons (by decide) (u := bstr x.S) (v := bstr y.S) (fun _ => by kernel_rfl) (fun _ => by kernel_rfl) (EqR.str x.S y.S Tryz.underlying9) EqL.nil)))) (by obtain ⟨p1, p2, p3⟩ := x; obtain ⟨q1, q2, q3⟩ := y; rw [Bool.eq_iff_iff]; simp [Y04.mk.injEq]) w
theorem NQ47 (x y : Y04) (w : World) : (binOp .neq 47 (.agg ([.int .i64 x.f_Type, .int .i64 x.N, bstr x.S] : List Value).toArray) (.agg ([.int .i64 y.f_Type, .int .i64 y.N, bstr y.S] : List Value).toArray)).run Tryz.prog w = .ok (.bool (!decide (x = y))) w :=
 neq_of (EqR.agg Tryz.underlying47 (by kernel_rfl) (EqL.cons (by decide) (u := .int .i64 x.f_Type) (v := .int .i64 y.f_Type) (fun _ => by kernel_rfl) (fun _ => by kernel_rfl) (EqR.int x.f_Type y.f_Type Tryz.underlying3) (EqL.cons (by decide) (u := .int .i64 x.N) (v := .int .i64 y.N) (fun _ => by kernel_rfl) (fun _ => by kernel_rfl) (EqR.int x.N y.N Tryz.underlying2) (EqL.cons (by decide) (u := bstr x.S) (v := bstr y.S) (fun _ => by kernel_rfl) (fun _ => by kernel_rfl) (EqR.str x.S y.S Tryz.underlying9) EqL.nil)))) (by obtain ⟨p1, p2, p3⟩ := x; obtain ⟨q1, q2, q3⟩ := y; rw [Bool.eq_iff_iff]; simp [Y04.mk.injEq]) w
end
section
open Go Go.RowKit Go.Shelf Go.Maps Go.Sort Go.Proofs.YtpfgdjfiimknlaaGreatL
def Y3z : Go.Shelf.Ren := ⟨fun | 7 => 53 | 10 => 77 | n => n, fun | 23 => 71 | 26 => 9 | 3 => 106 | 28 => 113 | 0 => 0 | 27 => 112 | 33 => 135 | 4 => 4 | n => n, fun | n => n⟩
theorem Y5l : Go.Proofs.SlLaysZ.n7 Tryz.prog Y3z := {
 mixed := by kernel_rfl
 f7 := ⟨Tryz.f53.name, by decide, Tryz.func53.trans (congrArg some (by kernel_rfl))⟩
 f10 := ⟨Tryz.f77.name, by decide, Tryz.func77.trans (congrArg some (by kernel_rfl))⟩
 t0 := Tryz.underlying0
 a0 := Tryz.isAgg0
 z0 := Tryz.sizeOf0
 v0 := Tryz.zeroValue0
 t4 := Tryz.underlying4
 a4 := Tryz.isAgg4
 z4 := Tryz.sizeOf4
 v4 := Tryz.zeroValue4
 t23 := Tryz.underlying71
 a23 := Tryz.isAgg71
 z23 := Tryz.sizeOf71
 v23 := Tryz.zeroValue71
 t26 := Tryz.underlying9
 a26 := Tryz.isAgg9
 z26 := Tryz.sizeOf9
 v26 := Tryz.zeroValue9
 t27 := Tryz.underlying112
 a27 := Tryz.isAgg112
 z27 := Tryz.sizeOf112
 v27 := Tryz.zeroValue112
 t28 := Tryz.underlying113
 a28 := Tryz.isAgg113
 z28 := Tryz.sizeOf113
 v28 := Tryz.zeroValue113
 t33 := Tryz.underlying135
 a33 := Tryz.isAgg135
 z33 := Tryz.sizeOf135
 v33 := Tryz.zeroValue135 }
def Y3y : Go.Shelf.Ren := ⟨fun | 7 => 54 | 10 => 78 | n => n, fun | 23 => 106 | 26 => 9 | 3 => 86 | 28 => 113 | 0 => 0 | 27 => 112 | 33 => 135 | 4 => 4 | n => n, fun | n => n⟩
theorem Y5k : Go.Proofs.SlLaysZ.n7 Tryz.prog Y3y := {
 mixed := by kernel_rfl
 f7 := ⟨Tryz.f54.name, by decide, Tryz.func54.trans (congrArg some (by kernel_rfl))⟩
 f10 := ⟨Tryz.f78.name, by decide, Tryz.func78.trans (congrArg some (by kernel_rfl))⟩
 t0 := Tryz.underlying0
 a0 := Tryz.isAgg0
 z0 := Tryz.sizeOf0
 v0 := Tryz.zeroValue0
 t4 := Tryz.underlying4
 a4 := Tryz.isAgg4
 z4 := Tryz.sizeOf4
 v4 := Tryz.zeroValue4
 t23 := Tryz.underlying106
 a23 := Tryz.isAgg106
 z23 := Tryz.sizeOf106
 v23 := Tryz.zeroValue106
 t26 := Tryz.underlying9
 a26 := Tryz.isAgg9
 z26 := Tryz.sizeOf9
 v26 := Tryz.zeroValue9
 t27 := Tryz.underlying112
 a27 := Tryz.isAgg112
 z27 := Tryz.sizeOf112
 v27 := Tryz.zeroValue112
 t28 := Tryz.underlying113
 a28 := Tryz.isAgg113
 z28 := Tryz.sizeOf113
 v28 := Tryz.zeroValue113
 t33 := Tryz.underlying135
 a33 := Tryz.isAgg135
 z33 := Tryz.sizeOf135
 v33 := Tryz.zeroValue135 }
def Y47 : Go.Shelf.Ren := ⟨fun | 6 => 52 | 8 => 75 | 9 => 76 | 11 => 98 | 13 => 62 | 12 => 99 | 23 => 89 | 24 => 90 | 14 => 116 | 15 => 117 | 16 => 118 | 17 => 119 | 18 => 120 | 19 => 121 | 20 => 71 | 21 => 122 | 22 => 123 | 25 => 128 | 26 => 109 | 27 => 110 | 28 => 129 | 29 => 130 | 30 => 93 | 31 => 132 | n => n, fun | 26 => 9 | 28 => 113 | 24 => 56 | 0 => 0 | 3 => 3 | 37 => 125 | 48 => 148 | 50 => 150 | 4 => 4 | 40 => 142 | 39 => 141 | 45 => 108 | 5 => 5 | 9 => 9 | 51 => 162 | 55 => 166 | 57 => 177 | 58 => 178 | 33 => 135 | n => n, fun | n => n⟩
theorem Y3Y : Go.Proofs.SlLaysZ.n6 Tryz.prog Y47 := {
 mixed := by kernel_rfl
 f6 := ⟨Tryz.f52.name, by decide, Tryz.func52.trans (congrArg some (by kernel_rfl))⟩
 f8 := ⟨Tryz.f75.name, by decide, Tryz.func75.trans (congrArg some (by kernel_rfl))⟩
 f11 := ⟨Tryz.f98.name, by decide, Tryz.func98.trans (congrArg some (by kernel_rfl))⟩
 t0 := Tryz.underlying0
 a0 := Tryz.isAgg0
 z0 := Tryz.sizeOf0
 v0 := Tryz.zeroValue0
 t24 := Tryz.underlying56
 a24 := Tryz.isAgg56
 z24 := Tryz.sizeOf56
 v24 := Tryz.zeroValue56
 t26 := Tryz.underlying9
 a26 := Tryz.isAgg9
 z26 := Tryz.sizeOf9
 v26 := Tryz.zeroValue9
 t28 := Tryz.underlying113
 a28 := Tryz.isAgg113
 z28 := Tryz.sizeOf113
 v28 := Tryz.zeroValue113
 i26 := by kernel_rfl }
def Y6A : Go.Shelf.Ren := ⟨fun | 6 => 76 | 8 => 62 | 9 => 99 | 19 => 89 | 20 => 90 | 21 => 116 | 22 => 117 | 23 => 118 | 24 => 119 | 25 => 120 | 26 => 121 | 27 => 71 | 28 => 122 | 29 => 123 | 36 => 128 | 31 => 109 | 32 => 110 | 37 => 129 | 38 => 130 | 39 => 93 | 41 => 132 | n => n, fun | 27 => 56 | 29 => 9 | 3 => 3 | 32 => 125 | 26 => 56 | 0 => 0 | 44 => 148 | 46 => 150 | 4 => 4 | 36 => 142 | 35 => 141 | 41 => 108 | 5 => 5 | 9 => 9 | 53 => 162 | 57 => 166 | 63 => 177 | 64 => 178 | n => n, fun | n => n⟩
theorem Y54 : Go.Proofs.SlLaysM.n6 Tryz.prog Y6A := {
 mixed := by kernel_rfl
 f6 := ⟨Tryz.f76.name, by decide, Tryz.func76.trans (congrArg some (by kernel_rfl))⟩
 f8 := Tryz.func62.trans (congrArg some (by kernel_rfl))
 f9 := ⟨Tryz.f99.name, by decide, Tryz.func99.trans (congrArg some (by kernel_rfl))⟩
 f19 := Tryz.func89.trans (congrArg some (by kernel_rfl))
 f20 := Tryz.func90.trans (congrArg some (by kernel_rfl))
 f21 := ⟨Tryz.f116.name, by decide, Tryz.func116.trans (congrArg some (by kernel_rfl))⟩
 f22 := ⟨Tryz.f117.name, by decide, Tryz.func117.trans (congrArg some (by kernel_rfl))⟩
 f23 := ⟨Tryz.f118.name, by decide, Tryz.func118.trans (congrArg some (by kernel_rfl))⟩
 f24 := ⟨Tryz.f119.name, by decide, Tryz.func119.trans (congrArg some (by kernel_rfl))⟩
 f25 := ⟨Tryz.f120.name, by decide, Tryz.func120.trans (congrArg some (by kernel_rfl))⟩
 f26 := ⟨Tryz.f121.name, by decide, Tryz.func121.trans (congrArg some (by kernel_rfl))⟩
 f27 := ⟨Tryz.f71.name, by decide, Tryz.func71.trans (congrArg some (by kernel_rfl))⟩
 f28 := ⟨Tryz.f122.name, by decide, Tryz.func122.trans (congrArg some (by kernel_rfl))⟩
 f29 := ⟨Tryz.f123.name, by decide, Tryz.func123.trans (congrArg some (by kernel_rfl))⟩
 f31 := Tryz.func109.trans (congrArg some (by kernel_rfl))
 f32 := Tryz.func110.trans (congrArg some (by kernel_rfl))
 f36 := ⟨Tryz.f128.name, by decide, Tryz.func128.trans (congrArg some (by kernel_rfl))⟩
 f37 := ⟨Tryz.f129.name, by decide, Tryz.func129.trans (congrArg some (by kernel_rfl))⟩
 f38 := ⟨Tryz.f130.name, by decide, Tryz.func130.trans (congrArg some (by kernel_rfl))⟩
 f39 := ⟨Tryz.f93.name, by decide, Tryz.func93.trans (congrArg some (by kernel_rfl))⟩
 f41 := ⟨Tryz.f132.name, by decide, Tryz.func132.trans (congrArg some (by kernel_rfl))⟩
 t0 := Tryz.underlying0
 a0 := Tryz.isAgg0
 z0 := Tryz.sizeOf0
 v0 := Tryz.zeroValue0
 t3 := Tryz.underlying3
 a3 := Tryz.isAgg3
 z3 := Tryz.sizeOf3
 v3 := Tryz.zeroValue3
 t4 := Tryz.underlying4
 a4 := Tryz.isAgg4
 z4 := Tryz.sizeOf4
 v4 := Tryz.zeroValue4
 t5 := Tryz.underlying5
 a5 := Tryz.isAgg5
 z5 := Tryz.sizeOf5
 v5 := Tryz.zeroValue5
 t9 := Tryz.underlying9
 a9 := Tryz.isAgg9
 z9 := Tryz.sizeOf9
 v9 := Tryz.zeroValue9
 t26 := Tryz.underlying56
 a26 := Tryz.isAgg56
 z26 := Tryz.sizeOf56
 v26 := Tryz.zeroValue56
 t27 := Tryz.underlying56
 a27 := Tryz.isAgg56
 z27 := Tryz.sizeOf56
 v27 := Tryz.zeroValue56
 t29 := Tryz.underlying9
 a29 := Tryz.isAgg9
 z29 := Tryz.sizeOf9
 v29 := Tryz.zeroValue9
 t32 := Tryz.underlying125
 a32 := Tryz.isAgg125
 z32 := Tryz.sizeOf125
 v32 := Tryz.zeroValue125
 t35 := Tryz.underlying141
 a35 := Tryz.isAgg141
 z35 := Tryz.sizeOf141
 v35 := Tryz.zeroValue141
 t36 := Tryz.underlying142
 a36 := Tryz.isAgg142
 z36 := Tryz.sizeOf142
 v36 := Tryz.zeroValue142
 t41 := Tryz.underlying108
 a41 := Tryz.isAgg108
 z41 := Tryz.sizeOf108
 v41 := Tryz.zeroValue108
 t44 := Tryz.underlying148
 a44 := Tryz.isAgg148
 z44 := Tryz.sizeOf148
 v44 := Tryz.zeroValue148
 t46 := Tryz.underlying150
 a46 := Tryz.isAgg150
 z46 := Tryz.sizeOf150
 v46 := Tryz.zeroValue150
 t53 := Tryz.underlying162
 a53 := Tryz.isAgg162
 z53 := Tryz.sizeOf162
 v53 := Tryz.zeroValue162
 t57 := Tryz.underlying166
 a57 := Tryz.isAgg166
 z57 := Tryz.sizeOf166
 v57 := Tryz.zeroValue166
 t63 := Tryz.underlying177
 a63 := Tryz.isAgg177
 z63 := Tryz.sizeOf177
 v63 := Tryz.zeroValue177
 t64 := Tryz.underlying178
 a64 := Tryz.isAgg178
 z64 := Tryz.sizeOf178
 v64 := Tryz.zeroValue178 }
def Y8l : Go.Shelf.Ren := ⟨fun | 26 => 50 | 33 => 71 | 34 => 72 | 38 => 93 | n => n, fun | 24 => 56 | 9 => 9 | 3 => 3 | 4 => 4 | 40 => 125 | 0 => 0 | n => n, fun | n => n⟩
theorem lay_bs : Go.Proofs.Lays2.n26 Tryz.prog Y8l := {
 mixed := by kernel_rfl
 f26 := Tryz.func50.trans (congrArg some (by kernel_rfl))
 f33 := Tryz.func71.trans (congrArg some (by kernel_rfl))
 f34 := Tryz.func72.trans (congrArg some (by kernel_rfl))
 f38 := Tryz.func93.trans (congrArg some (by kernel_rfl))
 t0 := Tryz.underlying0
 a0 := Tryz.isAgg0
 z0 := Tryz.sizeOf0
 v0 := Tryz.zeroValue0
 t3 := Tryz.underlying3
 a3 := Tryz.isAgg3
 z3 := Tryz.sizeOf3
 v3 := Tryz.zeroValue3
 t4 := Tryz.underlying4
 a4 := Tryz.isAgg4
 z4 := Tryz.sizeOf4
 v4 := Tryz.zeroValue4
 t9 := Tryz.underlying9
 a9 := Tryz.isAgg9
 z9 := Tryz.sizeOf9
 v9 := Tryz.zeroValue9
 t24 := Tryz.underlying56
 a24 := Tryz.isAgg56
 z24 := Tryz.sizeOf56
 v24 := Tryz.zeroValue56
 t40 := Tryz.underlying125
 a40 := Tryz.isAgg125
 z40 := Tryz.sizeOf125
 v40 := Tryz.zeroValue125 }
def Y7i : Go.Shelf.Ren := ⟨fun | 22 => 51 | 29 => 73 | 30 => 74 | 36 => 97 | 17 => 115 | n => n, fun | 24 => 56 | 9 => 9 | 3 => 3 | 4 => 4 | 0 => 0 | n => n, fun | n => n⟩
theorem lay_ins : Go.Proofs.Lays2.n22 Tryz.prog Y7i := {
 mixed := by kernel_rfl
 f17 := Tryz.func115.trans (congrArg some (by kernel_rfl))
 f22 := Tryz.func51.trans (congrArg some (by kernel_rfl))
 f29 := Tryz.func73.trans (congrArg some (by kernel_rfl))
 f30 := Tryz.func74.trans (congrArg some (by kernel_rfl))
 f36 := Tryz.func97.trans (congrArg some (by kernel_rfl))
 t0 := Tryz.underlying0
 a0 := Tryz.isAgg0
 z0 := Tryz.sizeOf0
 v0 := Tryz.zeroValue0
 t3 := Tryz.underlying3
 a3 := Tryz.isAgg3
 z3 := Tryz.sizeOf3
 v3 := Tryz.zeroValue3
 t4 := Tryz.underlying4
 a4 := Tryz.isAgg4
 z4 := Tryz.sizeOf4
 v4 := Tryz.zeroValue4
 t9 := Tryz.underlying9
 a9 := Tryz.isAgg9
 z9 := Tryz.sizeOf9
 v9 := Tryz.zeroValue9
 t24 := Tryz.underlying56
 a24 := Tryz.isAgg56
 z24 := Tryz.sizeOf56
 v24 := Tryz.zeroValue56
 i9 := by kernel_rfl }
theorem Y4q (m : Nat) : AnyZ.SortsIn Tryz.prog Y47 Fence.wide m :=
 ⟨fun blk off cap ss W hH hblk hsz => callsIn_wide.2 (AnyM.slices_Sort_string Y54 blk off cap ss W hH hblk hsz),
  fun p cap W => callsIn_wide.2 (AnyM.slices_Sort_string_none Y54 p cap W)⟩
set_option maxHeartbeats 1000000 in
theorem sk_B : SK Tryz.prog 53 52 77 71 := {
 fk_ := fun _ _ => by kernel_rfl
 fs_ := fun _ _ => by kernel_rfl
 keys := fun mb W => callsIn_wide.1 (AnyZ.keys_in Y5l Fence.wide 5 trivial rfl mb W)
 sorted := fun b nn D0 R w hown hmax hbytes => by
  have hbl := hown.lt
  have hseq : SeqGives Fence.wide 2 Tryz.prog 77 #[.pointer (some ⟨w.heap.size, 0, none⟩)] encStr (fun ss => ss.Perm (strKeys D0)) (Maps.size D0) (w.alloc (.cells #[.map (some b)] 71)) :=
   AnyZ.keys_gives (ρ := Y3z) { Y5l with } Fence.wide _ trivial rfl (by omega) w.heap.size b nn D0 _ (by simp) (by simp) (by
    obtain ⟨es, clock, hb, Ft, hs, hD⟩ := hown
    exact ⟨es, clock, (Below.heap_alloc _ _ b hbl).trans hb, Ft, hs, hD⟩)
  exact callsIn_wide.1 (AnyZ.sorted_in Y3Y Fence.wide 5 trivial trivial trivial trivial rfl (by omega) (Y4q _) (enters_of Tryz.func76 (by kernel_rfl) rfl) 77 #[.pointer (some ⟨w.heap.size, 0, none⟩)] trivial (enters_of Tryz.func77 (by kernel_rfl) rfl) _ _ hmax hbytes _ hseq)
 sortedN := fun w => by
  have hseq : SeqGives Fence.wide 2 Tryz.prog 77 #[.pointer (some ⟨w.heap.size, 0, none⟩)] encStr (fun ss : List (List UInt8) => ss = []) 0 (w.alloc (.cells #[.map none] 71)) :=
   AnyZ.keys_gives_nil (ρ := Y3z) { Y5l with } Fence.wide _ trivial rfl w.heap.size _ (by simp) (by simp)
  exact callsIn_wide.1 (AnyZ.sorted_in Y3Y Fence.wide 5 trivial trivial trivial trivial rfl (by omega) (Y4q _) (enters_of Tryz.func76 (by kernel_rfl) rfl) 77 #[.pointer (some ⟨w.heap.size, 0, none⟩)] trivial (enters_of Tryz.func77 (by kernel_rfl) rfl) _ 0 (Nat.zero_le _) (by omega) _ hseq) }
set_option maxHeartbeats 1000000 in
theorem sk_F : SK Tryz.prog 54 52 78 106 := {
 fk_ := fun _ _ => by kernel_rfl
 fs_ := fun _ _ => by kernel_rfl
 keys := fun mb W => callsIn_wide.1 (AnyZ.keys_in Y5k Fence.wide 5 trivial rfl mb W)
 sorted := fun b nn D0 R w hown hmax hbytes => by
  have hbl := hown.lt
  have hseq : SeqGives Fence.wide 2 Tryz.prog 78 #[.pointer (some ⟨w.heap.size, 0, none⟩)] encStr (fun ss => ss.Perm (strKeys D0)) (Maps.size D0) (w.alloc (.cells #[.map (some b)] 106)) :=
   AnyZ.keys_gives (ρ := Y3y) { Y5k with } Fence.wide _ trivial rfl (by omega) w.heap.size b nn D0 _ (by simp) (by simp) (by
    obtain ⟨es, clock, hb, Ft, hs, hD⟩ := hown
    exact ⟨es, clock, (Below.heap_alloc _ _ b hbl).trans hb, Ft, hs, hD⟩)
  exact callsIn_wide.1 (AnyZ.sorted_in Y3Y Fence.wide 5 trivial trivial trivial trivial rfl (by omega) (Y4q _) (enters_of Tryz.func76 (by kernel_rfl) rfl) 78 #[.pointer (some ⟨w.heap.size, 0, none⟩)] trivial (enters_of Tryz.func78 (by kernel_rfl) rfl) _ _ hmax hbytes _ hseq)
 sortedN := fun w => by
  have hseq : SeqGives Fence.wide 2 Tryz.prog 78 #[.pointer (some ⟨w.heap.size, 0, none⟩)] encStr (fun ss : List (List UInt8) => ss = []) 0 (w.alloc (.cells #[.map none] 106)) :=
   AnyZ.keys_gives_nil (ρ := Y3y) { Y5k with } Fence.wide _ trivial rfl w.heap.size _ (by simp) (by simp)
  exact callsIn_wide.1 (AnyZ.sorted_in Y3Y Fence.wide 5 trivial trivial trivial trivial rfl (by omega) (Y4q _) (enters_of Tryz.func76 (by kernel_rfl) rfl) 78 #[.pointer (some ⟨w.heap.size, 0, none⟩)] trivial (enters_of Tryz.func78 (by kernel_rfl) rfl) _ 0 (Nat.zero_le _) (by omega) _ hseq) }
end
end Go.Proofs.YtpfgdjfiimknlaaGreat
namespace Go.Proofs.YtpfgdjfiimknlaaGreatL
section
open Go Go.RowKit
def Y1M (tk : Nat → List Nat) (m : Nat) (listed : Array Bool) (i : Nat) : Bool := (List.range m).any fun k => listed.getD k false && (tk k).contains i
def Y42 (tk : Nat → List Nat) (m i : Nat) : Bool := (List.range m).any fun k => (tk k).contains i
def Y7H : List Nat → Bool
 | [] => true
 | x :: l => !l.contains x && Y7H l
def Y4P (l : List Oper) (m : Nat) (tk : Nat → List Nat) : Bool :=
 (List.range m).all fun i => Y7H (tk i) && ((tk i).all fun j => Y3e l l.length i j && Nat.blt j i) && (List.range m).all fun k => Nat.beq k i || (tk i).all fun j => !(tk k).contains j
def tkAt (l : List (List Nat)) (i : Nat) : List Nat := l.getD i []
theorem Y5T : ∀ {l : List Nat}, Y7H l = true → l.Nodup
 | [], _ => by simp
 | x :: l, h => by
  simp only [Y7H, Bool.and_eq_true, Bool.not_eq_true'] at h
  refine List.nodup_cons.2 ⟨fun hm => ?_, Y5T h.2⟩
  have : l.contains x = true := by simpa using hm
  rw [this] at h; cases h.1
theorem Y1z {tk : Nat → List Nat} {m : Nat} {listed : Array Bool} {i : Nat} : Y1M tk m listed i = true ↔ ∃ k, k < m ∧ listed.getD k false = true ∧ i ∈ tk k := by
 unfold Y1M
 simp only [List.any_eq_true, List.mem_range, Bool.and_eq_true, List.contains_iff_mem]
theorem Y6q {tk : Nat → List Nat} {m : Nat} {listed : Array Bool} {i : Nat} (h : ∀ k, k < m → listed.getD k false = true) : Y1M tk m listed i = Y42 tk m i := by
 rw [Bool.eq_iff_iff, Y1z]
 unfold Y42
 simp only [List.any_eq_true, List.mem_range, List.contains_iff_mem]
 exact ⟨fun ⟨k, h1, _, h2⟩ => ⟨k, h1, h2⟩, fun ⟨k, h1, h2⟩ => ⟨k, h1, h k h1, h2⟩⟩
section
variable {l : List Oper} {m : Nat} {tk : Nat → List Nat}
theorem Y2p (h : Y4P l m tk = true) {i : Nat} (hi : i < m) (j : Nat) (hj : j ∈ tk i) : Y3e l l.length i j = true ∧ j < i ∧ j < m := by
 simp only [Y4P, List.all_eq_true, List.mem_range, Bool.and_eq_true] at h
 have h1 := (h i hi).1.2 j hj
 have h2 : j < i := by have := h1.2; simp [Nat.blt] at this; omega
 exact ⟨h1.1, h2, by omega⟩
theorem Y4O (h : Y4P l m tk = true) {i : Nat} (hi : i < m) : (tk i).Nodup := by
 simp only [Y4P, List.all_eq_true, List.mem_range, Bool.and_eq_true] at h
 exact Y5T (h i hi).1.1
theorem Y5O (h : Y4P l m tk = true) {k i j : Nat} (hk : k < m) (hi : i < m) (hkt : j ∈ tk k) (hit : j ∈ tk i) : k = i := by
 simp only [Y4P, List.all_eq_true, List.mem_range, Bool.and_eq_true, Bool.or_eq_true] at h
 rcases (h i hi).2 k hk with h1 | h1
 ·exact Nat.eq_of_beq_eq_true h1
 ·have := h1 j hit
  have h2 : (tk k).contains j = true := by simpa using hkt
  rw [h2] at this; cases this
end
theorem Y4z {α β : Type _} {f g : α → List β} : ∀ {l : List α}, (∀ x ∈ l, f x = g x) → l.flatMap f = l.flatMap g
 | [], _ => rfl
 | x :: l, h => by rw [List.flatMap_cons, List.flatMap_cons, h x (by simp), Y4z fun y hy => h y (by simp [hy])]
theorem Y3D {α : Type _} {m : Nat} : ∀ (f : Nat → List α) (js : List Nat), js.Nodup → (∀ j ∈ js, j < m) → (Y2P f m).Perm (js.flatMap f ++ Y2P (fun j => if j ∈ js then [] else f j) m)
 | f, [], _, _ => by
  rw [Y1O (f := fun j => if j ∈ ([] : List Nat) then [] else f j) (g := f) fun j _ => if_neg (by simp)]
  exact .refl _
 | f, i :: js, hn, hm => by
  have hn' := List.nodup_cons.1 hn
  have h1 := Y3q f (m := m) (i := i) (hm i (by simp))
  have h2 := Y3D (fun j => if j = i then [] else f j) js hn'.2 fun j hj => hm j (by simp [hj])
  have e1 : js.flatMap (fun j => if j = i then [] else f j) = js.flatMap f := Y4z fun j hj => if_neg fun (e : j = i) => hn'.1 (e ▸ hj)
  have e2 : Y2P (fun j => if j ∈ js then [] else if j = i then [] else f j) m = Y2P (fun j => if j ∈ i :: js then [] else f j) m := Y1O fun j _ => by
   by_cases a : j ∈ js
   ·rw [if_pos a, if_pos (by simp [a])]
   ·by_cases b : j = i
    ·rw [if_neg a, if_pos b, if_pos (by simp [b])]
    ·rw [if_neg a, if_neg b, if_neg (by simp [a, b])]
  rw [e1, e2] at h2
  rw [List.flatMap_cons, List.append_assoc]
  exact h1.trans (h2.append_left (f i))
def oblT (P : Program) (N : Nat) (l : List Oper) (ok0 : Nat → Prop) (w0 : Base) (Γ : List It) (Λ : List LObj) (ρ0 : Env) (po : Nat → PO) (tk : Nat → List Nat) (m i : Nat) : Prop :=
 match l[i]? with
 | none => True
 | some o => ∀ ρ w Γx Λx, St ok0 w0 w (Γx ++ Γ) (Λx ++ (((po i).Pre ++ (tk i).flatMap fun j => (po j).L (Y14 ρ (Y1b l j))) ++ Λ)) → (∀ s, Y38 (l.take m) s = true → ρ s = ρ0 s) →
   (∀ j, Y3e l l.length i j = true → (po j).at_ l ρ (Y14 ρ (Y1b l j)) ∧ ∀ it ∈ (po j).G (Y14 ρ (Y1b l j)), it ∈ Γx) →
   WL P N l.toArray (oneQ ρ o.dst fun v w' => (po i).at_ l ρ (Y3L o.dst v) ∧ St ok0 w0 w' ((po i).G (Y3L o.dst v) ++ (Γx ++ Γ)) ((po i).L (Y3L o.dst v) ++ (Λx ++ Λ))) [o] ρ w
section
variable {P : Program} {N : Nat} {Q : QE} {ρ ρ0 : Env} {w w1 : World} {w0 : Base} {l : List Oper} {ok0 : Nat → Prop} {Γ : List It} {Λ : List LObj}
theorem W.anyT {id : Nat} (hm : P.follows .mixedOrders = true) (m F : Nat) (B : List Bool) (hF : l.length - m = F) (hB : Y5j l.length m = B) (po : Nat → PO) (tk : Nat → List Nat) (hs : St ok0 w0 w1 Γ (Y2P (fun i => (po i).Pre) m ++ Λ)) (hok : Y4a l m = true) (hdd : Y2C l = true) (hnd : Y5U l m po = true) (htk : Y4P l m tk = true)
  (hops : upTo (oblT P N l ok0 w0 Γ Λ ρ0 po tk m) m)
  (hfin : ∀ ρ w, St ok0 w0 w (Y2P (fun i => (po i).G (Y14 ρ (Y1b l i))) m ++ Γ) (Y2P (fun i => if Y42 tk m i = true then [] else (po i).L (Y14 ρ (Y1b l i))) m ++ Λ) → (∀ s, Y38 (l.take m) s = true → ρ s = ρ0 s) →
   upTo (fun i => (po i).at_ l ρ (Y14 ρ (Y1b l i))) m → WA P N l Q F B ρ w) :
  W P N (.region id l.toArray true) Q ρ0 w1 := by
 intro a0 ha0
 refine wp_region_any hm ?_
 let con : Array Bool → Env → Nat → List LObj := fun listed ρ i => if Y1M tk m listed i = true then [] else if listed.getD i false = true then (po i).L (Y14 ρ (Y1b l i)) else (po i).Pre
 let InvA : Array Bool → Act → World → Prop := fun listed a w => ∃ (ρ : Env) (Γx : List It), Y3d N a ρ ∧ St ok0 w0 w (Γx ++ Γ) (Y2P (con listed ρ) m ++ Λ) ∧ (∀ s, Y38 (l.take m) s = true → ρ s = ρ0 s) ∧
  (∀ i, listed.getD i false = true → i < m ∧ (po i).at_ l ρ (Y14 ρ (Y1b l i)) ∧ ∀ it ∈ (po i).G (Y14 ρ (Y1b l i)), it ∈ Γx)
 have hsz : l.toArray.size = l.length := by simp
 have finish : ∀ listed a w, InvA listed a w → (∀ i, i < m → listed.getD i false = true) → wpAny P .any l.toArray (lift N Q) F B.toArray a w := by
  rintro listed a w ⟨ρ, Γx, hρ, hst, hu, hp⟩ hall
  refine hfin ρ w (St.sub (Γ := Γx ++ Γ) ?_ fun it hit => ?_) hu (upTo.mk m fun i hi => (hp i (hall i hi)).2.1) a hρ
  ·rw [Y1O (f := con listed ρ) (g := fun i => if Y42 tk m i = true then [] else (po i).L (Y14 ρ (Y1b l i))) fun i hi => by
    show (if _ then _ else if _ then _ else _) = _
    rw [Y6q (fun j hj => hall j hj), if_pos (hall i hi)]] at hst
   exact hst
  ·rcases List.mem_append.1 hit with hit | hit
   ·obtain ⟨i, hi, hx⟩ := Y4p hit
    exact List.mem_append.2 (.inl ((hp i (hall i hi)).2.2 it hx))
   ·exact List.mem_append.2 (.inr hit)
 have hdeps : ∀ {listed : Array Bool} {i : Nat}, i ∈ Region.ready .any l.toArray listed → i < l.length ∧ listed.getD i true = false ∧ ∀ d ∈ Y29 l i, listed.getD d false = true := by
  intro listed i hi
  rw [mem_ready] at hi
  obtain ⟨h0, o, ho, hall⟩ := hi
  have ho' : l[i]? = some o := by simpa using ho
  refine ⟨(List.getElem?_eq_some_iff.1 ho').1, h0, fun d hd => ?_⟩
  simp only [Y29, ho', Option.map_some, Option.getD_some, List.mem_map, List.mem_filter] at hd
  obtain ⟨e, ⟨he, hb⟩, rfl⟩ := hd
  exact hall e (by simpa using he) hb
 have hready : ∀ {listed : Array Bool}, Region.ready .any l.toArray listed = [] → listed.size = l.length → ∀ i, i < l.length → listed.getD i false = true := by
  intro listed hr hls i
  induction i using Nat.strongRecOn with
  | _ i ih =>
   intro hi
   cases hb : listed.getD i false with
   | true => rfl
   | false =>
    exfalso
    have hin : i ∈ Region.ready .any l.toArray listed := by
     rw [mem_ready]
     refine ⟨?_, l[i], by simp [hi], fun e he hbd => ?_⟩
     ·have : i < listed.size := by omega
      simp [this] at hb ⊢
      exact hb
     ·have hd : e.on ∈ Y29 l i := by
       simp only [Y29, List.getElem?_eq_getElem hi, Option.map_some, Option.getD_some, List.mem_map, List.mem_filter]
       exact ⟨e, ⟨by simpa using he, hbd⟩, rfl⟩
      have hlt := Y4A hok hi hd
      exact ih e.on hlt (by omega)
    rw [hr] at hin
    cases hin
 have hset : ∀ {listed : Array Bool} {i j : Nat}, listed.size = l.length → i < l.length → ((listed.setIfInBounds i true).getD j false = true ↔ (j = i ∨ listed.getD j false = true)) := by
  intro listed i j hls hi
  by_cases hij : i = j
  ·subst hij
   have : i < listed.size := by omega
   simp [this]
  ·rw [getD_set_ne false hij]
   constructor
   ·exact .inr
   ·rintro (h | h)
    ·exact absurd h.symm hij
    ·exact h
 have main : ∀ fuel listed a w, listed.size = l.length → Y1F listed l.length = fuel →
   (∀ k, listed.getD k false = true → ∀ d ∈ Y29 l k, listed.getD d false = true) → InvA listed a w → wpAny P .any l.toArray (lift N Q) fuel listed a w := by
  intro fuel
  induction fuel with
  | zero =>
   intro listed a w hls hlf hcl hI
   have hall : ∀ i, i < l.length → listed.getD i false = true := by
    intro i hi
    have h1 := Y2j hlf i hi
    have : i < listed.size := by omega
    simp [this] at h1 ⊢
    exact h1
   refine ⟨?_, ?_⟩
   ·cases hr : Region.ready .any l.toArray listed with
    | nil => rfl
    | cons i rs =>
     exfalso
     obtain ⟨h1, h2, _⟩ := hdeps (listed := listed) (i := i) (by rw [hr]; simp)
     rw [Y2j hlf i h1] at h2
     cases h2
   ·have hmn : m = l.length := by
     obtain ⟨ρ, Γx, hρ, hst, hu, hp⟩ := hI
     rcases Nat.lt_or_ge m l.length with h | h
     ·have := (hp m (hall m h)).1; omega
     ·have := Y2V hok; omega
    have h0 := finish listed a w hI fun i hi => hall i (by omega)
    have hF0 : F = 0 := by omega
    subst hF0
    exact h0.2
  | succ fuel ih =>
   intro listed a w hls hlf hcl hI
   have hne : Region.ready .any l.toArray listed ≠ [] := by
    intro hr
    have hall := hready hr hls
    have : ∀ n, n ≤ l.length → Y1F listed n = 0 := by
     intro n
     induction n with
     | zero => exact fun _ => rfl
     | succ n ihn =>
      intro hn
      have h1 := hall n (by omega)
      have : n < listed.size := by omega
      have h2 : listed.getD n true = true := by simp [this] at h1 ⊢; exact h1
      rw [Y1F, ihn (by omega), h2]; rfl
    rw [this l.length (Nat.le_refl _)] at hlf
    cases hlf
   refine ⟨fun hr => absurd hr hne, fun i hi => ?_⟩
   obtain ⟨hin, hi0, hid⟩ := hdeps hi
   have hri : ∀ j, Y3e l l.length i j = true → listed.getD j false = true := fun j hj => Y1B hcl _ i j hid hj
   have ho : l[i]? = some l[i] := List.getElem?_eq_getElem hin
   have ho2 : l.toArray[i]? = some l[i] := by simpa using ho
   have hls' : (listed.setIfInBounds i true).size = l.length := by simpa using hls
   have hlf' : Y1F (listed.setIfInBounds i true) l.length = fuel := by
    have := Y3n hi0 l.length
    rw [if_pos hin] at this
    omega
   have hcl' : ∀ k, (listed.setIfInBounds i true).getD k false = true → ∀ d ∈ Y29 l k, (listed.setIfInBounds i true).getD d false = true := by
    intro k hk d hd
    rcases (hset hls hin).1 hk with rfl | hk
    ·exact getD_set_true (hid d hd)
    ·exact getD_set_true (hcl k hk d hd)
   have hif : listed.getD i false = false := by
    have : i < listed.size := by omega
    simp [this] at hi0 ⊢
    exact hi0
   rcases Nat.lt_or_ge i m with him | him
   ·obtain ⟨ρ, Γx, hρ, hst, hu, hp⟩ := hI
    have hob := hops.at_ i him
    unfold oblT at hob
    rw [ho] at hob
    have hnt : Y1M tk m listed i = false := by
     cases hb : Y1M tk m listed i with
     | false => rfl
     | true =>
      obtain ⟨k, hk, hkl, hkt⟩ := Y1z.1 hb
      have := Y1B hcl _ k i (hcl k hkl) ((Y2p htk hk i hkt).1)
      rw [hif] at this; cases this
    have hci : con listed ρ i = (po i).Pre := by
     show (if _ then _ else if _ then _ else _) = _
     rw [hnt, hif, if_neg (by simp), if_neg (by simp)]
    have hcj1 : ∀ j ∈ tk i, con listed ρ j = (po j).L (Y14 ρ (Y1b l j)) := by
     intro j hj
     have h1 := Y2p htk him j hj
     have h2 : Y1M tk m listed j = false := by
      cases hb : Y1M tk m listed j with
      | false => rfl
      | true =>
       obtain ⟨k, hk, hkl, hkt⟩ := Y1z.1 hb
       have : k = i := Y5O htk hk him hkt hj
       subst this
       rw [hif] at hkl; cases hkl
     show (if _ then _ else if _ then _ else _) = _
     rw [h2, hri j h1.1, if_neg (by simp), if_pos rfl]
    have hjs : (i :: tk i).Nodup := List.nodup_cons.2 ⟨fun h => by have := (Y2p htk him i h).2.1; omega, Y4O htk him⟩
    have hjlt : ∀ j ∈ i :: tk i, j < m := by
     intro j hj
     rcases List.mem_cons.1 hj with rfl | hj
     ·exact him
     ·have := (Y2p htk him j hj).2.1; omega
    have hfl : (i :: tk i).flatMap (con listed ρ) = (po i).Pre ++ (tk i).flatMap fun j => (po j).L (Y14 ρ (Y1b l j)) := by
     rw [List.flatMap_cons, hci, Y4z hcj1]
    have hst1 : St ok0 w0 w (Γx ++ Γ) (Y2P (fun j => if j ∈ i :: tk i then [] else con listed ρ j) m ++ (((po i).Pre ++ (tk i).flatMap fun j => (po j).L (Y14 ρ (Y1b l j))) ++ Λ)) := by
     refine hst.perm ?_
     have := (Y3D (con listed ρ) (i :: tk i) hjs hjlt).append_right Λ
     rw [hfl] at this
     refine this.trans ((List.perm_append_comm.append_right Λ).trans ?_)
     rw [List.append_assoc]
    refine Y3l ho2 hρ (hob ρ w Γx _ hst1 hu fun j hj => (hp j (hri j hj)).2) fun a' v w' ha' hR => ih _ a' w' hls' hlf' hcl' ?_
    have hdi : Y1b l i = l[i].dst := by simp [Y1b, ho]
    have hsame : ∀ j, j ≠ i → Y14 (putE ρ l[i].dst v) (Y1b l j) = Y14 ρ (Y1b l j) := fun j hj => Y52 fun t ht e => hj (Y3C hdd e (hdi.trans ht))
    have hcs : ∀ j, j ∉ i :: tk i → con (listed.setIfInBounds i true) (putE ρ l[i].dst v) j = con listed ρ j := by
     intro j hj
     have hji : j ≠ i := fun e => hj (by simp [e])
     have hjt : j ∉ tk i := fun e => hj (by simp [e])
     have ht : Y1M tk m (listed.setIfInBounds i true) j = Y1M tk m listed j := by
      rw [Bool.eq_iff_iff, Y1z, Y1z]
      constructor
      ·rintro ⟨k, hk, hkl, hkt⟩
       rcases (hset hls hin).1 hkl with rfl | hkl
       ·exact absurd hkt hjt
       ·exact ⟨k, hk, hkl, hkt⟩
      ·rintro ⟨k, hk, hkl, hkt⟩
       exact ⟨k, hk, (hset hls hin).2 (.inr hkl), hkt⟩
     show (if _ then _ else if _ then _ else _) = (if _ then _ else if _ then _ else _)
     rw [ht, getD_set_ne false (fun e => hji e.symm), hsame j hji]
    have hct : ∀ j ∈ tk i, con (listed.setIfInBounds i true) (putE ρ l[i].dst v) j = [] := by
     intro j hj
     have ht : Y1M tk m (listed.setIfInBounds i true) j = true := Y1z.2 ⟨i, him, (hset hls hin).2 (.inl rfl), hj⟩
     show (if _ then _ else if _ then _ else _) = _
     rw [ht, if_pos rfl]
    have hnt2 : Y1M tk m (listed.setIfInBounds i true) i = false := by
     cases hb : Y1M tk m (listed.setIfInBounds i true) i with
     | false => rfl
     | true =>
      obtain ⟨k, hk, hkl, hkt⟩ := Y1z.1 hb
      have h1 := Y2p htk hk i hkt
      rcases (hset hls hin).1 hkl with rfl | hkl
      ·have := h1.2.1; omega
      ·have := Y1B hcl _ k i (hcl k hkl) h1.1
       rw [hif] at this; cases this
    have hci2 : con (listed.setIfInBounds i true) (putE ρ l[i].dst v) i = (po i).L (Y3L l[i].dst v) := by
     show (if _ then _ else if _ then _ else _) = _
     rw [hnt2, if_neg (by simp), if_pos ((hset hls hin).2 (.inl rfl)), hdi, Y3t]
    have hat : ∀ j, j < m → (∀ k, Y3e l l.length j k = true → listed.getD k false = true) → ∀ v', (po j).at_ l ρ v' → (po j).at_ l (putE ρ l[i].dst v) v' := by
     intro j hjm hk v' h
     have e : ((po j).needs.map fun k => Y14 (putE ρ l[i].dst v) (Y1b l k)) = (po j).needs.map fun k => Y14 ρ (Y1b l k) := by
      refine List.map_congr_left fun k hkn => hsame k ?_
      rintro rfl
      simp only [Y5U, List.all_eq_true, List.mem_range] at hnd
      have := hk _ (hnd j hjm _ hkn)
      rw [hif] at this
      cases this
     unfold PO.at_
     rw [e]
     exact h
    have hcj := hri
    refine ⟨_, (po i).G (Y3L l[i].dst v) ++ Γx, ha', ?_, fun s hsn => ?_, fun j hj => ?_⟩
    ·rw [List.append_assoc]
     refine hR.2.perm ?_
     have h9 := (Y3q (con (listed.setIfInBounds i true) (putE ρ l[i].dst v)) him).append_right Λ
     rw [hci2, Y1O (f := fun j => if j = i then [] else con (listed.setIfInBounds i true) (putE ρ l[i].dst v) j) (g := fun j => if j ∈ i :: tk i then [] else con listed ρ j) (fun j _ => by
      by_cases e : j = i
      ·simp [e]
      ·by_cases e2 : j ∈ tk i
       ·rw [if_neg e, if_pos (by simp [e2]), hct j e2]
       ·rw [if_neg e, if_neg (by simp [e, e2]), hcs j (by simp [e, e2])]), List.append_assoc] at h9
     exact h9.symm
    ·cases hd : l[i].dst with
     | none => exact hu s hsn
     | some t =>
      have : s ≠ t := by
       rintro rfl
       exact Y37 hsn (i := i) (by simp [Y1b, List.getElem?_take, him, ho, hd])
      show upd ρ t v s = ρ0 s
      rw [Y5N _ _ this]
      exact hu s hsn
    ·by_cases hji : j = i
     ·subst hji
      refine ⟨him, ?_⟩
      rw [hdi, Y3t]
      exact ⟨hat j him hcj _ hR.1, fun it hit => List.mem_append.2 (.inl hit)⟩
     ·have hj' := ((hset hls hin).1 hj).resolve_left hji
      rw [hsame j hji]
      exact ⟨(hp j hj').1, hat j (hp j hj').1 (fun k hk => Y1B hcl _ j k (hcl j hj') hk) _ (hp j hj').2.1, fun it hit => List.mem_append.2 (.inr ((hp j hj').2.2 it hit))⟩
   ·have hall : ∀ j, j < m → listed.getD j false = true := fun j hj => hri j (Y43 hok hin him hj)
    have h0 := finish listed a w hI hall
    obtain ⟨ρ, Γx, hρ, hst, hu, hp⟩ := hI
    have hl2 : ∀ j, j < l.length → (listed.getD j false = true ↔ j < m) := fun j hj => ⟨fun h => (hp j h).1, fun h => hall j h⟩
    have e1 := Y3w l.length m hls hl2
    have e2 := Y3x l.length m (Y2V hok) hls hl2
    have e3 : F = fuel + 1 := by omega
    rw [← hB, ← e1, e3] at h0
    exact h0.2 i hi
 have hfull : Y1F (Array.replicate l.length false) l.length = l.length := by
  have : ∀ n, n ≤ l.length → Y1F (Array.replicate l.length false) n = n := by
   intro n
   induction n with
   | zero => exact fun _ => rfl
   | succ n ih =>
    intro hn
    have h2 : (Array.replicate l.length false).getD n true = false := by
     have : n < l.length := by omega
     simp [this]
    rw [Y1F, ih (by omega), h2]; rfl
  exact this _ (Nat.le_refl _)
 have hnone : ∀ i, (Array.replicate l.length false).getD i false ≠ true := by
  intro i hi
  rcases Nat.lt_or_ge i l.length with h | h <;> simp [h] at hi
 suffices hgo : InvA (Array.replicate l.length false) a0 { w1 with drawn := w1.drawn + 1 } by
  have := main l.length (Array.replicate l.length false) a0 { w1 with drawn := w1.drawn + 1 } (by simp) hfull (fun k hk => absurd hk (hnone k)) hgo
  simpa using this
 refine ⟨ρ0, [], ha0, ?_, fun _ _ => rfl, fun i hi => absurd hi (hnone i)⟩
 rw [Y1O (f := con (Array.replicate l.length false) ρ0) (g := fun i => (po i).Pre) fun i _ => by
  have h1 : Y1M tk m (Array.replicate l.length false) i = false := by
   cases hb : Y1M tk m (Array.replicate l.length false) i with
   | false => rfl
   | true => obtain ⟨k, hk, hkl, hkt⟩ := Y1z.1 hb; exact absurd hkl (hnone k)
  show (if _ then _ else if _ then _ else _) = _
  rw [h1, if_neg (by simp), if_neg (hnone i)]]
 exact hs.drew
end
end
section
open Go
def po (R : Addr → Prop) : PO := ⟨fun _ v => ∃ ad, v = .pointer (some ad) ∧ R ad, fun _ => [], fun _ => [], [], []⟩
end
end Go.Proofs.YtpfgdjfiimknlaaGreatL
