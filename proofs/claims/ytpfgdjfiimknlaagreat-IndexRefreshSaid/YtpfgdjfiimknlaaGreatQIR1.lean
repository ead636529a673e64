/- What the row leans on, as few texts. -/
import Derived.Test.YtpfgdjfiimknlaaGreatQIR0
import Derived.Laws.BytesArg
import Derived.Maps.Own
import Derived.Sort.KeysCollected
import Derived.Test.YtpfgdjfiimknlaaGreatProg
import Derived.Shelf.SlIter.Nil
import Derived.Shelf.SortM.Plain
import Derived.Shelf.SortM.SortNone
import Derived.Shelf.Spec.SearchS
import Derived.Shelf.Spec.SlicesInsertGrow
set_option linter.unusedVariables false
set_option linter.unusedSimpArgs false
set_option linter.unusedSectionVars false
set_option linter.unnecessarySimpa false
namespace Go.Proofs.YtpfgdjfiimknlaaGreatL
section
open Go Go.RowKit
theorem Y4p {α : Type} {xs : List α} {l : Nat} {j : Int} {y : α} (h : idx (xs.drop l) j = some y) : idx xs ((l : Int) + j) = some y := by
 obtain ⟨h0, h1, h2⟩ := Y3z h
 unfold idx
 rw [if_pos (by omega), show ((l : Int) + j).toNat = l + j.toNat by omega]
 rwa [List.getElem?_drop] at h2
section
variable {P : Program} {N : Nat} {Q : QE} {ρ : Env} {w : World} {w0 : Base} {ok0 : Nat → Prop} {Γ : List It} {Λ : List LObj}
variable {d : Option Tmp} {ty : TypeId} {pos : String} {aft : Array Edge} {gd : Option (Nat × Bool)} {ops : Array Oper} {rest : List Oper}
theorem WL.indexAddrV {α : Type} {A : Ty α} {xs : List α} {y : α} {T E E' : TypeId} {x z : Operand} {a : Option Addr} {c : Nat} {k : IntKind} {j : Int} {agg : Bool} {n l : Nat} (hs : St ok0 w0 w Γ Λ) (m : Nat) (hm : Λ[m]? = some (own A E' (.slice a n c) xs))
  (hT : P.underlying T = some (.slice E)) (hE : TI P E agg A.sz) (hx : ρ.ev x = cutv a l n c A.sz) (hz : ρ.ev z = .int k j) (hi : idx (xs.drop l) j = some y)
  (K : ∀ ad, OwnAt A.sz (.slice a n c) ((l : Int) + j) ad → WL P N ops Q rest (putE ρ d (.pointer (some ad))) w)
  (hg : Y0I ops ρ ⟨d, .indexAddr T x z, ty, pos, aft, gd⟩ = true := by rfl) (hd : fits N d = true := by rfl) :
  WL P N ops Q (⟨d, .indexAddr T x z, ty, pos, aft, gd⟩ :: rest) ρ w := by
 obtain ⟨h0, h1, h2⟩ := Y3z hi
 rw [List.length_drop] at h1
 obtain rfl := hs.ownLen m hm
 obtain ⟨ok, bs, ho, _⟩ := hs.split m hm
 obtain ⟨g, c', cur, e, _, _, hc, _⟩ := Y3g ho (by omega)
 cases e
 have hne : c ≠ l := by omega
 refine WL.value hg hd (v := .pointer (some ⟨g, ((l : Int) + j).toNat * A.sz, none⟩)) (w' := w) (by
  show (do pure (Next.value (← Instr.indexAt T (ρ.ev x) (ρ.ev z))) : Sem Next).run P w = _
  rw [hx, hz]
  unfold cutv
  rw [if_neg hne]
  have := Y4D (P := P) (w := w) (g := g) (off := l * A.sz) (n := xs.length - l) (c := c - l) (k := k) hT hE h0 h1
  have e1 : l * A.sz + j.toNat * A.sz = ((l : Int) + j).toNat * A.sz := by
   rw [← Nat.add_mul]
   congr 1
   omega
  rw [e1] at this
  simp only [Option.map_some, Y2i, Nat.zero_add]
  exact Y1Q this) (K _ ⟨g, _, _, rfl, rfl⟩)
theorem len_view {T E : TypeId} {a : Option Addr} {l n c s : Nat} (hT : P.underlying T = some (.slice E)) : (Builtin.len_ #[T] ty #[cutv a l n c s]).run P w = .ok (.int .i64 ((n - l : Nat) : Int)) w := Y0V hT
theorem Y74 {α : Type} {A : Ty α} {T E E' : TypeId} {a : Option Addr} {l n c s : Nat} {xs : List α} (hs : St ok0 w0 w Γ Λ) (i : Nat) (hi : Λ[i]? = some (own A E' (.slice a n c) xs)) (hT : P.underlying T = some (.slice E)) : (Builtin.len_ #[T] ty #[cutv a l n c s]).run P w = .ok (.int .i64 ((xs.length - l : Nat) : Int)) w := by
 obtain rfl := hs.ownLen i hi
 exact len_view hT
end
end
section
open Go Go.RowKit
open Go.ChangeMaps (setBlock)
section
variable {P : Program} {N : Nat} {Q : QE} {ρ : Env} {w : World} {w0 : Base} {ok0 : Nat → Prop} {Γ : List It} {Λ : List LObj}
variable {d : Option Tmp} {ty : TypeId} {pos : String} {aft : Array Edge} {gd : Option (Nat × Bool)} {ops : Array Oper} {rest : List Oper}
theorem Y11.drop {α : Type} {A : Ty α} {ok : Nat → Prop} {xs : List α} {cs : List Value} (h : Y11 A ok w xs cs) (l : Nat) (hl : l ≤ xs.length) : Y11 A ok w (xs.drop l) (cs.drop (l * A.sz)) := by
 refine ⟨by rw [List.length_drop, List.length_drop, h.1, Nat.sub_mul], fun j x hx => ?_⟩
 rw [List.getElem?_drop] at hx
 have := h.2 (l + j) x hx
 rw [List.drop_drop, ← Nat.add_mul]
 exact this
def cpyN {α : Type} (xs : List α) (d l : Nat) : List α := xs.take d ++ (xs.drop l).take (Nat.min (xs.length - l) (xs.length - d)) ++ xs.drop (d + Nat.min (xs.length - l) (xs.length - d))
theorem Y64 {α : Type} (xs : List α) (d l : Nat) (hd : d ≤ xs.length) (hl : l ≤ xs.length) : (cpyN xs d l).length = xs.length := by
 unfold cpyN
 have : Nat.min (xs.length - l) (xs.length - d) = min (xs.length - l) (xs.length - d) := rfl
 simp only [List.length_append, List.length_take, List.length_drop]
 omega
theorem WL.copyV {α : Type} {A : Ty α} {T T2 E : TypeId} {agg : Bool} {x y : Operand} {a : Option Addr} {n c D L : Nat} {xs ys : List α} (hs : St ok0 w0 w Γ Λ) (i : Nat) (hi : Λ[i]? = some (own A E (.slice a n c) xs))
  (hT : P.underlying T = some (.slice E)) (hE : TI P E agg A.sz) (hx : ρ.ev x = cutv a D n c A.sz) (hy : ρ.ev y = cutv a L n c A.sz) (hD : D ≤ xs.length) (hL : L ≤ xs.length) (hc : cpyN xs D L = ys)
  (K : ∀ w', St ok0 w0 w' Γ (Λ.set i (own A E (.slice a n c) ys)) → WL P N ops Q rest (putE ρ d (.int .i64 ((Nat.min (xs.length - L) (xs.length - D) : Nat) : Int))) w')
  (hg : Y0I ops ρ ⟨d, .call { callee := .builtin .copy, args := #[x, y], argTypes := #[T, T2] }, ty, pos, aft, gd⟩ = true := by rfl) (hd : fits N d = true := by rfl) :
  WL P N ops Q (⟨d, .call { callee := .builtin .copy, args := #[x, y], argTypes := #[T, T2] }, ty, pos, aft, gd⟩ :: rest) ρ w := by
 obtain rfl := hs.ownLen i hi
 obtain ⟨ok, bs, ho, hA, hn, hbs, hput⟩ := hs.split i hi
 obtain ⟨m, hm⟩ : ∃ m, Nat.min (xs.length - L) (xs.length - D) = m := ⟨_, rfl⟩
 rw [hm] at K
 have hyl := Y64 xs D L hD hL
 rw [hc] at hyl
 unfold cpyN at hc
 rw [hm] at hc
 have hmin : Nat.min (xs.length - L) (xs.length - D) = m := hm
 have hm9 : m ≤ xs.length - L ∧ m ≤ xs.length - D := by rw [← hm]; exact ⟨Nat.min_le_left _ _, Nat.min_le_right _ _⟩
 rcases Nat.eq_zero_or_pos m with h0 | h0
 ·subst h0
  have : ys = xs := by rw [← hc]; simp
  subst this
  have hsame : Λ.set i (own A E (.slice a ys.length c) ys) = Λ := by
   apply List.ext_getElem?
   intro k
   rw [List.getElem?_set]
   by_cases hk : i = k
   ·subst hk
    rw [if_pos rfl, if_pos (List.getElem?_eq_some_iff.1 hi).1, hi]
   ·rw [if_neg hk]
  refine WL.value hg hd (v := .int .i64 ((0 : Nat) : Int)) (w' := w) (Y2D fun cs => ?_) (K w (by rw [hsame]; exact hs))
  rw [List.map_toArray]
  refine Y1Q ?_
  show (Builtin.copy_ #[T, T2] ty #[ρ.ev x, ρ.ev y]).run P w = _
  rw [hx, hy]
  unfold Builtin.copy_ cutv
  refine (Y0p (Y2j hT w)).trans ?_
  simp only [Builtin.lenOf]
  refine (Y0p (Y84 P w _)).trans ?_
  rw [hmin]
  refine (Y0p (hE.size_ w)).trans ?_
  generalize (if c = D then a else Option.map (fun x => x.add (D * A.sz)) a) = a1
  generalize (if c = L then a else Option.map (fun x => x.add (L * A.sz)) a) = a2
  have h1 : (Builtin.firstCells A.sz 0 (.slice a2 (ys.length - L) (c - L))).run P w = .ok #[] w := by
   unfold Builtin.firstCells
   cases a2 with
   | none => rfl
   | some ad => rw [Nat.zero_mul]; rfl
  refine (Y0p h1).trans ?_
  cases a1 <;> rfl
 obtain ⟨g, c', cur, e, hb, hgh, hc', hmx, hsz, hC⟩ := Y3g ho (by omega)
 cases e
 have hcD : c ≠ D := by omega
 have hcL : c ≠ L := by omega
 have hDm : D + m ≤ xs.length := by omega
 have hLm : L + m ≤ xs.length := by omega
 have hDs : D * A.sz + m * A.sz ≤ xs.length * A.sz := by rw [← Nat.add_mul]; exact Nat.mul_le_mul_right _ hDm
 have hLs : L * A.sz + m * A.sz ≤ xs.length * A.sz := by rw [← Nat.add_mul]; exact Nat.mul_le_mul_right _ hLm
 have hcur : xs.length * A.sz ≤ cur.size := by rw [hsz]; exact Nat.mul_le_mul_right _ hc'
 generalize hCC : cur.toList.take (xs.length * A.sz) = C at hC
 have hCl : C.length = xs.length * A.sz := hC.1
 have hmid : Y11 A ok w ((xs.drop L).take m) ((C.drop (L * A.sz)).take (m * A.sz)) := (hC.drop L hL).take m (by rw [List.length_drop]; omega)
 generalize hvs : (C.drop (L * A.sz)).take (m * A.sz) = vs at hmid
 have hvl : vs.length = m * A.sz := by rw [← hvs, List.length_take, List.length_drop, hCl]; omega
 have hone : ∀ v ∈ vs, v.oneCell' = true := hmid.one_
 have hload : ∀ k u, vs[k]? = some u → w.cell? ⟨g, L * A.sz + 0 + k, none⟩ = some u := by
  intro k u hu
  have hk : k < m * A.sz := by rw [← hvl]; exact (List.getElem?_eq_some_iff.1 hu).1
  rw [← hvs, List.getElem?_take, if_pos hk, List.getElem?_drop, ← hCC, List.getElem?_take, if_pos (by omega)] at hu
  simp only [World.cell?, hgh, Nat.add_zero]
  simpa using hu
 have hl := Y34 (P := P) (w := w) g (L * A.sz) (m * A.sz) 0 #[] vs hvl hload
 have hst := Y2J (P := P) (g := g) (T := E) (D * A.sz) vs 0 w cur.toList hone (by simpa using hgh) (by rw [Nat.add_zero, hvl, Array.length_toList (xs := cur)]; omega)
 have hnew := Y3f hgh (D * A.sz) vs
 refine WL.value hg hd (v := .int .i64 ((m : Nat) : Int)) (w' := setCells w g (D * A.sz) vs) (Y2D fun cs => ?_) (K _ ?_)
 ·rw [List.map_toArray]
  refine Y1Q ?_
  show (Builtin.copy_ #[T, T2] ty #[ρ.ev x, ρ.ev y]).run P w = _
  rw [hx, hy]
  unfold Builtin.copy_ cutv
  rw [if_neg hcD, if_neg hcL]
  refine (Y0p (Y2j hT w)).trans ?_
  simp only [Builtin.lenOf]
  refine (Y0p (Y84 P w _)).trans ?_
  rw [hmin]
  refine (Y0p (hE.size_ w)).trans ?_
  have h1 : (Builtin.firstCells A.sz m (.slice (Option.map (fun x : Addr => x.add (L * A.sz)) (some (⟨g, 0, none⟩ : Addr))) (xs.length - L) (c - L))).run P w = .ok vs.toArray w := by
   unfold Builtin.firstCells
   simp only [Option.map_some, Y2i, Nat.zero_add]
   unfold loadCells
   simpa using hl
  refine (Y0p h1).trans ?_
  simp only [Option.map_some, Y2i, Nat.zero_add]
  exact (Y0p hst).trans rfl
 ·refine hput _ [g] _ (by rw [hb]; exact Y1V g vs w _) (by simp) (fun b hb' => ?_) fun ok' hm' => ?_
  ·simp at hb'; subst hb'
   refine ⟨.inl (by rw [hb]; simp), ?_⟩
   exact Y0T hnew
  ·have hC' : Y11 A ok' (setCells w g (D * A.sz) vs) xs C := hC.move hm'
   have hmid' : Y11 A ok' (setCells w g (D * A.sz) vs) ((xs.drop L).take m) vs := hmid.move hm'
   have hall : Y11 A ok' (setCells w g (D * A.sz) vs) ys (C.take (D * A.sz) ++ vs ++ C.drop ((D + m) * A.sz)) := by
    rw [← hc]
    exact ((hC'.take D (by omega)).app hmid').app (hC'.drop (D + m) hDm)
   have htk : (Y2X cur.toList (D * A.sz) vs).take (xs.length * A.sz) = C.take (D * A.sz) ++ vs ++ C.drop ((D + m) * A.sz) := by
    rw [Y4m _ _ _ _ (by rw [hvl]; exact hDs), hCC, Y2E _ _ _ (by rw [hvl, hCl]; exact hDs), hvl, Nat.add_mul]
   refine .inr ⟨by show 0 < c; omega, _, by simp [Value.ownBlock], ⟨hall.1, .inr ⟨g, c, _, by rw [hyl], Nat.zero_le _, hnew, by rw [hyl]; exact hc', hmx, by simp [Y2T, hsz], ?_⟩⟩, hall⟩
   rw [hyl]
   simpa using htk
variable {κ β : Type} [BEq κ] [LawfulBEq κ] {kv : κ → Value} {V : Ty β}
omit [LawfulBEq κ] in
theorem Y8d (l : List (κ × β)) (a : κ) : (mdel l a).Sublist l := by
 induction l with
 | nil => exact List.Sublist.refl _
 | cons o l ih =>
  unfold mdel
  split
  ·exact List.sublist_cons_self _ _
  ·exact ih.cons_cons _
theorem WL.deleteM {t kt et : TypeId} {m x : Operand} {g : Nat} {l l' : List (κ × β)} {a : κ} (hs : St ok0 w0 w Γ Λ) (i : Nat) (hi : Λ[i]? = some (mapo kv V g l)) (hk : KK P kt kv) (ht : P.underlying t = some (.map kt et))
  (hm : ρ.ev m = .map (some g)) (hx : ρ.ev x = kv a) (hl : mdel l a = l')
  (K : ∀ w', St ok0 w0 w' Γ (Λ.set i (mapo kv V g l')) → WL P N ops Q rest (putE ρ d (.tuple #[])) w')
  (hg : Y0I ops ρ ⟨d, .call { callee := .builtin .delete, args := #[m, x], argTypes := #[t, kt] }, ty, pos, aft, gd⟩ = true := by rfl) (hd : fits N d = true := by rfl) :
  WL P N ops Q (⟨d, .call { callee := .builtin .delete, args := #[m, x], argTypes := #[t, kt] }, ty, pos, aft, gd⟩ :: rest) ρ w := by
 subst hl
 obtain ⟨ok, bs, ho, hA, hn, hbs, hput⟩ := hs.split i hi
 obtain ⟨rfl, es, c, hh, he, hb1, hb2, hnd⟩ := ho
 have hlt := Y0T hh
 obtain ⟨desc, hud, hsame⟩ := hk.und
 have fin : ∀ es' : Array MapEntry, (Builtin.delete_ #[t, kt] ty #[.map (some g), kv a]).run P w = .ok (.tuple #[]) (setBlock w g (.map es' c)) → Ents kv V ok w (mdel l a) es'.toList → es'.toList.Sublist es.toList → ((mdel l a).map (·.1)).Nodup →
   WL P N ops Q (⟨d, .call { callee := .builtin .delete, args := #[m, x], argTypes := #[t, kt] }, ty, pos, aft, gd⟩ :: rest) ρ w := by
  intro es' hrun h1 h2 h3
  obtain ⟨o1, o2, o3⟩ := Y4c (w := w) (g := g) (.map es' c) hlt
  refine WL.value hg hd (v := .tuple #[]) (w' := setBlock w g (.map es' c)) (Y2D fun cs => ?_) (K _ (hput _ [g] _ o1 (by simp) (fun b hb => ⟨.inl hb, ?_⟩) fun ok' hm' => ⟨rfl, es', c, o2, h1.move hm', (h2.map _).nodup hb1, fun e he' => hb2 e (h2.subset he'), h3⟩))
  ·rw [List.map_toArray]
   refine Y1Q ?_
   show (Builtin.delete_ #[t, kt] ty #[ρ.ev m, ρ.ev x]).run P w = _
   rw [hm, hx]
   exact hrun
  ·rw [o3]; exact (hbs b hb).2.2
 have pre : ∀ r, Instr.findNow desc (kv a) es.toList 0 = some r → (Builtin.delete_ #[t, kt] ty #[.map (some g), kv a]).run P w = ((match r with
   | some (i, _) => (do setObj g (.map (es.eraseIdxIfInBounds i) c); pure (.tuple #[]))
   | none => (do setObj g (.map es c); pure (.tuple #[]))) : Sem Value).run P w := by
  intro r hr
  unfold Builtin.delete_
  refine (Y0p (Y2j ht w)).trans ?_
  refine (Y0p (Y3w hh)).trans ?_
  refine (Y0p (hk.chk _ a w)).trans ?_
  refine (Y0p (Y35 hud hr w)).trans ?_
  cases r with
  | none => rfl
  | some q => obtain ⟨j, u⟩ := q; rfl
 rcases Y2k (P := P) (t := t) hsame a 0 he with ⟨a1, a2, _, a4, _⟩ | ⟨j, y, e, a1, a2, a3, a4, a5, _, _, a8⟩
 ·refine fin es ((pre _ a2).trans ((Y0p (Y4n hh _)).trans rfl)) (by rw [a4]; exact he) (List.Sublist.refl _) (by rw [a4]; exact hnd)
 ·have hjs : j < es.size := by simpa using (List.getElem?_eq_some_iff.1 a2).1
  have hsub : (es.eraseIdxIfInBounds j).toList = es.toList.eraseIdx j := by
   unfold Array.eraseIdxIfInBounds
   rw [dif_pos hjs]
   simp
  refine fin (es.eraseIdxIfInBounds j) ((pre _ a4).trans ?_) (by rw [hsub]; exact a8) (by rw [hsub]; exact List.eraseIdx_sublist _ _) ?_
  ·simp only [Nat.zero_add]
   exact (Y0p (Y4n hh _)).trans rfl
  ·have hs9 := Y8d l a
   exact (hs9.map _).nodup hnd
end
end
section
open Go Go.RowKit
section
variable {P : Program} {N : Nat} {Q : QE} {ρ : Env} {w : World} {w0 : Base} {ok0 : Nat → Prop} {Γ : List It} {Λ : List LObj}
variable {d : Option Tmp} {ty : TypeId} {pos : String} {aft : Array Edge} {gd : Option (Nat × Bool)} {ops : Array Oper} {rest : List Oper}
variable {κ β : Type} [BEq κ] [LawfulBEq κ] {kv : κ → Value} {V : Ty β}
def mapq (kv : κ → Value) (V : Ty β) (g : Nat) (φ : κ → Option β) : LObj where
 H := fun ok bs w => ∃ l : List (κ × β), (mapo kv V g l).H ok bs w ∧ ∀ k, l.lookup k = φ k
 fn := by rintro _ _ _ _ _ ⟨l, h, _⟩ ⟨l', h', _⟩; exact h.1.trans h'.1.symm
 lt := by rintro _ _ _ ⟨l, h, _⟩; exact (mapo kv V g l).lt h
 move := by
  rintro _ _ _ _ _ ⟨l, h, e⟩ hk hm
  exact ⟨l, (mapo kv V g l).move h hk hm, e⟩
theorem St.toQ {g : Nat} {l : List (κ × β)} (hs : St ok0 w0 w Γ Λ) (i : Nat) (hi : Λ[i]? = some (mapo kv V g l)) : St ok0 w0 w Γ (Λ.set i (mapq kv V g fun k => l.lookup k)) := by
 obtain ⟨ok, bs, ho, hA, hn, hbs, hput⟩ := hs.split i hi
 exact hput _ bs w (Off.refl_ _ _) hn (fun b hb => ⟨.inl hb, (hbs b hb).2.2⟩) fun ok' hm => ⟨l, (mapo kv V g l).move ho (fun b _ => rfl) hm, fun _ => rfl⟩
theorem WL.lookupQ {t kt et : TypeId} {m x : Operand} {g : Nat} {φ : κ → Option β} {a : κ} {z0 : β} {zc : Value} (hs : St ok0 w0 w Γ Λ) (i : Nat) (hi : Λ[i]? = some (mapq kv V g φ)) (hk : KK P kt kv) (ht : P.underlying t = some (.map kt et))
  (hm : ρ.ev m = .map (some g)) (hx : ρ.ev x = kv a) (hz : ∀ w, (zeroValue et).run P w = .ok zc w) (hzV : ∀ (ok : Nat → Prop) (w : World), V.V ok w z0 zc) {y : β} (hy : (φ a).getD z0 = y)
  (K : ∀ v, St ok0 w0 w (vl V y v :: Γ) Λ → WL P N ops Q rest (putE ρ d v) w)
  (hg : Y0I ops ρ ⟨d, .lookup t m x false, ty, pos, aft, gd⟩ = true := by rfl) (hd : fits N d = true := by rfl) :
  WL P N ops Q (⟨d, .lookup t m x false, ty, pos, aft, gd⟩ :: rest) ρ w := by
 obtain ⟨ok, bs, ⟨l, ho, hφ⟩, hA, hn, hbs, hput⟩ := hs.split i hi
 subst hy
 have hil : i < Λ.length := (List.getElem?_eq_some_iff.1 hi).1
 have hs' : St ok0 w0 w Γ (Λ.set i (mapo kv V g l)) := hput _ bs w (Off.refl_ _ _) hn (fun b hb => ⟨.inl hb, (hbs b hb).2.2⟩) fun ok' hm => (mapo kv V g l).move ho (fun b _ => rfl) hm
 have hget : (Λ.set i (mapo kv V g l))[i]? = some (mapo kv V g l) := by simp [hil]
 refine WL.lookup hs' i hget hk ht hm hx hz hzV (by rw [hφ]) (fun v hv => K v ?_) hg hd
 have h1 := hv.toQ i hget
 have e1 : (fun k => l.lookup k) = φ := funext hφ
 rw [e1, List.set_set] at h1
 have e2 : Λ.set i (mapq kv V g φ) = Λ := by
  have e3 : Λ[i] = mapq kv V g φ := by
   rw [List.getElem?_eq_getElem hil] at hi
   exact Option.some.inj hi
  rw [← e3]
  exact List.set_getElem_self hil
 rw [e2] at h1
 exact h1
end
end
section
open Go Go.RowKit
section
variable {P : Program} {N : Nat} {ops : Array Oper} {Q : QE} {ρ : Env} {w : World} {w0 : Base} {rest : List Oper} {d : Option Tmp} {ty : TypeId} {pos : String} {aft : Array Edge} {gd : Option (Nat × Bool)} {ok0 : Nat → Prop} {Γ : List It} {Λ : List LObj}
end
end
section
open Go Go.RowKit
def Y2r : Ty Value where
 sz := 1
 agg := false
 R := fun _ _ x cs => cs = [x] ∧ x.oneCell' = true
 len := by rintro _ _ _ _ ⟨rfl, _⟩; rfl
 one := by rintro _ _ _ _ ⟨rfl, h⟩ u hu; simp at hu; subst hu; exact h
 move := fun h _ => h
def tRaw (n : Nat) : Ty (List Value) where
 sz := n
 agg := true
 R := fun _ _ x cs => cs = x ∧ x.length = n ∧ ∀ u ∈ x, u.oneCell' = true
 len := by rintro _ _ _ _ ⟨rfl, h, _⟩; exact h
 one := by rintro _ _ _ _ ⟨rfl, _, h⟩; exact h
 move := fun h _ => h
theorem Y2P {ok : Nat → Prop} {w : World} {x v : Value} : Y2r.V ok w x v ↔ v = x ∧ x.oneCell' = true :=
 ⟨by rintro ⟨_, ⟨rfl, h⟩, e⟩; exact ⟨e, h⟩, by rintro ⟨rfl, h⟩; exact ⟨[v], ⟨rfl, h⟩, rfl⟩⟩
theorem Y4L {n : Nat} {ok : Nat → Prop} {w : World} {x : List Value} {v : Value} : (tRaw n).V ok w x v ↔ v = .agg x.toArray ∧ x.length = n ∧ ∀ u ∈ x, u.oneCell' = true :=
 ⟨by rintro ⟨_, ⟨rfl, h⟩, e⟩; exact ⟨e, h⟩, by rintro ⟨rfl, h⟩; exact ⟨x, ⟨rfl, h⟩, rfl⟩⟩
section
variable {w : World} {w0 : Base} {ok0 : Nat → Prop} {Γ : List It} {Λ : List LObj}
theorem St.cellv (hs : St ok0 w0 w Γ Λ) (i : Nat) {x v : Value} (hi : Γ[i]? = some (vl Y2r x v)) : v = x := by
 obtain ⟨ok, h⟩ := hs.get i hi
 exact (Y2P.1 h).1
theorem St.rawv (hs : St ok0 w0 w Γ Λ) (i : Nat) {n : Nat} {x : List Value} {v : Value} (hi : Γ[i]? = some (vl (tRaw n) x v)) : v = .agg x.toArray := by
 obtain ⟨ok, h⟩ := hs.get i hi
 exact (Y4L.1 h).1
end
section
variable {P : Program} {N : Nat} {Q : QE} {ρ : Env} {w : World} {w0 : Base} {ok0 : Nat → Prop} {Γ : List It} {Λ : List LObj}
variable {d : Option Tmp} {ty : TypeId} {pos : String} {aft : Array Edge} {gd : Option (Nat × Bool)} {ops : Array Oper} {rest : List Oper}
end
end
section
open Go Go.RowKit
structure FK (φ : Type) where
 n : Nat
 E : TypeId
 fc : φ → Value → List Value
 fe : φ → List (List UInt8)
 nm : φ → List UInt8
 inj : ∀ {x v x' v'}, fc x v = fc x' v' → v = v'
def fpV (v : Value) : List Nat := if Y6V v = 0 then [] else v.ownBlock.toList
theorem Y88 {α : Type} {T : Ty α} {E : TypeId} {v : Value} {xs : List α} {ok : Nat → Prop} {bs : List Nat} {w : World} (h : (own T E v xs).H ok bs w) : bs = fpV v := by
 unfold fpV
 rcases h with ⟨h0, h1, _⟩ | ⟨h0, _, h1, _⟩
 ·rw [if_pos h0, h1]
 ·rw [if_neg (by omega), h1]
theorem Ents.inj_ {κ β : Type} {kv : κ → Value} {V : Ty β} {ok ok' : Nat → Prop} {w : World} (hk : ∀ {a b}, kv a = kv b → a = b) (hV : ∀ {x y v}, V.V ok w x v → V.V ok' w y v → x = y) :
  ∀ {l l' : List (κ × β)} {es : List MapEntry}, Ents kv V ok w l es → Ents kv V ok' w l' es → l = l'
 | [], [], [], _, _ => rfl
 | x :: l, y :: l', e :: es, ⟨h1, h2, h3⟩, ⟨k1, k2, k3⟩ => by
  have e1 : x.1 = y.1 := hk (h1.symm.trans k1)
  have e2 : x.2 = y.2 := hV h2 k2
  rw [Ents.inj_ hk hV h3 k3, Prod.ext e1 e2]
 | [], _ :: _, [], _, h => h.elim
 | [], _, _ :: _, h, _ => h.elim
 | _ :: _, _, [], h, _ => h.elim
 | _ :: _, [], _ :: _, _, h => h.elim
theorem Y6O {a b : List UInt8} (h : bstr a = bstr b) : a = b := by
 unfold bstr at h
 have := Value.string.inj h
 simpa using this
section
variable {φ : Type} (K : FK φ)
abbrev BE (φ : Type) := List UInt8 × Nat × List (φ × Value)
def inP (o : BE φ) : List (LObj × List Nat) := (mapo bstr (tRaw K.n) o.2.1 (o.2.2.map fun e => (K.nm e.1, K.fc e.1 e.2)), [o.2.1]) :: o.2.2.map fun e => (own tStr K.E e.2 (K.fe e.1), fpV e.2)
def bldP (g : Nat) (b : List (BE φ)) : List (LObj × List Nat) := (mapo bstr Y2r g (b.map fun o => (o.1, Value.map (some o.2.1))), [g]) :: b.flatMap (inP K)
def bldL (g : Nat) (b : List (BE φ)) : List LObj := (bldP K g b).map (·.1)
def cont (b : List (BE φ)) : List (List UInt8 × List φ) := b.map fun o => (o.1, o.2.2.map (·.1))
theorem Own.eqs {ok : Nat → Prop} {w : World} : ∀ {L : List (LObj × List Nat)} {bss : List (List Nat)}, (∀ p ∈ L, ∀ ok bs w, p.1.H ok bs w → bs = p.2) → Own ok w (L.map (·.1)) bss → bss = L.map (·.2)
 | [], [], _, _ => rfl
 | p :: L, bs :: bss, h, ⟨h1, h2⟩ => by
  rw [List.map_cons, h p (by simp) _ _ _ h1, Own.eqs (fun q hq => h q (by simp [hq])) h2]
 | [], _ :: _, _, h => h.elim
 | _ :: _, [], _, h => h.elim
theorem Own.mem {ok : Nat → Prop} {w : World} : ∀ {L : List (LObj × List Nat)} {bss : List (List Nat)}, Own ok w (L.map (·.1)) bss → ∀ p ∈ L, ∃ bs, p.1.H ok bs w
 | [], _, _, p, hp => by simp at hp
 | q :: L, bs :: bss, ⟨h1, h2⟩, p, hp => by
  rcases List.mem_cons.1 hp with rfl | hp
  ·exact ⟨bs, h1⟩
  ·exact Own.mem h2 p hp
 | _ :: _, [], h, _, _ => h.elim
theorem Y9K (g : Nat) (b : List (BE φ)) : ∀ p ∈ bldP K g b, ∀ ok bs w, p.1.H ok bs w → bs = p.2 := by
 intro p hp ok bs w h
 unfold bldP at hp
 rcases List.mem_cons.1 hp with rfl | hp
 ·exact h.1
 ·obtain ⟨o, _, ho⟩ := List.mem_flatMap.1 hp
  unfold inP at ho
  rcases List.mem_cons.1 ho with rfl | ho
  ·exact h.1
  ·obtain ⟨e, _, rfl⟩ := List.mem_map.1 ho
   exact Y88 h
theorem Y8e {β : Type} {V : Ty β} {g : Nat} {l l' : List (List UInt8 × β)} {ok ok' : Nat → Prop} {bs bs' : List Nat} {w : World} (hV : ∀ {x y v}, V.V ok w x v → V.V ok' w y v → x = y) (h : (mapo bstr V g l).H ok bs w) (h' : (mapo bstr V g l').H ok' bs' w) : l = l' := by
 obtain ⟨_, es, c, h1, h2, _⟩ := h
 obtain ⟨_, es', c', k1, k2, _⟩ := h'
 rw [h1] at k1
 cases k1
 exact Ents.inj_ Y6O hV h2 k2
theorem Y7O {ok ok' : Nat → Prop} {w : World} : ∀ (b b' : List (BE φ)), (b.map fun o => (o.1, Value.map (some o.2.1))) = (b'.map fun o => (o.1, Value.map (some o.2.1))) →
  (∀ o ∈ b, ∃ bs, (mapo bstr (tRaw K.n) o.2.1 (o.2.2.map fun e => (K.nm e.1, K.fc e.1 e.2))).H ok bs w) → (∀ o ∈ b', ∃ bs, (mapo bstr (tRaw K.n) o.2.1 (o.2.2.map fun e => (K.nm e.1, K.fc e.1 e.2))).H ok' bs w) →
  (b.flatMap (inP K)).map (·.2) = (b'.flatMap (inP K)).map (·.2)
 | [], [], _, _, _ => rfl
 | o :: b, o' :: b', he, h, h' => by
  rw [List.map_cons, List.map_cons] at he
  have e1 := (List.cons.inj he).1
  have e2 := (List.cons.inj he).2
  have eid : o.2.1 = o'.2.1 := by
   have := congrArg Prod.snd e1
   simpa using this
  obtain ⟨bs, hb⟩ := h o (by simp)
  obtain ⟨bs', hb'⟩ := h' o' (by simp)
  rw [eid] at hb
  have el := Y8e (fun {x y v} hx hy => by
   have a := (Y4L.1 hx).1
   have c := (Y4L.1 hy).1
   rw [a] at c
   have := Value.agg.inj c
   simpa using this) hb hb'
  have ev : o.2.2.map (fun e => fpV e.2) = o'.2.2.map (fun e => fpV e.2) := by
   have : o.2.2.map (fun e => e.2) = o'.2.2.map (fun e => e.2) := by
    have key : ∀ (l l' : List (φ × Value)), (l.map fun e => (K.nm e.1, K.fc e.1 e.2)) = (l'.map fun e => (K.nm e.1, K.fc e.1 e.2)) → l.map (fun e => e.2) = l'.map (fun e => e.2) := by
     intro l
     induction l with
     | nil => intro l' hl; cases l' with
      | nil => rfl
      | cons a t => simp at hl
     | cons a t ih => intro l' hl; cases l' with
      | nil => simp at hl
      | cons a' t' =>
       rw [List.map_cons, List.map_cons] at hl
       have q1 := (List.cons.inj hl).1
       have q2 := (List.cons.inj hl).2
       rw [List.map_cons, List.map_cons, ih t' q2, K.inj (congrArg Prod.snd q1)]
    exact key _ _ el
   have := congrArg (List.map fpV) this
   rw [List.map_map, List.map_map] at this
   exact this
  have ih := Y7O b b' e2 (fun q hq => h q (by simp [hq])) (fun q hq => h' q (by simp [hq]))
  rw [List.flatMap_cons, List.flatMap_cons, List.map_append, List.map_append, ih]
  unfold inP
  simp only [List.map_cons, List.map_map]
  rw [eid]
  congr 2
 | [], _ :: _, he, _, _ => by simp at he
 | _ :: _, [], he, _, _ => by simp at he
def bldc (C : List (BE φ) → Prop) (g : Nat) (x : List (List UInt8 × List φ)) : LObj where
 H := fun ok bs w => ∃ (b : List (BE φ)) (bss : List (List Nat)), (C b ∧ cont b = x) ∧ bs = bss.flatten ∧ bss.flatten.Nodup ∧ Own ok w (bldL K g b) bss
 fn := by
  rintro ok ok' bs bs' w ⟨b, bss, _, rfl, _, h⟩ ⟨b', bss', _, rfl, _, h'⟩
  have e1 := Own.eqs (Y9K K g b) h
  have e2 := Own.eqs (Y9K K g b') h'
  have m1 := Own.mem h
  have m2 := Own.mem h'
  rw [e1, e2]
  congr 1
  obtain ⟨_, q1⟩ := m1 _ (List.mem_cons_self ..)
  obtain ⟨_, q2⟩ := m2 _ (List.mem_cons_self ..)
  have el := Y8e (fun {x y v} hx hy => (Y2P.1 hx).1.symm.trans (Y2P.1 hy).1) q1 q2
  have key := Y7O (ok := ok) (ok' := ok') (w := w) K b b' el (fun o ho => ?_) (fun o ho => ?_)
  ·show [g] :: (b.flatMap (inP K)).map (·.2) = [g] :: (b'.flatMap (inP K)).map (·.2)
   rw [key]
  ·exact m1 (mapo bstr (tRaw K.n) o.2.1 (o.2.2.map fun e => (K.nm e.1, K.fc e.1 e.2)), [o.2.1]) (List.mem_cons_of_mem _ (List.mem_flatMap.2 ⟨o, ho, List.mem_cons_self ..⟩))
  ·exact m2 (mapo bstr (tRaw K.n) o.2.1 (o.2.2.map fun e => (K.nm e.1, K.fc e.1 e.2)), [o.2.1]) (List.mem_cons_of_mem _ (List.mem_flatMap.2 ⟨o, ho, List.mem_cons_self ..⟩))
 lt := by
  rintro ok bs w ⟨b, bss, _, rfl, _, h⟩ k hk
  exact h.lt k hk
 move := by
  rintro ok ok' bs w w' ⟨b, bss, hc, rfl, hn, h⟩ hk hm
  exact ⟨b, bss, hc, rfl, hn, h.move hm hk⟩
abbrev bldo (g : Nat) (x : List (List UInt8 × List φ)) : LObj := bldc K (fun _ => True) g x
def At (k : List UInt8) (gi : Nat) (b : List (BE φ)) : Prop := (b.map fun o => (o.1, Value.map (some o.2.1))).lookup k = some (Value.map (some gi))
theorem Own.both {ok : Nat → Prop} {w : World} : ∀ {A B : List LObj} {a b : List (List Nat)}, Own ok w A a → Own ok w B b → Own ok w (A ++ B) (a ++ b)
 | [], _, [], _, _, h => h
 | _ :: _, _, _ :: _, _, ⟨h1, h2⟩, h => ⟨h1, Own.both h2 h⟩
 | [], _, _ :: _, _, h, _ => h.elim
 | _ :: _, _, [], _, h, _ => h.elim
theorem Own.part {ok : Nat → Prop} {w : World} : ∀ {A B : List LObj} {c : List (List Nat)}, Own ok w (A ++ B) c → ∃ a b, c = a ++ b ∧ Own ok w A a ∧ Own ok w B b
 | [], _, c, h => ⟨[], c, rfl, trivial, h⟩
 | _ :: A, B, bs :: c, ⟨h1, h2⟩ => by
  obtain ⟨a, b, rfl, ha, hb⟩ := Own.part h2
  exact ⟨bs :: a, b, rfl, ⟨h1, ha⟩, hb⟩
 | _ :: _, _, [], h => h.elim
variable {w : World} {w0 : Base} {ok0 : Nat → Prop} {Γ : List It} {Λ : List LObj} {g : Nat} {x : List (List UInt8 × List φ)} {b : List (BE φ)} {C : List (BE φ) → Prop}
theorem St.bldOpen (hs : St ok0 w0 w Γ (bldc K C g x :: Λ)) : ∃ b, (C b ∧ cont b = x) ∧ St ok0 w0 w Γ (bldL K g b ++ Λ) := by
 obtain ⟨hB, bss, hN, hlt, hO, hA⟩ := hs
 match bss, hO with
 | [], h => exact h.elim
 | bs :: bss, hO =>
  obtain ⟨⟨b, bs1, hc, e0, hn, h1⟩, h2⟩ := hO
  subst e0
  have e : (bs1 ++ bss).flatten = (bs1.flatten :: bss).flatten := by simp
  exact ⟨b, hc, hB, bs1 ++ bss, by rw [e]; exact hN, by rw [e]; exact hlt, by rw [e]; exact Own.both h1 h2, by rw [e]; exact hA⟩
theorem St.bldClose (hs : St ok0 w0 w Γ (bldL K g b ++ Λ)) (hC : C b) (hc : cont b = x) : St ok0 w0 w Γ (bldc K C g x :: Λ) := by
 obtain ⟨hB, bss, hN, hlt, hO, hA⟩ := hs
 obtain ⟨a, c, rfl, ha, hcc⟩ := Own.part hO
 have e : (a.flatten :: c).flatten = (a ++ c).flatten := by simp
 refine ⟨hB, a.flatten :: c, by rw [e]; exact hN, by rw [e]; exact hlt, ⟨⟨b, a, ⟨hC, hc⟩, rfl, ?_, by rw [e]; exact ha⟩, by rw [e]; exact hcc⟩, by rw [e]; exact hA⟩
 rw [List.flatten_append] at hN
 exact (List.nodup_append.1 hN).1
def outL (b : List (BE φ)) : List (List UInt8 × Value) := b.map fun o => (o.1, Value.map (some o.2.1))
def inL (o : BE φ) : List LObj := (inP K o).map (·.1)
def Y3l (b : List (BE φ)) : List LObj := (b.flatMap (inP K)).map (·.1)
theorem Y4j (b : List (BE φ)) : bldL K g b = mapo bstr Y2r g (outL b) :: Y3l K b := rfl
theorem Y3i (b1 b2 : List (BE φ)) (o : BE φ) : (Y3l K (b1 ++ o :: b2)).Perm (inL K o ++ Y3l K (b1 ++ b2)) := by
 unfold Y3l inL
 rw [List.flatMap_append, List.flatMap_cons, List.flatMap_append, List.map_append, List.map_append, List.map_append]
 exact List.perm_append_comm_assoc _ _ _
theorem Y6N {b : List (BE φ)} {k : List UInt8} {fs : List φ} (h : (cont b).lookup k = some fs) : ∃ b1 o b2, b = b1 ++ o :: b2 ∧ o.1 = k ∧ o.2.2.map (·.1) = fs ∧ (outL b).lookup k = some (Value.map (some o.2.1)) ∧ ∀ q ∈ b1, q.1 ≠ k := by
 induction b with
 | nil => simp [cont] at h
 | cons o b ih =>
  unfold cont at h
  rw [List.map_cons, List.lookup_cons] at h
  cases hk : k == o.1 with
  | true =>
   rw [hk] at h
   have e : k = o.1 := by simpa using hk
   refine ⟨[], o, b, rfl, e.symm, by simpa using h, ?_, by simp⟩
   unfold outL
   rw [List.map_cons, List.lookup_cons, hk]
  | false =>
   rw [hk] at h
   obtain ⟨b1, q, b2, rfl, h1, h2, h3, h4⟩ := ih h
   refine ⟨o :: b1, q, b2, rfl, h1, h2, ?_, fun r hr => ?_⟩
   ·unfold outL at h3 ⊢
    rw [List.map_cons, List.lookup_cons, hk]
    exact h3
   ·rcases List.mem_cons.1 hr with rfl | hr
    ·intro e
     rw [e] at hk
     simp at hk
    ·exact h4 r hr
theorem Y4i {b : List (BE φ)} {k : List UInt8} (h : (cont b).lookup k = none) : (outL b).lookup k = none := by
 induction b with
 | nil => rfl
 | cons o b ih =>
  unfold cont at h
  unfold outL
  rw [List.map_cons, List.lookup_cons] at h ⊢
  cases hk : k == o.1 with
  | true => rw [hk] at h; simp at h
  | false =>
   rw [hk] at h
   exact ih h
variable {P : Program} {N : Nat} {Q : QE} {ρ : Env} {d : Option Tmp} {ty : TypeId} {pos : String} {aft : Array Edge} {gd : Option (Nat × Bool)} {ops : Array Oper} {rest : List Oper}
theorem WL.bldLook {t kt et : TypeId} {m xo : Operand} {k : List UInt8} (hs : St ok0 w0 w Γ (bldc K C g x :: Λ)) (hk : KK P kt bstr) (ht : P.underlying t = some (.map kt et)) (hm : ρ.ev m = .map (some g)) (hx : ρ.ev xo = bstr k) (hz : ∀ w, (zeroValue et).run P w = .ok (.map none) w)
  (K0 : x.lookup k = none → St ok0 w0 w Γ (bldc K C g x :: Λ) → WL P N ops Q rest (putE ρ d (.map none)) w)
  (K1 : ∀ fs gi, x.lookup k = some fs → St ok0 w0 w Γ (bldc K (At k gi) g x :: Λ) → WL P N ops Q rest (putE ρ d (.map (some gi))) w)
  (hg : Y0I ops ρ ⟨d, .lookup t m xo false, ty, pos, aft, gd⟩ = true := by rfl) (hd : fits N d = true := by rfl) :
  WL P N ops Q (⟨d, .lookup t m xo false, ty, pos, aft, gd⟩ :: rest) ρ w := by
 obtain ⟨b, ⟨hC, hc⟩, h1⟩ := hs.bldOpen
 have h2 : St ok0 w0 w Γ (mapo bstr Y2r g (outL b) :: (Y3l K b ++ Λ)) := h1
 refine WL.lookup (V := Y2r) (z0 := Value.map none) h2 0 rfl hk ht hm hx hz (fun _ _ => Y2P.2 ⟨rfl, rfl⟩) rfl (fun v h3 => ?_) hg hd
 have hv := h3.cellv 0 rfl
 have h4 : St ok0 w0 w Γ (bldL K g b ++ Λ) := h3.sub fun it hi => List.mem_cons_of_mem _ hi
 subst hc
 cases hl : (cont b).lookup k with
 | none =>
  rw [Y4i hl] at hv
  rw [hv]
  exact K0 hl hs
 | some fs =>
  obtain ⟨b1, o, b2, rfl, e1, e2, e3, e4⟩ := Y6N hl
  rw [e3] at hv
  rw [hv]
  exact K1 fs o.2.1 hl (St.bldClose (K := K) (C := At k o.2.1) h4 e3 rfl)
theorem Y2K {κ β : Type} [BEq κ] {k : κ} {y : β} : ∀ {l : List (κ × β)}, l.lookup k = none → mset l k y = l ++ [(k, y)]
 | [], _ => rfl
 | e :: l, h => by
  rw [List.lookup_cons] at h
  cases hk : k == e.1 with
  | true => rw [hk] at h; simp at h
  | false =>
   rw [hk] at h
   rw [mset, hk, if_neg (by simp), Y2K h]
   rfl
theorem at_snoc {b : List (BE φ)} {k : List UInt8} {gi : Nat} {l : List (φ × Value)} (h : (outL b).lookup k = none) : At k gi (b ++ [(k, gi, l)]) := by
 induction b with
 | nil =>
  show List.lookup k [(k, Value.map (some gi))] = _
  rw [List.lookup_cons]
  simp
 | cons o b ih =>
  unfold outL at h
  rw [List.map_cons, List.lookup_cons] at h
  unfold At
  rw [List.cons_append, List.map_cons, List.lookup_cons]
  cases hk : k == o.1 with
  | true => rw [hk] at h; simp at h
  | false =>
   rw [hk] at h
   exact ih h
theorem WL.bldPut {t kt et : TypeId} {m xo u : Operand} {k : List UInt8} {gi : Nat} (hs : St ok0 w0 w Γ (mapo bstr (tRaw K.n) gi [] :: bldc K C g x :: Λ)) (hk : KK P kt bstr) (ht : P.underlying t = some (.map kt et)) (hm : ρ.ev m = .map (some g)) (hx : ρ.ev xo = bstr k) (hu : ρ.ev u = .map (some gi)) (hn : x.lookup k = none)
  (K1 : ∀ w', St ok0 w0 w' Γ (bldc K (At k gi) g (x ++ [(k, [])]) :: Λ) → WL P N ops Q rest (putE ρ d undef) w')
  (hg : Y0I ops ρ ⟨d, .mapUpdate t m xo u, ty, pos, aft, gd⟩ = true := by rfl) (hd : fits N d = true := by rfl) :
  WL P N ops Q (⟨d, .mapUpdate t m xo u, ty, pos, aft, gd⟩ :: rest) ρ w := by
 obtain ⟨b, ⟨hC, hc⟩, h1⟩ := (hs.perm (List.Perm.swap _ _ _)).bldOpen
 subst hc
 have h2 : St ok0 w0 w Γ (mapo bstr Y2r g (outL b) :: (Y3l K b ++ (mapo bstr (tRaw K.n) gi [] :: Λ))) := h1
 refine WL.mapUpdate (V := Y2r) (y := Value.map (some gi)) h2 0 rfl hk ht hm hx hu (fun _ _ => Y2P.2 ⟨rfl, rfl⟩) (Y2K (Y4i hn)) (fun w' h3 => ?_) hg hd
 refine K1 w' (St.bldClose (K := K) (b := b ++ [(k, gi, [])]) ?_ (at_snoc (Y4i hn)) (by unfold cont; rw [List.map_append]; rfl))
 have e1 : bldL K g (b ++ [(k, gi, [])]) = mapo bstr Y2r g (outL b ++ [(k, Value.map (some gi))]) :: (Y3l K b ++ [mapo bstr (tRaw K.n) gi []]) := by
  rw [Y4j]
  unfold outL Y3l
  rw [List.map_append, List.flatMap_append, List.map_append]
  rfl
 rw [e1, List.cons_append, List.append_assoc]
 exact h3
theorem Own.same {ok ok' : Nat → Prop} : ∀ {R : List LObj} {a b : List (List Nat)}, Own ok w R a → Own ok' w R b → a = b
 | [], [], [], _, _ => rfl
 | o :: R, x :: a, y :: b, ⟨h1, h2⟩, ⟨k1, k2⟩ => by rw [o.fn h1 k1, Own.same h2 k2]
 | [], _ :: _, _, h, _ => h.elim
 | [], [], _ :: _, _, h => h.elim
 | _ :: _, [], _, h, _ => h.elim
 | _ :: _, _ :: _, [], _, h => h.elim
def allo (R : List LObj) : LObj where
 H := fun ok bs w => ∃ bss : List (List Nat), bs = bss.flatten ∧ bss.flatten.Nodup ∧ Own ok w R bss
 fn := by
  rintro ok ok' bs bs' w ⟨a, rfl, _, h⟩ ⟨b, rfl, _, h'⟩
  rw [Own.same h h']
 lt := by
  rintro ok bs w ⟨a, rfl, _, h⟩ k hk
  exact h.lt k hk
 move := by
  rintro ok ok' bs w w' ⟨a, rfl, hn, h⟩ hk hm
  exact ⟨a, rfl, hn, h.move hm hk⟩
theorem St.allOpen {R : List LObj} (hs : St ok0 w0 w Γ (allo R :: Λ)) : St ok0 w0 w Γ (R ++ Λ) := by
 obtain ⟨hB, bss, hN, hlt, hO, hA⟩ := hs
 match bss, hO with
 | [], h => exact h.elim
 | bs :: bss, hO =>
  obtain ⟨⟨bs1, e0, hn, h1⟩, h2⟩ := hO
  subst e0
  have e : (bs1 ++ bss).flatten = (bs1.flatten :: bss).flatten := by simp
  exact ⟨hB, bs1 ++ bss, by rw [e]; exact hN, by rw [e]; exact hlt, by rw [e]; exact Own.both h1 h2, by rw [e]; exact hA⟩
theorem St.allClose {R : List LObj} (hs : St ok0 w0 w Γ (R ++ Λ)) : St ok0 w0 w Γ (allo R :: Λ) := by
 obtain ⟨hB, bss, hN, hlt, hO, hA⟩ := hs
 obtain ⟨a, c, rfl, ha, hcc⟩ := Own.part hO
 have e : (a.flatten :: c).flatten = (a ++ c).flatten := by simp
 refine ⟨hB, a.flatten :: c, by rw [e]; exact hN, by rw [e]; exact hlt, ⟨⟨a, rfl, ?_, by rw [e]; exact ha⟩, by rw [e]; exact hcc⟩, by rw [e]; exact hA⟩
 rw [List.flatten_append] at hN
 exact (List.nodup_append.1 hN).1
structure Hole (φ : Type) where
 b1 : List (BE φ)
 k : List UInt8
 gi : Nat
 f1 : List (φ × Value)
 y : φ
 v : Value
 f2 : List (φ × Value)
 b2 : List (BE φ)
def Hole.all {φ : Type} (h : Hole φ) : List (BE φ) := h.b1 ++ (h.k, h.gi, h.f1 ++ (h.y, h.v) :: h.f2) :: h.b2
def Hole.put {φ : Type} (h : Hole φ) (y : φ) (v : Value) : Hole φ := { h with y := y, v := v }
def ents (l : List (φ × Value)) : List (List UInt8 × List Value) := l.map fun e => (K.nm e.1, K.fc e.1 e.2)
def owns (l : List (φ × Value)) : List LObj := l.map fun e => own tStr K.E e.2 (K.fe e.1)
def Y6a (g : Nat) (h : Hole φ) : List LObj := mapo bstr Y2r g (outL h.all) :: mapo bstr (tRaw K.n) h.gi (ents K (h.f1 ++ (h.y, h.v) :: h.f2)) :: (owns K (h.f1 ++ h.f2) ++ Y3l K (h.b1 ++ h.b2))
theorem Y79 (g : Nat) (h : Hole φ) : (bldL K g h.all).Perm (own tStr K.E h.v (K.fe h.y) :: Y6a K g h) := by
 rw [Y4j]
 unfold Y6a
 have e1 : inL K (h.k, h.gi, h.f1 ++ (h.y, h.v) :: h.f2) = mapo bstr (tRaw K.n) h.gi (ents K (h.f1 ++ (h.y, h.v) :: h.f2)) :: owns K (h.f1 ++ (h.y, h.v) :: h.f2) := by
  unfold inL inP ents owns
  rw [List.map_cons, List.map_map]
  rfl
 have p1 : (Y3l K h.all).Perm (inL K (h.k, h.gi, h.f1 ++ (h.y, h.v) :: h.f2) ++ Y3l K (h.b1 ++ h.b2)) := Y3i K h.b1 h.b2 _
 have p2 : (owns K (h.f1 ++ (h.y, h.v) :: h.f2)).Perm (own tStr K.E h.v (K.fe h.y) :: owns K (h.f1 ++ h.f2)) := by
  unfold owns
  rw [List.map_append, List.map_cons, List.map_append]
  exact List.perm_middle
 rw [e1] at p1
 refine (List.Perm.cons _ p1).trans ?_
 rw [List.cons_append]
 refine (List.Perm.cons _ (List.Perm.cons _ (p2.append_right _))).trans ?_
 rw [List.cons_append]
 refine (List.Perm.cons _ (List.Perm.swap _ _ _)).trans ?_
 exact List.Perm.swap _ _ _
theorem Y9F {l : List (φ × Value)} {f : List UInt8} {y : φ} (h : (l.map (·.1)).find? (fun q => f == K.nm q) = some y) : ∃ f1 v f2, l = f1 ++ (y, v) :: f2 ∧ f = K.nm y ∧ (ents K l).lookup f = some (K.fc y v) ∧ ∀ e ∈ f1, f ≠ K.nm e.1 := by
 induction l with
 | nil => simp at h
 | cons e l ih =>
  rw [List.map_cons, List.find?_cons] at h
  cases hk : f == K.nm e.1 with
  | true =>
   rw [hk] at h
   have e1 : e.1 = y := by simpa using h
   subst e1
   refine ⟨[], e.2, l, rfl, by simpa using hk, ?_, by simp⟩
   unfold ents
   rw [List.map_cons, List.lookup_cons, hk]
  | false =>
   rw [hk] at h
   obtain ⟨f1, v, f2, rfl, h1, h2, h3⟩ := ih h
   refine ⟨e :: f1, v, f2, rfl, h1, ?_, fun q hq => ?_⟩
   ·unfold ents at h2 ⊢
    rw [List.map_cons, List.lookup_cons, hk]
    exact h2
   ·rcases List.mem_cons.1 hq with rfl | hq
    ·intro he; rw [he] at hk; simp at hk
    ·exact h3 q hq
theorem Y63 {l : List (φ × Value)} {f : List UInt8} (h : (l.map (·.1)).find? (fun q => f == K.nm q) = none) : (ents K l).lookup f = none := by
 induction l with
 | nil => rfl
 | cons e l ih =>
  rw [List.map_cons, List.find?_cons] at h
  unfold ents
  rw [List.map_cons, List.lookup_cons]
  cases hk : f == K.nm e.1 with
  | true => rw [hk] at h; simp at h
  | false => rw [hk] at h; exact ih h
theorem WL.bldTake {t kt et : TypeId} {m xo : Operand} {k f : List UInt8} {gi : Nat} {fs : List φ} {z : List Value} (hs : St ok0 w0 w Γ (bldc K (At k gi) g x :: Λ)) (hk : KK P kt bstr) (ht : P.underlying t = some (.map kt et)) (hm : ρ.ev m = .map (some gi)) (hx : ρ.ev xo = bstr f)
  (hz : ∀ w, (zeroValue et).run P w = .ok (.agg z.toArray) w) (hz1 : z.length = K.n) (hz2 : ∀ u ∈ z, u.oneCell' = true) (hl : x.lookup k = some fs)
  (K0 : fs.find? (fun q => f == K.nm q) = none → St ok0 w0 w Γ (bldc K (At k gi) g x :: Λ) → WL P N ops Q rest (putE ρ d (.agg z.toArray)) w)
  (K1 : ∀ h : Hole φ, fs.find? (fun q => f == K.nm q) = some h.y → cont h.all = x → h.k = k → h.gi = gi → f = K.nm h.y → (∀ e ∈ h.f1, f ≠ K.nm e.1) → (∀ q ∈ h.b1, q.1 ≠ k) →
   St ok0 w0 w Γ (own tStr K.E h.v (K.fe h.y) :: allo (Y6a K g h) :: Λ) → WL P N ops Q rest (putE ρ d (.agg (K.fc h.y h.v).toArray)) w)
  (hg : Y0I ops ρ ⟨d, .lookup t m xo false, ty, pos, aft, gd⟩ = true := by rfl) (hd : fits N d = true := by rfl) :
  WL P N ops Q (⟨d, .lookup t m xo false, ty, pos, aft, gd⟩ :: rest) ρ w := by
 obtain ⟨b, ⟨hC, hc⟩, h1⟩ := hs.bldOpen
 subst hc
 obtain ⟨b1, o, b2, rfl, e1, e2, e3, e4⟩ := Y6N hl
 obtain ⟨ok_, gi_, l⟩ := o
 simp only at e1 e2 e3
 subst e1
 have eg : gi_ = gi := by
  have : (some (Value.map (some gi_))) = some (Value.map (some gi)) := e3.symm.trans hC
  simpa using this
 subst eg
 have p1 := Y3i K b1 b2 (ok_, gi_, l)
 have h2 : St ok0 w0 w Γ (mapo bstr (tRaw K.n) gi_ (ents K l) :: mapo bstr Y2r g (outL (b1 ++ (ok_, gi_, l) :: b2)) :: (owns K l ++ Y3l K (b1 ++ b2) ++ Λ)) := by
  refine h1.perm ?_
  rw [Y4j, List.cons_append]
  refine (List.Perm.cons _ (p1.append_right _)).trans ?_
  have e5 : inL K (ok_, gi_, l) = mapo bstr (tRaw K.n) gi_ (ents K l) :: owns K l := by
   unfold inL inP ents owns
   rw [List.map_cons, List.map_map]
   rfl
  rw [e5, List.cons_append, List.cons_append]
  exact List.Perm.swap _ _ _
 refine WL.lookup (V := tRaw K.n) (z0 := z) h2 0 rfl hk ht hm hx hz (fun _ _ => Y4L.2 ⟨rfl, hz1, hz2⟩) rfl (fun v h3 => ?_) hg hd
 have hv := h3.rawv 0 rfl
 cases hf : fs.find? (fun q => f == K.nm q) with
 | none =>
  rw [← e2] at hf
  rw [Y63 K hf] at hv
  rw [hv]
  rw [e2] at hf
  exact K0 hf hs
 | some y =>
  rw [← e2] at hf
  obtain ⟨f1, v', f2, rfl, q1, q2, q3⟩ := Y9F K hf
  rw [q2] at hv
  rw [hv]
  rw [e2] at hf
  refine K1 ⟨b1, ok_, gi_, f1, y, v', f2, b2⟩ hf rfl rfl rfl q1 q3 e4 ?_
  have h5 := h1.perm ((Y79 K g ⟨b1, ok_, gi_, f1, y, v', f2, b2⟩).append_right Λ)
  have h6 : St ok0 w0 w Γ (Y6a K g ⟨b1, ok_, gi_, f1, y, v', f2, b2⟩ ++ (own tStr K.E v' (K.fe y) :: Λ)) := h5.perm (by
   rw [List.cons_append]
   exact (List.perm_middle).symm)
  exact (h6.allClose).perm (List.Perm.swap _ _ _)
theorem Y80 {h : Hole φ} (hb : ∀ q ∈ h.b1, q.1 ≠ h.k) : At h.k h.gi h.all := by
 obtain ⟨b1, k, gi, f1, y, v, f2, b2⟩ := h
 unfold Hole.all At
 simp only at hb ⊢
 induction b1 with
 | nil =>
  show List.lookup k ((k, Value.map (some gi)) :: _) = _
  rw [List.lookup_cons]
  simp
 | cons q b1 ih =>
  rw [List.cons_append, List.map_cons, List.lookup_cons]
  have : (k == q.1) = false := by
   rw [beq_eq_false_iff_ne]
   exact fun e => hb q (by simp) e.symm
  rw [this]
  exact ih fun r hr => hb r (by simp [hr])
theorem Y73 {f1 f2 : List (φ × Value)} {y y' : φ} {v v' : Value} (h1 : K.nm y' = K.nm y) (h2 : ∀ e ∈ f1, K.nm y ≠ K.nm e.1) : mset (ents K (f1 ++ (y, v) :: f2)) (K.nm y) (K.fc y' v') = ents K (f1 ++ (y', v') :: f2) := by
 induction f1 with
 | nil =>
  unfold ents
  rw [List.nil_append, List.nil_append, List.map_cons, List.map_cons, mset, if_pos (by simp), h1]
 | cons e f1 ih =>
  unfold ents at ih ⊢
  rw [List.cons_append, List.cons_append, List.map_cons, List.map_cons, mset]
  have : (K.nm y == K.nm e.1) = false := by
   rw [beq_eq_false_iff_ne]
   exact h2 e (by simp)
  rw [this, if_neg (by simp), ih fun q hq => h2 q (by simp [hq])]
theorem WL.bldGive {t kt et : TypeId} {m xo u : Operand} {h : Hole φ} {y' : φ} {v' : Value} (hs : St ok0 w0 w Γ (own tStr K.E v' (K.fe y') :: allo (Y6a K g h) :: Λ)) (hk : KK P kt bstr) (ht : P.underlying t = some (.map kt et)) (hm : ρ.ev m = .map (some h.gi)) (hx : ρ.ev xo = bstr (K.nm h.y))
  (hu : ρ.ev u = .agg (K.fc y' v').toArray) (hn : K.nm y' = K.nm h.y) (h1 : (K.fc y' v').length = K.n) (h2 : ∀ u ∈ K.fc y' v', u.oneCell' = true) (hb : ∀ q ∈ h.b1, q.1 ≠ h.k) (hf : ∀ e ∈ h.f1, K.nm h.y ≠ K.nm e.1)
  (K1 : ∀ w', St ok0 w0 w' Γ (bldc K (At h.k h.gi) g (cont (h.put y' v').all) :: Λ) → WL P N ops Q rest (putE ρ d undef) w')
  (hg : Y0I ops ρ ⟨d, .mapUpdate t m xo u, ty, pos, aft, gd⟩ = true := by rfl) (hd : fits N d = true := by rfl) :
  WL P N ops Q (⟨d, .mapUpdate t m xo u, ty, pos, aft, gd⟩ :: rest) ρ w := by
 have h3 : St ok0 w0 w Γ (Y6a K g h ++ (own tStr K.E v' (K.fe y') :: Λ)) := (hs.perm (List.Perm.swap _ _ _)).allOpen
 have h4 : St ok0 w0 w Γ (mapo bstr Y2r g (outL h.all) :: mapo bstr (tRaw K.n) h.gi (ents K (h.f1 ++ (h.y, h.v) :: h.f2)) :: (owns K (h.f1 ++ h.f2) ++ Y3l K (h.b1 ++ h.b2) ++ (own tStr K.E v' (K.fe y') :: Λ))) := h3
 refine WL.mapUpdate (V := tRaw K.n) (y := K.fc y' v') h4 1 rfl hk ht hm hx hu (fun _ _ => Y4L.2 ⟨rfl, h1, h2⟩) (Y73 K hn hf) (fun w' h5 => ?_) hg hd
 have h6 : St ok0 w0 w' Γ (Y6a K g (h.put y' v') ++ (own tStr K.E v' (K.fe y') :: Λ)) := by
  have e : outL (h.put y' v').all = outL h.all := by
   unfold outL Hole.all Hole.put
   simp
  unfold Y6a
  rw [e]
  exact h5
 have h7 : St ok0 w0 w' Γ (bldL K g (h.put y' v').all ++ Λ) := h6.perm (by
  refine List.perm_middle.trans ?_
  rw [← List.cons_append]
  exact ((Y79 K g (h.put y' v')).symm).append_right Λ)
 exact K1 w' (St.bldClose (K := K) h7 (Y80 (h := h.put y' v') hb) rfl)
theorem Y65 {b1 b2 : List (BE φ)} {k : List UInt8} {gi : Nat} {l l' : List (φ × Value)} (hb : ∀ q ∈ b1, q.1 ≠ k) : cont (b1 ++ (k, gi, l') :: b2) = mset (cont (b1 ++ (k, gi, l) :: b2)) k (l'.map (·.1)) := by
 unfold cont
 induction b1 with
 | nil =>
  rw [List.nil_append, List.nil_append, List.map_cons, List.map_cons, mset, if_pos (by simp)]
 | cons q b1 ih =>
  rw [List.cons_append, List.cons_append, List.map_cons, List.map_cons, mset]
  have : (k == q.1) = false := by
   rw [beq_eq_false_iff_ne]
   exact fun e => hb q (by simp) e.symm
  rw [this, if_neg (by simp), ih fun r hr => hb r (by simp [hr])]
def fput (nm : φ → List UInt8) (y : φ) : List φ → List φ
 | [] => [y]
 | q :: t => if nm y == nm q then y :: t else q :: fput nm y t
theorem Y4W {nm : φ → List UInt8} {y : φ} : ∀ {l : List φ}, l.find? (fun q => nm y == nm q) = none → fput nm y l = l ++ [y]
 | [], _ => rfl
 | q :: t, h => by
  rw [List.find?_cons] at h
  cases hk : nm y == nm q with
  | true => rw [hk] at h; simp at h
  | false => rw [hk] at h; rw [fput, hk, if_neg (by simp), Y4W h]; rfl
theorem Y7S {nm : φ → List UInt8} {y y0 : φ} (hn : nm y = nm y0) : ∀ {f1 : List φ} {f2 : List φ}, (∀ e ∈ f1, nm y0 ≠ nm e) → fput nm y (f1 ++ y0 :: f2) = f1 ++ y :: f2
 | [], _, _ => by rw [List.nil_append, fput, hn, if_pos (by simp)]; rfl
 | q :: f1, f2, h => by
  have : (nm y == nm q) = false := by
   rw [beq_eq_false_iff_ne, hn]
   exact h q (by simp)
  rw [List.cons_append, fput, this, if_neg (by simp), Y7S hn fun e he => h e (by simp [he])]
  rfl
theorem Y9y {h : Hole φ} {y' : φ} {v' : Value} {x : List (List UInt8 × List φ)} {fs : List φ} (hx : cont h.all = x) (hl : x.lookup h.k = some fs) (hn : K.nm y' = K.nm h.y) (hb : ∀ q ∈ h.b1, q.1 ≠ h.k) (hf : ∀ e ∈ h.f1, K.nm h.y ≠ K.nm e.1) :
  cont (h.put y' v').all = mset x h.k (fput K.nm y' fs) := by
 subst hx
 obtain ⟨b1, k, gi, f1, y, v, f2, b2⟩ := h
 simp only [Hole.all, Hole.put] at *
 have hfs : fs = (f1 ++ (y, v) :: f2).map (·.1) := by
  clear hn hf
  induction b1 with
  | nil =>
   unfold cont at hl
   rw [List.nil_append, List.map_cons, List.lookup_cons] at hl
   simp at hl
   rw [← hl]
   simp
  | cons q b1 ih =>
   unfold cont at hl ih
   rw [List.cons_append, List.map_cons, List.lookup_cons] at hl
   have : (k == q.1) = false := by
    rw [beq_eq_false_iff_ne]
    exact fun e => hb q (by simp) e.symm
   rw [this] at hl
   exact ih (fun r hr => hb r (by simp [hr])) hl
 rw [Y65 (l := f1 ++ (y, v) :: f2) hb, hfs, List.map_append, List.map_append, List.map_cons, List.map_cons, Y7S hn (fun e he => by
  obtain ⟨q, hq, rfl⟩ := List.mem_map.1 he
  exact hf q hq)]
theorem WL.bldAdd {t kt et : TypeId} {m xo u : Operand} {k : List UInt8} {gi : Nat} {fs : List φ} {y' : φ} {v' : Value} (hs : St ok0 w0 w Γ (own tStr K.E v' (K.fe y') :: bldc K (At k gi) g x :: Λ)) (hk : KK P kt bstr) (ht : P.underlying t = some (.map kt et)) (hm : ρ.ev m = .map (some gi)) (hx : ρ.ev xo = bstr (K.nm y'))
  (hu : ρ.ev u = .agg (K.fc y' v').toArray) (h1 : (K.fc y' v').length = K.n) (h2 : ∀ u ∈ K.fc y' v', u.oneCell' = true) (hl : x.lookup k = some fs) (hfn : fs.find? (fun q => K.nm y' == K.nm q) = none)
  (K1 : ∀ w', St ok0 w0 w' Γ (bldc K (At k gi) g (mset x k (fput K.nm y' fs)) :: Λ) → WL P N ops Q rest (putE ρ d undef) w')
  (hg : Y0I ops ρ ⟨d, .mapUpdate t m xo u, ty, pos, aft, gd⟩ = true := by rfl) (hd : fits N d = true := by rfl) :
  WL P N ops Q (⟨d, .mapUpdate t m xo u, ty, pos, aft, gd⟩ :: rest) ρ w := by
 obtain ⟨b, ⟨hC, hc⟩, h3⟩ := (hs.perm (List.Perm.swap _ _ _)).bldOpen
 subst hc
 obtain ⟨b1, o, b2, rfl, e1, e2, e3, e4⟩ := Y6N hl
 obtain ⟨ok_, gi_, l⟩ := o
 simp only at e1 e2 e3
 subst e1
 have eg : gi_ = gi := by
  have : (some (Value.map (some gi_))) = some (Value.map (some gi)) := e3.symm.trans hC
  simpa using this
 subst eg
 have e5 : ∀ l : List (φ × Value), inL K (ok_, gi_, l) = mapo bstr (tRaw K.n) gi_ (ents K l) :: owns K l := fun l => by
  unfold inL inP ents owns
  rw [List.map_cons, List.map_map]
  rfl
 have h4 : St ok0 w0 w Γ (mapo bstr (tRaw K.n) gi_ (ents K l) :: mapo bstr Y2r g (outL (b1 ++ (ok_, gi_, l) :: b2)) :: (owns K l ++ Y3l K (b1 ++ b2) ++ (own tStr K.E v' (K.fe y') :: Λ))) := by
  refine h3.perm ?_
  rw [Y4j, List.cons_append]
  refine (List.Perm.cons _ ((Y3i K b1 b2 (ok_, gi_, l)).append_right _)).trans ?_
  rw [e5, List.cons_append, List.cons_append]
  exact List.Perm.swap _ _ _
 have e6 : ents K l ++ [(K.nm y', K.fc y' v')] = ents K (l ++ [(y', v')]) := by
  unfold ents
  rw [List.map_append]
  rfl
 refine WL.mapUpdate (V := tRaw K.n) (y := K.fc y' v') h4 0 rfl hk ht hm hx hu (fun _ _ => Y4L.2 ⟨rfl, h1, h2⟩) ((Y2K (Y63 K (by rw [e2]; exact hfn))).trans e6) (fun w' h5 => ?_) hg hd
 have e7 : cont (b1 ++ (ok_, gi_, l ++ [(y', v')]) :: b2) = mset (cont (b1 ++ (ok_, gi_, l) :: b2)) ok_ (fput K.nm y' fs) := by
  rw [Y65 (l := l) e4, Y4W hfn, List.map_append, e2]
  rfl
 have h6 : St ok0 w0 w' Γ (bldL K g (b1 ++ (ok_, gi_, l ++ [(y', v')]) :: b2) ++ Λ) := by
  refine h5.perm ?_
  show (mapo bstr (tRaw K.n) gi_ (ents K (l ++ [(y', v')])) :: mapo bstr Y2r g (outL (b1 ++ (ok_, gi_, l) :: b2)) :: (owns K l ++ Y3l K (b1 ++ b2) ++ (own tStr K.E v' (K.fe y') :: Λ))).Perm _
  rw [Y4j, List.cons_append]
  have e8 : outL (b1 ++ (ok_, gi_, l ++ [(y', v')]) :: b2) = outL (b1 ++ (ok_, gi_, l) :: b2) := by
   unfold outL
   simp
  rw [e8]
  refine (List.Perm.swap _ _ _).trans (List.Perm.cons _ ?_)
  refine List.Perm.trans ?_ ((Y3i K b1 b2 (ok_, gi_, l ++ [(y', v')])).symm.append_right Λ)
  rw [e5, List.cons_append, List.cons_append]
  refine List.Perm.cons _ ?_
  have e9 : owns K (l ++ [(y', v')]) = owns K l ++ [own tStr K.E v' (K.fe y')] := by
   unfold owns
   rw [List.map_append]
   rfl
  rw [e9, List.append_assoc, List.append_assoc, List.append_assoc]
  refine List.Perm.append_left _ ?_
  exact List.perm_middle
 exact K1 w' (St.bldClose (K := K) h6 (Y80 (h := ⟨b1, ok_, gi_, l, y', v', [], b2⟩) e4) e7)
end
end
section
open Go Go.RowKit
section
variable {κ β : Type} [BEq κ] [LawfulBEq κ]
def tMap (kv : κ → Value) (V : Ty β) : Ty (List (κ × β)) where
 sz := 1
 agg := false
 R := fun ok w l cs => (cs = [.map none] ∧ l = []) ∨ ∃ g es c, cs = [.map (some g)] ∧ ok g ∧ w.heap[g]? = some (.map es c) ∧ Ents kv V ok w l es.toList ∧ (es.toList.map (·.born)).Nodup ∧ (∀ e ∈ es.toList, e.born < c) ∧ (l.map (·.1)).Nodup
 len := by rintro _ _ _ _ (⟨rfl, _⟩ | ⟨g, es, c, rfl, _⟩) <;> rfl
 one := by
  rintro _ _ _ _ (⟨rfl, _⟩ | ⟨g, es, c, rfl, _⟩) u hu <;> simp at hu <;> subst hu <;> rfl
 move := by
  rintro ok ok' w w' l cs (h | ⟨g, es, c, rfl, hg, hh, he, h1, h2, h3⟩) hm
  ·exact .inl h
  ·obtain ⟨e, hg'⟩ := hm g hg (Y0T hh)
   exact .inr ⟨g, es, c, rfl, hg', e.trans hh, he.move hm, h1, h2, h3⟩
theorem Y5D {kv : κ → Value} {V : Ty β} {ok : Nat → Prop} {w : World} {l : List (κ × β)} {v : Value} :
  (tMap kv V).V ok w l v ↔ (v = .map none ∧ l = []) ∨ ∃ g es c, v = .map (some g) ∧ ok g ∧ w.heap[g]? = some (.map es c) ∧ Ents kv V ok w l es.toList ∧ (es.toList.map (·.born)).Nodup ∧ (∀ e ∈ es.toList, e.born < c) ∧ (l.map (·.1)).Nodup := by
 constructor
 ·rintro ⟨_, (⟨rfl, h⟩ | ⟨g, es, c, rfl, h⟩), rfl⟩
  ·exact .inl ⟨rfl, h⟩
  ·exact .inr ⟨g, es, c, rfl, h⟩
 ·rintro (⟨rfl, h⟩ | ⟨g, es, c, rfl, h⟩)
  ·exact ⟨_, .inl ⟨rfl, h⟩, rfl⟩
  ·exact ⟨_, .inr ⟨g, es, c, rfl, h⟩, rfl⟩
omit [BEq κ] [LawfulBEq κ] in
theorem Ents.conv {β γ ι : Type} {kv : κ → Value} {V : Ty β} {V' : Ty γ} {ok ok' : Nat → Prop} {w w' : World} {p : ι → κ × β} {p' : ι → κ × γ} : ∀ {b : List ι} {es : List MapEntry}, (∀ o ∈ b, (p o).1 = (p' o).1) → (∀ o ∈ b, ∀ v, V.V ok w (p o).2 v → V'.V ok' w' (p' o).2 v) →
  Ents kv V ok w (b.map p) es → Ents kv V' ok' w' (b.map p') es
 | [], [], _, _, _ => trivial
 | o :: b, e :: es, hk, hv, ⟨h1, h2, h3⟩ => ⟨by rw [← hk o (by simp)]; exact h1, hv o (by simp) _ h2, Ents.conv (fun q hq => hk q (by simp [hq])) (fun q hq => hv q (by simp [hq])) h3⟩
 | [], _ :: _, _, _, h => h.elim
 | _ :: _, [], _, _, h => h.elim
theorem Own.memS {ok : Nat → Prop} {w : World} : ∀ {L : List LObj} {bss : List (List Nat)}, Own ok w L bss → ∀ o ∈ L, ∃ bs, o.H ok bs w ∧ ∀ b ∈ bs, b ∈ bss.flatten
 | [], _, _, o, ho => by simp at ho
 | q :: L, bs :: bss, ⟨h1, h2⟩, o, ho => by
  rcases List.mem_cons.1 ho with rfl | ho
  ·exact ⟨bs, h1, fun b hb => by simp [hb]⟩
  ·obtain ⟨bs', h3, h4⟩ := Own.memS h2 o ho
   exact ⟨bs', h3, fun b hb => by rw [List.flatten_cons]; exact List.mem_append.2 (.inr (h4 b hb))⟩
 | _ :: _, [], h, _, _ => h.elim
end
section
variable {φ : Type} (K : FK φ)
def frz (x : List (List UInt8 × List φ)) : List (List UInt8 × List (List UInt8 × φ)) := x.map fun o => (o.1, o.2.map fun y => (K.nm y, y))
variable {w : World} {w0 : Base} {ok0 : Nat → Prop} {Γ : List It} {Λ : List LObj} {g : Nat} {x : List (List UInt8 × List φ)} {C : List (BE φ) → Prop}
theorem St.bldFreeze {T : Ty φ} (hT : ∀ (ok : Nat → Prop) (w : World) (y : φ) (v : Value), (Y0a tStr).V ok w (K.fe y) v → T.R ok w y (K.fc y v)) (hTa : T.agg = true) (hs : St ok0 w0 w Γ (bldc K C g x :: Λ)) :
  St ok0 w0 w (vl (tMap bstr (tMap bstr T)) (frz K x) (.map (some g)) :: Γ) Λ := by
 refine St.freeze hs 0 rfl (it := vl (tMap bstr (tMap bstr T)) (frz K x) (.map (some g))) ?_
 rintro ok bs ⟨b, bss, ⟨_, rfl⟩, rfl, _, hO⟩
 have hmem := Own.memS hO
 have e1 : frz K (cont b) = b.map fun o => (o.1, o.2.2.map fun e => (K.nm e.1, e.1)) := by
  unfold frz cont
  rw [List.map_map]
  refine List.map_congr_left fun o _ => ?_
  simp
 have mv : ∀ k, ok k → k < w.heap.size → w.heap[k]? = w.heap[k]? ∧ (ok k ∨ k ∈ bss.flatten) := fun k hk _ => ⟨rfl, .inl hk⟩
 obtain ⟨bs0, h0, hb0⟩ := hmem _ (by rw [Y4j]; exact List.mem_cons_self ..)
 obtain ⟨rfl, es, c, hh, he, h1, h2, h3⟩ := h0
 refine Y5D.2 (.inr ⟨g, es, c, rfl, .inr (hb0 g (by simp)), hh, ?_, h1, h2, ?_⟩)
 ·rw [e1]
  refine Ents.conv (p := fun o : BE φ => (o.1, Value.map (some o.2.1))) (fun _ _ => rfl) (fun o ho v hv => ?_) he
  have ev := (Y2P.1 hv).1
  subst ev
  have hin : ∀ q ∈ inP K o, q.1 ∈ bldL K g b := fun q hq => by
   unfold bldL bldP
   exact List.mem_map.2 ⟨q, List.mem_cons_of_mem _ (List.mem_flatMap.2 ⟨o, ho, hq⟩), rfl⟩
  obtain ⟨bs1, q0, hb1⟩ := hmem _ (hin _ (List.mem_cons_self ..))
  obtain ⟨rfl, es1, c1, hh1, he1, k1, k2, k3⟩ := q0
  refine Y5D.2 (.inr ⟨o.2.1, es1, c1, rfl, .inr (hb1 _ (by simp)), hh1, ?_, k1, k2, ?_⟩)
  ·refine Ents.conv (p := fun e : φ × Value => (K.nm e.1, K.fc e.1 e.2)) (fun _ _ => rfl) (fun e he' v hv => ?_) he1
   obtain ⟨ev, _⟩ := Y4L.1 hv
   subst ev
   obtain ⟨bs2, r0, hb2⟩ := hmem _ (hin (own tStr K.E e.2 (K.fe e.1), fpV e.2) (List.mem_cons_of_mem _ (List.mem_map.2 ⟨e, he', rfl⟩)))
   refine ⟨K.fc e.1 e.2, hT _ _ _ _ ?_, by rw [hTa]; rfl⟩
   rcases r0 with ⟨_, _, r1, a, r2⟩ | ⟨_, cs, r1, r2, r3⟩
   ·rw [r1, r2]
    exact Y2q.2 ⟨a, 0, rfl, Nat.le_refl _, .inl rfl⟩
   ·refine (Y5H (ok := ok) r2 r3).move fun k hk _ => ⟨rfl, ?_⟩
    rcases hk with hk | hk
    ·exact .inl hk
    ·exact .inr (hb2 k (by rw [r1]; exact hk))
  ·rw [List.map_map] at k3 ⊢
   exact k3
 ·rw [e1, List.map_map]
  unfold outL at h3
  rw [List.map_map] at h3
  exact h3
end
section
variable {P : Program} {N : Nat} {Q : QE} {ρ : Env} {w : World} {w0 : Base} {ok0 : Nat → Prop} {Γ : List It} {Λ : List LObj}
variable {d : Option Tmp} {ty : TypeId} {pos : String} {aft : Array Edge} {gd : Option (Nat × Bool)} {ops : Array Oper} {rest : List Oper}
variable {κ β : Type} [BEq κ] [LawfulBEq κ] {kv : κ → Value} {V : Ty β}
theorem WL.lookupT {t kt et : TypeId} {m x : Operand} {mv : Value} {l : List (κ × β)} {a : κ} {z0 : β} {zc : Value} (hs : St ok0 w0 w Γ Λ) (i : Nat) (hi : Γ[i]? = some (vl (tMap kv V) l mv)) (hk : KK P kt kv) (ht : P.underlying t = some (.map kt et))
  (hm : ρ.ev m = mv) (hx : ρ.ev x = kv a) (hz : ∀ w, (zeroValue et).run P w = .ok zc w) (hzV : ∀ (ok : Nat → Prop) (w : World), V.V ok w z0 zc) {y : β} (hy : (l.lookup a).getD z0 = y)
  (K : ∀ v, St ok0 w0 w (vl V y v :: Γ) Λ → WL P N ops Q rest (putE ρ d v) w)
  (hg : Y0I ops ρ ⟨d, .lookup t m x false, ty, pos, aft, gd⟩ = true := by rfl) (hd : fits N d = true := by rfl) :
  WL P N ops Q (⟨d, .lookup t m x false, ty, pos, aft, gd⟩ :: rest) ρ w := by
 subst hy
 subst hm
 obtain ⟨desc, hu, hsame⟩ := hk.und
 have fin : ∀ v, (Instr.lookup t (ρ.ev m) (kv a) false).run P w = .ok v w → St ok0 w0 w (vl V ((l.lookup a).getD z0) v :: Γ) Λ → WL P N ops Q (⟨d, .lookup t m x false, ty, pos, aft, gd⟩ :: rest) ρ w := by
  intro v hv hst
  exact WL.value hg hd (v := v) (w' := w) (by
   show (do pure (Next.value (← Instr.lookup t (ρ.ev m) (ρ.ev x) false)) : Sem Next).run P w = _
   rw [hx]
   exact Y1Q hv) (K v hst)
 obtain ⟨ok, hh⟩ := hs.get i hi
 rcases Y5D.1 hh with ⟨em, el⟩ | ⟨g, es, c, em, hok, hb, he, _⟩
 ·subst el
  refine fin zc ?_ (hs.add fun ok _ => hzV ok w)
  rw [em]
  unfold Instr.lookup
  refine (Y0p (Y2j ht w)).trans ?_
  refine (Y0p (x := (#[] : Array MapEntry)) (w' := w) rfl).trans ?_
  refine (Y0p (hk.chk _ a w)).trans ?_
  refine (Y0p (Y35 hu (r := none) rfl w)).trans ?_
  exact (Y0p (hz w)).trans rfl
 ·have go : ∀ r : Option (Nat × Value), Instr.findNow desc (kv a) es.toList 0 = some r → ∀ v, (match r with | some (_, v) => v | none => zc) = v → (Instr.lookup t (ρ.ev m) (kv a) false).run P w = .ok v w := by
   intro r hr v hv
   rw [em]
   unfold Instr.lookup
   refine (Y0p (Y2j ht w)).trans ?_
   refine (Y0p ((Y0p (Y3w hb)).trans rfl)).trans ?_
   refine (Y0p (hk.chk _ a w)).trans ?_
   refine (Y0p (Y35 hu hr w)).trans ?_
   cases r with
   | none => subst hv; exact (Y0p (hz w)).trans rfl
   | some p => obtain ⟨j, u⟩ := p; subst hv; rfl
  rcases Y2k (P := P) (t := t) hsame a 0 he with ⟨a1, a2, _⟩ | ⟨j, y, e, a1, a2, a3, a4, a5, _⟩
  ·exact fin zc (go _ a2 _ rfl) (hs.add fun ok _ => by rw [a1]; exact hzV ok w)
  ·refine fin e.val (go _ a4 _ rfl) (hs.add fun ok' hA => ?_)
   rcases Y5D.1 (hA.get i hi) with ⟨em', _⟩ | ⟨g', es', c', em', _, hb', he', _⟩
   ·rw [em] at em'; cases em'
   ·rw [em] at em'
    cases em'
    rw [hb] at hb'
    cases hb'
    rcases Y2k (P := P) (t := t) hsame a 0 he' with ⟨b1, _⟩ | ⟨j', y', e', b1, b2, b3, b4, b5, _⟩
    ·rw [a1] at b1; cases b1
    ·rw [a4] at b4
     simp only [Option.some.injEq, Prod.mk.injEq] at b4
     rw [b1]
     show V.V ok' w y' e.val
     rw [b4.2]
     exact b5
end
def insS : List (List UInt8) → List UInt8 → List (List UInt8)
 | [], s => [s]
 | a :: l, s => if Op.bytesLess a s then a :: insS l s else if a == s then a :: l else s :: a :: l
noncomputable def insO (l : List (List UInt8)) (s : List UInt8) : Option (List (List UInt8)) := if l.Pairwise (fun a b => Op.bytesLess a b = true) ∧ l.length < 1000000000000 then some (insS l s) else none
def Y6z {β : Type} (l : List (List UInt8 × β)) : Option (List (List UInt8)) :=
 if (∀ x ∈ l, x.1.length ≤ maxLen) ∧ l.length * 16 ≤ 140737488355328 then some ((l.map (·.1)).mergeSort fun a b => decide (a ≤ b)) else none
theorem map_owns {P : Program} {kt : TypeId} {β : Type} {V : Ty β} {l : List (List UInt8 × β)} {ok : Nat → Prop} {w : World} {g : Nat} {es : Array MapEntry} {c : Nat} (hk : P.underlying kt = some .string) (hh : w.heap[g]? = some (.map es c)) (he : Ents bstr V ok w l es.toList)
  (h1 : (es.toList.map (·.born)).Nodup) (h2 : ∀ e ∈ es.toList, e.born < c) (hn : (l.map (·.1)).Nodup) (hm : l.length ≤ maxLen) (hks : ∀ x ∈ l, x.1.length ≤ maxLen) :
  ∃ (R : Value → Option (DataW Unit × List MemPlace)) (D0 : DataW Unit), w.ownsMap P kt R g l.length D0 ∧ Maps.size D0 = l.length ∧ ∀ ss : List (List UInt8), ss.Perm (strKeys D0) → ss.Perm (l.map (·.1)) := by
 let R : Value → Option (DataW Unit × List MemPlace) := fun _ => some (.lit (.bool true), [])
 have hrd : ∀ (l : List (List UInt8 × β)) (es : List MapEntry), Ents bstr V ok w l es → (∀ x ∈ l, x.1.length ≤ maxLen) → (∀ e ∈ es, ∃ y, Go.WideElems.rd P kt R e = some y) ∧ es.map (Go.WideElems.rg P kt R) = l.map fun x => (Lit.string x.1, DataW.lit (.bool true)) := by
  intro l
  induction l with
  | nil => intro es h _; cases es with
   | nil => exact ⟨by simp, rfl⟩
   | cons _ _ => exact h.elim
  | cons x l ih => intro es h hx; cases es with
   | nil => exact h.elim
   | cons e es =>
    obtain ⟨k1, _, k3⟩ := h
    obtain ⟨i1, i2⟩ := ih es k3 fun q hq => hx q (by simp [hq])
    have e0 : Go.WideElems.rd P kt R e = some (Lit.string x.1, DataW.lit (.bool true)) := by
     unfold Go.WideElems.rd
     have hl := hx x (by simp)
     have : keyOf P kt e.key = some (.string x.1) := by
      rw [k1]
      unfold keyOf
      rw [hk]
      simp [mapKey, hk, bstr, ByteArray.size, hl]
     rw [this]
     rfl
    refine ⟨fun q hq => ?_, ?_⟩
    ·rcases List.mem_cons.1 hq with rfl | hq
     ·exact ⟨_, e0⟩
     ·exact i1 q hq
    ·rw [List.map_cons, List.map_cons, i2]
     unfold Go.WideElems.rg
     rw [e0]
     rfl
 obtain ⟨hr1, hr2⟩ := hrd l es.toList he hks
 have hlen : l.length = es.size := by rw [he.length]; simp
 have hkeys : es.toList.map (·.key) = l.map fun x => bstr x.1 := by
  have : ∀ (l : List (List UInt8 × β)) (es : List MapEntry), Ents bstr V ok w l es → es.map (·.key) = l.map fun x => bstr x.1 := by
   intro l
   induction l with
   | nil => intro es h; cases es with
    | nil => rfl
    | cons _ _ => exact h.elim
   | cons x l ih => intro es h; cases es with
    | nil => exact h.elim
    | cons e es => obtain ⟨k1, _, k3⟩ := h; rw [List.map_cons, List.map_cons, ih es k3, k1]
  exact this l _ he
 refine ⟨R, .map ((es.toList.map (Go.WideElems.rg P kt R)).foldr DataW.insert []), ⟨es, c, hh, ⟨by omega, ⟨h2, h1, ?_⟩, hr1⟩, by omega, rfl⟩, ?_, ?_⟩
 ·rw [hkeys]
  have : (l.map fun x => bstr x.1) = (l.map (·.1)).map bstr := by rw [List.map_map]; rfl
  rw [this]
  exact List.pairwise_map.2 (hn.imp fun hab e => hab (Y6O e))
 ·rw [Maps.size_eq, Go.length_sorted]
  simp [hlen]
 ·intro ss hss
  refine hss.trans ?_
  unfold strKeys
  rw [hr2]
  have := (Go.WideShapes.sorted_perm (l.map fun x => ((Lit.string x.1, DataW.lit (.bool true)) : Lit × DataW Unit))).map (fun p => strOf p.1)
  refine this.trans ?_
  rw [List.map_map]
  exact List.Perm.of_eq rfl
section
variable {P : Program} {N : Nat} {Q : QE} {ρ : Env} {w : World} {w0 : Base} {ok0 : Nat → Prop} {Γ : List It} {Λ : List LObj}
variable {d d2 : Option Tmp} {ty ty2 : TypeId} {pos pos2 : String} {aft aft2 : Array Edge} {gd : Option (Nat × Bool)} {ops : Array Oper} {rest : List Oper}
structure SK (P : Program) (fk fs g : FuncId) (M : TypeId) : Prop where
 fk_ : FN P fk
 fs_ : FN P fs
 keys : ∀ (mb : Option Nat) (W : World), Calls P fk #[.map mb] W fun e w' => e = .returned (.func (.func g) #[] #[.pointer (some ⟨W.heap.size, 0, none⟩)]) ∧ w' = W.alloc (.cells #[.map mb] M)
 sorted : ∀ (b nn : Nat) (D0 : DataW Unit) (R : Value → Option (DataW Unit × List MemPlace)) (w : World) (hown : w.ownsMap P 9 R b nn D0) (hmax : Maps.size D0 ≤ maxLen) (hbytes : Maps.size D0 * 16 ≤ 140737488355328),
  Calls P fs #[.func (.func g) #[] #[.pointer (some ⟨w.heap.size, 0, none⟩)]] (w.alloc (.cells #[.map (some b)] M)) fun e w' => ∃ (v : Value) (ss : List (List UInt8)), e = .returned v ∧ ss.Perm (strKeys D0) ∧
   w'.ownsRow (w.alloc (.cells #[.map (some b)] M)).heap.size 9 1 v ss.length ((ss.mergeSort (fun x y => decide (x ≤ y))).map encStr) ∧ (v = .slice none 0 0 ↔ ss = []) ∧ Below (w.alloc (.cells #[.map (some b)] M)).heap.size (w.alloc (.cells #[.map (some b)] M)) w'
 sortedN : ∀ w : World, Calls P fs #[.func (.func g) #[] #[.pointer (some ⟨w.heap.size, 0, none⟩)]] (w.alloc (.cells #[.map none] M)) fun e w' => ∃ (v : Value) (ss : List (List UInt8)), e = .returned v ∧ ss = [] ∧
   w'.ownsRow (w.alloc (.cells #[.map none] M)).heap.size 9 1 v ss.length ((ss.mergeSort (fun x y => decide (x ≤ y))).map encStr) ∧ (v = .slice none 0 0 ↔ ss = []) ∧ Below (w.alloc (.cells #[.map none] M)).heap.size (w.alloc (.cells #[.map none] M)) w'
theorem Y7k {ok : Nat → Prop} {w : World} (xs : List (List UInt8)) : Y11 tStr ok w xs (xs.map encStr) := by
 refine ⟨by simp [tStr], fun j x hx => ?_⟩
 show _ = [bstr x]
 have hj := (List.getElem?_eq_some_iff.1 hx).1
 rw [show j * tStr.sz = j from Nat.mul_one j, show tStr.sz = 1 from rfl, List.drop_eq_getElem_cons (by simpa using hj), List.take_succ_cons, List.take_zero, List.getElem_map, (List.getElem?_eq_some_iff.1 hx).2]
 rfl
theorem St.ownNew {v : Value} {xs : List (List UInt8)} {w' : World} (hs : St ok0 w0 w Γ Λ) (hb : Below w.heap.size w w') (h : w'.ownsRow w.heap.size 9 1 v xs.length (xs.map encStr)) : St ok0 w0 w' Γ (own tStr 9 v xs :: Λ) := by
 have hs' : St ok0 w0 w' Γ Λ := hs.below hb
 have hx := h
 obtain ⟨_, h⟩ := h
 rcases h with ⟨rfl, hn⟩ | ⟨g, cap, cur, rfl, hb1, hg, h1, h2, h3, h4⟩
 ·have : xs = [] := List.length_eq_zero_iff.1 hn
  subst this
  exact hs'.ownNil tStr 9
 ·rcases Nat.eq_zero_or_pos cap with hc | hc
  ·have : xs = [] := List.length_eq_zero_iff.1 (by omega)
   subst this
   subst hc
   exact hs'.ownEmpty tStr 9 _
  ·refine hs.new hb (bs := [g]) (by simp) (fun b hb => ?_) fun ok _ _ _ => .inr ⟨hc, xs.map encStr, rfl, ⟨by simp [tStr], .inr ⟨g, cap, cur, rfl, Nat.zero_le _, hg, h1, h2, h3, h4⟩⟩, Y7k xs⟩
   simp at hb; subst hb; exact ⟨hb1, Y0T hg⟩
theorem WL.sortedKeys {β : Type} {V : Ty β} {fk fs g : FuncId} {M T1 T2 : TypeId} {x : Operand} {t : Tmp} {mv : Value} {l : List (List UInt8 × β)} {r : List (List UInt8)} (S : SK P fk fs g M) (hk : P.underlying 9 = some .string) (hs : St ok0 w0 w Γ Λ) (i : Nat) (hi : Γ[i]? = some (vl (tMap bstr V) l mv))
  (hx : ρ.ev x = mv) (hr : Y6z l = some r)
  (K : ∀ c v w', St ok0 w0 w' Γ (own tStr 9 v r :: Λ) → WL P N ops Q rest (putE (putE ρ (some t) c) d2 v) w')
  (hg : Y0I ops ρ ⟨some t, .call { callee := .value (.func fk), args := [x].toArray, argTypes := #[T1] }, ty, pos, aft, none⟩ = true := by rfl) (hd : fits N (some t) = true := by rfl) (hd2 : fits N d2 = true := by rfl) :
  WL P N ops Q (⟨some t, .call { callee := .value (.func fk), args := [x].toArray, argTypes := #[T1] }, ty, pos, aft, none⟩ :: ⟨d2, .call { callee := .value (.func fs), args := [.tmp t].toArray, argTypes := #[T2] }, ty2, pos2, aft2, none⟩ :: rest) ρ w := by
 unfold Y6z at hr
 split at hr
 ·rename_i hc
  obtain ⟨hc1, hc2⟩ := hc
  have hr := Option.some.inj hr
  have step : ∀ mb : Option Nat, mv = .map mb → ∀ R : Value → World → Prop, (Calls P fs #[.func (.func g) #[] #[.pointer (some ⟨w.heap.size, 0, none⟩)]] (w.alloc (.cells #[.map mb] M)) fun e w' => ∃ v, e = .returned v ∧ R v w') →
    (∀ v w', R v w' → St ok0 w0 w' Γ (own tStr 9 v r :: Λ)) → WL P N ops Q (⟨some t, .call { callee := .value (.func fk), args := [x].toArray, argTypes := #[T1] }, ty, pos, aft, none⟩ :: ⟨d2, .call { callee := .value (.func fs), args := [.tmp t].toArray, argTypes := #[T2] }, ty2, pos2, aft2, none⟩ :: rest) ρ w := by
   intro mb em R h1 h2
   refine WL.enter (R := fun v w' => v = .func (.func g) #[] #[.pointer (some ⟨w.heap.size, 0, none⟩)] ∧ w' = w.alloc (.cells #[.map mb] M)) hg hd (w' := w) (f := fk) (args := [mv].toArray) ?_ ?_ ?_
   ·show (invoke (.fn (.func fk) #[]) (#[] ++ [x].toArray.map ρ.ev)).run P w = _
    rw [List.map_toArray, List.map_cons, hx]
    simpa [invoke] using S.fk_ [mv].toArray w
   ·rw [em]
    refine (S.keys mb w).mono ?_
    rintro e w' ⟨h3, h4⟩
    exact ⟨_, h3, rfl, h4⟩
   ·rintro v w' ⟨rfl, rfl⟩
    refine WL.enter (R := R) rfl hd2 (w' := w.alloc (.cells #[.map mb] M)) (f := fs) (args := #[.func (.func g) #[] #[.pointer (some ⟨w.heap.size, 0, none⟩)]]) ?_ h1 ?_
    ·show (invoke (.fn (.func fs) #[]) (#[] ++ [Operand.tmp t].toArray.map (putE ρ (some t) _).ev)).run P _ = _
     rw [List.map_toArray, List.map_cons]
     have e : (putE ρ (some t) (.func (.func g) #[] #[.pointer (some ⟨w.heap.size, 0, none⟩)])).ev (.tmp t) = .func (.func g) #[] #[.pointer (some ⟨w.heap.size, 0, none⟩)] := Y6w ρ t _
     rw [e]
     simpa [invoke] using S.fs_ #[.func (.func g) #[] #[.pointer (some ⟨w.heap.size, 0, none⟩)]] (w.alloc (.cells #[.map mb] M))
    ·intro v w' hR
     exact K _ v w' (h2 v w' hR)
  have hml : l.length ≤ maxLen := by unfold maxLen; omega
  obtain ⟨ok, hh⟩ := hs.get i hi
  rcases Y5D.1 hh with ⟨em, el⟩ | ⟨b, es, c, em, hok, hb, he, h1, h2, h3⟩
  ·subst el
   refine step none em (fun v w' => w'.ownsRow (w.alloc (.cells #[.map none] M)).heap.size 9 1 v 0 [] ∧ Below (w.alloc (.cells #[.map none] M)).heap.size (w.alloc (.cells #[.map none] M)) w') ((S.sortedN w).mono ?_) ?_
   ·rintro e w' ⟨v, ss, rfl, rfl, q1, q2, q3⟩
    exact ⟨v, rfl, by simpa using q1, q3⟩
   ·rintro v w' ⟨q1, q2⟩
    have : r = [] := by rw [← hr]; simp
    subst this
    exact (hs.below (Y1K w _)).ownNew q2 q1
  ·obtain ⟨R, D0, o1, o2, o3⟩ := map_owns hk hb he h1 h2 h3 hml hc1
   refine step (some b) em (fun v w' => w'.ownsRow (w.alloc (.cells #[.map (some b)] M)).heap.size 9 1 v r.length (r.map encStr) ∧ Below (w.alloc (.cells #[.map (some b)] M)).heap.size (w.alloc (.cells #[.map (some b)] M)) w') ((S.sorted b l.length D0 R w o1 (o2.symm ▸ hml) (o2.symm ▸ hc2)).mono ?_) ?_
   ·rintro e w' ⟨v, ss, rfl, q0, q1, q2, q3⟩
    have e1 : ss.mergeSort (fun x y => decide (x ≤ y)) = r := by
     rw [← hr]
     exact mergeSort_of_perm (o3 ss q0)
    rw [e1] at q1
    have e2 : r.length = ss.length := by rw [← e1, List.length_mergeSort]
    rw [← e2] at q1
    exact ⟨v, rfl, q1, q3⟩
   ·rintro v w' ⟨q1, q2⟩
    exact (hs.below (Y1K w _)).ownNew q2 q1
 ·cases hr
end
end
end Go.Proofs.YtpfgdjfiimknlaaGreatL
namespace Go.Proofs.YtpfgdjfiimknlaaGreat
section
open Go Go.RowKit Go.Proofs.YtpfgdjfiimknlaaGreatL
structure Y0D where
 Kind : Int
 Object : List UInt8
 Field : List UInt8
 N : Int
 S : List UInt8
 deriving DecidableEq
structure Y0j where
 Client : Int
 Seq : Int
 Tag : Int
 Effects : List Y0D
 deriving DecidableEq
structure Y0B where
 Set : Bool
 Tag : Int
 Client : Int
 Seq : Int
 N : Int
 S : List UInt8
 deriving DecidableEq
structure Y05 where
 f_Type : Int
 N : Int
 S : List UInt8
 deriving DecidableEq
structure Y0r where
 f_key : Y05
 f_object : List UInt8
 deriving DecidableEq
structure Y07 where
 Name : List UInt8
 Register : Y0B
 HasMax : Bool
 Max : Int
 Sum : Int
 Elems : List (List UInt8)
 Flag : Bool
 deriving DecidableEq
structure Y06 where
 Name : List UInt8
 Fields : List Y07
 deriving DecidableEq
structure Y0y where
 Objects : List Y06
 deriving DecidableEq
structure Y0l where
 Name : List UInt8
 Kind : Int
 f_Type : Int
 At : Int
 deriving DecidableEq
structure Y0c where
 Key : Y05
 Objects : List (List UInt8)
 deriving DecidableEq
structure Y0N where
 Field : Y0l
 Entries : List Y0c
 deriving DecidableEq
structure Y02 where
 f_Type : Int
 N : Int
 S : List UInt8
 deriving DecidableEq
structure Y09 where
 Key : Y02
 Objects : List (List UInt8)
 deriving DecidableEq
noncomputable def Y1C (x1 : Int) : Option Bool :=
 some (x1 != x1)
noncomputable def Y15 (x1 : Int) (x2 : Int) : Option Int :=
 ((Y1C x1).bind fun x5 =>
 ((Y1C x2).bind fun x7 =>
 (if x5 then (if x7 then some 0 else some (-1)) else (if x7 then some 1 else (if (decide (x1 < x2)) then some (-1) else (if (decide (x2 < x1)) then some 1 else some 0))))))
noncomputable def Y12.j1   : Option Int :=
 some 0
noncomputable def Y12.l1 (x1 : List Int) : Int → Option ((Int) ⊕ (Unit ⊕ Int)) := fun x12 =>
 (if (decide (x12 < (x1.length : Int))) then ((idx x1 x12).bind fun x19 =>
 (if (x19 != 0) then some (.inr (.inr x19)) else (letV (IntKind.i64.wrap (x12 + 1)) fun x25 =>
 some (.inl x25)))) else some (.inr (.inl ())))
noncomputable def Y12 (x1 : List Int) : Option Int :=
 ((Y19 (Y12.l1 x1) 0).bind fun b => match b with | .inl _ => Y12.j1 | .inr x26 => some x26)
noncomputable def Y2f.j1  (x14 : Bool) : Option Bool :=
 some x14
noncomputable def Y2f (x1 : Y0j) (x5 : Y0B) : Option Bool :=
 (if (!x5.Set) then Y2f.j1 true else ((Y15 x1.Tag x5.Tag).bind fun x84 =>
 ((Y15 x1.Client x5.Client).bind fun x87 =>
 ((Y15 x1.Seq x5.Seq).bind fun x90 =>
 ((Y12 [x84, x87, x90]).bind fun x93 =>
 Y2f.j1 (decide (0 < x93)))))))
noncomputable def Y1v (x1 : List (List UInt8)) : Option (List (List UInt8)) :=
 ((app 16 [] x1).bind fun x11 =>
 some x11)
noncomputable def Y1p (x1 : Int) : Option Bool :=
 some (x1 != x1)
noncomputable def Y1q (x1 : Int) (x2 : Int) : Option Int :=
 ((Y1p x1).bind fun x5 =>
 ((Y1p x2).bind fun x7 =>
 (if x5 then (if x7 then some 0 else some (-1)) else (if x7 then some 1 else (if (decide (x1 < x2)) then some (-1) else (if (decide (x2 < x1)) then some 1 else some 0))))))
noncomputable def Y1h (x1 : List UInt8) : Option Bool :=
 some (x1 != x1)
noncomputable def Y1l (x1 : List UInt8) (x2 : List UInt8) : Option Int :=
 ((Y1h x1).bind fun x5 =>
 ((Y1h x2).bind fun x7 =>
 (if x5 then (if x7 then some 0 else some (-1)) else (if x7 then some 1 else (if (Op.bytesLess x1 x2) then some (-1) else (if (!(Op.bytesLess x1 x2 || x1 == x2)) then some 1 else some 0))))))
noncomputable def Y0n.j1  (x11 : List (List UInt8)) : Option (List (List UInt8)) :=
 some x11
noncomputable def Y0n.j2  (x24 : List (List UInt8)) (x26 : Int) : Option (((List (List UInt8)) × Int) ⊕ ((List (List UInt8)) ⊕ (List (List UInt8)))) :=
 (letV (IntKind.i64.wrap (x26 + 1)) fun x28 =>
 some (.inl (x24, x28)))
noncomputable def Y0n.j3  (x61 : List (List UInt8)) (x63 : Int) : Option (((List (List UInt8)) × Int) ⊕ ((List (List UInt8)) ⊕ (List (List UInt8)))) :=
 (if 0 ≤ x63 ∧ x63 ≤ (x61.length : Int) then ((clr x61 x63 ([] : List UInt8)).bind fun x67 =>
 ((cut x67 0 x63).bind fun x69 =>
 some (.inr (.inr x69)))) else none)
noncomputable def Y0n.j4 (x74 : Int) (x80 : List (List UInt8)) (x82 : Int) : Option (((List (List UInt8)) × Int × Int) ⊕ ((List (List UInt8)) × Int)) :=
 (letV (IntKind.i64.wrap (x74 + 1)) fun x84 =>
 some (.inl (x80, x82, x84)))
noncomputable def Y0n.l1 (x18 : Int) : ((List (List UInt8)) × Int × Int) → Option (((List (List UInt8)) × Int × Int) ⊕ ((List (List UInt8)) × Int)) := fun (x71, x73, x74) =>
 (if (decide (x74 < ((x71.length - (x18).toNat : Nat) : Int))) then ((idx (List.drop ((x18).toNat) x71) x74).bind fun x86 =>
 (letV (IntKind.i64.wrap (x74 - 1)) fun x89 =>
 ((idx (List.drop ((x18).toNat) x71) x89).bind fun x90 =>
 (if (x86 != x90) then ((idx (List.drop ((x18).toNat) x71) x74).bind fun x115 =>
 ((idx x71 x73).bind fun x118 =>
 (letV (x71.set (x73).toNat x115) fun x120 =>
 (letV (IntKind.i64.wrap (x73 + 1)) fun x121 =>
 Y0n.j4 x74 x120 x121)))) else Y0n.j4 x74 x71 x73)))) else some (.inr (x71, x73)))
noncomputable def Y0n.l2  : ((List (List UInt8)) × Int) → Option (((List (List UInt8)) × Int) ⊕ ((List (List UInt8)) ⊕ (List (List UInt8)))) := fun (x16, x18) =>
 (if (decide (x18 < (x16.length : Int))) then ((idx x16 x18).bind fun x30 =>
 (letV (IntKind.i64.wrap (x18 - 1)) fun x33 =>
 ((idx x16 x33).bind fun x34 =>
 (if (x30 == x34) then (if 0 ≤ x18 ∧ x18 ≤ (x16.length : Int) then ((Y19 (Y0n.l1 x18) (x16, x18, 1)).bind fun (x122, x123) => Y0n.j3 x122 x123) else none) else Y0n.j2 x16 x18)))) else some (.inr (.inl x16)))
noncomputable def Y0n (x1 : List (List UInt8)) : Option (List (List UInt8)) :=
 (if (decide ((x1.length : Int) < 2)) then some x1 else ((Y19 Y0n.l2 (x1, 1)).bind fun b => match b with | .inl x124 => Y0n.j1 x124 | .inr x125 => some x125))
noncomputable def Y27 (x1 : Y0r) : Option Y05 :=
 some x1.f_key
abbrev Y1E := List (List UInt8 × List Y07)
abbrev Y8p := List (List UInt8 × List (List UInt8 × Y07))
def Y1m : Y07 := ⟨[], ⟨false, 0, 0, 0, 0, []⟩, false, 0, 0, [], false⟩
noncomputable def Y4X (u : Y0j) (e : Y0D) (f : Y07) : Option Y07 :=
 if e.Kind == 1 then ((Y2f u f.Register).bind fun b => if b then some { f with Register := ⟨true, u.Tag, u.Client, u.Seq, e.N, e.S⟩ } else some f) else
 if e.Kind == 2 then (if (!f.HasMax) then some { f with HasMax := true, Max := e.N } else if decide (f.Max < e.N) then some { f with HasMax := true, Max := e.N } else some f) else
 if e.Kind == 3 then some { f with Sum := IntKind.i64.wrap (f.Sum + e.N) } else
 if e.Kind == 4 then ((insO f.Elems e.S).bind fun l => some { f with Elems := l }) else
 if e.Kind == 5 then some { f with Flag := true } else some f
def Y1t (x : Y1E) (k : List UInt8) : Y1E := if (x.lookup k).isNone then x ++ [(k, [])] else x
def Y5h (x : Y1E) (k f : List UInt8) : Y07 := (((x.lookup k).getD []).find? fun q => f == q.Name).getD Y1m
def Y2N (x : Y1E) (k : List UInt8) (y : Y07) : Y1E := mset x k (fput Y07.Name y ((x.lookup k).getD []))
noncomputable def Y5x (u : Y0j) (x : Y1E) (e : Y0D) : Option Y1E :=
 (Y4X u e { Y5h (Y1t x e.Object) e.Object e.Field with Name := e.Field }).bind fun f => some (Y2N (Y1t x e.Object) e.Object f)
noncomputable def Y25.l1 (u : Y0j) : (Int × Y1E) → Option ((Int × Y1E) ⊕ Y1E) := fun (i, x) =>
 if decide (i < (u.Effects.length : Int)) then ((idx u.Effects i).bind fun e => (Y5x u x e).bind fun x' => letV (IntKind.i64.wrap (i + 1)) fun j => some (.inl (j, x'))) else some (.inr x)
noncomputable def Y25 (u : Y0j) (x : Y1E) : Option Y1E := Y19 (Y25.l1 u) (0, x)
noncomputable def Y1N.l1 (o : Y06) : (Int × List Y07) → Option ((Int × List Y07) ⊕ List Y07) := fun (i, fs) =>
 if decide (i < (o.Fields.length : Int)) then ((idx o.Fields i).bind fun f => (Y1v f.Elems).bind fun l => letV (IntKind.i64.wrap (i + 1)) fun j => some (.inl (j, fput Y07.Name { f with Elems := l } fs))) else some (.inr fs)
noncomputable def Y1N.l2 (t : Y0y) : (Int × Y1E) → Option ((Int × Y1E) ⊕ Y1E) := fun (i, x) =>
 if decide (i < (t.Objects.length : Int)) then ((idx t.Objects i).bind fun o => (Y19 (Y1N.l1 o) (0, [])).bind fun fs => letV (IntKind.i64.wrap (i + 1)) fun j => some (.inl (j, mset x o.Name fs))) else some (.inr x)
noncomputable def Y1N (t : Y0y) : Option Y1E := Y19 (Y1N.l2 t) (0, [])
def Y2O (x : Y1E) : Y8p := x.map fun o => (o.1, o.2.map fun y => (y.Name, y))
noncomputable def Y1A.l1 (m : List (List UInt8 × Y07)) (ns : List (List UInt8)) : (Int × List Y07) → Option ((Int × List Y07) ⊕ List Y07) := fun (i, out) =>
 if decide (i < (ns.length : Int)) then ((idx ns i).bind fun n => (app 128 out [(m.lookup n).getD Y1m]).bind fun out' => letV (IntKind.i64.wrap (i + 1)) fun j => some (.inl (j, out'))) else some (.inr out)
noncomputable def Y1A.l2 (x : Y8p) (ns : List (List UInt8)) : (Int × List Y06) → Option ((Int × List Y06) ⊕ List Y06) := fun (i, out) =>
 if decide (i < (ns.length : Int)) then ((idx ns i).bind fun n => (Y6z ((x.lookup n).getD [])).bind fun fs => (Y19 (Y1A.l1 ((x.lookup n).getD []) fs) (0, [])).bind fun l => (app 40 out [⟨n, l⟩]).bind fun out' => letV (IntKind.i64.wrap (i + 1)) fun j => some (.inl (j, out'))) else some (.inr out)
noncomputable def Y1A (x : Y8p) : Option Y0y := (Y6z x).bind fun ns => (Y19 (Y1A.l2 x ns) (0, [])).bind fun l => some ⟨l⟩
def cmpS (a b : List UInt8) : Int := if Op.bytesLess a b then -1 else if Op.bytesLess b a then 1 else 0
def Y28 (a b : Y05) : Int := if cmpI a.f_Type b.f_Type ≠ 0 then cmpI a.f_Type b.f_Type else if cmpI a.N b.N ≠ 0 then cmpI a.N b.N else cmpS a.S b.S
noncomputable def Y2y (x1 : Y0y) (x2 : Y0j) : Option Y0y := (Y1N x1).bind fun b => (Y25 x2 b).bind fun b' => Y1A (Y2O b')
noncomputable def Y1n.j1 (x5 : List UInt8) (x11 : Y07) : Option Y07 :=
 some (⟨x5, (⟨false, 0, 0, 0, 0, []⟩ : Y0B), false, 0, 0, [], false⟩ : Y07)
noncomputable def Y1n.l1 (x1 : Y06) (x5 : List UInt8) : (Int × Y07) → Option ((Int × Y07) ⊕ (Y07 ⊕ Y07)) := fun (x21, x22) =>
 (if (decide (x21 < ((x1.Fields).length : Int))) then ((idx x1.Fields x21).bind fun x31 =>
 (if (x31.Name == x5) then ((Y1v x31.Elems).bind fun x42 =>
 some (.inr (.inr (⟨x31.Name, (⟨x31.Register.Set, x31.Register.Tag, x31.Register.Client, x31.Register.Seq, x31.Register.N, x31.Register.S⟩ : Y0B), x31.HasMax, x31.Max, x31.Sum, x42, x31.Flag⟩ : Y07)))) else (letV (IntKind.i64.wrap (x21 + 1)) fun x47 =>
 some (.inl (x47, x22))))) else some (.inr (.inl x22)))
noncomputable def Y1n (x1 : Y06) (x5 : List UInt8) : Option Y07 :=
 ((Y19 (Y1n.l1 x1 x5) (0, (⟨[], (⟨false, 0, 0, 0, 0, []⟩ : Y0B), false, 0, 0, [], false⟩ : Y07))).bind fun b => match b with | .inl x48 => Y1n.j1 x5 x48 | .inr x49 => some x49)
def Y1Z (x1 : List Y05) : Option (List Y05) := Y7E (fun a b => decide (Y28 a b < 0)) x1
noncomputable def Y2b (x1 : Y05) (x5 : Y05) : Option Int :=
 ((Y15 x1.f_Type x5.f_Type).bind fun x15 =>
 ((Y1q x1.N x5.N).bind fun x18 =>
 ((Y1l x1.S x5.S).bind fun x21 =>
 ((Y12 [x15, x18, x21]).bind fun x24 =>
 some x24))))
noncomputable def Y0u.j1  (x11 : List Y05) : Option (List Y05) :=
 some x11
noncomputable def Y0u.j2  (x24 : List Y05) (x26 : Int) : Option (((List Y05) × Int) ⊕ ((List Y05) ⊕ (List Y05))) :=
 (letV (IntKind.i64.wrap (x26 + 1)) fun x28 =>
 some (.inl (x24, x28)))
noncomputable def Y0u.j3  (x75 : List Y05) (x77 : Int) : Option (((List Y05) × Int) ⊕ ((List Y05) ⊕ (List Y05))) :=
 (if 0 ≤ x77 ∧ x77 ≤ (x75.length : Int) then ((clr x75 x77 (⟨0, 0, []⟩ : Y05)).bind fun x81 =>
 ((cut x81 0 x77).bind fun x83 =>
 some (.inr (.inr x83)))) else none)
noncomputable def Y0u.j4 (x88 : Int) (x94 : List Y05) (x96 : Int) : Option (((List Y05) × Int × Int) ⊕ ((List Y05) × Int)) :=
 (letV (IntKind.i64.wrap (x88 + 1)) fun x98 =>
 some (.inl (x94, x96, x98)))
noncomputable def Y0u.l1 (x18 : Int) : ((List Y05) × Int × Int) → Option (((List Y05) × Int × Int) ⊕ ((List Y05) × Int)) := fun (x85, x87, x88) =>
 (if (decide (x88 < ((x85.length - (x18).toNat : Nat) : Int))) then ((idx (List.drop ((x18).toNat) x85) x88).bind fun x100 =>
 (letV (IntKind.i64.wrap (x88 - 1)) fun x105 =>
 ((idx (List.drop ((x18).toNat) x85) x105).bind fun x106 =>
 (if (!decide ((⟨x100.f_Type, x100.N, x100.S⟩ : Y05) = (⟨x106.f_Type, x106.N, x106.S⟩ : Y05))) then ((idx (List.drop ((x18).toNat) x85) x88).bind fun x143 =>
 ((idx x85 x87).bind fun x148 =>
 (letV (x85.set (x87).toNat x143) fun x150 =>
 (letV (IntKind.i64.wrap (x87 + 1)) fun x151 =>
 Y0u.j4 x88 x150 x151)))) else Y0u.j4 x88 x85 x87)))) else some (.inr (x85, x87)))
noncomputable def Y0u.l2  : ((List Y05) × Int) → Option (((List Y05) × Int) ⊕ ((List Y05) ⊕ (List Y05))) := fun (x16, x18) =>
 (if (decide (x18 < (x16.length : Int))) then ((idx x16 x18).bind fun x30 =>
 (letV (IntKind.i64.wrap (x18 - 1)) fun x35 =>
 ((idx x16 x35).bind fun x36 =>
 (if (decide ((⟨x30.f_Type, x30.N, x30.S⟩ : Y05) = (⟨x36.f_Type, x36.N, x36.S⟩ : Y05))) then (if 0 ≤ x18 ∧ x18 ≤ (x16.length : Int) then ((Y19 (Y0u.l1 x18) (x16, x18, 1)).bind fun (x152, x153) => Y0u.j3 x152 x153) else none) else Y0u.j2 x16 x18)))) else some (.inr (.inl x16)))
noncomputable def Y0u (x1 : List Y05) : Option (List Y05) :=
 (if (decide ((x1.length : Int) < 2)) then some x1 else ((Y19 Y0u.l2 (x1, 1)).bind fun b => match b with | .inl x154 => Y0u.j1 x154 | .inr x155 => some x155))
noncomputable def Y0O.j1  (x22 : List Y05) : Option (List Y05) :=
 ((Y1Z x22).bind fun x28 =>
 ((Y0u x28).bind fun x30 =>
 some x30))
noncomputable def Y0O.l1 (x14 : Y07) : ((List Y05) × Int) → Option (((List Y05) × Int) ⊕ (List Y05)) := fun (x63, x67) =>
 (if (decide (x67 < ((x14.Elems).length : Int))) then ((idx x14.Elems x67).bind fun x74 =>
 ((app 32 x63 [(⟨2, 0, x74⟩ : Y05)]).bind fun x78 =>
 (letV (IntKind.i64.wrap (x67 + 1)) fun x83 =>
 some (.inl (x78, x83))))) else some (.inr x63))
noncomputable def Y0O.j2 (x1 : Y0l) (x14 : Y07) (x48 : Bool) : Option (List Y05) :=
 (if x48 then ((app 32 [] [(⟨x1.f_Type, 0, x14.Register.S⟩ : Y05)]).bind fun x53 =>
 Y0O.j1 x53) else (if (x1.Kind == 4) then ((Y19 (Y0O.l1 x14) ([], 0)).bind fun x84 => Y0O.j1 x84) else Y0O.j1 []))
noncomputable def Y0O.j3 (x1 : Y0l) (x14 : Y07) (x36 : Bool) : Option (List Y05) :=
 (if x36 then ((app 32 [] ([(⟨x1.f_Type, x14.Register.N, []⟩ : Y05)])).bind fun x41 =>
 Y0O.j1 x41) else (if (x1.Kind == 1) then (if x14.Register.Set then Y0O.j2 x1 x14 (x1.f_Type == 2) else Y0O.j2 x1 x14 false) else Y0O.j2 x1 x14 false))
noncomputable def Y0O (x1 : Y0l) (x5 : Y06) : Option (List Y05) :=
 ((Y1n x5 x1.Name).bind fun x14 =>
 (if (x1.Kind == 1) then (if x14.Register.Set then Y0O.j3 x1 x14 (x1.f_Type == 1) else Y0O.j3 x1 x14 false) else Y0O.j3 x1 x14 false))
noncomputable def Y0R.j1  (x13 : List Y0r) : Option (List Y0r) :=
 some x13
noncomputable def Y0R.j2 (x25 : Int) (x32 : List Y0r) : Option (((List Y0r) × Int) ⊕ (List Y0r)) :=
 (letV (IntKind.i64.wrap (x25 + 1)) fun x37 =>
 some (.inl (x32, x37)))
noncomputable def Y0R.l1 (x39 : Y06) (x46 : List Y05) : ((List Y0r) × Int) → Option (((List Y0r) × Int) ⊕ (List Y0r)) := fun (x51, x55) =>
 (if (decide (x55 < (x46.length : Int))) then ((idx x46 x55).bind fun x62 =>
 ((app 48 x51 [(⟨x62, x39.Name⟩ : Y0r)]).bind fun x70 =>
 (letV (IntKind.i64.wrap (x55 + 1)) fun x75 =>
 some (.inl (x70, x75))))) else some (.inr x51))
noncomputable def Y0R.l2 (x1 : Y0l) (x5 : List Y06) : ((List Y0r) × Int) → Option (((List Y0r) × Int) ⊕ (List Y0r)) := fun (x21, x25) =>
 (if (decide (x25 < (x5.length : Int))) then ((idx x5 x25).bind fun x39 =>
 ((Y0O x1 x39).bind fun x46 =>
 ((Y19 (Y0R.l1 x39 x46) (x21, 0)).bind fun x76 => Y0R.j2 x25 x76))) else some (.inr x21))
noncomputable def Y0R (x1 : Y0l) (x5 : List Y06) : Option (List Y0r) :=
 ((Y19 (Y0R.l2 x1 x5) ([], 0)).bind fun x77 => Y0R.j1 x77)
noncomputable def Y1H.l1 (x1 : List Y0r) : (Int × List (Y05 × List Y0r)) → Option ((Int × List (Y05 × List Y0r)) ⊕ List (Y05 × List Y0r)) := fun (i, gs) =>
 if decide (i < (x1.length : Int)) then ((idx x1 i).bind fun p => (Y27 p).bind fun k => (app 48 ((gs.lookup k).getD []) [p]).bind fun l => letV (IntKind.i64.wrap (i + 1)) fun j => some (.inl (j, mset gs k l))) else some (.inr gs)
noncomputable def Y1H (x1 : List Y0r) : Option (List (Y05 × List Y0r)) := Y19 (Y1H.l1 x1) (0, [])
noncomputable def Y1S (x1 : List (List UInt8)) : Option (List (List UInt8)) := if x1.length * 16 ≤ 140737488355328 then Y0n (x1.mergeSort fun a b => decide (a ≤ b)) else none
def Y1r (x1 : List Y0c) : Option (List Y0c) := Y7E (fun a b => decide (Y28 a.Key b.Key < 0)) x1
noncomputable def Y0A.j1 (x1 : Y0l) (x15 : List Y0c) : Option Y0N :=
 ((Y1r x15).bind fun x21 =>
 some (⟨(⟨x1.Name, x1.Kind, x1.f_Type, x1.At⟩ : Y0l), x21⟩ : Y0N))
noncomputable def Y0A.j2 (x29 : List Y0c) (x34 : Y05) (x49 : List (List UInt8)) : Option ((List Y0c) ⊕ (Unit)) :=
 ((Y1S x49).bind fun x55 =>
 ((app 56 x29 [(⟨(⟨x34.f_Type, x34.N, x34.S⟩ : Y05), x55⟩ : Y0c)]).bind fun x60 =>
 some (.inl x60)))
noncomputable def Y0A.l1 (x35 : List Y0r) : (Int × (List (List UInt8))) → Option ((Int × (List (List UInt8))) ⊕ (List (List UInt8))) := fun (x67, x68) =>
 (if (decide (x67 < (x35.length : Int))) then ((idx x35 x67).bind fun x78 =>
 ((app 16 x68 [x78.f_object]).bind fun x86 =>
 (letV (IntKind.i64.wrap (x67 + 1)) fun x91 =>
 some (.inl (x91, x86))))) else some (.inr x68))
noncomputable def Y0A.l2  (x34 : Y05) (x35 : List Y0r) : List Y0c → Option ((List Y0c) ⊕ (Unit)) := fun x29 =>
 ((Y19 (Y0A.l1 x35) (0, [])).bind fun x92 => Y0A.j2 x29 x34 x92)
noncomputable def Y0A (x1 : Y0l) (x5 : List Y0r) : Option Y0N :=
 ((Y1H x5).bind fun x24 =>
 (Y8N x24 fun t27 =>
 ((Y4H (fun p : Y05 × (List Y0r) => Y0A.l2 p.1 p.2) t27 []).bind fun b => match b with | .inl x29 => Y0A.j1 x1 x29 | .inr _ => none)))
noncomputable def Y1x (x1 : Y0l) (x5 : Y0y) : Option Y0N :=
 ((Y0R x1 x5.Objects).bind fun x17 =>
 ((Y0A x1 x17).bind fun x20 =>
 some x20))
noncomputable def Y0S.j1  (x20 : List (List UInt8)) : Option (List (List UInt8)) :=
 ((Y1S x20).bind fun x26 =>
 some x26)
noncomputable def Y0S.j2 (x39 : Int) (x46 : List (List UInt8)) : Option (((List (List UInt8)) × Int) ⊕ (List (List UInt8))) :=
 (letV (IntKind.i64.wrap (x39 + 1)) fun x51 =>
 some (.inl (x46, x51)))
noncomputable def Y0S.j3 (x35 : List (List UInt8)) (x39 : Int) (x53 : Y0c) (x61 : Bool) : Option (((List (List UInt8)) × Int) ⊕ (List (List UInt8))) :=
 (if x61 then ((app 16 x35 x53.Objects).bind fun x67 =>
 Y0S.j2 x39 x67) else Y0S.j2 x39 x35)
noncomputable def Y0S.l1 (x1 : Y0N) (x5 : Y05) (x9 : Y05) : ((List (List UInt8)) × Int) → Option (((List (List UInt8)) × Int) ⊕ (List (List UInt8))) := fun (x35, x39) =>
 (if (decide (x39 < ((x1.Entries).length : Int))) then ((idx x1.Entries x39).bind fun x53 =>
 ((Y2b x5 x53.Key).bind fun x75 =>
 (if (decide (x75 ≤ 0)) then ((Y2b x53.Key x9).bind fun x80 =>
 Y0S.j3 x35 x39 x53 (decide (x80 ≤ 0))) else Y0S.j3 x35 x39 x53 false))) else some (.inr x35))
noncomputable def Y0S (x1 : Y0N) (x5 : Y05) (x9 : Y05) : Option (List (List UInt8)) :=
 ((Y19 (Y0S.l1 x1 x5 x9) ([], 0)).bind fun x81 => Y0S.j1 x81)
noncomputable def Y2d (x1 : Y0N) (x5 : Y05) : Option (List (List UInt8)) :=
 ((Y0S x1 x5 x5).bind fun x13 =>
 some x13)
noncomputable def Y0P.j1  (x27 : Bool) : Option Bool :=
 some x27
noncomputable def Y0P.j2  (x6 : List Y06) : Option Bool :=
 ((Y1x (⟨([111, 119, 110, 101, 114] : List UInt8), 1, 2, 0⟩ : Y0l) (⟨x6⟩ : Y0y)).bind fun x11 =>
 ((Y2d x11 (⟨2, 0, ([97, 110, 110] : List UInt8)⟩ : Y05)).bind fun x16 =>
 ((Y0S x11 (⟨2, 0, ([98] : List UInt8)⟩ : Y05) (⟨2, 0, ([99] : List UInt8)⟩ : Y05)).bind fun x21 =>
 (if (((x11.Entries).length : Int) == 2) then (if ((x16.length : Int) == 2) then ((idx x16 0).bind fun x34 =>
 (if (x34 == ([97] : List UInt8)) then ((idx x16 1).bind fun x38 =>
 (if (x38 == ([98] : List UInt8)) then (if ((x21.length : Int) == 1) then ((idx x21 0).bind fun x43 =>
 (if (x43 == ([99] : List UInt8)) then ((Y2d x11 (⟨0, 0, []⟩ : Y05)).bind fun x47 =>
 Y0P.j1 ((x47.length : Int) == 0)) else Y0P.j1 false)) else Y0P.j1 false) else Y0P.j1 false)) else Y0P.j1 false)) else Y0P.j1 false) else Y0P.j1 false))))
noncomputable def Y0P.l1  : (Int × (List Y06)) → Option ((Int × (List Y06)) ⊕ (List Y06)) := fun (x54, x55) =>
 (if (decide (x54 < (([([98] : List UInt8), ([97] : List UInt8), ([99] : List UInt8)]).length : Int))) then ((idx ([([98] : List UInt8), ([97] : List UInt8), ([99] : List UInt8)]) x54).bind fun x64 =>
 (letV (IntKind.i64.wrap (101 + x54)) fun x67 =>
 ((idx ([([97, 110, 110] : List UInt8), ([97, 110, 110] : List UInt8), ([98, 111, 98] : List UInt8)]) x54).bind fun x70 =>
 ((Y2y (⟨x55⟩ : Y0y) (⟨x67, 1, 0, [(⟨1, x64, ([111, 119, 110, 101, 114] : List UInt8), 0, x70⟩ : Y0D)]⟩ : Y0j)).bind fun x75 =>
 (letV (IntKind.i64.wrap (x54 + 1)) fun x121 =>
 some (.inl (x121, x75.Objects))))))) else some (.inr x55))
noncomputable def Y0P  : Option Bool :=
 ((Y19 Y0P.l1 (0, [])).bind fun x126 => Y0P.j2 x126)
noncomputable def Y1B (x1 : Int) (x2 : Int) : Option Int :=
 (if (decide (x2 < 1)) then some 0 else (if x2 ≠ 0 then (letV (IntKind.i64.wrap ((Int.tmod x1 x2) + x2)) fun x10 =>
 (if x2 ≠ 0 then some (Int.tmod x10 x2) else none)) else none))
noncomputable def Y0k.j1 (x2 : Int) (x9 : Int) : Option Int :=
 (if x2 ≠ 0 then some (Int.tmod x9 x2) else none)
noncomputable def Y0k.l1 (x2 : Int) (x3 : Int) : (Int × Int) → Option ((Int × Int) ⊕ (Int)) := fun (x15, x16) =>
 (if (decide (x16 < x3)) then (if x2 ≠ 0 then (letV (IntKind.i64.wrap (Int.tdiv x15 x2)) fun x22 =>
 (letV (IntKind.i64.wrap (x16 + 1)) fun x24 =>
 some (.inl (x22, x24)))) else none) else some (.inr x15))
noncomputable def Y0k (x1 : Int) (x2 : Int) (x3 : Int) : Option Int :=
 ((Y1B x1 1099511627776).bind fun x6 =>
 ((Y19 (Y0k.l1 x2 x3) (x6, 0)).bind fun x25 => Y0k.j1 x2 x25))
noncomputable def Y1b.j1 (x8 : List UInt8) (x44 : Int) (x48 : Int) : Option Y0l :=
 some (⟨x8, x44, x48, 0⟩ : Y0l)
noncomputable def Y1b.j2 (x1 : Int) (x8 : List UInt8) (x44 : Int) : Option Y0l :=
 (if (x44 == 1) then ((Y0k x1 2 8).bind fun x53 =>
 (letV (IntKind.i64.wrap (1 + x53)) fun x54 =>
 Y1b.j1 x8 x44 x54)) else Y1b.j1 x8 x44 0)
noncomputable def Y1b (x1 : Int) : Option Y0l :=
 ((Y0k x1 5 0).bind fun x7 =>
 ((idx ([([97] : List UInt8), ([98] : List UInt8), ([99] : List UInt8), ([120, 49] : List UInt8), ([110, 111, 110, 101] : List UInt8)]) x7).bind fun x8 =>
 ((Y0k x1 5 1).bind fun x11 =>
 (letV (IntKind.i64.wrap (1 + x11)) fun x12 =>
 ((Y0k x1 3 4).bind fun x56 =>
 (if (decide (0 < x56)) then ((Y0k x1 2 6).bind fun x59 =>
 ((idx [1, 4] x59).bind fun x60 =>
 Y1b.j2 x1 x8 x60)) else Y1b.j2 x1 x8 x12))))))
noncomputable def Y1O (x1 : Int) : Option (List UInt8) :=
 ((Y1B x1 4).bind fun x5 =>
 ((idx ([([97] : List UInt8), ([98] : List UInt8), ([99] : List UInt8), ([120, 49] : List UInt8)]) x5).bind fun x6 =>
 some x6))
noncomputable def Y17.j1 (x7 : List UInt8) (x9 : List UInt8) (x16 : Int) (x17 : Int) (x18 : List UInt8) : Option Y0D :=
 some (⟨x16, x7, x9, x17, x18⟩ : Y0D)
noncomputable def Y17 (x1 : Int) (x2 : Bool) : Option Y0D :=
 ((Y0k x1 4 1).bind fun x6 =>
 ((Y1O x6).bind fun x7 =>
 ((Y0k x1 4 2).bind fun x8 =>
 ((Y1O x8).bind fun x9 =>
 ((Y0k x1 16 3).bind fun x12 =>
 (letV (IntKind.i64.wrap (x12 - 5)) fun x13 =>
 (if x2 then ((Y0k x1 4 5).bind fun x25 =>
 ((Y1O x25).bind fun x26 =>
 Y17.j1 x7 x9 1 x13 x26)) else ((Y0k x1 4 0).bind fun x28 =>
 (if (x28 == 0) then Y17.j1 x7 x9 2 x13 [] else ((Y0k x1 4 0).bind fun x32 =>
 (if (x32 == 1) then Y17.j1 x7 x9 3 x13 [] else ((Y0k x1 4 0).bind fun x36 =>
 (if (x36 == 2) then ((Y0k x1 4 5).bind fun x39 =>
 ((Y1O x39).bind fun x40 =>
 Y17.j1 x7 x9 4 0 x40)) else Y17.j1 x7 x9 5 0 [])))))))))))))
noncomputable def Y1f.j1 (x1 : Int) (x2 : Int) (x22 : List Y0D) : Option Y0j :=
 some (⟨x1, x2, 0, x22⟩ : Y0j)
noncomputable def Y1f.l1 (x3 : Int) : (Int × (List Y0D)) → Option ((Int × (List Y0D)) ⊕ (List Y0D)) := fun (x30, x31) =>
 ((Y0k x3 3 9).bind fun x38 =>
 (if (decide (x30 ≤ x38)) then ((Y1B x3 1099511627776).bind fun x41 =>
 (letV (IntKind.i64.wrap (x30 + 1)) fun x42 =>
 (if x42 ≠ 0 then (letV (IntKind.i64.wrap (Int.tdiv x41 x42)) fun x43 =>
 ((Y17 x43 false).bind fun x45 =>
 ((app 64 x31 [x45]).bind fun x74 =>
 (letV (IntKind.i64.wrap (x30 + 1)) fun x79 =>
 some (.inl (x79, x74)))))) else none))) else some (.inr x31)))
noncomputable def Y1f (x1 : Int) (x2 : Int) (x3 : Int) : Option Y0j :=
 ((Y0k x3 3 8).bind fun x10 =>
 (if (x10 == 0) then ((Y0k x3 16 4).bind fun x13 =>
 ((Y17 x3 true).bind fun x15 =>
 some (⟨x1, x2, x13, [x15]⟩ : Y0j))) else ((Y19 (Y1f.l1 x3) (0, [])).bind fun x80 => Y1f.j1 x1 x2 x80)))
noncomputable def Y0o.j1  (x8 : List Y0j) : Option (List Y0j) :=
 some x8
noncomputable def Y0o.j2 (x20 : Int) (x27 : List Y0j) : Option (((List Y0j) × Int) ⊕ (List Y0j)) :=
 (letV (IntKind.i64.wrap (x20 + 1)) fun x32 =>
 some (.inl (x27, x32)))
noncomputable def Y0o.j3 (x41 : Int) (x51 : List Y0j) (x55 : Int) : Option (((List Y0j) × Int × Int) ⊕ (List Y0j)) :=
 (letV (IntKind.i64.wrap (x41 + 1)) fun x57 =>
 some (.inl (x51, x55, x57)))
noncomputable def Y0o.j4 (x1 : List Int) (x20 : Int) (x36 : List Y0j) (x40 : Int) (x41 : Int) (x60 : Bool) : Option (((List Y0j) × Int × Int) ⊕ (List Y0j)) :=
 (if x60 then (letV (IntKind.i64.wrap (x40 + 1)) fun x64 =>
 (letV (IntKind.i64.wrap (101 + x20)) fun x65 =>
 ((idx x1 x41).bind fun x66 =>
 ((Y1B x66 1099511627776).bind fun x69 =>
 (letV (IntKind.i64.wrap (Int.tdiv x69 3)) fun x70 =>
 ((Y1f x65 x64 x70).bind fun x71 =>
 ((app 48 x36 [(⟨x71.Client, x71.Seq, x71.Tag, x71.Effects⟩ : Y0j)]).bind fun x76 =>
 Y0o.j3 x41 x76 x64))))))) else Y0o.j3 x41 x36 x40)
noncomputable def Y0o.j5 (x1 : List Int) (x20 : Int) (x36 : List Y0j) (x40 : Int) (x41 : Int) (x46 : Bool) : Option (((List Y0j) × Int × Int) ⊕ (List Y0j)) :=
 (if x46 then ((idx x1 x41).bind fun x81 =>
 ((Y0k x81 3 0).bind fun x84 =>
 (if (x84 == x20) then Y0o.j4 x1 x20 x36 x40 x41 (decide (x40 < 8)) else Y0o.j4 x1 x20 x36 x40 x41 false))) else some (.inr x36))
noncomputable def Y0o.l1 (x1 : List Int) (x20 : Int) : ((List Y0j) × Int × Int) → Option (((List Y0j) × Int × Int) ⊕ (List Y0j)) := fun (x36, x40, x41) =>
 (if (decide (x41 < (x1.length : Int))) then Y0o.j5 x1 x20 x36 x40 x41 (decide (x41 < 24)) else Y0o.j5 x1 x20 x36 x40 x41 false)
noncomputable def Y0o.l2 (x1 : List Int) : ((List Y0j) × Int) → Option (((List Y0j) × Int) ⊕ (List Y0j)) := fun (x16, x20) =>
 (if (decide (x20 < 3)) then ((Y19 (Y0o.l1 x1 x20) (x16, 0, 0)).bind fun x87 => Y0o.j2 x20 x87) else some (.inr x16))
noncomputable def Y0o (x1 : List Int) : Option (List Y0j) :=
 ((Y19 (Y0o.l2 x1) ([], 0)).bind fun x88 => Y0o.j1 x88)
noncomputable def Y1X.l1 (x1 : List Y0j) : (Int × Y1E) → Option ((Int × Y1E) ⊕ Y1E) := fun (i, x) =>
 if decide (i < (x1.length : Int)) then ((idx x1 i).bind fun u => (Y25 u x).bind fun x' => letV (IntKind.i64.wrap (i + 1)) fun j => some (.inl (j, x'))) else some (.inr x)
noncomputable def Y1X (x1 : List Y0j) : Option Y0y := (Y19 (Y1X.l1 x1) (0, [])).bind fun b => Y1A (Y2O b)
noncomputable def Y2h (x1 : Y05) : Option Y02 :=
 some (⟨x1.f_Type, x1.N, x1.S⟩ : Y02)
noncomputable def Y0U.j1 (x1 : Y02) (x5 : Y02) (x15 : Bool) : Option Int :=
 (if x15 then some (-1) else (if (decide ((⟨x1.f_Type, x1.N, x1.S⟩ : Y02) = (⟨x5.f_Type, x5.N, x5.S⟩ : Y02))) then some 0 else some 1))
noncomputable def Y0U (x1 : Y02) (x5 : Y02) : Option Int :=
 (if (decide (x1.f_Type < x5.f_Type)) then Y0U.j1 x1 x5 true else (if (x1.f_Type == x5.f_Type) then (if (decide (x1.N < x5.N)) then Y0U.j1 x1 x5 true else (if (x1.N == x5.N) then Y0U.j1 x1 x5 (Op.bytesLess x1.S x5.S) else Y0U.j1 x1 x5 false)) else Y0U.j1 x1 x5 false))
noncomputable def Y0M.j1   : Option Bool :=
 some true
noncomputable def Y0M.l1 (x1 : List (List UInt8)) (x4 : List (List UInt8)) : Int → Option ((Int) ⊕ (Unit ⊕ Bool)) := fun x18 =>
 (if (decide (x18 < (x1.length : Int))) then ((idx x1 x18).bind fun x25 =>
 ((idx x4 x18).bind fun x28 =>
 (if (x25 != x28) then some (.inr (.inr false)) else (letV (IntKind.i64.wrap (x18 + 1)) fun x57 =>
 some (.inl x57))))) else some (.inr (.inl ())))
noncomputable def Y0M (x1 : List (List UInt8)) (x4 : List (List UInt8)) : Option Bool :=
 (if ((x1.length : Int) != (x4.length : Int)) then some false else ((Y19 (Y0M.l1 x1 x4) 0).bind fun b => match b with | .inl _ => Y0M.j1 | .inr x58 => some x58))
noncomputable def Y0Z.j1  (x9 : List Y0j) : Option (List Y0j) :=
 some x9
noncomputable def Y0Z.j2 (x21 : Int) (x28 : List Y0j) : Option (((List Y0j) × Int) ⊕ (List Y0j)) :=
 (letV (IntKind.i64.wrap (x21 + 1)) fun x33 =>
 some (.inl (x28, x33)))
noncomputable def Y0Z.l1 (x1 : List Y0j) (x4 : Int) : ((List Y0j) × Int) → Option (((List Y0j) × Int) ⊕ (List Y0j)) := fun (x17, x21) =>
 (if (decide (x21 < (x1.length : Int))) then ((idx x1 x21).bind fun x35 =>
 ((idx x1 x21).bind fun x39 =>
 (letV (IntKind.i64.wrap (x39.Client - 101)) fun x43 =>
 ((Y0k x4 9 x43).bind fun x44 =>
 (if (decide (x35.Seq ≤ x44)) then ((idx x1 x21).bind fun x86 =>
 ((app 48 x17 [x86]).bind fun x92 =>
 Y0Z.j2 x21 x92)) else Y0Z.j2 x21 x17))))) else some (.inr x17))
noncomputable def Y0Z (x1 : List Y0j) (x4 : Int) : Option (List Y0j) :=
 ((Y19 (Y0Z.l1 x1 x4) ([], 0)).bind fun x97 => Y0Z.j1 x97)
noncomputable def Y14.j1 (x5 : List UInt8) (x11 : Y07) : Option Y07 :=
 some (⟨x5, (⟨false, 0, 0, 0, 0, []⟩ : Y0B), false, 0, 0, [], false⟩ : Y07)
noncomputable def Y14.l1 (x1 : Y06) (x5 : List UInt8) : (Int × Y07) → Option ((Int × Y07) ⊕ (Y07 ⊕ Y07)) := fun (x18, x19) =>
 (if (decide (x18 < ((x1.Fields).length : Int))) then ((idx x1.Fields x18).bind fun x34 =>
 (if (x34.Name == x5) then ((idx x1.Fields x18).bind fun x43 =>
 some (.inr (.inr x43))) else (letV (IntKind.i64.wrap (x18 + 1)) fun x48 =>
 some (.inl (x48, x19))))) else some (.inr (.inl x19)))
noncomputable def Y14 (x1 : Y06) (x5 : List UInt8) : Option Y07 :=
 ((Y19 (Y14.l1 x1 x5) (0, (⟨[], (⟨false, 0, 0, 0, 0, []⟩ : Y0B), false, 0, 0, [], false⟩ : Y07))).bind fun b => match b with | .inl x49 => Y14.j1 x5 x49 | .inr x50 => some x50)
noncomputable def Y0H.j1  (x21 : List Y02) : Option (List Y02) :=
 some x21
noncomputable def Y0H.l1 (x14 : Y07) : ((List Y02) × Int) → Option (((List Y02) × Int) ⊕ (List Y02)) := fun (x56, x60) =>
 (if (decide (x60 < ((x14.Elems).length : Int))) then ((idx x14.Elems x60).bind fun x72 =>
 ((app 32 x56 [(⟨2, 0, x72⟩ : Y02)]).bind fun x76 =>
 (letV (IntKind.i64.wrap (x60 + 1)) fun x81 =>
 some (.inl (x76, x81))))) else some (.inr x56))
noncomputable def Y0H.j2 (x1 : Y0l) (x14 : Y07) (x41 : Bool) : Option (List Y02) :=
 (if x41 then ((app 32 [] [(⟨2, 0, x14.Register.S⟩ : Y02)]).bind fun x46 =>
 Y0H.j1 x46) else (if (x1.Kind == 4) then ((Y19 (Y0H.l1 x14) ([], 0)).bind fun x82 => Y0H.j1 x82) else Y0H.j1 []))
noncomputable def Y0H.j3 (x1 : Y0l) (x14 : Y07) (x29 : Bool) : Option (List Y02) :=
 (if x29 then ((app 32 [] ([(⟨1, x14.Register.N, []⟩ : Y02)])).bind fun x34 =>
 Y0H.j1 x34) else (if (x1.Kind == 1) then (if x14.Register.Set then Y0H.j2 x1 x14 (x1.f_Type == 2) else Y0H.j2 x1 x14 false) else Y0H.j2 x1 x14 false))
noncomputable def Y0H (x1 : Y0l) (x5 : Y06) : Option (List Y02) :=
 ((Y14 x5 x1.Name).bind fun x14 =>
 (if (x1.Kind == 1) then (if x14.Register.Set then Y0H.j3 x1 x14 (x1.f_Type == 1) else Y0H.j3 x1 x14 false) else Y0H.j3 x1 x14 false))
noncomputable def Y0f.j1  (x15 : List Y09) : Option (List Y09) :=
 some x15
noncomputable def Y0f.j2 (x27 : Int) (x37 : List Y09) : Option (((List Y09) × Int) ⊕ (List Y09)) :=
 (letV (IntKind.i64.wrap (x27 + 1)) fun x42 =>
 some (.inl (x37, x42)))
noncomputable def Y0f.j3 (x92 : Int) (x99 : List Y09) : Option (((List Y09) × Int) ⊕ (List Y09)) :=
 (letV (IntKind.i64.wrap (x92 + 1)) fun x104 =>
 some (.inl (x99, x104)))
noncomputable def Y0f.j4 (x5 : Y0y) (x27 : Int) (x92 : Int) (x108 : Int) (x112 : List Y09) : Option (((List Y09) × Int) ⊕ (List Y09)) :=
 ((idx x112 x108).bind fun x177 =>
 ((app 16 [] x177.Objects).bind fun x183 =>
 ((idx x5.Objects x27).bind fun x191 =>
 ((app 16 x183 [x191.Name]).bind fun x197 =>
 ((idx x112 x108).bind fun x202 =>
 (letV (x112.set (x108).toNat ({ x202 with Objects := x197 })) fun x277 =>
 Y0f.j3 x92 x277))))))
noncomputable def Y0f.j5 (x5 : Y0y) (x27 : Int) (x52 : List Y02) (x88 : List Y09) (x92 : Int) (x108 : Int) (x280 : Bool) : Option (((List Y09) × Int) ⊕ (List Y09)) :=
 (if x280 then ((app 56 x88 ([(⟨(⟨0, 0, []⟩ : Y02), []⟩ : Y09)])).bind fun x285 =>
 (letV (IntKind.i64.wrap (x108 + 1)) fun x291 =>
 (if 0 ≤ x291 ∧ x291 ≤ (x285.length : Int) then (if 0 ≤ x108 ∧ x108 ≤ (x285.length : Int) then (letV (cpyN x285 ((x291).toNat) ((x108).toNat)) fun x307 =>
 ((idx x52 x92).bind fun x308 =>
 ((idx x307 x108).bind fun x313 =>
 (letV (x307.set (x108).toNat (⟨x308, []⟩ : Y09)) fun x315 =>
 Y0f.j4 x5 x27 x92 x108 x315)))) else none) else none))) else Y0f.j4 x5 x27 x92 x108 x88)
noncomputable def Y0f.j6 (x5 : Y0y) (x27 : Int) (x52 : List Y02) (x88 : List Y09) (x92 : Int) (x108 : Int) : Option (((List Y09) × Int) ⊕ (List Y09)) :=
 (if (x108 == (x88.length : Int)) then Y0f.j5 x5 x27 x52 x88 x92 x108 true else ((idx x88 x108).bind fun x359 =>
 ((idx x52 x92).bind fun x365 =>
 Y0f.j5 x5 x27 x52 x88 x92 x108 (!decide ((⟨x359.Key.f_Type, x359.Key.N, x359.Key.S⟩ : Y02) = (⟨x365.f_Type, x365.N, x365.S⟩ : Y02))))))
noncomputable def Y0f.j7 (x423 : Int) (x428 : Bool) : Option ((Int) ⊕ (Int)) :=
 (if x428 then (letV (IntKind.i64.wrap (x423 + 1)) fun x431 =>
 some (.inl x431)) else some (.inr x423))
noncomputable def Y0f.l1 (x52 : List Y02) (x88 : List Y09) (x92 : Int) : Int → Option ((Int) ⊕ (Int)) := fun x423 =>
 (if (decide (x423 < (x88.length : Int))) then ((idx x88 x423).bind fun x433 =>
 ((idx x52 x92).bind fun x439 =>
 ((Y0U x433.Key x439).bind fun x444 =>
 Y0f.j7 x423 (decide (x444 < 0))))) else Y0f.j7 x423 false)
noncomputable def Y0f.l2 (x5 : Y0y) (x27 : Int) (x52 : List Y02) : ((List Y09) × Int) → Option (((List Y09) × Int) ⊕ (List Y09)) := fun (x88, x92) =>
 (if (decide (x92 < (x52.length : Int))) then ((Y19 (Y0f.l1 x52 x88 x92) 0).bind fun x545 => Y0f.j6 x5 x27 x52 x88 x92 x545) else some (.inr x88))
noncomputable def Y0f.l3 (x1 : Y0l) (x5 : Y0y) : ((List Y09) × Int) → Option (((List Y09) × Int) ⊕ (List Y09)) := fun (x23, x27) =>
 (if (decide (x27 < ((x5.Objects).length : Int))) then ((idx x5.Objects x27).bind fun x47 =>
 ((Y0H x1 x47).bind fun x52 =>
 ((Y19 (Y0f.l2 x5 x27 x52) (x23, 0)).bind fun x546 => Y0f.j2 x27 x546))) else some (.inr x23))
noncomputable def Y0f (x1 : Y0l) (x5 : Y0y) : Option (List Y09) :=
 ((Y19 (Y0f.l3 x1 x5) ([], 0)).bind fun x547 => Y0f.j1 x547)
noncomputable def Y0L.j1   : Option Bool :=
 some true
noncomputable def Y0L.j2 (x18 : Int) (x26 : Bool) : Option ((Int) ⊕ (Unit ⊕ Bool)) :=
 (if x26 then some (.inr (.inr false)) else (letV (IntKind.i64.wrap (x18 + 1)) fun x30 =>
 some (.inl x30)))
noncomputable def Y0L.l1 (x1 : List Y0c) (x4 : List Y09) : Int → Option ((Int) ⊕ (Unit ⊕ Bool)) := fun x18 =>
 (if (decide (x18 < (x1.length : Int))) then ((idx x1 x18).bind fun x31 =>
 ((Y2h x31.Key).bind fun x37 =>
 ((idx x4 x18).bind fun x40 =>
 (if (!decide ((⟨x37.f_Type, x37.N, x37.S⟩ : Y02) = (⟨x40.Key.f_Type, x40.Key.N, x40.Key.S⟩ : Y02))) then Y0L.j2 x18 true else ((idx x1 x18).bind fun x138 =>
 ((idx x4 x18).bind fun x144 =>
 ((Y0M x138.Objects x144.Objects).bind fun x150 =>
 Y0L.j2 x18 (!x150)))))))) else some (.inr (.inl ())))
noncomputable def Y0L (x1 : List Y0c) (x4 : List Y09) : Option Bool :=
 (if ((x1.length : Int) != (x4.length : Int)) then some false else ((Y19 (Y0L.l1 x1 x4) 0).bind fun b => match b with | .inl _ => Y0L.j1 | .inr x264 => some x264))
noncomputable def Y0C.j1   : Option Bool :=
 some true
noncomputable def Y0C.l1 (x1 : List Y0c) (x4 : List Y0c) (x7 : Y0c × Y0c → Option Bool) : Int → Option ((Int) ⊕ (Unit ⊕ Bool)) := fun x20 =>
 (if (decide (x20 < (x1.length : Int))) then ((idx x1 x20).bind fun x27 =>
 ((idx x4 x20).bind fun x34 =>
 ((x7 (x27, x34)).bind fun x41 =>
 (if (!x41) then some (.inr (.inr false)) else (letV (IntKind.i64.wrap (x20 + 1)) fun x44 =>
 some (.inl x44)))))) else some (.inr (.inl ())))
noncomputable def Y0C (x1 : List Y0c) (x4 : List Y0c) (x7 : Y0c × Y0c → Option Bool) : Option Bool :=
 (if ((x1.length : Int) != (x4.length : Int)) then some false else ((Y19 (Y0C.l1 x1 x4 x7) 0).bind fun b => match b with | .inl _ => Y0C.j1 | .inr x45 => some x45))
noncomputable def Y0J.j1   : Option Bool :=
 some true
noncomputable def Y0J.l1 (x1 : List (List UInt8)) (x4 : List (List UInt8)) : Int → Option ((Int) ⊕ (Unit ⊕ Bool)) := fun x18 =>
 (if (decide (x18 < (x1.length : Int))) then ((idx x1 x18).bind fun x26 =>
 ((idx x4 x18).bind fun x29 =>
 (if (x26 != x29) then some (.inr (.inr false)) else (letV (IntKind.i64.wrap (x18 + 1)) fun x58 =>
 some (.inl x58))))) else some (.inr (.inl ())))
noncomputable def Y0J (x1 : List (List UInt8)) (x4 : List (List UInt8)) : Option Bool :=
 (if ((x1.length : Int) != (x4.length : Int)) then some false else ((Y19 (Y0J.l1 x1 x4) 0).bind fun b => match b with | .inl _ => Y0J.j1 | .inr x59 => some x59))
noncomputable def Y1d.j1  (x14 : Bool) : Option Bool :=
 some x14
noncomputable def Y1d (x1 : Y0c) (x5 : Y0c) : Option Bool :=
 (if (decide ((⟨x1.Key.f_Type, x1.Key.N, x1.Key.S⟩ : Y05) = (⟨x5.Key.f_Type, x5.Key.N, x5.Key.S⟩ : Y05))) then ((Y0J x1.Objects x5.Objects).bind fun x29 =>
 Y1d.j1 x29) else Y1d.j1 false)
noncomputable def Y0W.j1  (x25 : Bool) : Option Bool :=
 some x25
noncomputable def Y0W.j2 (x1 : Y0N) (x5 : Y0N) (x15 : Y0l) (x19 : Y0l) : Option Bool :=
 (if (x15.Name == x19.Name) then (if (x15.Kind == x19.Kind) then (if (x15.f_Type == x19.f_Type) then ((Y0C x1.Entries x5.Entries (fun p : Y0c × Y0c => Y1d p.1 p.2)).bind fun x42 =>
 Y0W.j1 x42) else Y0W.j1 false) else Y0W.j1 false) else Y0W.j1 false)
noncomputable def Y0W (x1 : Y0N) (x5 : Y0N) : Option Bool :=
 Y0W.j2 x1 x5 x1.Field x5.Field
noncomputable def Y0G.j1   : Option Bool :=
 some true
noncomputable def Y0G.l1 (x1 : List Y06) (x4 : List Y06) (x7 : Y06 × Y06 → Option Bool) : Int → Option ((Int) ⊕ (Unit ⊕ Bool)) := fun x20 =>
 (if (decide (x20 < (x1.length : Int))) then ((idx x1 x20).bind fun x27 =>
 ((idx x4 x20).bind fun x34 =>
 ((x7 (x27, x34)).bind fun x41 =>
 (if (!x41) then some (.inr (.inr false)) else (letV (IntKind.i64.wrap (x20 + 1)) fun x44 =>
 some (.inl x44)))))) else some (.inr (.inl ())))
noncomputable def Y0G (x1 : List Y06) (x4 : List Y06) (x7 : Y06 × Y06 → Option Bool) : Option Bool :=
 (if ((x1.length : Int) != (x4.length : Int)) then some false else ((Y19 (Y0G.l1 x1 x4 x7) 0).bind fun b => match b with | .inl _ => Y0G.j1 | .inr x45 => some x45))
noncomputable def Y0E.j1   : Option Bool :=
 some true
noncomputable def Y0E.l1 (x1 : List Y07) (x4 : List Y07) (x7 : Y07 × Y07 → Option Bool) : Int → Option ((Int) ⊕ (Unit ⊕ Bool)) := fun x20 =>
 (if (decide (x20 < (x1.length : Int))) then ((idx x1 x20).bind fun x27 =>
 ((idx x4 x20).bind fun x34 =>
 ((x7 (x27, x34)).bind fun x41 =>
 (if (!x41) then some (.inr (.inr false)) else (letV (IntKind.i64.wrap (x20 + 1)) fun x44 =>
 some (.inl x44)))))) else some (.inr (.inl ())))
noncomputable def Y0E (x1 : List Y07) (x4 : List Y07) (x7 : Y07 × Y07 → Option Bool) : Option Bool :=
 (if ((x1.length : Int) != (x4.length : Int)) then some false else ((Y19 (Y0E.l1 x1 x4 x7) 0).bind fun b => match b with | .inl _ => Y0E.j1 | .inr x45 => some x45))
noncomputable def Y0Q.j1  (x14 : Bool) : Option Bool :=
 some x14
noncomputable def Y0Q (x1 : Y07) (x5 : Y07) : Option Bool :=
 (if (x1.Name == x5.Name) then (if (decide ((⟨x1.Register.Set, x1.Register.Tag, x1.Register.Client, x1.Register.Seq, x1.Register.N, x1.Register.S⟩ : Y0B) = (⟨x5.Register.Set, x5.Register.Tag, x5.Register.Client, x5.Register.Seq, x5.Register.N, x5.Register.S⟩ : Y0B))) then (if (x1.HasMax == x5.HasMax) then (if (x1.Max == x5.Max) then (if (x1.Sum == x5.Sum) then ((Y0J x1.Elems x5.Elems).bind fun x41 =>
 (if x41 then Y0Q.j1 (x1.Flag == x5.Flag) else Y0Q.j1 false)) else Y0Q.j1 false) else Y0Q.j1 false) else Y0Q.j1 false) else Y0Q.j1 false) else Y0Q.j1 false)
noncomputable def Y0Y.j1  (x14 : Bool) : Option Bool :=
 some x14
noncomputable def Y0Y (x1 : Y06) (x5 : Y06) : Option Bool :=
 (if (x1.Name == x5.Name) then ((Y0E x1.Fields x5.Fields (fun p : Y07 × Y07 => Y0Q p.1 p.2)).bind fun x25 =>
 Y0Y.j1 x25) else Y0Y.j1 false)
noncomputable def Y37 (x1 : Y0y) (x5 : Y0y) : Option Bool :=
 ((Y0G x1.Objects x5.Objects (fun p : Y06 × Y06 => Y0Y p.1 p.2)).bind fun x19 =>
 some x19)
noncomputable def Y0s.j1 (x25 : List Y06) (x31 : List ((List UInt8) × Bool)) : Option ((List UInt8 → Option Bool) × (List Y06)) :=
 some (fun s => List.lookup s x31, x25)
noncomputable def Y0s.l1  (x41 : List UInt8) (x42 : Y06) : List ((List UInt8) × Bool) → Option ((List ((List UInt8) × Bool)) ⊕ (Unit)) := fun x38 =>
 (letV (mset x38 x41 true) fun x51 =>
 some (.inl x51))
noncomputable def Y0s.j2  (x22 : List ((List UInt8) × Bool)) (x23 : List ((List UInt8) × Y06)) (x25 : List Y06) : Option ((List UInt8 → Option Bool) × (List Y06)) :=
 (Y8N x23 fun t37 =>
 ((Y4H (fun p : (List UInt8) × Y06 => Y0s.l1 p.1 p.2) t37 x22).bind fun b => match b with | .inl x38 => Y0s.j1 x25 x38 | .inr _ => none))
noncomputable def Y0s.j3 (x57 : List ((List UInt8) × Y06)) (x63 : Int) (x70 : Y06) (x84 : List ((List UInt8) × Bool)) (x86 : List Y06) : Option (((List ((List UInt8) × Bool)) × (List ((List UInt8) × Y06)) × (List Y06) × Int) ⊕ ((List ((List UInt8) × Bool)) × (List ((List UInt8) × Y06)) × (List Y06))) :=
 (letV (mdel x57 x70.Name) fun x92 =>
 (letV (IntKind.i64.wrap (x63 + 1)) fun x93 =>
 some (.inl (x84, x92, x86, x93))))
noncomputable def Y0s.j4 (x56 : List ((List UInt8) × Bool)) (x57 : List ((List UInt8) × Y06)) (x59 : List Y06) (x63 : Int) (x70 : Y06) (x96 : Bool) : Option (((List ((List UInt8) × Bool)) × (List ((List UInt8) × Y06)) × (List Y06) × Int) ⊕ ((List ((List UInt8) × Bool)) × (List ((List UInt8) × Y06)) × (List Y06))) :=
 (if x96 then (letV (mset x56 x70.Name true) fun x101 =>
 ((app 40 x59 [x70]).bind fun x103 =>
 Y0s.j3 x57 x63 x70 x101 x103)) else Y0s.j3 x57 x63 x70 x56 x59)
noncomputable def Y0s.l2 (x5 : Y0y) : ((List ((List UInt8) × Bool)) × (List ((List UInt8) × Y06)) × (List Y06) × Int) → Option (((List ((List UInt8) × Bool)) × (List ((List UInt8) × Y06)) × (List Y06) × Int) ⊕ ((List ((List UInt8) × Bool)) × (List ((List UInt8) × Y06)) × (List Y06))) := fun (x56, x57, x59, x63) =>
 (if (decide (x63 < ((x5.Objects).length : Int))) then ((idx x5.Objects x63).bind fun x70 =>
 (letV ((List.lookup x70.Name x57).getD (⟨[], []⟩ : Y06)) fun x78 =>
 (if (!((List.lookup x70.Name x57).isSome)) then Y0s.j4 x56 x57 x59 x63 x70 true else ((Y37 (⟨[x78]⟩ : Y0y) (⟨[x70]⟩ : Y0y)).bind fun x111 =>
 Y0s.j4 x56 x57 x59 x63 x70 (!x111))))) else some (.inr (x56, x57, x59)))
noncomputable def Y0s.j5 (x5 : Y0y) (x15 : List ((List UInt8) × Y06)) : Option ((List UInt8 → Option Bool) × (List Y06)) :=
 ((Y19 (Y0s.l2 x5) (([] : List ((List UInt8) × Bool)), x15, [], 0)).bind fun (x112, x113, x114) => Y0s.j2 x112 x113 x114)
noncomputable def Y0s.l3 (x1 : Y0y) : ((List ((List UInt8) × Y06)) × Int) → Option (((List ((List UInt8) × Y06)) × Int) ⊕ (List ((List UInt8) × Y06))) := fun (x119, x121) =>
 (if (decide (x121 < ((x1.Objects).length : Int))) then ((idx x1.Objects x121).bind fun x128 =>
 (letV (mset x119 x128.Name x128) fun x135 =>
 (letV (IntKind.i64.wrap (x121 + 1)) fun x136 =>
 some (.inl (x135, x136))))) else some (.inr x119))
noncomputable def Y0s (x1 : Y0y) (x5 : Y0y) : Option ((List UInt8 → Option Bool) × (List Y06)) :=
 ((Y19 (Y0s.l3 x1) (([] : List ((List UInt8) × Y06)), 0)).bind fun x137 => Y0s.j5 x5 x137)
noncomputable def Y0z.j1 (x1 : Y0N) (x35 : List Y0r) : Option Y0N :=
 ((Y0A x1.Field x35).bind fun x44 =>
 some (⟨(⟨x44.Field.Name, x44.Field.Kind, x44.Field.f_Type, x44.Field.At⟩ : Y0l), x44.Entries⟩ : Y0N))
noncomputable def Y0z.j2 (x57 : Int) (x64 : List Y0r) : Option (((List Y0r) × Int) ⊕ (List Y0r)) :=
 (letV (IntKind.i64.wrap (x57 + 1)) fun x69 =>
 some (.inl (x64, x69)))
noncomputable def Y0z.j3 (x86 : Int) (x93 : List Y0r) : Option (((List Y0r) × Int) ⊕ (List Y0r)) :=
 (letV (IntKind.i64.wrap (x86 + 1)) fun x98 =>
 some (.inl (x93, x98)))
noncomputable def Y0z.l1 (x19 : List UInt8 → Option Bool) (x71 : Y0c) : ((List Y0r) × Int) → Option (((List Y0r) × Int) ⊕ (List Y0r)) := fun (x82, x86) =>
 (if (decide (x86 < ((x71.Objects).length : Int))) then ((idx x71.Objects x86).bind fun x100 =>
 (letV ((x19 x100).getD false) fun x104 =>
 (if (!x104) then ((app 48 x82 [(⟨x71.Key, x100⟩ : Y0r)]).bind fun x111 =>
 Y0z.j3 x86 x111) else Y0z.j3 x86 x82))) else some (.inr x82))
noncomputable def Y0z.l2 (x1 : Y0N) (x19 : List UInt8 → Option Bool) : ((List Y0r) × Int) → Option (((List Y0r) × Int) ⊕ (List Y0r)) := fun (x53, x57) =>
 (if (decide (x57 < ((x1.Entries).length : Int))) then ((idx x1.Entries x57).bind fun x71 =>
 ((Y19 (Y0z.l1 x19 x71) (x53, 0)).bind fun x116 => Y0z.j2 x57 x116)) else some (.inr x53))
noncomputable def Y0z (x1 : Y0N) (x5 : Y0y) (x9 : Y0y) : Option Y0N :=
 ((Y0s x5 x9).bind fun (x19, x20) =>
 ((Y0R x1.Field x20).bind fun x29 =>
 ((Y19 (Y0z.l2 x1 x19) (x29, 0)).bind fun x117 => Y0z.j1 x1 x117)))
noncomputable def Y0X.j1  (x84 : Bool) : Option Bool :=
 some x84
noncomputable def Y0X (x1 : List Int) (x4 : List Int) (x7 : Int) (x8 : Int) (x9 : Int) : Option Bool :=
 ((Y0o x1).bind fun x12 =>
 ((Y0Z x12 x8).bind fun x17 =>
 ((Y1X x17).bind fun x21 =>
 ((Y0Z x12 x9).bind fun x24 =>
 ((Y1X x24).bind fun x28 =>
 ((Y0o x4).bind fun x34 =>
 ((Y1X x34).bind fun x38 =>
 ((Y1b x7).bind fun x43 =>
 ((Y1x x43 x21).bind fun x48 =>
 ((Y0z x48 x21 x28).bind fun x51 =>
 ((Y0z x51 x28 x38).bind fun x77 =>
 ((Y0f x43 x28).bind fun x105 =>
 ((Y0L x51.Entries x105).bind fun x108 =>
 (if x108 then ((Y1x x43 x28).bind fun x110 =>
 ((Y0W x51 x110).bind fun x113 =>
 (if x113 then ((Y0f x43 x38).bind fun x115 =>
 ((Y0L x77.Entries x115).bind fun x118 =>
 (if x118 then ((Y1x x43 x38).bind fun x120 =>
 ((Y0W (⟨(⟨x77.Field.Name, x77.Field.Kind, x77.Field.f_Type, x77.Field.At⟩ : Y0l), x77.Entries⟩ : Y0N) x120).bind fun x123 =>
 (if x123 then ((Y0P).bind fun x125 =>
 Y0X.j1 x125) else Y0X.j1 false))) else Y0X.j1 false))) else Y0X.j1 false))) else Y0X.j1 false))))))))))))))
end
section
open Go Go.RowKit Go.Proofs.YtpfgdjfiimknlaaGreatL
set_option maxRecDepth 20000
def Y0F : Ty Y0D := tIso (Y2I (tInt .i64) (Y2I tStr (Y2I tStr (Y2I (tInt .i64) tStr)))) fun x : Y0D => (x.Kind, x.Object, x.Field, x.N, x.S)
def Y0h : Ty Y0j := tIso (Y2I (tInt .i64) (Y2I (tInt .i64) (Y2I (tInt .i64) (Y0a Y0F)))) fun x : Y0j => (x.Client, x.Seq, x.Tag, x.Effects)
theorem Y3t : Fld Y0h (tInt .i64) 0 Y0j.Client (fun x y => { x with Client := y }) := (Fld.iso (Fld.fst _ _) (fun _ => rfl) (fun _ _ => rfl))
theorem Y46 : Fld Y0h (tInt .i64) 1 Y0j.Seq (fun x y => { x with Seq := y }) := (Fld.iso (Fld.snd (Fld.fst _ _)) (fun _ => rfl) (fun _ _ => rfl))
theorem Y5u : Fld Y0h (tInt .i64) 2 Y0j.Tag (fun x y => { x with Tag := y }) := (Fld.iso (Fld.snd (Fld.snd (Fld.fst _ _))) (fun _ => rfl) (fun _ _ => rfl))
theorem Y4x : Fld Y0h (Y0a Y0F) 3 Y0j.Effects (fun x y => { x with Effects := y }) := (Fld.iso (Fld.snd (Fld.snd (Fld.snd Fld.self))) (fun _ => rfl) (fun _ _ => rfl))
def Y1j : Ty Y0B := tIso (Y2I Y3C (Y2I (tInt .i64) (Y2I (tInt .i64) (Y2I (tInt .i64) (Y2I (tInt .i64) tStr))))) fun x : Y0B => (x.Set, x.Tag, x.Client, x.Seq, x.N, x.S)
theorem Y2v : Fld Y1j Y3C 0 Y0B.Set (fun x y => { x with Set := y }) := (Fld.iso (Fld.fst _ _) (fun _ => rfl) (fun _ _ => rfl))
theorem Y4J : Fld Y1j (tInt .i64) 1 Y0B.Tag (fun x y => { x with Tag := y }) := (Fld.iso (Fld.snd (Fld.fst _ _)) (fun _ => rfl) (fun _ _ => rfl))
theorem Y4a : Fld Y1j (tInt .i64) 2 Y0B.Client (fun x y => { x with Client := y }) := (Fld.iso (Fld.snd (Fld.snd (Fld.fst _ _))) (fun _ => rfl) (fun _ _ => rfl))
theorem Y4K : Fld Y1j (tInt .i64) 3 Y0B.Seq (fun x y => { x with Seq := y }) := (Fld.iso (Fld.snd (Fld.snd (Fld.snd (Fld.fst _ _)))) (fun _ => rfl) (fun _ _ => rfl))
theorem Y5k : Fld Y1j (tInt .i64) 4 Y0B.N (fun x y => { x with N := y }) := (Fld.iso (Fld.snd (Fld.snd (Fld.snd (Fld.snd (Fld.fst _ _))))) (fun _ => rfl) (fun _ _ => rfl))
theorem Y5j : Fld Y1j tStr 5 Y0B.S (fun x y => { x with S := y }) := (Fld.iso (Fld.snd (Fld.snd (Fld.snd (Fld.snd (Fld.snd Fld.self))))) (fun _ => rfl) (fun _ _ => rfl))
def Y0d : Ty Y05 := tIso (Y2I (tInt .i64) (Y2I (tInt .i64) tStr)) fun x : Y05 => (x.f_Type, x.N, x.S)
theorem Y33 : Fld Y0d (tInt .i64) 0 Y05.f_Type (fun x y => { x with f_Type := y }) := (Fld.iso (Fld.fst _ _) (fun _ => rfl) (fun _ _ => rfl))
theorem Y40 : Fld Y0d (tInt .i64) 1 Y05.N (fun x y => { x with N := y }) := (Fld.iso (Fld.snd (Fld.fst _ _)) (fun _ => rfl) (fun _ _ => rfl))
theorem Y3Z : Fld Y0d tStr 2 Y05.S (fun x y => { x with S := y }) := (Fld.iso (Fld.snd (Fld.snd Fld.self)) (fun _ => rfl) (fun _ _ => rfl))
def Y0x : Ty Y0r := tIso (Y2I Y0d tStr) fun x : Y0r => (x.f_key, x.f_object)
theorem Y52 : Fld Y0x Y0d 0 Y0r.f_key (fun x y => { x with f_key := y }) := (Fld.iso (Fld.fst _ _) (fun _ => rfl) (fun _ _ => rfl))
theorem Y4k : Fld Y0x tStr 3 Y0r.f_object (fun x y => { x with f_object := y }) := (Fld.iso (Fld.snd Fld.self) (fun _ => rfl) (fun _ _ => rfl))
def Y0q : Ty Y07 := tIso (Y2I tStr (Y2I Y1j (Y2I Y3C (Y2I (tInt .i64) (Y2I (tInt .i64) (Y2I (Y0a tStr) Y3C)))))) fun x : Y07 => (x.Name, x.Register, x.HasMax, x.Max, x.Sum, x.Elems, x.Flag)
theorem Y38 : Fld Y0q tStr 0 Y07.Name (fun x y => { x with Name := y }) := (Fld.iso (Fld.fst _ _) (fun _ => rfl) (fun _ _ => rfl))
theorem Y1P : Fld Y0q Y1j 1 Y07.Register (fun x y => { x with Register := y }) := (Fld.iso (Fld.snd (Fld.fst _ _)) (fun _ => rfl) (fun _ _ => rfl))
theorem Y3s : Fld Y0q Y3C 7 Y07.HasMax (fun x y => { x with HasMax := y }) := (Fld.iso (Fld.snd (Fld.snd (Fld.fst _ _))) (fun _ => rfl) (fun _ _ => rfl))
theorem Y45 : Fld Y0q (tInt .i64) 8 Y07.Max (fun x y => { x with Max := y }) := (Fld.iso (Fld.snd (Fld.snd (Fld.snd (Fld.fst _ _)))) (fun _ => rfl) (fun _ _ => rfl))
theorem Y44 : Fld Y0q (tInt .i64) 9 Y07.Sum (fun x y => { x with Sum := y }) := (Fld.iso (Fld.snd (Fld.snd (Fld.snd (Fld.snd (Fld.fst _ _))))) (fun _ => rfl) (fun _ _ => rfl))
theorem Y26 : Fld Y0q (Y0a tStr) 10 Y07.Elems (fun x y => { x with Elems := y }) := (Fld.iso (Fld.snd (Fld.snd (Fld.snd (Fld.snd (Fld.snd (Fld.fst _ _)))))) (fun _ => rfl) (fun _ _ => rfl))
theorem Y3J : Fld Y0q Y3C 11 Y07.Flag (fun x y => { x with Flag := y }) := (Fld.iso (Fld.snd (Fld.snd (Fld.snd (Fld.snd (Fld.snd (Fld.snd Fld.self)))))) (fun _ => rfl) (fun _ _ => rfl))
def Y08 : Ty Y06 := tIso (Y2I tStr (Y0a Y0q)) fun x : Y06 => (x.Name, x.Fields)
theorem Y1F : Fld Y08 tStr 0 Y06.Name (fun x y => { x with Name := y }) := (Fld.iso (Fld.fst _ _) (fun _ => rfl) (fun _ _ => rfl))
theorem Y1D : Fld Y08 (Y0a Y0q) 1 Y06.Fields (fun x y => { x with Fields := y }) := (Fld.iso (Fld.snd Fld.self) (fun _ => rfl) (fun _ _ => rfl))
def Y0m : Ty Y0y := tIso (Y0a Y08) fun x : Y0y => x.Objects
theorem Y1g : Fld Y0m (Y0a Y08) 0 Y0y.Objects (fun x y => { x with Objects := y }) := (Fld.iso Fld.self (fun _ => rfl) (fun _ _ => rfl))
def Y0g : Ty Y0l := tIso (Y2I tStr (Y2I (tInt .i64) (Y2I (tInt .i64) (tInt .i64)))) fun x : Y0l => (x.Name, x.Kind, x.f_Type, x.At)
theorem Y2t : Fld Y0g tStr 0 Y0l.Name (fun x y => { x with Name := y }) := (Fld.iso (Fld.fst _ _) (fun _ => rfl) (fun _ _ => rfl))
theorem Y1z : Fld Y0g (tInt .i64) 1 Y0l.Kind (fun x y => { x with Kind := y }) := (Fld.iso (Fld.snd (Fld.fst _ _)) (fun _ => rfl) (fun _ _ => rfl))
theorem Y1u : Fld Y0g (tInt .i64) 2 Y0l.f_Type (fun x y => { x with f_Type := y }) := (Fld.iso (Fld.snd (Fld.snd (Fld.fst _ _))) (fun _ => rfl) (fun _ _ => rfl))
def Y0b : Ty Y0c := tIso (Y2I Y0d (Y0a tStr)) fun x : Y0c => (x.Key, x.Objects)
theorem Y21 : Fld Y0b Y0d 0 Y0c.Key (fun x y => { x with Key := y }) := (Fld.iso (Fld.fst _ _) (fun _ => rfl) (fun _ _ => rfl))
theorem Y24 : Fld Y0b (Y0a tStr) 3 Y0c.Objects (fun x y => { x with Objects := y }) := (Fld.iso (Fld.snd Fld.self) (fun _ => rfl) (fun _ _ => rfl))
def Y0e : Ty Y0N := tIso (Y2I Y0g (Y0a Y0b)) fun x : Y0N => (x.Field, x.Entries)
theorem Y2u : Fld Y0e Y0g 0 Y0N.Field (fun x y => { x with Field := y }) := (Fld.iso (Fld.fst _ _) (fun _ => rfl) (fun _ _ => rfl))
theorem Y1c : Fld Y0e (Y0a Y0b) 4 Y0N.Entries (fun x y => { x with Entries := y }) := (Fld.iso (Fld.snd Fld.self) (fun _ => rfl) (fun _ _ => rfl))
def Y04 : Ty Y02 := tIso (Y2I (tInt .i64) (Y2I (tInt .i64) tStr)) fun x : Y02 => (x.f_Type, x.N, x.S)
theorem Y1G : Fld Y04 (tInt .i64) 0 Y02.f_Type (fun x y => { x with f_Type := y }) := (Fld.iso (Fld.fst _ _) (fun _ => rfl) (fun _ _ => rfl))
theorem Y23 : Fld Y04 (tInt .i64) 1 Y02.N (fun x y => { x with N := y }) := (Fld.iso (Fld.snd (Fld.fst _ _)) (fun _ => rfl) (fun _ _ => rfl))
theorem Y2M : Fld Y04 tStr 2 Y02.S (fun x y => { x with S := y }) := (Fld.iso (Fld.snd (Fld.snd Fld.self)) (fun _ => rfl) (fun _ _ => rfl))
def Y03 : Ty Y09 := tIso (Y2I Y04 (Y0a tStr)) fun x : Y09 => (x.Key, x.Objects)
theorem Y1I : Fld Y03 Y04 0 Y09.Key (fun x y => { x with Key := y }) := (Fld.iso (Fld.fst _ _) (fun _ => rfl) (fun _ _ => rfl))
theorem Y1U : Fld Y03 (Y0a tStr) 3 Y09.Objects (fun x y => { x with Objects := y }) := (Fld.iso (Fld.snd Fld.self) (fun _ => rfl) (fun _ _ => rfl))
abbrev Y1M (x : Y05) : Value := .agg ([.int .i64 x.f_Type, .int .i64 x.N, bstr x.S] : List Value).toArray
theorem EI105 : EI Tryz.prog 105 (.agg #[.int .i64 0, .int .i64 0, .string ⟨#[]⟩, .string ⟨#[]⟩]) 4 48 := ⟨by kernel_rfl, rfl, by decide⟩
theorem EI41 : EI Tryz.prog 41 (.agg #[.string ⟨#[]⟩, .slice none 0 0]) 2 40 := ⟨by kernel_rfl, rfl, by decide⟩
theorem EI45 : EI Tryz.prog 45 (.agg #[.int .i64 0, .int .i64 0, .string ⟨#[]⟩]) 3 32 := ⟨by kernel_rfl, rfl, by decide⟩
theorem EI47 : EI Tryz.prog 47 (.agg #[.int .i64 0, .int .i64 0, .string ⟨#[]⟩]) 3 32 := ⟨by kernel_rfl, rfl, by decide⟩
theorem EI65 : EI Tryz.prog 65 (.agg #[.int .i64 0, .int .i64 0, .string ⟨#[]⟩, .slice none 0 0]) 4 56 := ⟨by kernel_rfl, rfl, by decide⟩
theorem EI74 : EI Tryz.prog 74 (.agg #[.int .i64 0, .int .i64 0, .int .i64 0, .slice none 0 0]) 4 48 := ⟨by kernel_rfl, rfl, by decide⟩
theorem EI86 : EI Tryz.prog 86 (.agg #[.string ⟨#[]⟩, .bool false, .int .i64 0, .int .i64 0, .int .i64 0, .int .i64 0, .string ⟨#[]⟩, .bool false, .int .i64 0, .int .i64 0, .slice none 0 0, .bool false]) 12 128 := ⟨by kernel_rfl, rfl, by decide⟩
theorem EI9 : EI Tryz.prog 9 (.string ⟨#[]⟩) 1 16 := ⟨by kernel_rfl, rfl, by decide⟩
theorem EI92 : EI Tryz.prog 92 (.agg #[.int .i64 0, .int .i64 0, .string ⟨#[]⟩, .slice none 0 0]) 4 56 := ⟨by kernel_rfl, rfl, by decide⟩
theorem EI96 : EI Tryz.prog 96 (.agg #[.int .i64 0, .string ⟨#[]⟩, .string ⟨#[]⟩, .int .i64 0, .string ⟨#[]⟩]) 5 64 := ⟨by kernel_rfl, rfl, by decide⟩
theorem FA105_0 : FA Tryz.prog 105 0 0 := fun _ _ => by kernel_rfl
theorem FA105_1 : FA Tryz.prog 105 1 3 := fun _ _ => by kernel_rfl
theorem Y4l : FA Tryz.prog 25 0 0 := fun _ _ => by kernel_rfl
theorem Y8G : FA Tryz.prog 31 0 0 := fun _ _ => by kernel_rfl
theorem Y4B : FA Tryz.prog 31 1 1 := fun _ _ => by kernel_rfl
theorem Y57 : FA Tryz.prog 31 2 2 := fun _ _ => by kernel_rfl
theorem Y8F : FA Tryz.prog 35 0 0 := fun _ _ => by kernel_rfl
theorem Y3e : FA Tryz.prog 35 1 4 := fun _ _ => by kernel_rfl
theorem Y56 : FA Tryz.prog 41 0 0 := fun _ _ => by kernel_rfl
theorem Y55 : FA Tryz.prog 41 1 1 := fun _ _ => by kernel_rfl
theorem Y8E : FA Tryz.prog 45 0 0 := fun _ _ => by kernel_rfl
theorem Y8D : FA Tryz.prog 45 1 1 := fun _ _ => by kernel_rfl
theorem FA45_2 : FA Tryz.prog 45 2 2 := fun _ _ => by kernel_rfl
theorem Y7x : FA Tryz.prog 47 0 0 := fun _ _ => by kernel_rfl
theorem Y7w : FA Tryz.prog 47 1 1 := fun _ _ => by kernel_rfl
theorem Y7v : FA Tryz.prog 47 2 2 := fun _ _ => by kernel_rfl
theorem Y54 : FA Tryz.prog 65 0 0 := fun _ _ => by kernel_rfl
theorem Y53 : FA Tryz.prog 65 1 3 := fun _ _ => by kernel_rfl
theorem Y9T : FA Tryz.prog 74 0 0 := fun _ _ => by kernel_rfl
theorem Y9S : FA Tryz.prog 74 1 1 := fun _ _ => by kernel_rfl
theorem Y9R : FA Tryz.prog 74 2 2 := fun _ _ => by kernel_rfl
theorem Y8C : FA Tryz.prog 74 3 3 := fun _ _ => by kernel_rfl
theorem Y6v : FA Tryz.prog 84 0 0 := fun _ _ => by kernel_rfl
theorem FA84_1 : FA Tryz.prog 84 1 1 := fun _ _ => by kernel_rfl
theorem FA84_2 : FA Tryz.prog 84 2 2 := fun _ _ => by kernel_rfl
theorem FA84_3 : FA Tryz.prog 84 3 3 := fun _ _ => by kernel_rfl
theorem FA84_4 : FA Tryz.prog 84 4 4 := fun _ _ => by kernel_rfl
theorem FA84_5 : FA Tryz.prog 84 5 5 := fun _ _ => by kernel_rfl
theorem Y6u : FA Tryz.prog 86 0 0 := fun _ _ => by kernel_rfl
theorem Y48 : FA Tryz.prog 86 1 1 := fun _ _ => by kernel_rfl
theorem Y8B : FA Tryz.prog 86 2 7 := fun _ _ => by kernel_rfl
theorem Y8A : FA Tryz.prog 86 3 8 := fun _ _ => by kernel_rfl
theorem Y8z : FA Tryz.prog 86 4 9 := fun _ _ => by kernel_rfl
theorem Y47 : FA Tryz.prog 86 5 10 := fun _ _ => by kernel_rfl
theorem Y9Q : FA Tryz.prog 86 6 11 := fun _ _ => by kernel_rfl
theorem Y8y : FA Tryz.prog 92 0 0 := fun _ _ => by kernel_rfl
theorem Y9P : FA Tryz.prog 92 1 3 := fun _ _ => by kernel_rfl
theorem Y6t : FA Tryz.prog 96 0 0 := fun _ _ => by kernel_rfl
theorem Y8x : FA Tryz.prog 96 1 1 := fun _ _ => by kernel_rfl
theorem Y8w : FA Tryz.prog 96 2 2 := fun _ _ => by kernel_rfl
theorem Y69 : FA Tryz.prog 96 3 3 := fun _ _ => by kernel_rfl
theorem Y7u : FA Tryz.prog 96 4 4 := fun _ _ => by kernel_rfl
theorem FN10 : FN Tryz.prog 10 := fun _ _ => by kernel_rfl
theorem FN11 : FN Tryz.prog 11 := fun _ _ => by kernel_rfl
theorem FN113 : FN Tryz.prog 113 := fun _ _ => by kernel_rfl
theorem FN114 : FN Tryz.prog 114 := fun _ _ => by kernel_rfl
theorem FN12 : FN Tryz.prog 12 := fun _ _ => by kernel_rfl
theorem FN13 : FN Tryz.prog 13 := fun _ _ => by kernel_rfl
theorem FN14 : FN Tryz.prog 14 := fun _ _ => by kernel_rfl
theorem FN15 : FN Tryz.prog 15 := fun _ _ => by kernel_rfl
theorem FN16 : FN Tryz.prog 16 := fun _ _ => by kernel_rfl
theorem FN17 : FN Tryz.prog 17 := fun _ _ => by kernel_rfl
theorem FN18 : FN Tryz.prog 18 := fun _ _ => by kernel_rfl
theorem FN21 : FN Tryz.prog 21 := fun _ _ => by kernel_rfl
theorem FN22 : FN Tryz.prog 22 := fun _ _ => by kernel_rfl
theorem FN24 : FN Tryz.prog 24 := fun _ _ => by kernel_rfl
theorem FN26 : FN Tryz.prog 26 := fun _ _ => by kernel_rfl
theorem FN27 : FN Tryz.prog 27 := fun _ _ => by kernel_rfl
theorem FN28 : FN Tryz.prog 28 := fun _ _ => by kernel_rfl
theorem FN29 : FN Tryz.prog 29 := fun _ _ => by kernel_rfl
theorem FN30 : FN Tryz.prog 30 := fun _ _ => by kernel_rfl
theorem FN31 : FN Tryz.prog 31 := fun _ _ => by kernel_rfl
theorem FN32 : FN Tryz.prog 32 := fun _ _ => by kernel_rfl
theorem FN33 : FN Tryz.prog 33 := fun _ _ => by kernel_rfl
theorem FN34 : FN Tryz.prog 34 := fun _ _ => by kernel_rfl
theorem FN35 : FN Tryz.prog 35 := fun _ _ => by kernel_rfl
theorem FN36 : FN Tryz.prog 36 := fun _ _ => by kernel_rfl
theorem FN37 : FN Tryz.prog 37 := fun _ _ => by kernel_rfl
theorem FN38 : FN Tryz.prog 38 := fun _ _ => by kernel_rfl
theorem FN39 : FN Tryz.prog 39 := fun _ _ => by kernel_rfl
theorem FN40 : FN Tryz.prog 40 := fun _ _ => by kernel_rfl
theorem FN41 : FN Tryz.prog 41 := fun _ _ => by kernel_rfl
theorem FN42 : FN Tryz.prog 42 := fun _ _ => by kernel_rfl
theorem FN44 : FN Tryz.prog 44 := fun _ _ => by kernel_rfl
theorem FN45 : FN Tryz.prog 45 := fun _ _ => by kernel_rfl
theorem FN46 : FN Tryz.prog 46 := fun _ _ => by kernel_rfl
theorem FN47 : FN Tryz.prog 47 := fun _ _ => by kernel_rfl
theorem FN48 : FN Tryz.prog 48 := fun _ _ => by kernel_rfl
theorem FN49 : FN Tryz.prog 49 := fun _ _ => by kernel_rfl
theorem FN50 : FN Tryz.prog 50 := fun _ _ => by kernel_rfl
theorem FN51 : FN Tryz.prog 51 := fun _ _ => by kernel_rfl
theorem FN52 : FN Tryz.prog 52 := fun _ _ => by kernel_rfl
theorem FN55 : FN Tryz.prog 55 := fun _ _ => by kernel_rfl
theorem FN56 : FN Tryz.prog 56 := fun _ _ => by kernel_rfl
theorem FN57 : FN Tryz.prog 57 := fun _ _ => by kernel_rfl
theorem FN58 : FN Tryz.prog 58 := fun _ _ => by kernel_rfl
theorem FN60 : FN Tryz.prog 60 := fun _ _ => by kernel_rfl
theorem FN63 : FN Tryz.prog 63 := fun _ _ => by kernel_rfl
theorem FN64 : FN Tryz.prog 64 := fun _ _ => by kernel_rfl
theorem FN65 : FN Tryz.prog 65 := fun _ _ => by kernel_rfl
theorem FN66 : FN Tryz.prog 66 := fun _ _ => by kernel_rfl
theorem FN67 : FN Tryz.prog 67 := fun _ _ => by kernel_rfl
theorem FN68 : FN Tryz.prog 68 := fun _ _ => by kernel_rfl
theorem FN69 : FN Tryz.prog 69 := fun _ _ => by kernel_rfl
theorem FN70 : FN Tryz.prog 70 := fun _ _ => by kernel_rfl
theorem FN75 : FN Tryz.prog 75 := fun _ _ => by kernel_rfl
theorem FN76 : FN Tryz.prog 76 := fun _ _ => by kernel_rfl
theorem FN79 : FN Tryz.prog 79 := fun _ _ => by kernel_rfl
theorem FN9 : FN Tryz.prog 9 := fun _ _ => by kernel_rfl
theorem FN91 : FN Tryz.prog 91 := fun _ _ => by kernel_rfl
theorem FN92 : FN Tryz.prog 92 := fun _ _ => by kernel_rfl
theorem FN93 : FN Tryz.prog 93 := fun _ _ => by kernel_rfl
theorem FN95 : FN Tryz.prog 95 := fun _ _ => by kernel_rfl
theorem FN96 : FN Tryz.prog 96 := fun _ _ => by kernel_rfl
theorem FN98 : FN Tryz.prog 98 := fun _ _ => by kernel_rfl
theorem PL105 : PL Tryz.prog 105 [(0, 3), (3, 1)] [.int .i64 0, .int .i64 0, .string ⟨#[]⟩, .string ⟨#[]⟩] := ⟨⟨_, Tryz.underlying105, fun _ => by kernel_rfl⟩, .agg #[.int .i64 0, .int .i64 0, .string ⟨#[]⟩, .string ⟨#[]⟩], fun _ => by kernel_rfl, rfl⟩
theorem PL25 : PL Tryz.prog 25 [(0, 1)] [.slice none 0 0] := ⟨⟨_, Tryz.underlying25, fun _ => by kernel_rfl⟩, .agg #[.slice none 0 0], fun _ => by kernel_rfl, rfl⟩
theorem PL31 : PL Tryz.prog 31 [(0, 1), (1, 1), (2, 1), (3, 1)] [.string ⟨#[]⟩, .int .i64 0, .int .i64 0, .int .i64 0] := ⟨⟨_, Tryz.underlying31, fun _ => by kernel_rfl⟩, .agg #[.string ⟨#[]⟩, .int .i64 0, .int .i64 0, .int .i64 0], fun _ => by kernel_rfl, rfl⟩
theorem PL35 : PL Tryz.prog 35 [(0, 4), (4, 1)] [.string ⟨#[]⟩, .int .i64 0, .int .i64 0, .int .i64 0, .slice none 0 0] := ⟨⟨_, Tryz.underlying35, fun _ => by kernel_rfl⟩, .agg #[.string ⟨#[]⟩, .int .i64 0, .int .i64 0, .int .i64 0, .slice none 0 0], fun _ => by kernel_rfl, rfl⟩
theorem PL41 : PL Tryz.prog 41 [(0, 1), (1, 1)] [.string ⟨#[]⟩, .slice none 0 0] := ⟨⟨_, Tryz.underlying41, fun _ => by kernel_rfl⟩, .agg #[.string ⟨#[]⟩, .slice none 0 0], fun _ => by kernel_rfl, rfl⟩
theorem PL45 : PL Tryz.prog 45 [(0, 1), (1, 1), (2, 1)] [.int .i64 0, .int .i64 0, .string ⟨#[]⟩] := ⟨⟨_, Tryz.underlying45, fun _ => by kernel_rfl⟩, .agg #[.int .i64 0, .int .i64 0, .string ⟨#[]⟩], fun _ => by kernel_rfl, rfl⟩
theorem PL47 : PL Tryz.prog 47 [(0, 1), (1, 1), (2, 1)] [.int .i64 0, .int .i64 0, .string ⟨#[]⟩] := ⟨⟨_, Tryz.underlying47, fun _ => by kernel_rfl⟩, .agg #[.int .i64 0, .int .i64 0, .string ⟨#[]⟩], fun _ => by kernel_rfl, rfl⟩
theorem PL65 : PL Tryz.prog 65 [(0, 3), (3, 1)] [.int .i64 0, .int .i64 0, .string ⟨#[]⟩, .slice none 0 0] := ⟨⟨_, Tryz.underlying65, fun _ => by kernel_rfl⟩, .agg #[.int .i64 0, .int .i64 0, .string ⟨#[]⟩, .slice none 0 0], fun _ => by kernel_rfl, rfl⟩
theorem PL74 : PL Tryz.prog 74 [(0, 1), (1, 1), (2, 1), (3, 1)] [.int .i64 0, .int .i64 0, .int .i64 0, .slice none 0 0] := ⟨⟨_, Tryz.underlying74, fun _ => by kernel_rfl⟩, .agg #[.int .i64 0, .int .i64 0, .int .i64 0, .slice none 0 0], fun _ => by kernel_rfl, rfl⟩
theorem PL84 : PL Tryz.prog 84 [(0, 1), (1, 1), (2, 1), (3, 1), (4, 1), (5, 1)] [.bool false, .int .i64 0, .int .i64 0, .int .i64 0, .int .i64 0, .string ⟨#[]⟩] := ⟨⟨_, Tryz.underlying84, fun _ => by kernel_rfl⟩, .agg #[.bool false, .int .i64 0, .int .i64 0, .int .i64 0, .int .i64 0, .string ⟨#[]⟩], fun _ => by kernel_rfl, rfl⟩
theorem PL86 : PL Tryz.prog 86 [(0, 1), (1, 6), (7, 1), (8, 1), (9, 1), (10, 1), (11, 1)] [.string ⟨#[]⟩, .bool false, .int .i64 0, .int .i64 0, .int .i64 0, .int .i64 0, .string ⟨#[]⟩, .bool false, .int .i64 0, .int .i64 0, .slice none 0 0, .bool false] := ⟨⟨_, Tryz.underlying86, fun _ => by kernel_rfl⟩, .agg #[.string ⟨#[]⟩, .bool false, .int .i64 0, .int .i64 0, .int .i64 0, .int .i64 0, .string ⟨#[]⟩, .bool false, .int .i64 0, .int .i64 0, .slice none 0 0, .bool false], fun _ => by kernel_rfl, rfl⟩
theorem PL92 : PL Tryz.prog 92 [(0, 3), (3, 1)] [.int .i64 0, .int .i64 0, .string ⟨#[]⟩, .slice none 0 0] := ⟨⟨_, Tryz.underlying92, fun _ => by kernel_rfl⟩, .agg #[.int .i64 0, .int .i64 0, .string ⟨#[]⟩, .slice none 0 0], fun _ => by kernel_rfl, rfl⟩
theorem PL96 : PL Tryz.prog 96 [(0, 1), (1, 1), (2, 1), (3, 1), (4, 1)] [.int .i64 0, .string ⟨#[]⟩, .string ⟨#[]⟩, .int .i64 0, .string ⟨#[]⟩] := ⟨⟨_, Tryz.underlying96, fun _ => by kernel_rfl⟩, .agg #[.int .i64 0, .string ⟨#[]⟩, .string ⟨#[]⟩, .int .i64 0, .string ⟨#[]⟩], fun _ => by kernel_rfl, rfl⟩
theorem PS22 : PS Tryz.prog 22 3 1 [.int .i64 0] := ⟨by kernel_rfl, fun _ => by kernel_rfl, .int .i64 0, fun _ => by kernel_rfl, rfl⟩
theorem PS23 : PS Tryz.prog 23 41 2 [.string ⟨#[]⟩, .slice none 0 0] := ⟨by kernel_rfl, fun _ => by kernel_rfl, .agg #[.string ⟨#[]⟩, .slice none 0 0], fun _ => by kernel_rfl, rfl⟩
theorem PS28 : PS Tryz.prog 28 74 4 [.int .i64 0, .int .i64 0, .int .i64 0, .slice none 0 0] := ⟨by kernel_rfl, fun _ => by kernel_rfl, .agg #[.int .i64 0, .int .i64 0, .int .i64 0, .slice none 0 0], fun _ => by kernel_rfl, rfl⟩
theorem PS33 : PS Tryz.prog 33 65 4 [.int .i64 0, .int .i64 0, .string ⟨#[]⟩, .slice none 0 0] := ⟨by kernel_rfl, fun _ => by kernel_rfl, .agg #[.int .i64 0, .int .i64 0, .string ⟨#[]⟩, .slice none 0 0], fun _ => by kernel_rfl, rfl⟩
theorem PS37 : PS Tryz.prog 37 47 3 [.int .i64 0, .int .i64 0, .string ⟨#[]⟩] := ⟨by kernel_rfl, fun _ => by kernel_rfl, .agg #[.int .i64 0, .int .i64 0, .string ⟨#[]⟩], fun _ => by kernel_rfl, rfl⟩
theorem PS39 : PS Tryz.prog 39 86 12 [.string ⟨#[]⟩, .bool false, .int .i64 0, .int .i64 0, .int .i64 0, .int .i64 0, .string ⟨#[]⟩, .bool false, .int .i64 0, .int .i64 0, .slice none 0 0, .bool false] := ⟨by kernel_rfl, fun _ => by kernel_rfl, .agg #[.string ⟨#[]⟩, .bool false, .int .i64 0, .int .i64 0, .int .i64 0, .int .i64 0, .string ⟨#[]⟩, .bool false, .int .i64 0, .int .i64 0, .slice none 0 0, .bool false], fun _ => by kernel_rfl, rfl⟩
theorem PS42 : PS Tryz.prog 42 45 3 [.int .i64 0, .int .i64 0, .string ⟨#[]⟩] := ⟨by kernel_rfl, fun _ => by kernel_rfl, .agg #[.int .i64 0, .int .i64 0, .string ⟨#[]⟩], fun _ => by kernel_rfl, rfl⟩
theorem PS49 : PS Tryz.prog 49 92 4 [.int .i64 0, .int .i64 0, .string ⟨#[]⟩, .slice none 0 0] := ⟨by kernel_rfl, fun _ => by kernel_rfl, .agg #[.int .i64 0, .int .i64 0, .string ⟨#[]⟩, .slice none 0 0], fun _ => by kernel_rfl, rfl⟩
theorem PS56 : PS Tryz.prog 56 9 1 [.string ⟨#[]⟩] := ⟨by kernel_rfl, fun _ => by kernel_rfl, .string ⟨#[]⟩, fun _ => by kernel_rfl, rfl⟩
theorem PS72 : PS Tryz.prog 72 96 5 [.int .i64 0, .string ⟨#[]⟩, .string ⟨#[]⟩, .int .i64 0, .string ⟨#[]⟩] := ⟨by kernel_rfl, fun _ => by kernel_rfl, .agg #[.int .i64 0, .string ⟨#[]⟩, .string ⟨#[]⟩, .int .i64 0, .string ⟨#[]⟩], fun _ => by kernel_rfl, rfl⟩
theorem PS81 : PS Tryz.prog 81 105 4 [.int .i64 0, .int .i64 0, .string ⟨#[]⟩, .string ⟨#[]⟩] := ⟨by kernel_rfl, fun _ => by kernel_rfl, .agg #[.int .i64 0, .int .i64 0, .string ⟨#[]⟩, .string ⟨#[]⟩], fun _ => by kernel_rfl, rfl⟩
theorem Y6P : TI Tryz.prog 105 true 4 := ⟨fun _ => by kernel_rfl, fun _ => by kernel_rfl⟩
theorem TI2 : TI Tryz.prog 2 false 1 := ⟨fun _ => by kernel_rfl, fun _ => by kernel_rfl⟩
theorem TI23 : TI Tryz.prog 23 false 1 := ⟨fun _ => by kernel_rfl, fun _ => by kernel_rfl⟩
theorem TI25 : TI Tryz.prog 25 true 1 := ⟨fun _ => by kernel_rfl, fun _ => by kernel_rfl⟩
theorem TI3 : TI Tryz.prog 3 false 1 := ⟨fun _ => by kernel_rfl, fun _ => by kernel_rfl⟩
theorem TI31 : TI Tryz.prog 31 true 4 := ⟨fun _ => by kernel_rfl, fun _ => by kernel_rfl⟩
theorem TI33 : TI Tryz.prog 33 false 1 := ⟨fun _ => by kernel_rfl, fun _ => by kernel_rfl⟩
theorem TI35 : TI Tryz.prog 35 true 5 := ⟨fun _ => by kernel_rfl, fun _ => by kernel_rfl⟩
theorem TI39 : TI Tryz.prog 39 false 1 := ⟨fun _ => by kernel_rfl, fun _ => by kernel_rfl⟩
theorem TI4 : TI Tryz.prog 4 false 1 := ⟨fun _ => by kernel_rfl, fun _ => by kernel_rfl⟩
theorem TI41 : TI Tryz.prog 41 true 2 := ⟨fun _ => by kernel_rfl, fun _ => by kernel_rfl⟩
theorem TI45 : TI Tryz.prog 45 true 3 := ⟨fun _ => by kernel_rfl, fun _ => by kernel_rfl⟩
theorem TI47 : TI Tryz.prog 47 true 3 := ⟨fun _ => by kernel_rfl, fun _ => by kernel_rfl⟩
theorem TI56 : TI Tryz.prog 56 false 1 := ⟨fun _ => by kernel_rfl, fun _ => by kernel_rfl⟩
theorem TI65 : TI Tryz.prog 65 true 4 := ⟨fun _ => by kernel_rfl, fun _ => by kernel_rfl⟩
theorem TI72 : TI Tryz.prog 72 false 1 := ⟨fun _ => by kernel_rfl, fun _ => by kernel_rfl⟩
theorem TI74 : TI Tryz.prog 74 true 4 := ⟨fun _ => by kernel_rfl, fun _ => by kernel_rfl⟩
theorem TI84 : TI Tryz.prog 84 true 6 := ⟨fun _ => by kernel_rfl, fun _ => by kernel_rfl⟩
theorem TI86 : TI Tryz.prog 86 true 12 := ⟨fun _ => by kernel_rfl, fun _ => by kernel_rfl⟩
theorem TI9 : TI Tryz.prog 9 false 1 := ⟨fun _ => by kernel_rfl, fun _ => by kernel_rfl⟩
theorem TI92 : TI Tryz.prog 92 true 4 := ⟨fun _ => by kernel_rfl, fun _ => by kernel_rfl⟩
theorem TI96 : TI Tryz.prog 96 true 5 := ⟨fun _ => by kernel_rfl, fun _ => by kernel_rfl⟩
theorem UN101 : Tryz.prog.underlying 101 = some (.map 9 4) := by kernel_rfl
theorem Y81 : Tryz.prog.underlying 106 = some (.map 9 86) := by kernel_rfl
theorem UN117 : Tryz.prog.underlying 117 = some (.map 47 81) := by kernel_rfl
theorem UN131 : Tryz.prog.underlying 131 = some (.map 9 41) := by kernel_rfl
theorem UN22 : Tryz.prog.underlying 22 = some (.slice 3) := by kernel_rfl
theorem UN23 : Tryz.prog.underlying 23 = some (.slice 41) := by kernel_rfl
theorem UN28 : Tryz.prog.underlying 28 = some (.slice 74) := by kernel_rfl
theorem UN33 : Tryz.prog.underlying 33 = some (.slice 65) := by kernel_rfl
theorem UN37 : Tryz.prog.underlying 37 = some (.slice 47) := by kernel_rfl
theorem UN39 : Tryz.prog.underlying 39 = some (.slice 86) := by kernel_rfl
theorem UN4 : Tryz.prog.underlying 4 = some (.bool) := by kernel_rfl
theorem UN42 : Tryz.prog.underlying 42 = some (.slice 45) := by kernel_rfl
theorem UN49 : Tryz.prog.underlying 49 = some (.slice 92) := by kernel_rfl
theorem UN56 : Tryz.prog.underlying 56 = some (.slice 9) := by kernel_rfl
theorem UN71 : Tryz.prog.underlying 71 = some (.map 9 106) := by kernel_rfl
theorem UN72 : Tryz.prog.underlying 72 = some (.slice 96) := by kernel_rfl
theorem UN81 : Tryz.prog.underlying 81 = some (.slice 105) := by kernel_rfl
theorem UN9 : Tryz.prog.underlying 9 = some (.string) := by kernel_rfl
theorem Y95 : ∀ w : World, (zeroValue 106).run Tryz.prog w = .ok (.map none) w := fun _ => by kernel_rfl
theorem ZR4 : ∀ w : World, (zeroValue 4).run Tryz.prog w = .ok (.bool false) w := fun _ => by kernel_rfl
theorem ZR41 : ∀ w : World, (zeroValue 41).run Tryz.prog w = .ok (.agg #[.string ⟨#[]⟩, .slice none 0 0]) w := fun _ => by kernel_rfl
theorem ZR47 : ∀ w : World, (zeroValue 47).run Tryz.prog w = .ok (.agg #[.int .i64 0, .int .i64 0, .string ⟨#[]⟩]) w := fun _ => by kernel_rfl
theorem ZR81 : ∀ w : World, (zeroValue 81).run Tryz.prog w = .ok (.slice none 0 0) w := fun _ => by kernel_rfl
theorem ZR86 : ∀ w : World, (zeroValue 86).run Tryz.prog w = .ok (.agg #[.string ⟨#[]⟩, .bool false, .int .i64 0, .int .i64 0, .int .i64 0, .int .i64 0, .string ⟨#[]⟩, .bool false, .int .i64 0, .int .i64 0, .slice none 0 0, .bool false]) w := fun _ => by kernel_rfl
theorem ZR9 : ∀ w : World, (zeroValue 9).run Tryz.prog w = .ok (.string ⟨#[]⟩) w := fun _ => by kernel_rfl
theorem ZV105 : ZV Tryz.prog 105 [.int .i64 0, .int .i64 0, .string ⟨#[]⟩, .string ⟨#[]⟩] := ⟨.agg #[.int .i64 0, .int .i64 0, .string ⟨#[]⟩, .string ⟨#[]⟩], fun _ => by kernel_rfl, rfl⟩
theorem ZV25 : ZV Tryz.prog 25 [.slice none 0 0] := ⟨.agg #[.slice none 0 0], fun _ => by kernel_rfl, rfl⟩
theorem ZV31 : ZV Tryz.prog 31 [.string ⟨#[]⟩, .int .i64 0, .int .i64 0, .int .i64 0] := ⟨.agg #[.string ⟨#[]⟩, .int .i64 0, .int .i64 0, .int .i64 0], fun _ => by kernel_rfl, rfl⟩
theorem ZV35 : ZV Tryz.prog 35 [.string ⟨#[]⟩, .int .i64 0, .int .i64 0, .int .i64 0, .slice none 0 0] := ⟨.agg #[.string ⟨#[]⟩, .int .i64 0, .int .i64 0, .int .i64 0, .slice none 0 0], fun _ => by kernel_rfl, rfl⟩
theorem ZV41 : ZV Tryz.prog 41 [.string ⟨#[]⟩, .slice none 0 0] := ⟨.agg #[.string ⟨#[]⟩, .slice none 0 0], fun _ => by kernel_rfl, rfl⟩
theorem ZV45 : ZV Tryz.prog 45 [.int .i64 0, .int .i64 0, .string ⟨#[]⟩] := ⟨.agg #[.int .i64 0, .int .i64 0, .string ⟨#[]⟩], fun _ => by kernel_rfl, rfl⟩
theorem ZV47 : ZV Tryz.prog 47 [.int .i64 0, .int .i64 0, .string ⟨#[]⟩] := ⟨.agg #[.int .i64 0, .int .i64 0, .string ⟨#[]⟩], fun _ => by kernel_rfl, rfl⟩
theorem ZV65 : ZV Tryz.prog 65 [.int .i64 0, .int .i64 0, .string ⟨#[]⟩, .slice none 0 0] := ⟨.agg #[.int .i64 0, .int .i64 0, .string ⟨#[]⟩, .slice none 0 0], fun _ => by kernel_rfl, rfl⟩
theorem ZV74 : ZV Tryz.prog 74 [.int .i64 0, .int .i64 0, .int .i64 0, .slice none 0 0] := ⟨.agg #[.int .i64 0, .int .i64 0, .int .i64 0, .slice none 0 0], fun _ => by kernel_rfl, rfl⟩
theorem ZV86 : ZV Tryz.prog 86 [.string ⟨#[]⟩, .bool false, .int .i64 0, .int .i64 0, .int .i64 0, .int .i64 0, .string ⟨#[]⟩, .bool false, .int .i64 0, .int .i64 0, .slice none 0 0, .bool false] := ⟨.agg #[.string ⟨#[]⟩, .bool false, .int .i64 0, .int .i64 0, .int .i64 0, .int .i64 0, .string ⟨#[]⟩, .bool false, .int .i64 0, .int .i64 0, .slice none 0 0, .bool false], fun _ => by kernel_rfl, rfl⟩
theorem ZV96 : ZV Tryz.prog 96 [.int .i64 0, .string ⟨#[]⟩, .string ⟨#[]⟩, .int .i64 0, .string ⟨#[]⟩] := ⟨.agg #[.int .i64 0, .string ⟨#[]⟩, .string ⟨#[]⟩, .int .i64 0, .string ⟨#[]⟩], fun _ => by kernel_rfl, rfl⟩
theorem Y5K {ok0 : Nat → Prop} {w0 : Base} {w : World} {Γ : List It} {Λ : List LObj} (hs : St ok0 w0 w Γ Λ) (i : Nat) {x : Y0D} {cs : List Value} (hi : Γ[i]? = some (vl Y0F x (.agg cs.toArray))) : cs = [.int .i64 x.Kind, bstr x.Object, bstr x.Field, .int .i64 x.N, bstr x.S] := by
 obtain ⟨ok, h⟩ := hs.get i hi
 have h := Y3d h rfl
 obtain ⟨_, _, rfl, rfl, ⟨_, _, rfl, rfl, ⟨_, _, rfl, rfl, ⟨_, _, rfl, rfl, rfl⟩⟩⟩⟩ := h
 exact rfl
theorem Y5J {ok0 : Nat → Prop} {w0 : Base} {w : World} {Γ : List It} {Λ : List LObj} (hs : St ok0 w0 w Γ Λ) (i : Nat) {x : Y0j} {cs : List Value} (hi : Γ[i]? = some (vl Y0h x (.agg cs.toArray))) : ∃ (a0 : Option Addr), ∃ (c1 : Nat), cs = [.int .i64 x.Client, .int .i64 x.Seq, .int .i64 x.Tag, .slice a0 x.Effects.length c1] := by
 obtain ⟨ok, h⟩ := hs.get i hi
 have h := Y3d h rfl
 obtain ⟨_, _, rfl, rfl, ⟨_, _, rfl, rfl, ⟨_, _, rfl, rfl, ⟨a0, c1, rfl, _, _⟩⟩⟩⟩ := h
 exact ⟨a0, c1, rfl⟩
theorem Y18 {ok0 : Nat → Prop} {w0 : Base} {w : World} {Γ : List It} {Λ : List LObj} (hs : St ok0 w0 w Γ Λ) (i : Nat) {x : Y02} {cs : List Value} (hi : Γ[i]? = some (vl Y04 x (.agg cs.toArray))) : cs = [.int .i64 x.f_Type, .int .i64 x.N, bstr x.S] := by
 obtain ⟨ok, h⟩ := hs.get i hi
 have h := Y3d h rfl
 obtain ⟨_, _, rfl, rfl, ⟨_, _, rfl, rfl, rfl⟩⟩ := h
 exact rfl
theorem Y3m {ok0 : Nat → Prop} {w0 : Base} {w : World} {Γ : List It} {Λ : List LObj} (hs : St ok0 w0 w Γ Λ) (i : Nat) {x : Y07} {cs : List Value} (hi : Γ[i]? = some (vl Y0q x (.agg cs.toArray))) : ∃ (a0 : Option Addr), ∃ (c1 : Nat), cs = [bstr x.Name, .bool x.Register.Set, .int .i64 x.Register.Tag, .int .i64 x.Register.Client, .int .i64 x.Register.Seq, .int .i64 x.Register.N, bstr x.Register.S, .bool x.HasMax, .int .i64 x.Max, .int .i64 x.Sum, .slice a0 x.Elems.length c1, .bool x.Flag] := by
 obtain ⟨ok, h⟩ := hs.get i hi
 have h := Y3d h rfl
 obtain ⟨_, _, rfl, rfl, ⟨_, _, rfl, ⟨_, _, rfl, rfl, ⟨_, _, rfl, rfl, ⟨_, _, rfl, rfl, ⟨_, _, rfl, rfl, ⟨_, _, rfl, rfl, rfl⟩⟩⟩⟩⟩, ⟨_, _, rfl, rfl, ⟨_, _, rfl, rfl, ⟨_, _, rfl, rfl, ⟨_, _, rfl, ⟨a0, c1, rfl, _, _⟩, rfl⟩⟩⟩⟩⟩⟩ := h
 exact ⟨a0, c1, rfl⟩
theorem Y5s {ok0 : Nat → Prop} {w0 : Base} {w : World} {Γ : List It} {Λ : List LObj} (hs : St ok0 w0 w Γ Λ) (i : Nat) {x : Y06} {cs : List Value} (hi : Γ[i]? = some (vl Y08 x (.agg cs.toArray))) : ∃ (a0 : Option Addr), ∃ (c1 : Nat), cs = [bstr x.Name, .slice a0 x.Fields.length c1] := by
 obtain ⟨ok, h⟩ := hs.get i hi
 have h := Y3d h rfl
 obtain ⟨_, _, rfl, rfl, ⟨a0, c1, rfl, _, _⟩⟩ := h
 exact ⟨a0, c1, rfl⟩
theorem Y3x {ok0 : Nat → Prop} {w0 : Base} {w : World} {Γ : List It} {Λ : List LObj} (hs : St ok0 w0 w Γ Λ) (i : Nat) {x : Y0B} {cs : List Value} (hi : Γ[i]? = some (vl Y1j x (.agg cs.toArray))) : cs = [.bool x.Set, .int .i64 x.Tag, .int .i64 x.Client, .int .i64 x.Seq, .int .i64 x.N, bstr x.S] := by
 obtain ⟨ok, h⟩ := hs.get i hi
 have h := Y3d h rfl
 obtain ⟨_, _, rfl, rfl, ⟨_, _, rfl, rfl, ⟨_, _, rfl, rfl, ⟨_, _, rfl, rfl, ⟨_, _, rfl, rfl, rfl⟩⟩⟩⟩⟩ := h
 exact rfl
theorem Y5I {ok0 : Nat → Prop} {w0 : Base} {w : World} {Γ : List It} {Λ : List LObj} (hs : St ok0 w0 w Γ Λ) (i : Nat) {x : Y0y} {cs : List Value} (hi : Γ[i]? = some (vl Y0m x (.agg cs.toArray))) : ∃ (a0 : Option Addr), ∃ (c1 : Nat), cs = [.slice a0 x.Objects.length c1] := by
 obtain ⟨ok, h⟩ := hs.get i hi
 have h := Y3d h rfl
 obtain ⟨a0, c1, rfl, _, _⟩ := h
 exact ⟨a0, c1, rfl⟩
theorem Y2c {ok0 : Nat → Prop} {w0 : Base} {w : World} {Γ : List It} {Λ : List LObj} (hs : St ok0 w0 w Γ Λ) (i : Nat) {x : Y05} {cs : List Value} (hi : Γ[i]? = some (vl Y0d x (.agg cs.toArray))) : cs = [.int .i64 x.f_Type, .int .i64 x.N, bstr x.S] := by
 obtain ⟨ok, h⟩ := hs.get i hi
 have h := Y3d h rfl
 obtain ⟨_, _, rfl, rfl, ⟨_, _, rfl, rfl, rfl⟩⟩ := h
 exact rfl
theorem Y5b {ok0 : Nat → Prop} {w0 : Base} {w : World} {Γ : List It} {Λ : List LObj} (hs : St ok0 w0 w Γ Λ) (i : Nat) {x : Y0l} {cs : List Value} (hi : Γ[i]? = some (vl Y0g x (.agg cs.toArray))) : cs = [bstr x.Name, .int .i64 x.Kind, .int .i64 x.f_Type, .int .i64 x.At] := by
 obtain ⟨ok, h⟩ := hs.get i hi
 have h := Y3d h rfl
 obtain ⟨_, _, rfl, rfl, ⟨_, _, rfl, rfl, ⟨_, _, rfl, rfl, rfl⟩⟩⟩ := h
 exact rfl
theorem EG45 : Tryz.prog.eqGuardType Tryz.prog.depth 45 = false := by kernel_rfl
theorem EQ45 (x y : Y02) (w : World) : (binOp .eql 45 (.agg ([.int .i64 x.f_Type, .int .i64 x.N, bstr x.S] : List Value).toArray) (.agg ([.int .i64 y.f_Type, .int .i64 y.N, bstr y.S] : List Value).toArray)).run Tryz.prog w = .ok (.bool (decide (x = y))) w :=
 Y9E (EqR.agg Tryz.underlying45 (by kernel_rfl) (EqL.cons (by decide) (u := .int .i64 x.f_Type) (v := .int .i64 y.f_Type) (fun _ => by kernel_rfl) (fun _ => by kernel_rfl) (EqR.int x.f_Type y.f_Type Tryz.underlying3) (EqL.cons (by decide) (u := .int .i64 x.N) (v := .int .i64 y.N) (fun _ => by kernel_rfl) (fun _ => by kernel_rfl) (EqR.int x.N y.N Tryz.underlying2) (EqL.cons (by decide) (u := bstr x.S) (v := bstr y.S) (fun _ => by kernel_rfl) (fun _ => by kernel_rfl) (EqR.str x.S y.S Tryz.underlying9) EqL.nil)))) (by obtain ⟨p1, p2, p3⟩ := x; obtain ⟨q1, q2, q3⟩ := y; rw [Bool.eq_iff_iff]; simp [Y02.mk.injEq]) w
theorem NQ45 (x y : Y02) (w : World) : (binOp .neq 45 (.agg ([.int .i64 x.f_Type, .int .i64 x.N, bstr x.S] : List Value).toArray) (.agg ([.int .i64 y.f_Type, .int .i64 y.N, bstr y.S] : List Value).toArray)).run Tryz.prog w = .ok (.bool (!decide (x = y))) w :=
 neq_of (EqR.agg Tryz.underlying45 (by kernel_rfl) (EqL.cons (by decide) (u := .int .i64 x.f_Type) (v := .int .i64 y.f_Type) (fun _ => by kernel_rfl) (fun _ => by kernel_rfl) (EqR.int x.f_Type y.f_Type Tryz.underlying3) (EqL.cons (by decide) (u := .int .i64 x.N) (v := .int .i64 y.N) (fun _ => by kernel_rfl) (fun _ => by kernel_rfl) (EqR.int x.N y.N Tryz.underlying2) (EqL.cons (by decide) (u := bstr x.S) (v := bstr y.S) (fun _ => by kernel_rfl) (fun _ => by kernel_rfl) (EqR.str x.S y.S Tryz.underlying9) EqL.nil)))) (by obtain ⟨p1, p2, p3⟩ := x; obtain ⟨q1, q2, q3⟩ := y; rw [Bool.eq_iff_iff]; simp [Y02.mk.injEq]) w
theorem EG47 : Tryz.prog.eqGuardType Tryz.prog.depth 47 = false := by kernel_rfl
theorem EQ47 (x y : Y05) (w : World) : (binOp .eql 47 (.agg ([.int .i64 x.f_Type, .int .i64 x.N, bstr x.S] : List Value).toArray) (.agg ([.int .i64 y.f_Type, .int .i64 y.N, bstr y.S] : List Value).toArray)).run Tryz.prog w = .ok (.bool (decide (x = y))) w :=
 Y9E (EqR.agg Tryz.underlying47 (by kernel_rfl) (EqL.cons (by decide) (u := .int .i64 x.f_Type) (v := .int .i64 y.f_Type) (fun _ => by kernel_rfl) (fun _ => by kernel_rfl) (EqR.int x.f_Type y.f_Type Tryz.underlying3) (EqL.cons (by decide) (u := .int .i64 x.N) (v := .int .i64 y.N) (fun _ => by kernel_rfl) (fun _ => by kernel_rfl) (EqR.int x.N y.N Tryz.underlying2) (EqL.cons (by decide) (u := bstr x.S) (v := bstr y.S) (fun _ => by kernel_rfl) (fun _ => by kernel_rfl) (EqR.str x.S y.S Tryz.underlying9) EqL.nil)))) (by obtain ⟨p1, p2, p3⟩ := x; obtain ⟨q1, q2, q3⟩ := y; rw [Bool.eq_iff_iff]; simp [Y05.mk.injEq]) w
theorem NQ47 (x y : Y05) (w : World) : (binOp .neq 47 (.agg ([.int .i64 x.f_Type, .int .i64 x.N, bstr x.S] : List Value).toArray) (.agg ([.int .i64 y.f_Type, .int .i64 y.N, bstr y.S] : List Value).toArray)).run Tryz.prog w = .ok (.bool (!decide (x = y))) w :=
 neq_of (EqR.agg Tryz.underlying47 (by kernel_rfl) (EqL.cons (by decide) (u := .int .i64 x.f_Type) (v := .int .i64 y.f_Type) (fun _ => by kernel_rfl) (fun _ => by kernel_rfl) (EqR.int x.f_Type y.f_Type Tryz.underlying3) (EqL.cons (by decide) (u := .int .i64 x.N) (v := .int .i64 y.N) (fun _ => by kernel_rfl) (fun _ => by kernel_rfl) (EqR.int x.N y.N Tryz.underlying2) (EqL.cons (by decide) (u := bstr x.S) (v := bstr y.S) (fun _ => by kernel_rfl) (fun _ => by kernel_rfl) (EqR.str x.S y.S Tryz.underlying9) EqL.nil)))) (by obtain ⟨p1, p2, p3⟩ := x; obtain ⟨q1, q2, q3⟩ := y; rw [Bool.eq_iff_iff]; simp [Y05.mk.injEq]) w
theorem EG84 : Tryz.prog.eqGuardType Tryz.prog.depth 84 = false := by kernel_rfl
theorem EQ84 (x y : Y0B) (w : World) : (binOp .eql 84 (.agg ([.bool x.Set, .int .i64 x.Tag, .int .i64 x.Client, .int .i64 x.Seq, .int .i64 x.N, bstr x.S] : List Value).toArray) (.agg ([.bool y.Set, .int .i64 y.Tag, .int .i64 y.Client, .int .i64 y.Seq, .int .i64 y.N, bstr y.S] : List Value).toArray)).run Tryz.prog w = .ok (.bool (decide (x = y))) w :=
 Y9E (EqR.agg Tryz.underlying84 (by kernel_rfl) (EqL.cons (by decide) (u := .bool x.Set) (v := .bool y.Set) (fun _ => by kernel_rfl) (fun _ => by kernel_rfl) (EqR.bool x.Set y.Set Tryz.underlying4) (EqL.cons (by decide) (u := .int .i64 x.Tag) (v := .int .i64 y.Tag) (fun _ => by kernel_rfl) (fun _ => by kernel_rfl) (EqR.int x.Tag y.Tag Tryz.underlying3) (EqL.cons (by decide) (u := .int .i64 x.Client) (v := .int .i64 y.Client) (fun _ => by kernel_rfl) (fun _ => by kernel_rfl) (EqR.int x.Client y.Client Tryz.underlying3) (EqL.cons (by decide) (u := .int .i64 x.Seq) (v := .int .i64 y.Seq) (fun _ => by kernel_rfl) (fun _ => by kernel_rfl) (EqR.int x.Seq y.Seq Tryz.underlying3) (EqL.cons (by decide) (u := .int .i64 x.N) (v := .int .i64 y.N) (fun _ => by kernel_rfl) (fun _ => by kernel_rfl) (EqR.int x.N y.N Tryz.underlying2) (EqL.cons (by decide) (u := bstr x.S) (v := bstr y.S) (fun _ => by kernel_rfl) (fun _ => by kernel_rfl) (EqR.str x.S y.S Tryz.underlying9) EqL.nil))))))) (by obtain ⟨p1, p2, p3, p4, p5, p6⟩ := x; obtain ⟨q1, q2, q3, q4, q5, q6⟩ := y; rw [Bool.eq_iff_iff]; simp [Y0B.mk.injEq]) w
end
section
open Go Go.RowKit Go.Shelf Go.Maps Go.Sort Go.Proofs.YtpfgdjfiimknlaaGreatL
def Y3Q : Go.Shelf.Ren := ⟨fun | 7 => 53 | 10 => 77 | n => n, fun | 23 => 71 | 26 => 9 | 3 => 106 | 28 => 113 | 0 => 0 | 27 => 112 | 33 => 135 | 4 => 4 | n => n, fun | n => n⟩
theorem Y5P : Go.Proofs.SlLaysZ.n7 Tryz.prog Y3Q := {
 mixed := by kernel_rfl
 f7 := ⟨Tryz.f53.name, by decide, Tryz.func53.trans (congrArg some (by kernel_rfl))⟩
 f10 := ⟨Tryz.f77.name, by decide, Tryz.func77.trans (congrArg some (by kernel_rfl))⟩
 t0 := Tryz.underlying0
 a0 := Tryz.isAgg0
 z0 := Tryz.sizeOf0
 v0 := Tryz.zeroValue0
 t4 := Tryz.underlying4
 a4 := Tryz.isAgg4
 z4 := Tryz.sizeOf4
 v4 := Tryz.zeroValue4
 t23 := Tryz.underlying71
 a23 := Tryz.isAgg71
 z23 := Tryz.sizeOf71
 v23 := Tryz.zeroValue71
 t26 := Tryz.underlying9
 a26 := Tryz.isAgg9
 z26 := Tryz.sizeOf9
 v26 := Tryz.zeroValue9
 t27 := Tryz.underlying112
 a27 := Tryz.isAgg112
 z27 := Tryz.sizeOf112
 v27 := Tryz.zeroValue112
 t28 := Tryz.underlying113
 a28 := Tryz.isAgg113
 z28 := Tryz.sizeOf113
 v28 := Tryz.zeroValue113
 t33 := Tryz.underlying135
 a33 := Tryz.isAgg135
 z33 := Tryz.sizeOf135
 v33 := Tryz.zeroValue135 }
def Y3P : Go.Shelf.Ren := ⟨fun | 7 => 54 | 10 => 78 | n => n, fun | 23 => 106 | 26 => 9 | 3 => 86 | 28 => 113 | 0 => 0 | 27 => 112 | 33 => 135 | 4 => 4 | n => n, fun | n => n⟩
theorem Y5O : Go.Proofs.SlLaysZ.n7 Tryz.prog Y3P := {
 mixed := by kernel_rfl
 f7 := ⟨Tryz.f54.name, by decide, Tryz.func54.trans (congrArg some (by kernel_rfl))⟩
 f10 := ⟨Tryz.f78.name, by decide, Tryz.func78.trans (congrArg some (by kernel_rfl))⟩
 t0 := Tryz.underlying0
 a0 := Tryz.isAgg0
 z0 := Tryz.sizeOf0
 v0 := Tryz.zeroValue0
 t4 := Tryz.underlying4
 a4 := Tryz.isAgg4
 z4 := Tryz.sizeOf4
 v4 := Tryz.zeroValue4
 t23 := Tryz.underlying106
 a23 := Tryz.isAgg106
 z23 := Tryz.sizeOf106
 v23 := Tryz.zeroValue106
 t26 := Tryz.underlying9
 a26 := Tryz.isAgg9
 z26 := Tryz.sizeOf9
 v26 := Tryz.zeroValue9
 t27 := Tryz.underlying112
 a27 := Tryz.isAgg112
 z27 := Tryz.sizeOf112
 v27 := Tryz.zeroValue112
 t28 := Tryz.underlying113
 a28 := Tryz.isAgg113
 z28 := Tryz.sizeOf113
 v28 := Tryz.zeroValue113
 t33 := Tryz.underlying135
 a33 := Tryz.isAgg135
 z33 := Tryz.sizeOf135
 v33 := Tryz.zeroValue135 }
def Y4y : Go.Shelf.Ren := ⟨fun | 6 => 52 | 8 => 75 | 9 => 76 | 11 => 98 | 13 => 62 | 12 => 99 | 23 => 89 | 24 => 90 | 14 => 116 | 15 => 117 | 16 => 118 | 17 => 119 | 18 => 120 | 19 => 121 | 20 => 71 | 21 => 122 | 22 => 123 | 25 => 128 | 26 => 109 | 27 => 110 | 28 => 129 | 29 => 130 | 30 => 93 | 31 => 132 | n => n, fun | 26 => 9 | 28 => 113 | 24 => 56 | 0 => 0 | 3 => 3 | 37 => 125 | 48 => 148 | 50 => 150 | 4 => 4 | 40 => 142 | 39 => 141 | 45 => 108 | 5 => 5 | 9 => 9 | 51 => 162 | 55 => 166 | 57 => 177 | 58 => 178 | 33 => 135 | n => n, fun | n => n⟩
theorem Y4o : Go.Proofs.SlLaysZ.n6 Tryz.prog Y4y := {
 mixed := by kernel_rfl
 f6 := ⟨Tryz.f52.name, by decide, Tryz.func52.trans (congrArg some (by kernel_rfl))⟩
 f8 := ⟨Tryz.f75.name, by decide, Tryz.func75.trans (congrArg some (by kernel_rfl))⟩
 f11 := ⟨Tryz.f98.name, by decide, Tryz.func98.trans (congrArg some (by kernel_rfl))⟩
 t0 := Tryz.underlying0
 a0 := Tryz.isAgg0
 z0 := Tryz.sizeOf0
 v0 := Tryz.zeroValue0
 t24 := Tryz.underlying56
 a24 := Tryz.isAgg56
 z24 := Tryz.sizeOf56
 v24 := Tryz.zeroValue56
 t26 := Tryz.underlying9
 a26 := Tryz.isAgg9
 z26 := Tryz.sizeOf9
 v26 := Tryz.zeroValue9
 t28 := Tryz.underlying113
 a28 := Tryz.isAgg113
 z28 := Tryz.sizeOf113
 v28 := Tryz.zeroValue113
 i26 := by kernel_rfl }
def Y76 : Go.Shelf.Ren := ⟨fun | 6 => 76 | 8 => 62 | 9 => 99 | 19 => 89 | 20 => 90 | 21 => 116 | 22 => 117 | 23 => 118 | 24 => 119 | 25 => 120 | 26 => 121 | 27 => 71 | 28 => 122 | 29 => 123 | 36 => 128 | 31 => 109 | 32 => 110 | 37 => 129 | 38 => 130 | 39 => 93 | 41 => 132 | n => n, fun | 27 => 56 | 29 => 9 | 3 => 3 | 32 => 125 | 26 => 56 | 0 => 0 | 44 => 148 | 46 => 150 | 4 => 4 | 36 => 142 | 35 => 141 | 41 => 108 | 5 => 5 | 9 => 9 | 53 => 162 | 57 => 166 | 63 => 177 | 64 => 178 | n => n, fun | n => n⟩
theorem Y5w : Go.Proofs.SlLaysM.n6 Tryz.prog Y76 := {
 mixed := by kernel_rfl
 f6 := ⟨Tryz.f76.name, by decide, Tryz.func76.trans (congrArg some (by kernel_rfl))⟩
 f8 := Tryz.func62.trans (congrArg some (by kernel_rfl))
 f9 := ⟨Tryz.f99.name, by decide, Tryz.func99.trans (congrArg some (by kernel_rfl))⟩
 f19 := Tryz.func89.trans (congrArg some (by kernel_rfl))
 f20 := Tryz.func90.trans (congrArg some (by kernel_rfl))
 f21 := ⟨Tryz.f116.name, by decide, Tryz.func116.trans (congrArg some (by kernel_rfl))⟩
 f22 := ⟨Tryz.f117.name, by decide, Tryz.func117.trans (congrArg some (by kernel_rfl))⟩
 f23 := ⟨Tryz.f118.name, by decide, Tryz.func118.trans (congrArg some (by kernel_rfl))⟩
 f24 := ⟨Tryz.f119.name, by decide, Tryz.func119.trans (congrArg some (by kernel_rfl))⟩
 f25 := ⟨Tryz.f120.name, by decide, Tryz.func120.trans (congrArg some (by kernel_rfl))⟩
 f26 := ⟨Tryz.f121.name, by decide, Tryz.func121.trans (congrArg some (by kernel_rfl))⟩
 f27 := ⟨Tryz.f71.name, by decide, Tryz.func71.trans (congrArg some (by kernel_rfl))⟩
 f28 := ⟨Tryz.f122.name, by decide, Tryz.func122.trans (congrArg some (by kernel_rfl))⟩
 f29 := ⟨Tryz.f123.name, by decide, Tryz.func123.trans (congrArg some (by kernel_rfl))⟩
 f31 := Tryz.func109.trans (congrArg some (by kernel_rfl))
 f32 := Tryz.func110.trans (congrArg some (by kernel_rfl))
 f36 := ⟨Tryz.f128.name, by decide, Tryz.func128.trans (congrArg some (by kernel_rfl))⟩
 f37 := ⟨Tryz.f129.name, by decide, Tryz.func129.trans (congrArg some (by kernel_rfl))⟩
 f38 := ⟨Tryz.f130.name, by decide, Tryz.func130.trans (congrArg some (by kernel_rfl))⟩
 f39 := ⟨Tryz.f93.name, by decide, Tryz.func93.trans (congrArg some (by kernel_rfl))⟩
 f41 := ⟨Tryz.f132.name, by decide, Tryz.func132.trans (congrArg some (by kernel_rfl))⟩
 t0 := Tryz.underlying0
 a0 := Tryz.isAgg0
 z0 := Tryz.sizeOf0
 v0 := Tryz.zeroValue0
 t3 := Tryz.underlying3
 a3 := Tryz.isAgg3
 z3 := Tryz.sizeOf3
 v3 := Tryz.zeroValue3
 t4 := Tryz.underlying4
 a4 := Tryz.isAgg4
 z4 := Tryz.sizeOf4
 v4 := Tryz.zeroValue4
 t5 := Tryz.underlying5
 a5 := Tryz.isAgg5
 z5 := Tryz.sizeOf5
 v5 := Tryz.zeroValue5
 t9 := Tryz.underlying9
 a9 := Tryz.isAgg9
 z9 := Tryz.sizeOf9
 v9 := Tryz.zeroValue9
 t26 := Tryz.underlying56
 a26 := Tryz.isAgg56
 z26 := Tryz.sizeOf56
 v26 := Tryz.zeroValue56
 t27 := Tryz.underlying56
 a27 := Tryz.isAgg56
 z27 := Tryz.sizeOf56
 v27 := Tryz.zeroValue56
 t29 := Tryz.underlying9
 a29 := Tryz.isAgg9
 z29 := Tryz.sizeOf9
 v29 := Tryz.zeroValue9
 t32 := Tryz.underlying125
 a32 := Tryz.isAgg125
 z32 := Tryz.sizeOf125
 v32 := Tryz.zeroValue125
 t35 := Tryz.underlying141
 a35 := Tryz.isAgg141
 z35 := Tryz.sizeOf141
 v35 := Tryz.zeroValue141
 t36 := Tryz.underlying142
 a36 := Tryz.isAgg142
 z36 := Tryz.sizeOf142
 v36 := Tryz.zeroValue142
 t41 := Tryz.underlying108
 a41 := Tryz.isAgg108
 z41 := Tryz.sizeOf108
 v41 := Tryz.zeroValue108
 t44 := Tryz.underlying148
 a44 := Tryz.isAgg148
 z44 := Tryz.sizeOf148
 v44 := Tryz.zeroValue148
 t46 := Tryz.underlying150
 a46 := Tryz.isAgg150
 z46 := Tryz.sizeOf150
 v46 := Tryz.zeroValue150
 t53 := Tryz.underlying162
 a53 := Tryz.isAgg162
 z53 := Tryz.sizeOf162
 v53 := Tryz.zeroValue162
 t57 := Tryz.underlying166
 a57 := Tryz.isAgg166
 z57 := Tryz.sizeOf166
 v57 := Tryz.zeroValue166
 t63 := Tryz.underlying177
 a63 := Tryz.isAgg177
 z63 := Tryz.sizeOf177
 v63 := Tryz.zeroValue177
 t64 := Tryz.underlying178
 a64 := Tryz.isAgg178
 z64 := Tryz.sizeOf178
 v64 := Tryz.zeroValue178 }
def Y8T : Go.Shelf.Ren := ⟨fun | 26 => 50 | 33 => 71 | 34 => 72 | 38 => 93 | n => n, fun | 24 => 56 | 9 => 9 | 3 => 3 | 4 => 4 | 40 => 125 | 0 => 0 | n => n, fun | n => n⟩
theorem lay_bs : Go.Proofs.Lays2.n26 Tryz.prog Y8T := {
 mixed := by kernel_rfl
 f26 := Tryz.func50.trans (congrArg some (by kernel_rfl))
 f33 := Tryz.func71.trans (congrArg some (by kernel_rfl))
 f34 := Tryz.func72.trans (congrArg some (by kernel_rfl))
 f38 := Tryz.func93.trans (congrArg some (by kernel_rfl))
 t0 := Tryz.underlying0
 a0 := Tryz.isAgg0
 z0 := Tryz.sizeOf0
 v0 := Tryz.zeroValue0
 t3 := Tryz.underlying3
 a3 := Tryz.isAgg3
 z3 := Tryz.sizeOf3
 v3 := Tryz.zeroValue3
 t4 := Tryz.underlying4
 a4 := Tryz.isAgg4
 z4 := Tryz.sizeOf4
 v4 := Tryz.zeroValue4
 t9 := Tryz.underlying9
 a9 := Tryz.isAgg9
 z9 := Tryz.sizeOf9
 v9 := Tryz.zeroValue9
 t24 := Tryz.underlying56
 a24 := Tryz.isAgg56
 z24 := Tryz.sizeOf56
 v24 := Tryz.zeroValue56
 t40 := Tryz.underlying125
 a40 := Tryz.isAgg125
 z40 := Tryz.sizeOf125
 v40 := Tryz.zeroValue125 }
def Y7L : Go.Shelf.Ren := ⟨fun | 22 => 51 | 29 => 73 | 30 => 74 | 36 => 97 | 17 => 115 | n => n, fun | 24 => 56 | 9 => 9 | 3 => 3 | 4 => 4 | 0 => 0 | n => n, fun | n => n⟩
theorem lay_ins : Go.Proofs.Lays2.n22 Tryz.prog Y7L := {
 mixed := by kernel_rfl
 f17 := Tryz.func115.trans (congrArg some (by kernel_rfl))
 f22 := Tryz.func51.trans (congrArg some (by kernel_rfl))
 f29 := Tryz.func73.trans (congrArg some (by kernel_rfl))
 f30 := Tryz.func74.trans (congrArg some (by kernel_rfl))
 f36 := Tryz.func97.trans (congrArg some (by kernel_rfl))
 t0 := Tryz.underlying0
 a0 := Tryz.isAgg0
 z0 := Tryz.sizeOf0
 v0 := Tryz.zeroValue0
 t3 := Tryz.underlying3
 a3 := Tryz.isAgg3
 z3 := Tryz.sizeOf3
 v3 := Tryz.zeroValue3
 t4 := Tryz.underlying4
 a4 := Tryz.isAgg4
 z4 := Tryz.sizeOf4
 v4 := Tryz.zeroValue4
 t9 := Tryz.underlying9
 a9 := Tryz.isAgg9
 z9 := Tryz.sizeOf9
 v9 := Tryz.zeroValue9
 t24 := Tryz.underlying56
 a24 := Tryz.isAgg56
 z24 := Tryz.sizeOf56
 v24 := Tryz.zeroValue56
 i9 := by kernel_rfl }
theorem Y4Q (m : Nat) : AnyZ.SortsIn Tryz.prog Y4y Fence.wide m :=
 ⟨fun blk off cap ss W hH hblk hsz => callsIn_wide.2 (AnyM.slices_Sort_string Y5w blk off cap ss W hH hblk hsz),
  fun p cap W => callsIn_wide.2 (AnyM.slices_Sort_string_none Y5w p cap W)⟩
set_option maxHeartbeats 1000000 in
theorem sk_B : SK Tryz.prog 53 52 77 71 := {
 fk_ := fun _ _ => by kernel_rfl
 fs_ := fun _ _ => by kernel_rfl
 keys := fun mb W => callsIn_wide.1 (AnyZ.keys_in Y5P Fence.wide 5 trivial rfl mb W)
 sorted := fun b nn D0 R w hown hmax hbytes => by
  have hbl := hown.lt
  have hseq : SeqGives Fence.wide 2 Tryz.prog 77 #[.pointer (some ⟨w.heap.size, 0, none⟩)] encStr (fun ss => ss.Perm (strKeys D0)) (Maps.size D0) (w.alloc (.cells #[.map (some b)] 71)) :=
   AnyZ.keys_gives (ρ := Y3Q) { Y5P with } Fence.wide _ trivial rfl (by omega) w.heap.size b nn D0 _ (by simp) (by simp) (by
    obtain ⟨es, clock, hb, Ft, hs, hD⟩ := hown
    exact ⟨es, clock, (Below.heap_alloc _ _ b hbl).trans hb, Ft, hs, hD⟩)
  exact callsIn_wide.1 (AnyZ.sorted_in Y4o Fence.wide 5 trivial trivial trivial trivial rfl (by omega) (Y4Q _) (enters_of Tryz.func76 (by kernel_rfl) rfl) 77 #[.pointer (some ⟨w.heap.size, 0, none⟩)] trivial (enters_of Tryz.func77 (by kernel_rfl) rfl) _ _ hmax hbytes _ hseq)
 sortedN := fun w => by
  have hseq : SeqGives Fence.wide 2 Tryz.prog 77 #[.pointer (some ⟨w.heap.size, 0, none⟩)] encStr (fun ss : List (List UInt8) => ss = []) 0 (w.alloc (.cells #[.map none] 71)) :=
   AnyZ.keys_gives_nil (ρ := Y3Q) { Y5P with } Fence.wide _ trivial rfl w.heap.size _ (by simp) (by simp)
  exact callsIn_wide.1 (AnyZ.sorted_in Y4o Fence.wide 5 trivial trivial trivial trivial rfl (by omega) (Y4Q _) (enters_of Tryz.func76 (by kernel_rfl) rfl) 77 #[.pointer (some ⟨w.heap.size, 0, none⟩)] trivial (enters_of Tryz.func77 (by kernel_rfl) rfl) _ 0 (Nat.zero_le _) (by omega) _ hseq) }
set_option maxHeartbeats 1000000 in
theorem sk_F : SK Tryz.prog 54 52 78 106 := {
 fk_ := fun _ _ => by kernel_rfl
 fs_ := fun _ _ => by kernel_rfl
 keys := fun mb W => callsIn_wide.1 (AnyZ.keys_in Y5O Fence.wide 5 trivial rfl mb W)
 sorted := fun b nn D0 R w hown hmax hbytes => by
  have hbl := hown.lt
  have hseq : SeqGives Fence.wide 2 Tryz.prog 78 #[.pointer (some ⟨w.heap.size, 0, none⟩)] encStr (fun ss => ss.Perm (strKeys D0)) (Maps.size D0) (w.alloc (.cells #[.map (some b)] 106)) :=
   AnyZ.keys_gives (ρ := Y3P) { Y5O with } Fence.wide _ trivial rfl (by omega) w.heap.size b nn D0 _ (by simp) (by simp) (by
    obtain ⟨es, clock, hb, Ft, hs, hD⟩ := hown
    exact ⟨es, clock, (Below.heap_alloc _ _ b hbl).trans hb, Ft, hs, hD⟩)
  exact callsIn_wide.1 (AnyZ.sorted_in Y4o Fence.wide 5 trivial trivial trivial trivial rfl (by omega) (Y4Q _) (enters_of Tryz.func76 (by kernel_rfl) rfl) 78 #[.pointer (some ⟨w.heap.size, 0, none⟩)] trivial (enters_of Tryz.func78 (by kernel_rfl) rfl) _ _ hmax hbytes _ hseq)
 sortedN := fun w => by
  have hseq : SeqGives Fence.wide 2 Tryz.prog 78 #[.pointer (some ⟨w.heap.size, 0, none⟩)] encStr (fun ss : List (List UInt8) => ss = []) 0 (w.alloc (.cells #[.map none] 106)) :=
   AnyZ.keys_gives_nil (ρ := Y3P) { Y5O with } Fence.wide _ trivial rfl w.heap.size _ (by simp) (by simp)
  exact callsIn_wide.1 (AnyZ.sorted_in Y4o Fence.wide 5 trivial trivial trivial trivial rfl (by omega) (Y4Q _) (enters_of Tryz.func76 (by kernel_rfl) rfl) 78 #[.pointer (some ⟨w.heap.size, 0, none⟩)] trivial (enters_of Tryz.func78 (by kernel_rfl) rfl) _ 0 (Nat.zero_le _) (by omega) _ hseq) }
end
end Go.Proofs.YtpfgdjfiimknlaaGreat
namespace Go.Proofs.YtpfgdjfiimknlaaGreatL
section
open Go Go.RowKit
def Y1Y (tk : Nat → List Nat) (m : Nat) (listed : Array Bool) (i : Nat) : Bool := (List.range m).any fun k => listed.getD k false && (tk k).contains i
def Y4s (tk : Nat → List Nat) (m i : Nat) : Bool := (List.range m).any fun k => (tk k).contains i
def Y8a : List Nat → Bool
 | [] => true
 | x :: l => !l.contains x && Y8a l
def Y5m (l : List Oper) (m : Nat) (tk : Nat → List Nat) : Bool :=
 (List.range m).all fun i => Y8a (tk i) && ((tk i).all fun j => Y3v l l.length i j && Nat.blt j i) && (List.range m).all fun k => Nat.beq k i || (tk i).all fun j => !(tk k).contains j
def tkAt (l : List (List Nat)) (i : Nat) : List Nat := l.getD i []
theorem Y6i : ∀ {l : List Nat}, Y8a l = true → l.Nodup
 | [], _ => by simp
 | x :: l, h => by
  simp only [Y8a, Bool.and_eq_true, Bool.not_eq_true'] at h
  refine List.nodup_cons.2 ⟨fun hm => ?_, Y6i h.2⟩
  have : l.contains x = true := by simpa using hm
  rw [this] at h; cases h.1
theorem Y1J {tk : Nat → List Nat} {m : Nat} {listed : Array Bool} {i : Nat} : Y1Y tk m listed i = true ↔ ∃ k, k < m ∧ listed.getD k false = true ∧ i ∈ tk k := by
 unfold Y1Y
 simp only [List.any_eq_true, List.mem_range, Bool.and_eq_true, List.contains_iff_mem]
theorem Y6U {tk : Nat → List Nat} {m : Nat} {listed : Array Bool} {i : Nat} (h : ∀ k, k < m → listed.getD k false = true) : Y1Y tk m listed i = Y4s tk m i := by
 rw [Bool.eq_iff_iff, Y1J]
 unfold Y4s
 simp only [List.any_eq_true, List.mem_range, List.contains_iff_mem]
 exact ⟨fun ⟨k, h1, _, h2⟩ => ⟨k, h1, h2⟩, fun ⟨k, h1, h2⟩ => ⟨k, h1, h k h1, h2⟩⟩
section
variable {l : List Oper} {m : Nat} {tk : Nat → List Nat}
theorem Y2z (h : Y5m l m tk = true) {i : Nat} (hi : i < m) (j : Nat) (hj : j ∈ tk i) : Y3v l l.length i j = true ∧ j < i ∧ j < m := by
 simp only [Y5m, List.all_eq_true, List.mem_range, Bool.and_eq_true] at h
 have h1 := (h i hi).1.2 j hj
 have h2 : j < i := by have := h1.2; simp [Nat.blt] at this; omega
 exact ⟨h1.1, h2, by omega⟩
theorem Y5l (h : Y5m l m tk = true) {i : Nat} (hi : i < m) : (tk i).Nodup := by
 simp only [Y5m, List.all_eq_true, List.mem_range, Bool.and_eq_true] at h
 exact Y6i (h i hi).1.1
theorem Y6d (h : Y5m l m tk = true) {k i j : Nat} (hk : k < m) (hi : i < m) (hkt : j ∈ tk k) (hit : j ∈ tk i) : k = i := by
 simp only [Y5m, List.all_eq_true, List.mem_range, Bool.and_eq_true, Bool.or_eq_true] at h
 rcases (h i hi).2 k hk with h1 | h1
 ·exact Nat.eq_of_beq_eq_true h1
 ·have := h1 j hit
  have h2 : (tk k).contains j = true := by simpa using hkt
  rw [h2] at this; cases this
end
theorem Y4Z {α β : Type _} {f g : α → List β} : ∀ {l : List α}, (∀ x ∈ l, f x = g x) → l.flatMap f = l.flatMap g
 | [], _ => rfl
 | x :: l, h => by rw [List.flatMap_cons, List.flatMap_cons, h x (by simp), Y4Z fun y hy => h y (by simp [hy])]
theorem Y3X {α : Type _} {m : Nat} : ∀ (f : Nat → List α) (js : List Nat), js.Nodup → (∀ j ∈ js, j < m) → (Y32 f m).Perm (js.flatMap f ++ Y32 (fun j => if j ∈ js then [] else f j) m)
 | f, [], _, _ => by
  rw [Y20 (f := fun j => if j ∈ ([] : List Nat) then [] else f j) (g := f) fun j _ => if_neg (by simp)]
  exact .refl _
 | f, i :: js, hn, hm => by
  have hn' := List.nodup_cons.1 hn
  have h1 := Y3H f (m := m) (i := i) (hm i (by simp))
  have h2 := Y3X (fun j => if j = i then [] else f j) js hn'.2 fun j hj => hm j (by simp [hj])
  have e1 : js.flatMap (fun j => if j = i then [] else f j) = js.flatMap f := Y4Z fun j hj => if_neg fun (e : j = i) => hn'.1 (e ▸ hj)
  have e2 : Y32 (fun j => if j ∈ js then [] else if j = i then [] else f j) m = Y32 (fun j => if j ∈ i :: js then [] else f j) m := Y20 fun j _ => by
   by_cases a : j ∈ js
   ·rw [if_pos a, if_pos (by simp [a])]
   ·by_cases b : j = i
    ·rw [if_neg a, if_pos b, if_pos (by simp [b])]
    ·rw [if_neg a, if_neg b, if_neg (by simp [a, b])]
  rw [e1, e2] at h2
  rw [List.flatMap_cons, List.append_assoc]
  exact h1.trans (h2.append_left (f i))
def oblT (P : Program) (N : Nat) (l : List Oper) (ok0 : Nat → Prop) (w0 : Base) (Γ : List It) (Λ : List LObj) (ρ0 : Env) (po : Nat → PO) (tk : Nat → List Nat) (m i : Nat) : Prop :=
 match l[i]? with
 | none => True
 | some o => ∀ ρ w Γx Λx, St ok0 w0 w (Γx ++ Γ) (Λx ++ (((po i).Pre ++ (tk i).flatMap fun j => (po j).L (Y1e ρ (Y1o l j))) ++ Λ)) → (∀ s, Y3o (l.take m) s = true → ρ s = ρ0 s) →
   (∀ j, Y3v l l.length i j = true → (po j).at_ l ρ (Y1e ρ (Y1o l j)) ∧ ∀ it ∈ (po j).G (Y1e ρ (Y1o l j)), it ∈ Γx) →
   WL P N l.toArray (oneQ ρ o.dst fun v w' => (po i).at_ l ρ (Y49 o.dst v) ∧ St ok0 w0 w' ((po i).G (Y49 o.dst v) ++ (Γx ++ Γ)) ((po i).L (Y49 o.dst v) ++ (Λx ++ Λ))) [o] ρ w
section
variable {P : Program} {N : Nat} {Q : QE} {ρ ρ0 : Env} {w w1 : World} {w0 : Base} {l : List Oper} {ok0 : Nat → Prop} {Γ : List It} {Λ : List LObj}
theorem W.anyT {id : Nat} (hm : P.follows .mixedOrders = true) (m F : Nat) (B : List Bool) (hF : l.length - m = F) (hB : Y5M l.length m = B) (po : Nat → PO) (tk : Nat → List Nat) (hs : St ok0 w0 w1 Γ (Y32 (fun i => (po i).Pre) m ++ Λ)) (hok : Y4A l m = true) (hdd : Y2R l = true) (hnd : Y6j l m po = true) (htk : Y5m l m tk = true)
  (hops : upTo (oblT P N l ok0 w0 Γ Λ ρ0 po tk m) m)
  (hfin : ∀ ρ w, St ok0 w0 w (Y32 (fun i => (po i).G (Y1e ρ (Y1o l i))) m ++ Γ) (Y32 (fun i => if Y4s tk m i = true then [] else (po i).L (Y1e ρ (Y1o l i))) m ++ Λ) → (∀ s, Y3o (l.take m) s = true → ρ s = ρ0 s) →
   upTo (fun i => (po i).at_ l ρ (Y1e ρ (Y1o l i))) m → WA P N l Q F B ρ w) :
  W P N (.region id l.toArray true) Q ρ0 w1 := by
 intro a0 ha0
 refine wp_region_any hm ?_
 let con : Array Bool → Env → Nat → List LObj := fun listed ρ i => if Y1Y tk m listed i = true then [] else if listed.getD i false = true then (po i).L (Y1e ρ (Y1o l i)) else (po i).Pre
 let InvA : Array Bool → Act → World → Prop := fun listed a w => ∃ (ρ : Env) (Γx : List It), Y3u N a ρ ∧ St ok0 w0 w (Γx ++ Γ) (Y32 (con listed ρ) m ++ Λ) ∧ (∀ s, Y3o (l.take m) s = true → ρ s = ρ0 s) ∧
  (∀ i, listed.getD i false = true → i < m ∧ (po i).at_ l ρ (Y1e ρ (Y1o l i)) ∧ ∀ it ∈ (po i).G (Y1e ρ (Y1o l i)), it ∈ Γx)
 have hsz : l.toArray.size = l.length := by simp
 have finish : ∀ listed a w, InvA listed a w → (∀ i, i < m → listed.getD i false = true) → wpAny P .any l.toArray (lift N Q) F B.toArray a w := by
  rintro listed a w ⟨ρ, Γx, hρ, hst, hu, hp⟩ hall
  refine hfin ρ w (St.sub (Γ := Γx ++ Γ) ?_ fun it hit => ?_) hu (upTo.mk m fun i hi => (hp i (hall i hi)).2.1) a hρ
  ·rw [Y20 (f := con listed ρ) (g := fun i => if Y4s tk m i = true then [] else (po i).L (Y1e ρ (Y1o l i))) fun i hi => by
    show (if _ then _ else if _ then _ else _) = _
    rw [Y6U (fun j hj => hall j hj), if_pos (hall i hi)]] at hst
   exact hst
  ·rcases List.mem_append.1 hit with hit | hit
   ·obtain ⟨i, hi, hx⟩ := Y4P hit
    exact List.mem_append.2 (.inl ((hp i (hall i hi)).2.2 it hx))
   ·exact List.mem_append.2 (.inr hit)
 have hdeps : ∀ {listed : Array Bool} {i : Nat}, i ∈ Region.ready .any l.toArray listed → i < l.length ∧ listed.getD i true = false ∧ ∀ d ∈ Y2l l i, listed.getD d false = true := by
  intro listed i hi
  rw [mem_ready] at hi
  obtain ⟨h0, o, ho, hall⟩ := hi
  have ho' : l[i]? = some o := by simpa using ho
  refine ⟨(List.getElem?_eq_some_iff.1 ho').1, h0, fun d hd => ?_⟩
  simp only [Y2l, ho', Option.map_some, Option.getD_some, List.mem_map, List.mem_filter] at hd
  obtain ⟨e, ⟨he, hb⟩, rfl⟩ := hd
  exact hall e (by simpa using he) hb
 have hready : ∀ {listed : Array Bool}, Region.ready .any l.toArray listed = [] → listed.size = l.length → ∀ i, i < l.length → listed.getD i false = true := by
  intro listed hr hls i
  induction i using Nat.strongRecOn with
  | _ i ih =>
   intro hi
   cases hb : listed.getD i false with
   | true => rfl
   | false =>
    exfalso
    have hin : i ∈ Region.ready .any l.toArray listed := by
     rw [mem_ready]
     refine ⟨?_, l[i], by simp [hi], fun e he hbd => ?_⟩
     ·have : i < listed.size := by omega
      simp [this] at hb ⊢
      exact hb
     ·have hd : e.on ∈ Y2l l i := by
       simp only [Y2l, List.getElem?_eq_getElem hi, Option.map_some, Option.getD_some, List.mem_map, List.mem_filter]
       exact ⟨e, ⟨by simpa using he, hbd⟩, rfl⟩
      have hlt := Y50 hok hi hd
      exact ih e.on hlt (by omega)
    rw [hr] at hin
    cases hin
 have hset : ∀ {listed : Array Bool} {i j : Nat}, listed.size = l.length → i < l.length → ((listed.setIfInBounds i true).getD j false = true ↔ (j = i ∨ listed.getD j false = true)) := by
  intro listed i j hls hi
  by_cases hij : i = j
  ·subst hij
   have : i < listed.size := by omega
   simp [this]
  ·rw [getD_set_ne false hij]
   constructor
   ·exact .inr
   ·rintro (h | h)
    ·exact absurd h.symm hij
    ·exact h
 have main : ∀ fuel listed a w, listed.size = l.length → Y1R listed l.length = fuel →
   (∀ k, listed.getD k false = true → ∀ d ∈ Y2l l k, listed.getD d false = true) → InvA listed a w → wpAny P .any l.toArray (lift N Q) fuel listed a w := by
  intro fuel
  induction fuel with
  | zero =>
   intro listed a w hls hlf hcl hI
   have hall : ∀ i, i < l.length → listed.getD i false = true := by
    intro i hi
    have h1 := Y2s hlf i hi
    have : i < listed.size := by omega
    simp [this] at h1 ⊢
    exact h1
   refine ⟨?_, ?_⟩
   ·cases hr : Region.ready .any l.toArray listed with
    | nil => rfl
    | cons i rs =>
     exfalso
     obtain ⟨h1, h2, _⟩ := hdeps (listed := listed) (i := i) (by rw [hr]; simp)
     rw [Y2s hlf i h1] at h2
     cases h2
   ·have hmn : m = l.length := by
     obtain ⟨ρ, Γx, hρ, hst, hu, hp⟩ := hI
     rcases Nat.lt_or_ge m l.length with h | h
     ·have := (hp m (hall m h)).1; omega
     ·have := Y3b hok; omega
    have h0 := finish listed a w hI fun i hi => hall i (by omega)
    have hF0 : F = 0 := by omega
    subst hF0
    exact h0.2
  | succ fuel ih =>
   intro listed a w hls hlf hcl hI
   have hne : Region.ready .any l.toArray listed ≠ [] := by
    intro hr
    have hall := hready hr hls
    have : ∀ n, n ≤ l.length → Y1R listed n = 0 := by
     intro n
     induction n with
     | zero => exact fun _ => rfl
     | succ n ihn =>
      intro hn
      have h1 := hall n (by omega)
      have : n < listed.size := by omega
      have h2 : listed.getD n true = true := by simp [this] at h1 ⊢; exact h1
      rw [Y1R, ihn (by omega), h2]; rfl
    rw [this l.length (Nat.le_refl _)] at hlf
    cases hlf
   refine ⟨fun hr => absurd hr hne, fun i hi => ?_⟩
   obtain ⟨hin, hi0, hid⟩ := hdeps hi
   have hri : ∀ j, Y3v l l.length i j = true → listed.getD j false = true := fun j hj => Y1L hcl _ i j hid hj
   have ho : l[i]? = some l[i] := List.getElem?_eq_getElem hin
   have ho2 : l.toArray[i]? = some l[i] := by simpa using ho
   have hls' : (listed.setIfInBounds i true).size = l.length := by simpa using hls
   have hlf' : Y1R (listed.setIfInBounds i true) l.length = fuel := by
    have := Y3E hi0 l.length
    rw [if_pos hin] at this
    omega
   have hcl' : ∀ k, (listed.setIfInBounds i true).getD k false = true → ∀ d ∈ Y2l l k, (listed.setIfInBounds i true).getD d false = true := by
    intro k hk d hd
    rcases (hset hls hin).1 hk with rfl | hk
    ·exact getD_set_true (hid d hd)
    ·exact getD_set_true (hcl k hk d hd)
   have hif : listed.getD i false = false := by
    have : i < listed.size := by omega
    simp [this] at hi0 ⊢
    exact hi0
   rcases Nat.lt_or_ge i m with him | him
   ·obtain ⟨ρ, Γx, hρ, hst, hu, hp⟩ := hI
    have hob := hops.at_ i him
    unfold oblT at hob
    rw [ho] at hob
    have hnt : Y1Y tk m listed i = false := by
     cases hb : Y1Y tk m listed i with
     | false => rfl
     | true =>
      obtain ⟨k, hk, hkl, hkt⟩ := Y1J.1 hb
      have := Y1L hcl _ k i (hcl k hkl) ((Y2z htk hk i hkt).1)
      rw [hif] at this; cases this
    have hci : con listed ρ i = (po i).Pre := by
     show (if _ then _ else if _ then _ else _) = _
     rw [hnt, hif, if_neg (by simp), if_neg (by simp)]
    have hcj1 : ∀ j ∈ tk i, con listed ρ j = (po j).L (Y1e ρ (Y1o l j)) := by
     intro j hj
     have h1 := Y2z htk him j hj
     have h2 : Y1Y tk m listed j = false := by
      cases hb : Y1Y tk m listed j with
      | false => rfl
      | true =>
       obtain ⟨k, hk, hkl, hkt⟩ := Y1J.1 hb
       have : k = i := Y6d htk hk him hkt hj
       subst this
       rw [hif] at hkl; cases hkl
     show (if _ then _ else if _ then _ else _) = _
     rw [h2, hri j h1.1, if_neg (by simp), if_pos rfl]
    have hjs : (i :: tk i).Nodup := List.nodup_cons.2 ⟨fun h => by have := (Y2z htk him i h).2.1; omega, Y5l htk him⟩
    have hjlt : ∀ j ∈ i :: tk i, j < m := by
     intro j hj
     rcases List.mem_cons.1 hj with rfl | hj
     ·exact him
     ·have := (Y2z htk him j hj).2.1; omega
    have hfl : (i :: tk i).flatMap (con listed ρ) = (po i).Pre ++ (tk i).flatMap fun j => (po j).L (Y1e ρ (Y1o l j)) := by
     rw [List.flatMap_cons, hci, Y4Z hcj1]
    have hst1 : St ok0 w0 w (Γx ++ Γ) (Y32 (fun j => if j ∈ i :: tk i then [] else con listed ρ j) m ++ (((po i).Pre ++ (tk i).flatMap fun j => (po j).L (Y1e ρ (Y1o l j))) ++ Λ)) := by
     refine hst.perm ?_
     have := (Y3X (con listed ρ) (i :: tk i) hjs hjlt).append_right Λ
     rw [hfl] at this
     refine this.trans ((List.perm_append_comm.append_right Λ).trans ?_)
     rw [List.append_assoc]
    refine Y3B ho2 hρ (hob ρ w Γx _ hst1 hu fun j hj => (hp j (hri j hj)).2) fun a' v w' ha' hR => ih _ a' w' hls' hlf' hcl' ?_
    have hdi : Y1o l i = l[i].dst := by simp [Y1o, ho]
    have hsame : ∀ j, j ≠ i → Y1e (putE ρ l[i].dst v) (Y1o l j) = Y1e ρ (Y1o l j) := fun j hj => Y5v fun t ht e => hj (Y3W hdd e (hdi.trans ht))
    have hcs : ∀ j, j ∉ i :: tk i → con (listed.setIfInBounds i true) (putE ρ l[i].dst v) j = con listed ρ j := by
     intro j hj
     have hji : j ≠ i := fun e => hj (by simp [e])
     have hjt : j ∉ tk i := fun e => hj (by simp [e])
     have ht : Y1Y tk m (listed.setIfInBounds i true) j = Y1Y tk m listed j := by
      rw [Bool.eq_iff_iff, Y1J, Y1J]
      constructor
      ·rintro ⟨k, hk, hkl, hkt⟩
       rcases (hset hls hin).1 hkl with rfl | hkl
       ·exact absurd hkt hjt
       ·exact ⟨k, hk, hkl, hkt⟩
      ·rintro ⟨k, hk, hkl, hkt⟩
       exact ⟨k, hk, (hset hls hin).2 (.inr hkl), hkt⟩
     show (if _ then _ else if _ then _ else _) = (if _ then _ else if _ then _ else _)
     rw [ht, getD_set_ne false (fun e => hji e.symm), hsame j hji]
    have hct : ∀ j ∈ tk i, con (listed.setIfInBounds i true) (putE ρ l[i].dst v) j = [] := by
     intro j hj
     have ht : Y1Y tk m (listed.setIfInBounds i true) j = true := Y1J.2 ⟨i, him, (hset hls hin).2 (.inl rfl), hj⟩
     show (if _ then _ else if _ then _ else _) = _
     rw [ht, if_pos rfl]
    have hnt2 : Y1Y tk m (listed.setIfInBounds i true) i = false := by
     cases hb : Y1Y tk m (listed.setIfInBounds i true) i with
     | false => rfl
     | true =>
      obtain ⟨k, hk, hkl, hkt⟩ := Y1J.1 hb
      have h1 := Y2z htk hk i hkt
      rcases (hset hls hin).1 hkl with rfl | hkl
      ·have := h1.2.1; omega
      ·have := Y1L hcl _ k i (hcl k hkl) h1.1
       rw [hif] at this; cases this
    have hci2 : con (listed.setIfInBounds i true) (putE ρ l[i].dst v) i = (po i).L (Y49 l[i].dst v) := by
     show (if _ then _ else if _ then _ else _) = _
     rw [hnt2, if_neg (by simp), if_pos ((hset hls hin).2 (.inl rfl)), hdi, Y3K]
    have hat : ∀ j, j < m → (∀ k, Y3v l l.length j k = true → listed.getD k false = true) → ∀ v', (po j).at_ l ρ v' → (po j).at_ l (putE ρ l[i].dst v) v' := by
     intro j hjm hk v' h
     have e : ((po j).needs.map fun k => Y1e (putE ρ l[i].dst v) (Y1o l k)) = (po j).needs.map fun k => Y1e ρ (Y1o l k) := by
      refine List.map_congr_left fun k hkn => hsame k ?_
      rintro rfl
      simp only [Y6j, List.all_eq_true, List.mem_range] at hnd
      have := hk _ (hnd j hjm _ hkn)
      rw [hif] at this
      cases this
     unfold PO.at_
     rw [e]
     exact h
    have hcj := hri
    refine ⟨_, (po i).G (Y49 l[i].dst v) ++ Γx, ha', ?_, fun s hsn => ?_, fun j hj => ?_⟩
    ·rw [List.append_assoc]
     refine hR.2.perm ?_
     have h9 := (Y3H (con (listed.setIfInBounds i true) (putE ρ l[i].dst v)) him).append_right Λ
     rw [hci2, Y20 (f := fun j => if j = i then [] else con (listed.setIfInBounds i true) (putE ρ l[i].dst v) j) (g := fun j => if j ∈ i :: tk i then [] else con listed ρ j) (fun j _ => by
      by_cases e : j = i
      ·simp [e]
      ·by_cases e2 : j ∈ tk i
       ·rw [if_neg e, if_pos (by simp [e2]), hct j e2]
       ·rw [if_neg e, if_neg (by simp [e, e2]), hcs j (by simp [e, e2])]), List.append_assoc] at h9
     exact h9.symm
    ·cases hd : l[i].dst with
     | none => exact hu s hsn
     | some t =>
      have : s ≠ t := by
       rintro rfl
       exact Y3n hsn (i := i) (by simp [Y1o, List.getElem?_take, him, ho, hd])
      show upd ρ t v s = ρ0 s
      rw [Y6c _ _ this]
      exact hu s hsn
    ·by_cases hji : j = i
     ·subst hji
      refine ⟨him, ?_⟩
      rw [hdi, Y3K]
      exact ⟨hat j him hcj _ hR.1, fun it hit => List.mem_append.2 (.inl hit)⟩
     ·have hj' := ((hset hls hin).1 hj).resolve_left hji
      rw [hsame j hji]
      exact ⟨(hp j hj').1, hat j (hp j hj').1 (fun k hk => Y1L hcl _ j k (hcl j hj') hk) _ (hp j hj').2.1, fun it hit => List.mem_append.2 (.inr ((hp j hj').2.2 it hit))⟩
   ·have hall : ∀ j, j < m → listed.getD j false = true := fun j hj => hri j (Y4t hok hin him hj)
    have h0 := finish listed a w hI hall
    obtain ⟨ρ, Γx, hρ, hst, hu, hp⟩ := hI
    have hl2 : ∀ j, j < l.length → (listed.getD j false = true ↔ j < m) := fun j hj => ⟨fun h => (hp j h).1, fun h => hall j h⟩
    have e1 := Y3N l.length m hls hl2
    have e2 := Y3O l.length m (Y3b hok) hls hl2
    have e3 : F = fuel + 1 := by omega
    rw [← hB, ← e1, e3] at h0
    exact h0.2 i hi
 have hfull : Y1R (Array.replicate l.length false) l.length = l.length := by
  have : ∀ n, n ≤ l.length → Y1R (Array.replicate l.length false) n = n := by
   intro n
   induction n with
   | zero => exact fun _ => rfl
   | succ n ih =>
    intro hn
    have h2 : (Array.replicate l.length false).getD n true = false := by
     have : n < l.length := by omega
     simp [this]
    rw [Y1R, ih (by omega), h2]; rfl
  exact this _ (Nat.le_refl _)
 have hnone : ∀ i, (Array.replicate l.length false).getD i false ≠ true := by
  intro i hi
  rcases Nat.lt_or_ge i l.length with h | h <;> simp [h] at hi
 suffices hgo : InvA (Array.replicate l.length false) a0 { w1 with drawn := w1.drawn + 1 } by
  have := main l.length (Array.replicate l.length false) a0 { w1 with drawn := w1.drawn + 1 } (by simp) hfull (fun k hk => absurd hk (hnone k)) hgo
  simpa using this
 refine ⟨ρ0, [], ha0, ?_, fun _ _ => rfl, fun i hi => absurd hi (hnone i)⟩
 rw [Y20 (f := con (Array.replicate l.length false) ρ0) (g := fun i => (po i).Pre) fun i _ => by
  have h1 : Y1Y tk m (Array.replicate l.length false) i = false := by
   cases hb : Y1Y tk m (Array.replicate l.length false) i with
   | false => rfl
   | true => obtain ⟨k, hk, hkl, hkt⟩ := Y1J.1 hb; exact absurd hkl (hnone k)
  show (if _ then _ else if _ then _ else _) = _
  rw [h1, if_neg (by simp), if_neg (hnone i)]]
 exact hs.drew
end
end
section
open Go
def po (R : Addr → Prop) : PO := ⟨fun _ v => ∃ ad, v = .pointer (some ad) ∧ R ad, fun _ => [], fun _ => [], [], []⟩
end
end Go.Proofs.YtpfgdjfiimknlaaGreatL
