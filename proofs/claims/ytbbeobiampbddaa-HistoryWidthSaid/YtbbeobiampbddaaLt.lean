/- Fields of the elements of a slice of the call's own. -/
import Derived.Test.YtbbeobiampbddaaLp
set_option linter.unusedVariables false
set_option linter.unusedSimpArgs false
set_option linter.unnecessarySimpa false
namespace Go.Proofs.YtbbeobiampbddaaL
open Go Go.RowKit
section
variable {P : Program} {N : Nat} {ops : Array Oper} {Q : QE} {ρ : Env} {w : World} {w0 : Base} {rest : List Oper} {d : Option Tmp} {ty : TypeId} {pos : String} {aft : Array Edge} {gd : Option (Nat × Bool)} {ok0 : Nat → Prop} {Γ : List It} {Λ : List LObj}

def OwnAtF (sz off : Nat) (v : Value) (i : Int) (ad : Addr) : Prop := ∃ g n c, v = .slice (some ⟨g, 0, none⟩) n c ∧ ad = ⟨g, i.toNat * sz + off, none⟩
theorem OwnAt.f {sz : Nat} {v : Value} {i : Int} {ad : Addr} (h : OwnAt sz v i ad) : OwnAtF sz 0 v i ad := h
theorem WL.fieldAddrO {sz o1 : Nat} {v : Value} {i : Int} {ad : Addr} {T : TypeId} {x : Operand} {j off o2 : Nat} (hat : OwnAtF sz o1 v i ad) (hx : ρ.ev x = .pointer (some ad)) (hf : FA P T j off) (ho : o1 + off = o2)
    (K : ∀ ad', OwnAtF sz o2 v i ad' → WL P N ops Q rest (putE ρ d (.pointer (some ad'))) w)
    (hg : wantedE ops ρ ⟨d, .fieldAddr T x j, ty, pos, aft, gd⟩ = true := by rfl) (hd : fits N d = true := by rfl) :
    WL P N ops Q (⟨d, .fieldAddr T x j, ty, pos, aft, gd⟩ :: rest) ρ w := by
  obtain ⟨g, n, c, rfl, rfl⟩ := hat
  exact WL.fieldAddr hx hf rfl (K _ ⟨g, n, c, rfl, by rw [Nat.add_assoc, ho]⟩) hg hd
theorem WL.loadOF {α β : Type} {A : Ty α} {F : Ty β} {off : Nat} {get : α → β} {set : α → β → α} (hf : Fld A F off get set) {xs : List α} {y : α} {t E : TypeId} {x : Operand} {v : Value} {i : Int} {ad : Addr} (hs : St ok0 w0 w Γ Λ) (m : Nat) (hm : Λ[m]? = some (own A E v xs))
    (ht : TI P t F.agg F.sz) (h1 : F.agg = true ∨ F.sz = 1) (hat : OwnAtF A.sz off v i ad) (hi : idx xs i = some y) (hx : ρ.ev x = .pointer (some ad)) {z : β} (hz : get y = z) (K : ∀ u, St ok0 w0 w (vl F z u :: Γ) Λ → WL P N ops Q rest (putE ρ d u) w)
    (hg : wantedE ops ρ ⟨d, .load t x, ty, pos, aft, gd⟩ = true := by rfl) (hd : fits N d = true := by rfl) :
    WL P N ops Q (⟨d, .load t x, ty, pos, aft, gd⟩ :: rest) ρ w := by
  subst hz
  obtain ⟨h0, hlt, h2⟩ := idx_some hi
  obtain ⟨g, n, c, rfl, rfl⟩ := hat
  obtain ⟨hB, bss, hN, hltb, hO, hA⟩ := hs
  obtain ⟨l1, bs, l2, rfl, hl, ho, hput⟩ := Own.split m hO hm
  obtain ⟨g', c', cur, e, hb, hg', hc, hmx, hsz, hC⟩ := own_some ho (by omega)
  cases e
  have hR := hf.get_ (hC.2 _ _ h2)
  generalize hvs : ((((cur.toList.take (xs.length * A.sz)).drop (i.toNat * A.sz)).take A.sz).drop off).take F.sz = vs at hR
  have hlen := F.len hR
  have hcell : ∀ k u, vs[k]? = some u → w.cell? ⟨g, i.toNat * A.sz + off + k, none⟩ = some u := by
    intro k u hu
    rw [← hvs, List.getElem?_take] at hu
    split at hu
    · rw [List.getElem?_drop, List.getElem?_take] at hu
      split at hu
      · rw [List.getElem?_drop, List.getElem?_take] at hu
        split at hu
        · simp only [World.cell?, hg']
          rw [Nat.add_assoc]
          simpa using hu
        · cases hu
      · cases hu
    · cases hu
  have hload : (loadVar t ⟨g, i.toNat * A.sz + off, none⟩).run P w = .ok (bif F.agg then .agg vs.toArray else vs.getD 0 undef) w := by
    rcases hag : F.agg with _ | _
    · have hsz1 := h1.resolve_left (by simp [hag])
      rw [hag] at ht
      match vs, hlen, hcell with
      | [], hl, _ => simp [hsz1] at hl
      | c :: cs', hl, hc => exact run_loadVar1 ht (hc 0 c rfl)
    · rw [hag] at ht
      exact run_loadVarN ht hlen hcell
  exact WL.load_ hx hload (K _ ⟨hB, _, hN, hltb, hO, fun it hit => by
    rcases List.mem_cons.1 hit with rfl | hit
    · exact V_one hR
    · exact hA it hit⟩) hg hd
theorem setAt_in (cs vs : List Value) (p off sz : Nat) (h1 : off + vs.length ≤ sz) (h2 : p + sz ≤ cs.length) :
    setAt cs (p + off) vs = setAt cs p (((cs.drop p).take sz).take off ++ vs ++ ((cs.drop p).take sz).drop (off + vs.length)) := by
  have hl : (((cs.drop p).take sz).take off ++ vs ++ ((cs.drop p).take sz).drop (off + vs.length)).length = sz := by
    simp only [List.length_append, List.length_take, List.length_drop]
    omega
  rw [setAt_eq _ _ _ (by omega), setAt_eq _ _ _ (by omega), hl]
  rw [List.take_take, Nat.min_eq_left (by omega), List.drop_take, List.drop_drop]
  have e1 : cs.take (p + off) = cs.take p ++ (cs.drop p).take off := by rw [List.take_add]
  have e2 : cs.drop (p + off + vs.length) = (cs.drop (p + (off + vs.length))).take (sz - (off + vs.length)) ++ cs.drop (p + sz) := by
    have := (List.take_append_drop (sz - (off + vs.length)) (cs.drop (p + (off + vs.length)))).symm
    rw [List.drop_drop, show p + (off + vs.length) + (sz - (off + vs.length)) = p + sz by omega] at this
    rw [Nat.add_assoc]
    exact this
  rw [e1, e2]
  simp only [List.append_assoc]
theorem WL.storeOF {α β : Type} {A : Ty α} {F : Ty β} {off : Nat} {get : α → β} {set : α → β → α} (hf : Fld A F off get set) {xs zs : List α} {yo : α} {z : β} {t E : TypeId} {a x : Operand} {v u : Value} {i : Int} {ad : Addr} {vs : List Value} {agg : Bool} (hs : St ok0 w0 w Γ Λ) (m : Nat) (hm : Λ[m]? = some (own A E v xs))
    (ht : TI P t agg F.sz) (hat : OwnAtF A.sz off v i ad) (hi : idx xs i = some yo) (ha : ρ.ev a = .pointer (some ad)) (hx : ρ.ev x = u) (hu : u.cells = vs.toArray) (hR : ∀ ok, All ok w Γ → F.R ok w z vs) (hz : xs.set i.toNat (set yo z) = zs)
    (K : ∀ w', St ok0 w0 w' Γ (Λ.set m (own A E v zs)) → WL P N ops Q rest (putE ρ d undef) w')
    (hg : wantedE ops ρ ⟨d, .store t a x, ty, pos, aft, gd⟩ = true := by rfl) (hd : fits N d = true := by rfl) :
    WL P N ops Q (⟨d, .store t a x, ty, pos, aft, gd⟩ :: rest) ρ w := by
  obtain ⟨h0, hlt, h2⟩ := idx_some hi
  obtain ⟨g, n, c, rfl, rfl⟩ := hat
  obtain ⟨ok, bs, ho, hA, hn, hbs, hput⟩ := hs.split m hm
  obtain ⟨g', c', cur, e, hb, hg', hc, hmx, hsz, hC⟩ := own_some ho (by omega)
  cases e
  have hy := hR ok hA
  have hl := F.len hy
  have hle := hf.le
  have hbd : (i.toNat + 1) * A.sz ≤ xs.length * A.sz := Nat.mul_le_mul_right _ hlt
  rw [Nat.add_mul, Nat.one_mul] at hbd
  have hcur : xs.length * A.sz ≤ cur.size := by rw [hsz]; exact Nat.mul_le_mul_right _ hc
  have hrun := run_storeVar (P := P) ht (g := g) (j := i.toNat * A.sz + off) (cs := cur.toList) (T := E) (by simpa using hg') hu hl (F.one hy) (by rw [Array.length_toList]; omega)
  refine WL.unit hg hd (w' := setCells w g (i.toNat * A.sz + off) vs) (by
    show (do Instr.storeAt t (ρ.ev a) (ρ.ev x); pure Next.skip : Sem Next).run P w = _
    rw [ha, hx]
    exact exec_u ((run_bind (by rfl)).trans hrun)) (K _ ?_)
  have hnew := setCells_heap hg' (i.toNat * A.sz + off) vs
  refine hput _ [g] _ (by rw [hb]; exact off_setCells g vs w _) (by simp) (fun b hb' => ?_) fun ok' hm' => ?_
  · simp only [List.mem_singleton] at hb'
    subst hb'
    exact ⟨.inl (by rw [hb]; simp), lt_of_some hnew⟩
  · have hel := hC.2 _ _ h2
    have hnewR := hf.set_ hel hy
    have hC2 := (hC.set hnewR i.toNat hlt).move hm'
    rw [hz] at hC2
    have hzl : zs.length = xs.length := by rw [← hz, List.length_set]
    have hcl : (cur.toList.take (xs.length * A.sz)).length = xs.length * A.sz := by rw [List.length_take, Array.length_toList (xs := cur)]; omega
    have eq := setAt_in (cur.toList.take (xs.length * A.sz)) vs (i.toNat * A.sz) off A.sz (by omega) (by rw [hcl]; exact hbd)
    have hin : i.toNat * A.sz + off + vs.length ≤ xs.length * A.sz := by omega
    rw [hl] at eq
    rw [← eq] at hC2
    refine .inr ⟨by show 0 < c; omega, _, by simp [Value.ownBlock], ⟨hC2.1, .inr ⟨g, c, _, by rw [hzl], Nat.zero_le _, hnew, by rw [hzl]; exact hc, hmx, by simp [setAt_length, hsz], ?_⟩⟩, hC2⟩
    rw [hzl, List.toList_toArray, setAt_take _ _ _ _ hin]
end
end Go.Proofs.YtbbeobiampbddaaL
