/- Calls that answer flat values while what is the call's own is lent; bytes turned to strings. -/
import Derived.Test.YtbbeobiampbddaaLp
import Derived.Laws.BytesArg
set_option linter.unusedVariables false
set_option linter.unusedSimpArgs false
set_option linter.unnecessarySimpa false
namespace Go.Proofs.YtbbeobiampbddaaL
open Go Go.RowKit
section
variable {P : Program} {N : Nat} {ops : Array Oper} {Q : QE} {ρ : Env} {w : World} {w0 : Base} {rest : List Oper} {d : Option Tmp} {ty : TypeId} {pos : String} {aft : Array Edge} {gd : Option (Nat × Bool)} {ok0 : Nat → Prop} {Γ : List It} {Λ : List LObj}

/-- What holds of no memory. -/
def FlatIt (it : It) : Prop := ∀ (ok ok' : Nat → Prop) (w w' : World), it.holds ok w → it.holds ok' w'
theorem flat0 : ∀ it ∈ ([] : List It), FlatIt it := fun it h => by cases h
theorem flatC {it : It} {Γ : List It} (h : FlatIt it) (k : ∀ i ∈ Γ, FlatIt i) : ∀ i ∈ it :: Γ, FlatIt i := fun i hi => by
  rcases List.mem_cons.1 hi with rfl | hi
  · exact h
  · exact k i hi
theorem St.addFlat (hs : St ok0 w0 w Γ Λ) {Γ' : List It} {okx : Nat → Prop} {w' : World} (hf : ∀ i ∈ Γ', FlatIt i) (h : ∀ i ∈ Γ', i.holds okx w') : St ok0 w0 w (Γ' ++ Γ) Λ := by
  obtain ⟨hB, bss, hN, hlt, hO, hA⟩ := hs
  exact ⟨hB, bss, hN, hlt, hO, fun i hi => by
    rcases List.mem_append.1 hi with hi | hi
    · exact hf i hi _ _ _ _ (h i hi)
    · exact hA i hi⟩
theorem WL.callLF {f : FuncId} {args : List Operand} {ats : Array TypeId} {vs : List Value} {Y : Type} {val : Y → Value} {Γr : Y → List It} (hs : St ok0 w0 w Γ Λ) (hf : FN P f) (ha : Evs ρ args vs)
    (hfl : ∀ y, ∀ it ∈ Γr y, FlatIt it)
    (hc : Calls P f vs.toArray w fun e w' => ∃ v, e = .returned v ∧ ∃ y, v = val y ∧ St (fun _ => True) (bz w) w' (Γr y) [])
    (K : ∀ y w', St ok0 w0 w' (Γr y ++ Γ) Λ → WL P N ops Q rest (putE ρ d (val y)) w')
    (hg : wantedE ops ρ ⟨d, .call { callee := .value (.func f), args := args.toArray, argTypes := ats }, ty, pos, aft, gd⟩ = true := by rfl) (hd : fits N d = true := by rfl) :
    WL P N ops Q (⟨d, .call { callee := .value (.func f), args := args.toArray, argTypes := ats }, ty, pos, aft, gd⟩ :: rest) ρ w := by
  refine WL.enter hg hd (w' := w) (f := f) (args := vs.toArray) ?_ hc ?_
  · show (invoke (.fn (.func f) #[]) (#[] ++ args.toArray.map ρ.ev)).run P w = _
    rw [List.map_toArray, ha.map]
    simpa [invoke] using hf vs.toArray w
  · rintro v w' ⟨y, rfl, hs'⟩
    refine K y w' ((hs.below hs'.1.nil_below).addFlat (hfl y) (okx := reg (fun _ => True) (bz w) []) (w' := w') ?_)
    obtain ⟨_, bss, _, _, hO, hA⟩ := hs'
    cases bss with
    | cons b bss => exact hO.elim
    | nil => exact hA

/-- Bytes as a string. -/
def bts (xs : List Int) : List UInt8 := xs.map fun n => UInt8.ofNat n.toNat
theorem WL.bytesStr {T U E : TypeId} {x : Operand} {xs : List Int} {a : Option Addr} {c : Nat} (hs : St ok0 w0 w Γ Λ) (i : Nat) (hi : Γ[i]? = some (vl (tSlice (tInt .u8)) xs (.slice a xs.length c)))
    (hT : P.underlying T = some (.slice E)) (hE : P.underlying E = some (.int .u8)) (hU : P.underlying U = some .string) (hx : ρ.ev x = .slice a xs.length c) (K : WL P N ops Q rest (putE ρ d (bstr (bts xs))) w)
    (hg : wantedE ops ρ ⟨d, .convert T U x, ty, pos, aft, gd⟩ = true := by rfl) (hd : fits N d = true := by rfl) :
    WL P N ops Q (⟨d, .convert T U x, ty, pos, aft, gd⟩ :: rest) ρ w :=
  WL.value hg hd (v := bstr (bts xs)) (w' := w) (by
    show (do pure (Next.value (← convert T U (ρ.ev x))) : Sem Next).run P w = _
    rw [hx]
    refine exec_v ?_
    have hz : xs = [] → ∀ a : Option Addr, (convert T U (.slice a xs.length c)).run P w = .ok (bstr (bts xs)) w := by
      rintro rfl a
      cases a with
      | none => exact run_convert_bytes_nil w T E hT hE 0 c U hU
      | some a =>
        have hl : (loadCells a 0).run P w = .ok (([] : List Int).map (Value.int .u8)).toArray w := by simpa using run_loadCells_list (P := P) w a [] (by simp)
        rw [List.length_nil, run_convert_bytes_string w T U E _ 0 c hT hE hU, run_bytesToString w a 0 c [] hl]
        rfl
    obtain ⟨ok, h⟩ := hs.get i hi
    obtain ⟨a', c', e, hc, hr⟩ := tSlice_V.1 h
    injection e with e1 e2 e3
    subst e1
    rcases hr with h0 | ⟨g, off, rfl, hg, hlt, hcell⟩
    · exact hz h0 a
    · rw [run_convert_bytes_arg w T E hT hE g off xs.length c xs rfl (fun i hi => by
        have hxi : xs[i]? = some xs[i] := List.getElem?_eq_getElem hi
        obtain ⟨cs, hR, hcs⟩ := hcell i xs[i] hxi
        have hR' : cs = [.int .u8 xs[i]] := hR
        subst hR'
        have h1 := hcs 0 _ rfl
        have h2 : off + i * (tInt .u8).sz + 0 = off + i := by show off + i * 1 + 0 = off + i; omega
        rw [h2] at h1
        rw [h1, List.getD_eq_getElem?_getD, hxi]
        rfl) U hU]
      rfl) K
end
end Go.Proofs.YtbbeobiampbddaaL
