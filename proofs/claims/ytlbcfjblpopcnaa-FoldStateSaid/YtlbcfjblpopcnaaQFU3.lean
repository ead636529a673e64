/- What the row leans on, as few texts. -/
import Derived.Test.YtlbcfjblpopcnaaQFU2
import Derived.Test.YtlbcfjblpopcnaaQFU1
import Derived.Test.YtlbcfjblpopcnaaQFU0
set_option linter.unusedVariables false
set_option linter.unusedSimpArgs false
set_option maxRecDepth 100000
set_option maxHeartbeats 4000000
namespace Go.Proofs.Ytlbcfjblpopcnaa
open Go Go.RowKit Go.Proofs.YtlbcfjblpopcnaaL
theorem cpy_set {α : Type} {xs : List α} {z v : α} {p : Nat} (hp : p ≤ xs.length) : (cpyN (xs ++ [z]) (p + 1) p).set p v = xs.take p ++ v :: xs.drop p := by
  have e0 : (xs ++ [z]).length = xs.length + 1 := by simp
  have e1 : cpyN (xs ++ [z]) (p + 1) p = (xs ++ [z]).take (p + 1) ++ xs.drop p := by
    unfold cpyN
    rw [e0, show Nat.min (xs.length + 1 - p) (xs.length + 1 - (p + 1)) = xs.length - p by
      show min (xs.length + 1 - p) (xs.length + 1 - (p + 1)) = _
      omega]
    rw [List.drop_eq_nil_of_le (show (xs ++ [z]).length ≤ p + 1 + (xs.length - p) by omega), List.append_nil]
    have e3 : (xs.drop p ++ [z]).take (xs.length - p) = xs.drop p := List.take_left' (by rw [List.length_drop])
    rw [List.drop_append_of_le_length hp, e3]
  rw [e1, List.set_append_left _ _ (by rw [List.length_take]; omega)]
  have e2 : (xs ++ [z]).take (p + 1) = xs.take p ++ [(xs ++ [z])[p]'(by omega)] := by
    rw [take_snoc (by omega), List.take_append_of_le_length hp]
  rw [e2, List.set_append_right _ _ (by rw [List.length_take]; omega)]
  rw [show p - (xs.take p).length = 0 by rw [List.length_take]; omega]
  simp
noncomputable def fposl {α : Type} (nm : α → List UInt8) (xs : List α) (k : List UInt8) : Int → Option (Int ⊕ Int) := fun i =>
  if decide (i < (xs.length : Int)) then ((idx xs i).bind fun y => if Op.bytesLess (nm y) k then letV (IntKind.i64.wrap (i + 1)) fun j => some (.inl j) else some (.inr i)) else some (.inr i)
theorem fpos_ex {α : Type} (nm : α → List UInt8) {xs : List α} (k : List UInt8) (hl : xs.length ≤ 1000000000) : ∃ b : Int, loopO (fposl nm xs k) 0 = some b ∧ ∃ p : Nat, b = (p : Int) ∧ Pos nm xs k p := by
  refine loopO_ex (fun n s => s = (n : Int) ∧ n ≤ xs.length ∧ ∀ i, i < n → (h : i < xs.length) → Op.bytesLess (nm xs[i]) k = true) xs.length ⟨rfl, Nat.zero_le _, fun i h => absurd h (by omega)⟩ ?_ ?_
  · rintro n s hn ⟨rfl, _, h⟩
    unfold fposl
    simp only [lt_of_len hn, if_true, idx_nat hn, Option.bind_some]
    cases hc : Op.bytesLess (nm xs[n]) k with
    | true =>
      rw [if_pos rfl, letV_of, wcast hn (by omega)]
      refine .inl ⟨_, rfl, rfl, hn, fun i hi h2 => ?_⟩
      by_cases he : i = n
      · subst he; exact hc
      · exact h i (by omega) h2
    | false =>
      rw [if_neg (by simp)]
      exact .inr ⟨_, rfl, n, rfl, by omega, h, fun _ => hc⟩
  · rintro s ⟨rfl, _, h⟩
    unfold fposl
    simp only [not_lt_len, Bool.false_eq_true, if_false]
    exact ⟨_, rfl, xs.length, rfl, Nat.le_refl _, h, fun h => absurd h (Nat.lt_irrefl _)⟩
abbrev L9 (os : List RO_) : List (List UInt8 × Value) := rawA os ++ [(([] : List UInt8), Value.slice none 0 0)]
theorem zeroF_R (ok : Nat → Prop) (w : World) : t_fold_Field.R ok w (fold_zero : fold_Field) [bstr [], .bool false, .int .i64 0, .int .i64 0, .int .i64 0, .int .i64 0, bstr [], .bool false, .int .i64 0, .int .i64 0, .slice none 0 0, .bool false] :=
  ⟨[bstr []], _, rfl, rfl, [.bool false, .int .i64 0, .int .i64 0, .int .i64 0, .int .i64 0, bstr []], _, rfl, ⟨[.bool false], _, rfl, rfl, [.int .i64 0], _, rfl, rfl, [.int .i64 0], _, rfl, rfl, [.int .i64 0], _, rfl, rfl, [.int .i64 0], _, rfl, rfl, rfl⟩, [.bool false], _, rfl, rfl, [.int .i64 0], _, rfl, rfl, [.int .i64 0], _, rfl, rfl, [.slice none 0 0], _, rfl, R_nil, rfl⟩
theorem namedF_R (ok : Nat → Prop) (w : World) (n : List UInt8) : t_fold_Field.R ok w ({ (fold_zero : fold_Field) with Name := n } : fold_Field) [bstr n, .bool false, .int .i64 0, .int .i64 0, .int .i64 0, .int .i64 0, bstr [], .bool false, .int .i64 0, .int .i64 0, .slice none 0 0, .bool false] :=
  ⟨[bstr n], _, rfl, rfl, [.bool false, .int .i64 0, .int .i64 0, .int .i64 0, .int .i64 0, bstr []], _, rfl, ⟨[.bool false], _, rfl, rfl, [.int .i64 0], _, rfl, rfl, [.int .i64 0], _, rfl, rfl, [.int .i64 0], _, rfl, rfl, [.int .i64 0], _, rfl, rfl, rfl⟩, [.bool false], _, rfl, rfl, [.int .i64 0], _, rfl, rfl, [.int .i64 0], _, rfl, rfl, [.slice none 0 0], _, rfl, R_nil, rfl⟩
abbrev FR_ : Type := Option Addr × Nat × Nat × List RO_ × Addr
abbrev FRok (objs : List fold_Object) (x1 x2 : List UInt8) (y : FR_) : Prop := y.2.2.2.1.map mkO = insT objs x1 x2 ∧ ∃ (p : Nat) (hp : p < y.2.2.2.1.length), (y.2.2.2.1[p]'hp).1 = x1 ∧ ∃ (q : Nat) (hq : q < (y.2.2.2.1[p]'hp).2.2.length), ((y.2.2.2.1[p]'hp).2.2[q]'hq).Name = x2 ∧ Go.Proofs.YtlbcfjblpopcnaaL.OwnAt 12 (y.2.2.2.1[p]'hp).2.1 (q : Int) y.2.2.2.2
theorem esref32_field.callr {ok : Nat → Prop} {F : Base} {w0 : World} {gt : Nat} {a : Option Addr} {n c : Nat} {os : List RO_} {x1 x2 : List UInt8} (hsa : SA ON_ (os.map mkO)) (hb1 : os.length ≤ 100000) (hbl0 : ∀ o ∈ os, o.2.2.length ≤ 100000) (hs : St ok F w0 [] [blk gt 29 [.slice a n c], own tRO 51 (.slice a n c) (rawA os), innA t_fold_Field 57 os]) :
    Calls Try.prog 50 #[.pointer (some ⟨gt, 0, none⟩), bstr x1, bstr x2] w0 fun e w' => ∃ v, e = .returned v ∧ ∃ y : {y : FR_ // FRok (os.map mkO) x1 x2 y}, v = .pointer (some y.1.2.2.2.2) ∧ St ok F w' [] [blk gt 29 [.slice y.1.1 y.1.2.1 y.1.2.2.1], own tRO 51 (.slice y.1.1 y.1.2.1 y.1.2.2.1) (rawA y.1.2.2.2.1), innA t_fold_Field 57 y.1.2.2.2.1] := by
  obtain rfl := hs.ownLen 1 rfl
  obtain ⟨b0, hb0, p, hbp, hpos⟩ := fpos_ex (Prod.fst : List UInt8 × Value → List UInt8) (xs := rawA os) x1 (by rw [rawA, List.length_map]; omega)
  refine calls_of_W (fn := Try.f50) (N := 166) Try.func50 rfl Try.ntmps50 rfl ?_
  refine W.seqK fun K1 hK1 => ?_
  refine W.region ?_
  refine WL.assign (v := .pointer none) rfl ?_
  refine WL.nil ?_
  refine hK1 _ _ ?_
  refine W.seqK fun K2 hK2 => ?_
  refine W.region ?_
  refine WL.assign (v := .int .i64 0) rfl ?_
  refine WL.nil ?_
  refine hK2 _ _ ?_
  refine W.seqK fun K3 hK3 => ?_
  have Jk3 : ∀ (ρ : Env) (w : World), ρ 0 = .pointer (some ⟨gt, 0, none⟩) → ρ 1 = bstr x1 → ρ 2 = bstr x2 → ρ 7 = .int .i64 (p : Int) → St ok F w [] [blk gt 29 [.slice a (rawA os).length c], own tRO 51 (.slice a (rawA os).length c) (rawA os), innA t_fold_Field 57 os] → K3 ρ w := by
    intro ρ w h0 h1 h2 h7 hs
    refine hK3 _ _ ?_
    refine W.seqK fun K6 hK6 => ?_
    have Jk6 : ∀ (os' : List RO_) (a' : Option Addr) (n' c' : Nat) (ρ : Env) (w : World), (∃ hp : p < os'.length, os'[p].1 = x1) → (∀ o ∈ os', o.2.2.length ≤ 100000) → os'.map mkO = upd ON_ x1 (fun o => o.getD ⟨x1, []⟩) (os.map mkO) → ρ 0 = .pointer (some ⟨gt, 0, none⟩) → ρ 1 = bstr x1 → ρ 2 = bstr x2 → ρ 7 = .int .i64 (p : Int) → St ok F w [] [blk gt 29 [.slice a' n' c'], own tRO 51 (.slice a' n' c') (rawA os'), innA t_fold_Field 57 os'] → K6 ρ w := by
      intro os' a' n' c' ρ w hp hbl hm h0 h1 h2 h7 hs
      obtain ⟨hp0, hp1⟩ := hp
      obtain rfl := hs.ownLen 1 rfl
      have hlr' : (rawA os').length = os'.length := by rw [rawA, List.length_map]
      obtain ⟨y, hy⟩ : ∃ y, y = os'[p] := ⟨_, rfl⟩
      have hmy : y ∈ os' := by rw [hy]; exact List.getElem_mem hp0
      have hbi := hbl y hmy
      rw [← hy] at hp1
      obtain ⟨nm, vi, xs⟩ := y
      have hp1 : nm = x1 := hp1
      subst hp1
      have hbi : xs.length ≤ 100000 := hbi
      have hs := hs.front 2 rfl
      have hs := hs.rinTake hp0
      rw [← hy] at hs
      obtain ⟨rest, hrest⟩ : ∃ rest, rest = os'.take p ++ os'.drop (p + 1) := ⟨_, rfl⟩
      rw [← hrest] at hs
      have hrp : rest.take p = os'.take p := by
        rw [hrest, List.take_append_of_le_length (by rw [List.length_take]; omega), List.take_take, Nat.min_self]
      have hrd : rest.drop p = os'.drop (p + 1) := by
        rw [hrest, List.drop_append_of_le_length (by rw [List.length_take]; omega), List.drop_of_length_le (by rw [List.length_take]; omega), List.nil_append]
      have hs : St ok F w [] [own t_fold_Field 57 vi xs, innA t_fold_Field 57 rest, blk gt 29 [.slice a' (rawA os').length c'], own tRO 51 (.slice a' (rawA os').length c') (rawA os')] := hs
      obtain ⟨ai, ni, ci, rfl⟩ := hs.ownv3 0 rfl
      obtain rfl := hs.ownLen 0 rfl
      have hry : idx (rawA os') (p : Int) = some (nm, Value.slice ai xs.length ci) := by
        rw [idx_nat (by omega)]
        simp [rawA, ← hy]
      refine hK6 _ _ ?_
      refine W.seqK fun K21 hK21 => ?_
      refine W.region ?_
      refine WL.move (v := .pointer (some ⟨gt, 0, none⟩)) h0 ?_
      refine WL.nilCheck rfl rfl ?_
      refine WL.fieldAddr (m := 0) rfl FA29_0 rfl ?_
      refine WL.load1 (v := .slice a' (rawA os').length c') hs 2 rfl TI27 rfl rfl ?_
      refine WL.move (v := .int .i64 (p : Int)) h7 ?_
      refine WL.indexAddrO hs 3 rfl UN27 TI51 rfl rfl hry (fun ad hat => ?_)
      obtain ⟨go, no, co, eo, rfl⟩ := hat
      cases eo
      refine WL.assign (v := .pointer (some ⟨go, p * 2, none⟩)) rfl ?_
      refine WL.nil ?_
      refine hK21 _ _ ?_
      refine W.seqK fun K22 hK22 => ?_
      refine W.region ?_
      refine WL.assign (v := .int .i64 0) rfl ?_
      refine WL.nil ?_
      refine hK22 _ _ ?_
      have hA1 : OwnAtF 2 1 (.slice (some ⟨go, 0, none⟩) (rawA os').length c') (p : Int) ⟨go, p * 2 + 1, none⟩ := ⟨go, _, _, rfl, rfl⟩
      obtain ⟨b1, hb1', q, hbq, hposq⟩ := fpos_ex fold_Field.Name (xs := xs) x2 (by omega)
      refine W.seqK fun K23 hK23 => ?_
      have Jk23 : ∀ (ρ : Env) (w : World), ρ 2 = bstr x2 → ρ 8 = .pointer (some ⟨go, p * 2, none⟩) → ρ 9 = .int .i64 (q : Int) → St ok F w [] [own t_fold_Field 57 (.slice ai xs.length ci) xs, innA t_fold_Field 57 rest, blk gt 29 [.slice (some ⟨go, 0, none⟩) (rawA os').length c'], own tRO 51 (.slice (some ⟨go, 0, none⟩) (rawA os').length c') (rawA os')] → K23 ρ w := by
        intro ρ w h2 h8 h9 hs
        refine hK23 _ _ ?_
        refine W.seqK fun K26 hK26 => ?_
        have Jk26 : ∀ (ys : List fold_Field) (ai' : Option Addr) (ni' ci' : Nat) (ρ : Env) (w : World), (∃ hq : q < ys.length, ys[q].Name = x2) → ys = upd FN_ x2 (fun o => o.getD { fold_zero with Name := x2 }) xs → ρ 8 = .pointer (some ⟨go, p * 2, none⟩) → ρ 9 = .int .i64 (q : Int) → St ok F w [] [own t_fold_Field 57 (.slice ai' ni' ci') ys, innA t_fold_Field 57 rest, blk gt 29 [.slice (some ⟨go, 0, none⟩) (rawA os').length c'], own tRO 51 (.slice (some ⟨go, 0, none⟩) (rawA os').length c') ((rawA os').set p (nm, .slice ai' ni' ci'))] → K26 ρ w := by
          intro ys ai' ni' ci' ρ w hq hys h8 h9 hs
          obtain ⟨hq0, hq1⟩ := hq
          obtain rfl := hs.ownLen 0 rfl
          have hry2 : idx ((rawA os').set p (nm, Value.slice ai' ys.length ci')) (p : Int) = some (nm, Value.slice ai' ys.length ci') := by
            rw [idx_nat (by rw [List.length_set]; omega)]
            simp
          refine hK26 _ _ ?_
          have hA2 : OwnAtF 2 1 (.slice (some ⟨go, 0, none⟩) (rawA os').length c') (p : Int) ⟨go, p * 2 + 1, none⟩ := ⟨go, _, _, rfl, rfl⟩
          refine W.seqK fun K30 hK30 => ?_
          refine W.region ?_
          refine WL.move (v := .pointer (some ⟨go, p * 2, none⟩)) h8 ?_
          refine WL.nilCheck rfl rfl ?_
          refine WL.fieldAddr (m := p * 2 + 1) rfl FA51_1 rfl ?_
          refine WL.loadOF F_RO_2 hs 3 rfl TI49 (.inr rfl) hA2 hry2 rfl (z := .slice ai' ys.length ci') rfl (fun v hs => ?_)
          obtain rfl := hs.cellv 0 rfl
          have hs := hs.pick []
          refine WL.move (v := .int .i64 (q : Int)) h9 ?_
          refine WL.indexAddrO hs 0 rfl UN49 TI57 rfl rfl (idx_nat hq0) (fun ad hat => ?_)
          refine WL.assign (v := .pointer (some ad)) rfl ?_
          refine WL.nil ?_
          refine hK30 _ _ ?_
          refine W.ret ?_
          have hs : St ok F w [] (own t_fold_Field 57 (.slice ai' ys.length ci') ys :: innA t_fold_Field 57 rest :: [blk gt 29 [.slice (some ⟨go, 0, none⟩) (rawA os').length c'], own tRO 51 (.slice (some ⟨go, 0, none⟩) (rawA os').length c') ((rawA os').set p (nm, .slice ai' ys.length ci'))]) := hs
          have hs := hs.rinAdd (p := p) (n := nm)
          rw [hrp, hrd] at hs
          have hs := hs.rot
          have hget : ∃ h : p < (os'.take p ++ (nm, Value.slice ai' ys.length ci', ys) :: os'.drop (p + 1)).length, (os'.take p ++ (nm, Value.slice ai' ys.length ci', ys) :: os'.drop (p + 1))[p] = (nm, Value.slice ai' ys.length ci', ys) := by
            refine ⟨by rw [List.length_append, List.length_cons, List.length_take]; omega, ?_⟩
            rw [List.getElem_append_right (by rw [List.length_take]; omega)]
            simp [List.length_take, Nat.min_eq_left (Nat.le_of_lt hp0)]
          obtain ⟨hget0, hget1⟩ := hget
          refine ⟨_, resOk_one rfl rfl, ⟨(some ⟨go, 0, none⟩, (rawA os').length, c', os'.take p ++ (nm, Value.slice ai' ys.length ci', ys) :: os'.drop (p + 1), ad), ?_, p, hget0, by rw [hget1], q, by rw [hget1]; exact hq0, ?_, by rw [hget1]; exact hat⟩, rfl, ?_⟩
          · show (os'.take p ++ (nm, Value.slice ai' ys.length ci', ys) :: os'.drop (p + 1)).map mkO = insT (os.map mkO) nm x2
            rw [List.map_append, List.map_cons, List.map_take, List.map_drop]
            refine ins_at hsa hm (by rw [List.length_map]; exact hp0) ?_ hys
            rw [List.getElem_map, ← hy]
          · have : ∀ z : RO_, z = (nm, Value.slice ai' ys.length ci', ys) → ∀ h : q < z.2.2.length, (z.2.2[q]'h).Name = x2 := by
              rintro _ rfl h
              exact hq1
            exact this _ hget1 _
          · have e : rawA (os'.take p ++ (nm, Value.slice ai' ys.length ci', ys) :: os'.drop (p + 1)) = (rawA os').set p (nm, Value.slice ai' ys.length ci') := by
              rw [List.set_eq_take_append_cons_drop, if_pos (by omega)]
              simp [rawA, List.map_take, List.map_drop]
            show St ok F w [] [blk gt 29 [.slice (some ⟨go, 0, none⟩) (rawA os').length c'], own tRO 51 (.slice (some ⟨go, 0, none⟩) (rawA os').length c') (rawA (os'.take p ++ (nm, Value.slice ai' ys.length ci', ys) :: os'.drop (p + 1))), innA t_fold_Field 57 (os'.take p ++ (nm, Value.slice ai' ys.length ci', ys) :: os'.drop (p + 1))]
            rw [e]
            exact hs
        refine W.seqK fun K27 hK27 => ?_
        have hposF : Pos FN_ xs x2 q := hposq
        have Jk27 : ∀ (b : Bool) (ρ : Env) (w : World), (b = true ↔ ((h : q < xs.length) → xs[q].Name ≠ x2)) → ρ 2 = bstr x2 → ρ 8 = .pointer (some ⟨go, p * 2, none⟩) → ρ 9 = .int .i64 (q : Int) → ρ 127 = .bool b → St ok F w [] [own t_fold_Field 57 (.slice ai xs.length ci) xs, innA t_fold_Field 57 rest, blk gt 29 [.slice (some ⟨go, 0, none⟩) (rawA os').length c'], own tRO 51 (.slice (some ⟨go, 0, none⟩) (rawA os').length c') (rawA os')] → K27 ρ w := by
          intro b ρ w hb h2 h8 h9 h127 hs
          refine hK27 _ _ ?_
          cases b with
          | false =>
            refine W.cond_false h127 ?_
            refine W.skip ?_
            have hnb : ¬ ((h : q < xs.length) → xs[q].Name ≠ x2) := fun h => by have := hb.2 h; cases this
            have hlt : q < xs.length := Classical.byContradiction fun hc => hnb fun h => absurd h hc
            have he : xs[q].Name = x2 := Classical.byContradiction fun hc => hnb fun _ => hc
            refine Jk26 xs ai xs.length ci _ _ ⟨hlt, he⟩ ?_ h8 h9 ?_
            · rw [upd_found hposF hlt he]
              exact (List.set_getElem_self hlt).symm
            · have e : (rawA os').set p (nm, Value.slice ai xs.length ci) = rawA os' := by
                have : (rawA os')[p]'(by omega) = (nm, Value.slice ai xs.length ci) := by simp [rawA, ← hy]
                rw [← this]
                exact List.set_getElem_self _
              rw [e]
              exact hs
          | true =>
            have hnew := hb.1 rfl
            refine W.cond_true h127 ?_
            refine W.seqK fun K28 hK28 => ?_
            refine W.region ?_
            refine WL.move (v := .pointer (some ⟨go, p * 2, none⟩)) h8 ?_
            refine WL.move (v := .pointer (some ⟨go, p * 2, none⟩)) h8 ?_
            refine WL.nilCheck rfl rfl ?_
            refine WL.fieldAddr (m := p * 2 + 1) rfl FA51_1 rfl ?_
            refine WL.loadOF F_RO_2 hs 3 rfl TI49 (.inr rfl) hA1 hry rfl (z := .slice ai xs.length ci) rfl (fun v hs => ?_)
            obtain rfl := hs.cellv 0 rfl
            have hs := hs.pick []
            refine WL.build (vs := []) (cs := [bstr [], .bool false, .int .i64 0, .int .i64 0, .int .i64 0, .int .i64 0, bstr [], .bool false, .int .i64 0, .int .i64 0, .slice none 0 0, .bool false]) trivial (bld PL57 (by kernel_rfl)) ?_
            refine WL.buildSlice (n := 1) (vs := [(0, .agg ([bstr [], .bool false, .int .i64 0, .int .i64 0, .int .i64 0, .int .i64 0, bstr [], .bool false, .int .i64 0, .int .i64 0, .slice none 0 0, .bool false] : List Value).toArray)]) (cs := [bstr [], .bool false, .int .i64 0, .int .i64 0, .int .i64 0, .int .i64 0, bstr [], .bool false, .int .i64 0, .int .i64 0, .slice none 0 0, .bool false]) hs ⟨⟨rfl, rfl⟩, trivial⟩ (bls PS49 (by decide) (by kernel_rfl)) (fun g8 w hs => ?_)
            refine WL.append (ys := [(fold_zero : fold_Field)]) (zs := xs ++ [(fold_zero : fold_Field)]) hs 1 rfl 0 rfl UN49 EI57 rfl rfl (fun ok hA => Cells.one (T := t_fold_Field) (zeroF_R ok _)) (by rw [List.length_singleton]; omega) (by rw [List.length_singleton]; omega) rfl (fun v9 w hs => ?_)
            obtain ⟨a9, n9, c9, rfl⟩ := hs.ownv3 1 rfl
            refine WL.nilCheck rfl rfl ?_
            refine WL.fieldAddr (m := p * 2 + 1) rfl FA51_1 rfl ?_
            refine WL.storeOF F_RO_2 (z := Value.slice a9 n9 c9) (vs := [.slice a9 n9 c9]) (zs := (rawA os').set p (nm, Value.slice a9 n9 c9)) hs 4 rfl TI49 hA1 hry rfl rfl rfl (fun ok hA => ⟨rfl, rfl⟩) rfl (fun w hs => ?_)
            refine WL.nil ?_
            refine hK28 _ _ ?_
            have hs := hs.mask [false, true, true, true, true]
            have hs : St ok F w [] [own t_fold_Field 57 (.slice a9 n9 c9) (xs ++ [(fold_zero : fold_Field)]), innA t_fold_Field 57 rest, blk gt 29 [.slice (some ⟨go, 0, none⟩) (rawA os').length c'], own tRO 51 (.slice (some ⟨go, 0, none⟩) (rawA os').length c') ((rawA os').set p (nm, Value.slice a9 n9 c9))] := hs
            obtain rfl := hs.ownLen 0 rfl
            obtain ⟨M, hM⟩ : ∃ M, M = xs ++ [(fold_zero : fold_Field)] := ⟨_, rfl⟩
            rw [← hM] at hs
            have hL9 : M.length = xs.length + 1 := by rw [hM]; simp
            have hry3 : idx ((rawA os').set p (nm, Value.slice a9 M.length c9)) (p : Int) = some (nm, Value.slice a9 M.length c9) := by
              rw [idx_nat (by rw [List.length_set]; omega)]
              simp
            have hA3 : OwnAtF 2 1 (.slice (some ⟨go, 0, none⟩) (rawA os').length c') (p : Int) ⟨go, p * 2 + 1, none⟩ := ⟨go, _, _, rfl, rfl⟩
            have hple : q ≤ xs.length := hposF.le
            obtain ⟨q1, hq1⟩ : ∃ q1, q1 = IntKind.i64.wrap ((q : Int) + 1) := ⟨_, rfl⟩
            have hq2 : q1 = ((q + 1 : Nat) : Int) := by rw [hq1]; exact w64n (by omega)
            have hn1 : 0 ≤ q1 ∧ q1 ≤ (M.length : Int) := by rw [hq2, hL9]; omega
            have hn2 : 0 ≤ (q : Int) ∧ (q : Int) ≤ (M.length : Int) := by rw [hL9]; omega
            refine W.seqK fun K29 hK29 => ?_
            refine W.any (by kernel_rfl) 13 1 [true, true, true, true, true, true, true, true, true, true, true, true, true, false] rfl rfl (poAt [pv (.pointer (some ⟨go, p * 2, none⟩)), pv (.pointer (some ⟨go, p * 2, none⟩)), pv (.pointer (some ⟨go, p * 2 + 1, none⟩)), pv (.slice a9 M.length c9), pv (.int .i64 (q : Int)), pv (.int .i64 q1), pv (cutv a9 q1.toNat M.length c9 12), pv (.pointer (some ⟨go, p * 2, none⟩)), pv (.pointer (some ⟨go, p * 2, none⟩)), pv (.pointer (some ⟨go, p * 2 + 1, none⟩)), pv (.slice a9 M.length c9), pv (.int .i64 (q : Int)), pv (cutv a9 (q : Int).toNat M.length c9 12)]) (Λ := [own t_fold_Field 57 (.slice a9 M.length c9) M, innA t_fold_Field 57 rest, blk gt 29 [.slice (some ⟨go, 0, none⟩) (rawA os').length c'], own tRO 51 (.slice (some ⟨go, 0, none⟩) (rawA os').length c') ((rawA os').set p (nm, Value.slice a9 M.length c9))]) hs (by kernel_rfl) (by kernel_rfl) (by kernel_rfl) ⟨⟨⟨⟨⟨⟨⟨⟨⟨⟨⟨⟨⟨trivial, ?_⟩, ?_⟩, ?_⟩, ?_⟩, ?_⟩, ?_⟩, ?_⟩, ?_⟩, ?_⟩, ?_⟩, ?_⟩, ?_⟩, ?_⟩ ?_
            {
            intro ρ w Γx Λx hs hu hp
            refine WL.move (v := (.pointer (some ⟨go, p * 2, none⟩))) ((hu 8 rfl).trans h8) ?_
            exact WL.nil ⟨rfl, _, rfl, rfl, hs.cutG 0 0⟩ }
            {
            intro ρ w Γx Λx hs hu hp
            have e : ρ 138 = (.pointer (some ⟨go, p * 2, none⟩)) := (hp 0 rfl).1
            refine WL.nilCheck e rfl ?_
            exact WL.nil ⟨rfl, _, rfl, rfl, hs.cutG 0 0⟩ }
            {
            intro ρ w Γx Λx hs hu hp
            have e : ρ 139 = (.pointer (some ⟨go, p * 2, none⟩)) := (hp 1 rfl).1
            refine WL.fieldAddr (m := p * 2 + 1) e FA51_1 rfl ?_
            exact WL.nil ⟨rfl, _, rfl, rfl, hs.cutG 0 0⟩ }
            {
            intro ρ w Γx Λx hs hu hp
            have e : ρ 140 = (.pointer (some ⟨go, p * 2 + 1, none⟩)) := (hp 2 rfl).1
            refine WL.loadOF F_RO_2 hs (Λx.length + 3) (getApp rfl) TI49 (.inr rfl) hA3 hry3 e (z := .slice a9 M.length c9) rfl (fun v hs => ?_)
            obtain rfl := hs.cellv 0 rfl
            exact WL.nil ⟨rfl, _, rfl, rfl, hs.cutG 0 1⟩ }
            {
            intro ρ w Γx Λx hs hu hp
            refine WL.move (v := .int .i64 (q : Int)) ((hu 9 rfl).trans h9) ?_
            exact WL.nil ⟨rfl, _, rfl, rfl, hs.cutG 0 0⟩ }
            {
            intro ρ w Γx Λx hs hu hp
            have e : ρ 142 = .int .i64 (q : Int) := (hp 4 rfl).1
            refine WL.bin (v := .int .i64 q1) e rfl (ib_as hq1.symm (ib_add _ _ _)) ?_
            exact WL.nil ⟨rfl, _, rfl, rfl, hs.cutG 0 0⟩ }
            {
            intro ρ w Γx Λx hs hu hp
            have e1 : ρ 141 = (.slice a9 M.length c9) := (hp 3 rfl).1
            have e2 : ρ 143 = .int .i64 q1 := (hp 5 rfl).1
            refine WL.view_l hs (Λx.length + 0) (getApp rfl) UN49 TI57 e1 e2 hn1 ?_
            exact WL.nil ⟨rfl, _, rfl, rfl, hs.cutG 0 0⟩ }
            {
            intro ρ w Γx Λx hs hu hp
            refine WL.move (v := (.pointer (some ⟨go, p * 2, none⟩))) ((hu 8 rfl).trans h8) ?_
            exact WL.nil ⟨rfl, _, rfl, rfl, hs.cutG 0 0⟩ }
            {
            intro ρ w Γx Λx hs hu hp
            have e : ρ 145 = (.pointer (some ⟨go, p * 2, none⟩)) := (hp 7 rfl).1
            refine WL.nilCheck e rfl ?_
            exact WL.nil ⟨rfl, _, rfl, rfl, hs.cutG 0 0⟩ }
            {
            intro ρ w Γx Λx hs hu hp
            have e : ρ 146 = (.pointer (some ⟨go, p * 2, none⟩)) := (hp 8 rfl).1
            refine WL.fieldAddr (m := p * 2 + 1) e FA51_1 rfl ?_
            exact WL.nil ⟨rfl, _, rfl, rfl, hs.cutG 0 0⟩ }
            {
            intro ρ w Γx Λx hs hu hp
            have e : ρ 147 = (.pointer (some ⟨go, p * 2 + 1, none⟩)) := (hp 9 rfl).1
            refine WL.loadOF F_RO_2 hs (Λx.length + 3) (getApp rfl) TI49 (.inr rfl) hA3 hry3 e (z := .slice a9 M.length c9) rfl (fun v hs => ?_)
            obtain rfl := hs.cellv 0 rfl
            exact WL.nil ⟨rfl, _, rfl, rfl, hs.cutG 0 1⟩ }
            {
            intro ρ w Γx Λx hs hu hp
            refine WL.move (v := .int .i64 (q : Int)) ((hu 9 rfl).trans h9) ?_
            exact WL.nil ⟨rfl, _, rfl, rfl, hs.cutG 0 0⟩ }
            {
            intro ρ w Γx Λx hs hu hp
            have e1 : ρ 148 = (.slice a9 M.length c9) := (hp 10 rfl).1
            have e2 : ρ 149 = .int .i64 (q : Int) := (hp 11 rfl).1
            refine WL.view_l hs (Λx.length + 0) (getApp rfl) UN49 TI57 e1 e2 hn2 ?_
            exact WL.nil ⟨rfl, _, rfl, rfl, hs.cutG 0 0⟩ }
            {
            intro ρ w hs hu hp
            obtain ⟨⟨⟨⟨⟨⟨⟨⟨⟨⟨⟨⟨⟨_, hp0_⟩, hp1_⟩, hp2_⟩, hp3_⟩, hp4_⟩, hp5_⟩, hp6_⟩, hp7_⟩, hp8_⟩, hp9_⟩, hp10_⟩, hp11_⟩, hp12_⟩ := hp
            have hs : St ok F w [] [own t_fold_Field 57 (.slice a9 M.length c9) M, innA t_fold_Field 57 rest, blk gt 29 [.slice (some ⟨go, 0, none⟩) (rawA os').length c'], own tRO 51 (.slice (some ⟨go, 0, none⟩) (rawA os').length c') ((rawA os').set p (nm, Value.slice a9 M.length c9))] := hs
            have e1 : ρ 150 = cutv a9 (q : Int).toNat M.length c9 12 := hp12_
            have e2 : ρ 144 = cutv a9 q1.toNat M.length c9 12 := hp6_
            refine WA.step [13] (by kernel_rfl) (by simp) ⟨?_, trivial⟩
            refine WL.copyV (D := q1.toNat) (L := (q : Int).toNat) hs 0 rfl UN49 TI57 e2 e1 (by omega) (by omega) rfl (fun w hs => ?_)
            refine WL.nil ⟨rfl, _, rfl, ?_⟩
            refine WA.done (by kernel_rfl) ?_
            refine hK29 _ _ ?_
            rw [hq2, Int.toNat_natCast, Int.toNat_natCast] at hs
            have hcl : (cpyN M (q + 1) q).length = xs.length + 1 := by rw [cpyN_length _ _ _ (by omega) (by omega), hL9]
            refine W.region ?_
            refine WL.move (v := .pointer (some ⟨go, p * 2, none⟩)) ((hu 8 rfl).trans h8) ?_
            refine WL.nilCheck rfl rfl ?_
            refine WL.fieldAddr (m := p * 2 + 1) rfl FA51_1 rfl ?_
            refine WL.loadOF F_RO_2 hs 3 rfl TI49 (.inr rfl) hA3 hry3 rfl (z := .slice a9 M.length c9) rfl (fun v hs => ?_)
            obtain rfl := hs.cellv 0 rfl
            have hs := hs.pick []
            refine WL.move (v := .int .i64 (q : Int)) ((hu 9 rfl).trans h9) ?_
            refine WL.move (v := bstr x2) ((hu 2 rfl).trans h2) ?_
            refine WL.build (vs := [(0, bstr x2)]) (cs := [bstr x2, .bool false, .int .i64 0, .int .i64 0, .int .i64 0, .int .i64 0, bstr [], .bool false, .int .i64 0, .int .i64 0, .slice none 0 0, .bool false]) ⟨⟨rfl, rfl⟩, trivial⟩ (bld PL57 (by kernel_rfl)) ?_
            refine WL.indexAddrO hs 0 rfl UN49 TI57 rfl rfl (idx_nat (show q < (cpyN M (q + 1) q).length by omega)) (fun ad hat => ?_)
            refine WL.storeO (y := ({ (fold_zero : fold_Field) with Name := x2 } : fold_Field)) (vs := [bstr x2, .bool false, .int .i64 0, .int .i64 0, .int .i64 0, .int .i64 0, bstr [], .bool false, .int .i64 0, .int .i64 0, .slice none 0 0, .bool false]) (zs := xs.take q ++ { (fold_zero : fold_Field) with Name := x2 } :: xs.drop q) hs 0 rfl TI57 hat (idx_nat (show q < (cpyN M (q + 1) q).length by omega)) rfl rfl rfl (fun ok hA => namedF_R ok _ x2) (by rw [Int.toNat_natCast, hM]; exact cpy_set (by omega)) (fun w hs => ?_)
            refine WL.nil ?_
            refine Jk26 (xs.take q ++ { (fold_zero : fold_Field) with Name := x2 } :: xs.drop q) a9 M.length c9 _ _ ⟨by rw [List.length_append, List.length_cons, List.length_take]; omega, ?_⟩ ?_ ((hu 8 rfl).trans h8) ((hu 9 rfl).trans h9) hs
            · rw [List.getElem_append_right (by rw [List.length_take]; omega)]
              simp [List.length_take, Nat.min_eq_left hple]
            · rw [upd_new hposF hnew]
              rfl }
        refine W.region ?_
        refine WL.move (v := .int .i64 (q : Int)) h9 ?_
        refine WL.move (v := .pointer (some ⟨go, p * 2, none⟩)) h8 ?_
        refine WL.nilCheck rfl rfl ?_
        refine WL.fieldAddr (m := p * 2 + 1) rfl FA51_1 rfl ?_
        refine WL.loadOF F_RO_2 hs 3 rfl TI49 (.inr rfl) hA1 hry rfl (z := .slice ai xs.length ci) rfl (fun v hs => ?_)
        obtain rfl := hs.cellv 0 rfl
        have hs := hs.pick []
        refine WL.len (v := .slice ai xs.length ci) rfl (len_own hs 0 rfl UN49) ?_
        refine WL.bin (v := .bool ((q : Int) == (xs.length : Int))) rfl rfl (ib_eql _ _ _) ?_
        refine WL.move (v := .bool ((q : Int) == (xs.length : Int))) rfl ?_
        by_cases hc : ((q : Int) == (xs.length : Int)) = true
        · iterate 10 refine WL.pass ((wanted_of rfl rfl (bool_tr rfl hc)).trans rfl) rfl ?_
          refine WL.pickT (v := .bool true) (bool_tr rfl hc) rfl ?_
          refine WL.nil ?_
          have hpe : q = xs.length := by
            have : (q : Int) = (xs.length : Int) := by simpa using hc
            omega
          exact Jk27 true _ _ ⟨fun _ h => absurd h (by omega), fun _ => rfl⟩ h2 h8 h9 rfl hs
        · have hc : ((q : Int) == (xs.length : Int)) = false := by simpa using hc
          have hplt : q < xs.length := by
            have : ¬ (q : Int) = (xs.length : Int) := by simpa using hc
            have := hposF.le
            omega
          refine WL.move (v := .pointer (some ⟨go, p * 2, none⟩)) h8 ?_ (hg := (wanted_of rfl rfl (bool_tr rfl hc)).trans rfl)
          refine WL.nilCheck rfl rfl ?_ (hg := (wanted_of rfl rfl (bool_tr rfl hc)).trans rfl)
          refine WL.fieldAddr (m := p * 2 + 1) rfl FA51_1 rfl ?_ (hg := (wanted_of rfl rfl (bool_tr rfl hc)).trans rfl)
          refine WL.loadOF F_RO_2 hs 3 rfl TI49 (.inr rfl) hA1 hry rfl (z := .slice ai xs.length ci) rfl (fun v hs => ?_) (hg := (wanted_of rfl rfl (bool_tr rfl hc)).trans rfl)
          obtain rfl := hs.cellv 0 rfl
          have hs := hs.pick []
          refine WL.move (v := .int .i64 (q : Int)) h9 ?_ (hg := (wanted_of rfl rfl (bool_tr rfl hc)).trans rfl)
          have hqy : idx xs (q : Int) = some xs[q] := idx_nat hplt
          refine WL.indexAddrO hs 0 rfl UN49 TI57 rfl rfl hqy (fun ad hat => ?_) (hg := (wanted_of rfl rfl (bool_tr rfl hc)).trans rfl)
          refine WL.fieldAddrO (o2 := 0) hat.f rfl FA57_0 rfl (fun ad2 hat2 => ?_) (hg := (wanted_of rfl rfl (bool_tr rfl hc)).trans rfl)
          refine WL.loadOF F_fold_Field_Name hs 0 rfl TI9 (.inr rfl) hat2 hqy rfl (z := xs[q].Name) rfl (fun v hs => ?_) (hg := (wanted_of rfl rfl (bool_tr rfl hc)).trans rfl)
          obtain rfl := hs.str 0 rfl
          refine WL.move (v := bstr x2) h2 ?_ (hg := (wanted_of rfl rfl (bool_tr rfl hc)).trans rfl)
          refine WL.binS (v := .bool (xs[q].Name != x2)) rfl rfl (sb_neq _ _) ?_ (hg := (wanted_of rfl rfl (bool_tr rfl hc)).trans rfl)
          refine WL.pickF (v := .bool (xs[q].Name != x2)) (bool_tr rfl hc) rfl ?_
          refine WL.nil ?_
          refine Jk27 _ _ _ ?_ h2 h8 h9 rfl (hs.pick [])
          rw [bne_iff_ne]
          exact ⟨fun h _ => h, fun h => h hplt⟩
      refine W.block ?_
      refine W.loop hb1' (fun s ρ w => ρ 2 = bstr x2 ∧ ρ 8 = .pointer (some ⟨go, p * 2, none⟩) ∧ ρ 9 = .int .i64 s ∧ St ok F w [] [own t_fold_Field 57 (.slice ai xs.length ci) xs, innA t_fold_Field 57 rest, blk gt 29 [.slice (some ⟨go, 0, none⟩) (rawA os').length c'], own tRO 51 (.slice (some ⟨go, 0, none⟩) (rawA os').length c') (rawA os')]) ⟨h2, rfl, rfl, hs⟩ ?_
      intro s ρ w os5 hI hf hbb
      obtain ⟨h2, h8, h9, hs⟩ := hI
      unfold fposl at hf
      refine W.seqK fun K24 hK24 => ?_
      refine W.seqK fun K25 hK25 => ?_
      have Jk25 : ∀ (b : Bool) (ρ : Env) (w : World), ρ 2 = bstr x2 → ρ 8 = .pointer (some ⟨go, p * 2, none⟩) → ρ 9 = .int .i64 s → ρ 106 = .bool b → St ok F w [] [own t_fold_Field 57 (.slice ai xs.length ci) xs, innA t_fold_Field 57 rest, blk gt 29 [.slice (some ⟨go, 0, none⟩) (rawA os').length c'], own tRO 51 (.slice (some ⟨go, 0, none⟩) (rawA os').length c') (rawA os')] → (if b then letV (IntKind.i64.wrap (s + 1)) fun j => some (.inl j) else some (.inr s)) = some os5 → K25 ρ w := by
        intro b ρ w h2 h8 h9 h106 hs hf
        refine hK25 _ _ ?_
        rcases iteE hf with ⟨hc, hf⟩ | ⟨hc, hf⟩
        · refine W.cond_true (bool_tr h106 hc) ?_
          refine W.skip ?_
          refine hK24 _ _ ?_
          refine W.block ?_
          refine W.region ?_
          refine WL.move (v := .int .i64 s) h9 ?_
          obtain ⟨j, ej, hf⟩ := letE hf
          refine WL.bin (v := .int .i64 j) rfl rfl (ib_as ej (ib_add _ _ _)) ?_
          refine WL.assign (v := .int .i64 j) rfl ?_
          refine WL.nil ?_
          exact ⟨_, (Option.some.inj hf).symm, h2, h8, rfl, hs⟩
        · refine W.cond_false (bool_tr h106 hc) ?_
          refine W.exit ?_
          have hr := Option.some.inj hf; subst hr
          have hr := hbb _ rfl; subst hr
          exact Jk23 _ _ h2 h8 (by rw [h9, hbq]) hs
      refine W.region ?_
      refine WL.move (v := .int .i64 s) h9 ?_
      refine WL.move (v := .pointer (some ⟨go, p * 2, none⟩)) h8 ?_
      refine WL.nilCheck rfl rfl ?_
      refine WL.fieldAddr (m := p * 2 + 1) rfl FA51_1 rfl ?_
      refine WL.loadOF F_RO_2 hs 3 rfl TI49 (.inr rfl) hA1 hry rfl (z := .slice ai xs.length ci) rfl (fun v hs => ?_)
      obtain rfl := hs.cellv 0 rfl
      have hs := hs.pick []
      refine WL.len (v := .slice ai xs.length ci) rfl (len_own hs 0 rfl UN49) ?_
      refine WL.bin (v := .bool (decide (s < (xs.length : Int)))) rfl rfl (ib_lss _ _ _) ?_
      refine WL.move (v := .bool (decide (s < (xs.length : Int)))) rfl ?_
      rcases iteE hf with ⟨hc, hf⟩ | ⟨hc, hf⟩
      · refine WL.move (v := .pointer (some ⟨go, p * 2, none⟩)) h8 ?_ (hg := (wanted_of rfl rfl (bool_tr rfl hc)).trans rfl)
        refine WL.nilCheck rfl rfl ?_ (hg := (wanted_of rfl rfl (bool_tr rfl hc)).trans rfl)
        refine WL.fieldAddr (m := p * 2 + 1) rfl FA51_1 rfl ?_ (hg := (wanted_of rfl rfl (bool_tr rfl hc)).trans rfl)
        refine WL.loadOF F_RO_2 hs 3 rfl TI49 (.inr rfl) hA1 hry rfl (z := .slice ai xs.length ci) rfl (fun v hs => ?_) (hg := (wanted_of rfl rfl (bool_tr rfl hc)).trans rfl)
        obtain rfl := hs.cellv 0 rfl
        have hs := hs.pick []
        refine WL.move (v := .int .i64 s) h9 ?_ (hg := (wanted_of rfl rfl (bool_tr rfl hc)).trans rfl)
        obtain ⟨y, hy, hf⟩ := bindE hf
        refine WL.indexAddrO hs 0 rfl UN49 TI57 rfl rfl hy (fun ad hat => ?_) (hg := (wanted_of rfl rfl (bool_tr rfl hc)).trans rfl)
        refine WL.fieldAddrO (o2 := 0) hat.f rfl FA57_0 rfl (fun ad2 hat2 => ?_) (hg := (wanted_of rfl rfl (bool_tr rfl hc)).trans rfl)
        refine WL.loadOF F_fold_Field_Name hs 0 rfl TI9 (.inr rfl) hat2 hy rfl (z := y.Name) rfl (fun v hs => ?_) (hg := (wanted_of rfl rfl (bool_tr rfl hc)).trans rfl)
        obtain rfl := hs.str 0 rfl
        refine WL.move (v := bstr x2) h2 ?_ (hg := (wanted_of rfl rfl (bool_tr rfl hc)).trans rfl)
        refine WL.binS (v := .bool (Op.bytesLess y.Name x2)) rfl rfl (sb_lss _ _) ?_ (hg := (wanted_of rfl rfl (bool_tr rfl hc)).trans rfl)
        refine WL.pickT (v := .bool (Op.bytesLess y.Name x2)) (bool_tr rfl hc) rfl ?_
        refine WL.nil ?_
        exact Jk25 (Op.bytesLess y.Name x2) _ _ h2 h8 h9 rfl (hs.pick []) hf
      · iterate 10 refine WL.pass ((wanted_of rfl rfl (bool_tr rfl hc)).trans rfl) rfl ?_
        refine WL.pickF (v := .bool false) (bool_tr rfl hc) rfl ?_
        refine WL.nil ?_
        exact Jk25 false _ _ h2 h8 h9 rfl hs hf
    refine W.seqK fun K7 hK7 => ?_
    have hlo : (rawA os).length = os.length := by rw [rawA, List.length_map]
    have hposO : Pos ON_ (os.map mkO) x1 p := by
      have hle := hpos.le
      refine ⟨by rw [List.length_map]; omega, fun i hi h => ?_, fun h => ?_⟩
      · rw [List.length_map] at h
        have := hpos.lt i hi (by omega)
        simpa [rawA] using this
      · rw [List.length_map] at h
        have := hpos.ge (by omega)
        simpa [rawA] using this
    have Jk7 : ∀ (b : Bool) (ρ : Env) (w : World), (b = true ↔ ((h : p < os.length) → os[p].1 ≠ x1)) → ρ 0 = .pointer (some ⟨gt, 0, none⟩) → ρ 1 = bstr x1 → ρ 2 = bstr x2 → ρ 7 = .int .i64 (p : Int) → ρ 49 = .bool b → St ok F w [] [blk gt 29 [.slice a (rawA os).length c], own tRO 51 (.slice a (rawA os).length c) (rawA os), innA t_fold_Field 57 os] → K7 ρ w := by
      intro b ρ w hb h0 h1 h2 h7 h49 hs
      refine hK7 _ _ ?_
      cases b with
      | false =>
        refine W.cond_false h49 ?_
        refine W.skip ?_
        have hp : p < os.length ∧ os[p]?.map (·.1) = some x1 := by
          have hnb : ¬ ((h : p < os.length) → os[p].1 ≠ x1) := fun h => by have := hb.2 h; cases this
          have hlt : p < os.length := Classical.byContradiction fun hc => hnb fun h => absurd h hc
          refine ⟨hlt, ?_⟩
          rw [List.getElem?_eq_getElem hlt, Option.map_some]
          exact congrArg some (Classical.byContradiction fun hc => hnb fun _ => hc)
        have he : (os[p]'hp.1).1 = x1 := by
          have := hp.2
          rw [List.getElem?_eq_getElem hp.1, Option.map_some] at this
          exact Option.some.inj this
        refine Jk6 os a _ c _ _ ⟨hp.1, he⟩ hbl0 ?_ h0 h1 h2 h7 hs
        have hpl : p < (os.map mkO).length := by rw [List.length_map]; exact hp.1
        rw [upd_found hposO hpl (by rw [List.getElem_map]; exact he)]
        exact (List.set_getElem_self hpl).symm
      | true =>
        have hnew := hb.1 rfl
        refine W.cond_true h49 ?_
        refine W.seqK fun K8 hK8 => ?_
        refine W.region ?_
        refine WL.move (v := .pointer (some ⟨gt, 0, none⟩)) h0 ?_
        refine WL.move (v := .pointer (some ⟨gt, 0, none⟩)) h0 ?_
        refine WL.nilCheck rfl rfl ?_
        refine WL.fieldAddr (m := 0) rfl FA29_0 rfl ?_
        refine WL.load1 (v := .slice a (rawA os).length c) hs 0 rfl TI27 rfl rfl ?_
        refine WL.build (vs := []) (cs := [bstr [], .slice none 0 0]) trivial (bld PL51 rfl) ?_
        refine WL.buildSlice (n := 1) (vs := [(0, .agg ([bstr [], .slice none 0 0] : List Value).toArray)]) (cs := [bstr [], .slice none 0 0]) hs ⟨⟨rfl, rfl⟩, trivial⟩ (bls PS27 (by decide) rfl) (fun g8 w hs => ?_)
        refine WL.append (ys := [(([] : List UInt8), Value.slice none 0 0)]) (zs := rawA os ++ [(([] : List UInt8), Value.slice none 0 0)]) hs 2 rfl 0 rfl UN27 EI51 rfl rfl (fun ok hA => Cells.one (T := tRO) (tRO_R.2 ⟨rfl, rfl⟩)) (by rw [List.length_singleton]; omega) (by rw [List.length_singleton]; omega) rfl (fun v9 w hs => ?_)
        obtain ⟨a9, n9, c9, rfl⟩ := hs.ownv3 2 rfl
        refine WL.nilCheck rfl rfl ?_
        refine WL.fieldAddr (m := 0) rfl FA29_0 rfl ?_
        refine WL.storeAll (vs := [.slice a9 n9 c9]) hs 1 rfl TI27 rfl rfl rfl rfl (ones_of rfl) rfl (fun w hs => ?_)
        refine WL.nil ?_
        refine hK8 _ _ ?_
        have hs : St ok F w [] [blk gt 29 [.slice a9 n9 c9], own tRO 51 (.slice a9 n9 c9) (rawA os ++ [(([] : List UInt8), Value.slice none 0 0)]), innA t_fold_Field 57 os] := hs.mask [false, true, true, true]
        obtain rfl := hs.ownLen 1 rfl
        have hL9 : (L9 os).length = os.length + 1 := by simp [rawA]
        have hple : p ≤ os.length := by have := hpos.le; omega
        obtain ⟨q, hq⟩ : ∃ q, q = IntKind.i64.wrap ((p : Int) + 1) := ⟨_, rfl⟩
        have hq1 : q = ((p + 1 : Nat) : Int) := by rw [hq]; exact w64n (by omega)
        have hn1 : 0 ≤ q ∧ q ≤ ((L9 os).length : Int) := by rw [hq1, hL9]; omega
        have hn2 : 0 ≤ (p : Int) ∧ (p : Int) ≤ ((L9 os).length : Int) := by rw [hL9]; omega
        refine W.seqK fun K9 hK9 => ?_
        refine W.any (by kernel_rfl) 13 1 [true, true, true, true, true, true, true, true, true, true, true, true, true, false] rfl rfl (poAt [pv (.pointer (some ⟨gt, 0, none⟩)), pv (.pointer (some ⟨gt, 0, none⟩)), pv (.pointer (some ⟨gt, 0, none⟩)), pv (.slice a9 (L9 os).length c9), pv (.int .i64 (p : Int)), pv (.int .i64 q), pv (cutv a9 q.toNat (L9 os).length c9 2), pv (.pointer (some ⟨gt, 0, none⟩)), pv (.pointer (some ⟨gt, 0, none⟩)), pv (.pointer (some ⟨gt, 0, none⟩)), pv (.slice a9 (L9 os).length c9), pv (.int .i64 (p : Int)), pv (cutv a9 (p : Int).toNat (L9 os).length c9 2)]) (Λ := [blk gt 29 [.slice a9 (L9 os).length c9], own tRO 51 (.slice a9 (L9 os).length c9) (L9 os), innA t_fold_Field 57 os]) hs (by kernel_rfl) (by kernel_rfl) (by kernel_rfl) ⟨⟨⟨⟨⟨⟨⟨⟨⟨⟨⟨⟨⟨trivial, ?_⟩, ?_⟩, ?_⟩, ?_⟩, ?_⟩, ?_⟩, ?_⟩, ?_⟩, ?_⟩, ?_⟩, ?_⟩, ?_⟩, ?_⟩ ?_
        {
        intro ρ w Γx Λx hs hu hp
        refine WL.move (v := (.pointer (some ⟨gt, 0, none⟩))) ((hu 0 rfl).trans h0) ?_
        exact WL.nil ⟨rfl, _, rfl, rfl, hs.cutG 0 0⟩ }
        {
        intro ρ w Γx Λx hs hu hp
        have e : ρ 60 = (.pointer (some ⟨gt, 0, none⟩)) := (hp 0 rfl).1
        refine WL.nilCheck e rfl ?_
        exact WL.nil ⟨rfl, _, rfl, rfl, hs.cutG 0 0⟩ }
        {
        intro ρ w Γx Λx hs hu hp
        have e : ρ 61 = (.pointer (some ⟨gt, 0, none⟩)) := (hp 1 rfl).1
        refine WL.fieldAddr (m := 0) e FA29_0 rfl ?_
        exact WL.nil ⟨rfl, _, rfl, rfl, hs.cutG 0 0⟩ }
        {
        intro ρ w Γx Λx hs hu hp
        have e : ρ 62 = (.pointer (some ⟨gt, 0, none⟩)) := (hp 2 rfl).1
        refine WL.load1 (v := (.slice a9 (L9 os).length c9)) hs (Λx.length + 0) (getApp rfl) TI27 e rfl ?_
        exact WL.nil ⟨rfl, _, rfl, rfl, hs.cutG 0 0⟩ }
        {
        intro ρ w Γx Λx hs hu hp
        refine WL.move (v := .int .i64 (p : Int)) ((hu 7 rfl).trans h7) ?_
        exact WL.nil ⟨rfl, _, rfl, rfl, hs.cutG 0 0⟩ }
        {
        intro ρ w Γx Λx hs hu hp
        have e : ρ 64 = .int .i64 (p : Int) := (hp 4 rfl).1
        refine WL.bin (v := .int .i64 q) e rfl (ib_as hq.symm (ib_add _ _ _)) ?_
        exact WL.nil ⟨rfl, _, rfl, rfl, hs.cutG 0 0⟩ }
        {
        intro ρ w Γx Λx hs hu hp
        have e1 : ρ 63 = (.slice a9 (L9 os).length c9) := (hp 3 rfl).1
        have e2 : ρ 65 = .int .i64 q := (hp 5 rfl).1
        refine WL.view_l hs (Λx.length + 1) (getApp rfl) UN27 TI51 e1 e2 hn1 ?_
        exact WL.nil ⟨rfl, _, rfl, rfl, hs.cutG 0 0⟩ }
        {
        intro ρ w Γx Λx hs hu hp
        refine WL.move (v := (.pointer (some ⟨gt, 0, none⟩))) ((hu 0 rfl).trans h0) ?_
        exact WL.nil ⟨rfl, _, rfl, rfl, hs.cutG 0 0⟩ }
        {
        intro ρ w Γx Λx hs hu hp
        have e : ρ 67 = (.pointer (some ⟨gt, 0, none⟩)) := (hp 7 rfl).1
        refine WL.nilCheck e rfl ?_
        exact WL.nil ⟨rfl, _, rfl, rfl, hs.cutG 0 0⟩ }
        {
        intro ρ w Γx Λx hs hu hp
        have e : ρ 68 = (.pointer (some ⟨gt, 0, none⟩)) := (hp 8 rfl).1
        refine WL.fieldAddr (m := 0) e FA29_0 rfl ?_
        exact WL.nil ⟨rfl, _, rfl, rfl, hs.cutG 0 0⟩ }
        {
        intro ρ w Γx Λx hs hu hp
        have e : ρ 69 = (.pointer (some ⟨gt, 0, none⟩)) := (hp 9 rfl).1
        refine WL.load1 (v := (.slice a9 (L9 os).length c9)) hs (Λx.length + 0) (getApp rfl) TI27 e rfl ?_
        exact WL.nil ⟨rfl, _, rfl, rfl, hs.cutG 0 0⟩ }
        {
        intro ρ w Γx Λx hs hu hp
        refine WL.move (v := .int .i64 (p : Int)) ((hu 7 rfl).trans h7) ?_
        exact WL.nil ⟨rfl, _, rfl, rfl, hs.cutG 0 0⟩ }
        {
        intro ρ w Γx Λx hs hu hp
        have e1 : ρ 70 = (.slice a9 (L9 os).length c9) := (hp 10 rfl).1
        have e2 : ρ 71 = .int .i64 (p : Int) := (hp 11 rfl).1
        refine WL.view_l hs (Λx.length + 1) (getApp rfl) UN27 TI51 e1 e2 hn2 ?_
        exact WL.nil ⟨rfl, _, rfl, rfl, hs.cutG 0 0⟩ }
        {
        intro ρ w hs hu hp
        obtain ⟨⟨⟨⟨⟨⟨⟨⟨⟨⟨⟨⟨⟨_, hp0_⟩, hp1_⟩, hp2_⟩, hp3_⟩, hp4_⟩, hp5_⟩, hp6_⟩, hp7_⟩, hp8_⟩, hp9_⟩, hp10_⟩, hp11_⟩, hp12_⟩ := hp
        have hs : St ok F w [] [blk gt 29 [.slice a9 (L9 os).length c9], own tRO 51 (.slice a9 (L9 os).length c9) (L9 os), innA t_fold_Field 57 os] := hs
        have e1 : ρ 72 = cutv a9 (p : Int).toNat (L9 os).length c9 2 := hp12_
        have e2 : ρ 66 = cutv a9 q.toNat (L9 os).length c9 2 := hp6_
        refine WA.step [13] (by kernel_rfl) (by simp) ⟨?_, trivial⟩
        refine WL.copyV (D := q.toNat) (L := (p : Int).toNat) hs 1 rfl UN27 TI51 e2 e1 (by omega) (by omega) rfl (fun w hs => ?_)
        refine WL.nil ⟨rfl, _, rfl, ?_⟩
        refine WA.done (by kernel_rfl) ?_
        refine hK9 _ _ ?_
        rw [hq1, Int.toNat_natCast, Int.toNat_natCast] at hs
        have hcl : (cpyN (L9 os) (p + 1) p).length = os.length + 1 := by rw [cpyN_length _ _ _ (by omega) (by omega), hL9]
        refine W.region ?_
        refine WL.move (v := .pointer (some ⟨gt, 0, none⟩)) ((hu 0 rfl).trans h0) ?_
        refine WL.nilCheck rfl rfl ?_
        refine WL.fieldAddr (m := 0) rfl FA29_0 rfl ?_
        refine WL.load1 (v := .slice a9 (L9 os).length c9) hs 0 rfl TI27 rfl rfl ?_
        refine WL.move (v := .int .i64 (p : Int)) ((hu 7 rfl).trans h7) ?_
        refine WL.move (v := bstr x1) ((hu 1 rfl).trans h1) ?_
        refine WL.build (vs := [(0, bstr x1)]) (cs := [bstr x1, .slice none 0 0]) ⟨⟨rfl, rfl⟩, trivial⟩ (bld PL51 rfl) ?_
        refine WL.indexAddrO hs 1 rfl UN27 TI51 rfl rfl (idx_nat (show p < (cpyN (L9 os) (p + 1) p).length by omega)) (fun ad hat => ?_)
        refine WL.storeO (y := (x1, Value.slice none 0 0)) (vs := [bstr x1, .slice none 0 0]) (zs := (rawA os).take p ++ (x1, Value.slice none 0 0) :: (rawA os).drop p) hs 1 rfl TI51 hat (idx_nat (show p < (cpyN (L9 os) (p + 1) p).length by omega)) rfl rfl rfl (fun ok hA => tRO_R.2 ⟨rfl, rfl⟩) (by rw [Int.toNat_natCast]; exact cpy_set (by omega)) (fun w hs => ?_)
        refine WL.nil ?_
        have hs := hs.ownNil t_fold_Field 57
        have hs := hs.front 3 rfl
        have hs := hs.perm (List.Perm.swap _ _ _)
        have hs := hs.rinAdd (p := p) (n := x1)
        have hs := hs.rot
        refine Jk6 (os.take p ++ (x1, Value.slice none 0 0, []) :: os.drop p) a9 (L9 os).length c9 _ _ ⟨by rw [List.length_append, List.length_cons, List.length_take]; omega, ?_⟩ (fun o ho => by
          rcases List.mem_append.1 ho with ho | ho
          · exact hbl0 o (List.mem_of_mem_take ho)
          · rcases List.mem_cons.1 ho with rfl | ho
            · exact Nat.zero_le _
            · exact hbl0 o (List.mem_of_mem_drop ho)) ?_ ((hu 0 rfl).trans h0) ((hu 1 rfl).trans h1) ((hu 2 rfl).trans h2) ((hu 7 rfl).trans h7) ?_
        · rw [List.getElem_append_right (by rw [List.length_take]; omega)]
          simp [List.length_take, Nat.min_eq_left hple]
        · rw [upd_new hposO (fun h => by
            rw [List.getElem_map]
            rw [List.length_map] at h
            exact hnew h), List.map_append, List.map_cons, List.map_take, List.map_drop]
          rfl
        · have e : rawA (os.take p ++ (x1, Value.slice none 0 0, []) :: os.drop p) = (rawA os).take p ++ (x1, Value.slice none 0 0) :: (rawA os).drop p := by
            simp [rawA, List.map_take, List.map_drop]
          rw [e]
          exact hs }
    refine W.region ?_
    refine WL.move (v := .int .i64 (p : Int)) h7 ?_
    refine WL.move (v := .pointer (some ⟨gt, 0, none⟩)) h0 ?_
    refine WL.nilCheck rfl rfl ?_
    refine WL.fieldAddr (m := 0) rfl FA29_0 rfl ?_
    refine WL.load1 (v := .slice a (rawA os).length c) hs 0 rfl TI27 rfl rfl ?_
    refine WL.len (v := .slice a (rawA os).length c) rfl (len_own hs 1 rfl UN27) ?_
    refine WL.bin (v := .bool ((p : Int) == ((rawA os).length : Int))) rfl rfl (ib_eql _ _ _) ?_
    refine WL.move (v := .bool ((p : Int) == ((rawA os).length : Int))) rfl ?_
    by_cases hc : ((p : Int) == ((rawA os).length : Int)) = true
    · iterate 10 refine WL.pass ((wanted_of rfl rfl (bool_tr rfl hc)).trans rfl) rfl ?_
      refine WL.pickT (v := .bool true) (bool_tr rfl hc) rfl ?_
      refine WL.nil ?_
      have hpe : p = os.length := by
        have : (p : Int) = ((rawA os).length : Int) := by simpa using hc
        omega
      exact Jk7 true _ _ ⟨fun _ h => absurd h (by omega), fun _ => rfl⟩ h0 h1 h2 h7 rfl hs
    · have hc : ((p : Int) == ((rawA os).length : Int)) = false := by simpa using hc
      have hplt : p < (rawA os).length := by
        have : ¬ (p : Int) = ((rawA os).length : Int) := by simpa using hc
        have := hpos.le
        omega
      refine WL.move (v := .pointer (some ⟨gt, 0, none⟩)) h0 ?_ (hg := (wanted_of rfl rfl (bool_tr rfl hc)).trans rfl)
      refine WL.nilCheck rfl rfl ?_ (hg := (wanted_of rfl rfl (bool_tr rfl hc)).trans rfl)
      refine WL.fieldAddr (m := 0) rfl FA29_0 rfl ?_ (hg := (wanted_of rfl rfl (bool_tr rfl hc)).trans rfl)
      refine WL.load1 (v := .slice a (rawA os).length c) hs 0 rfl TI27 rfl rfl ?_ (hg := (wanted_of rfl rfl (bool_tr rfl hc)).trans rfl)
      refine WL.move (v := .int .i64 (p : Int)) h7 ?_ (hg := (wanted_of rfl rfl (bool_tr rfl hc)).trans rfl)
      have hy : idx (rawA os) (p : Int) = some (rawA os)[p] := idx_nat hplt
      refine WL.indexAddrO hs 1 rfl UN27 TI51 rfl rfl hy (fun ad hat => ?_) (hg := (wanted_of rfl rfl (bool_tr rfl hc)).trans rfl)
      refine WL.fieldAddrO (o2 := 0) hat.f rfl FA51_0 rfl (fun ad2 hat2 => ?_) (hg := (wanted_of rfl rfl (bool_tr rfl hc)).trans rfl)
      refine WL.loadOF F_RO_1 hs 1 rfl TI9 (.inr rfl) hat2 hy rfl (z := ((rawA os)[p]).1) rfl (fun v hs => ?_) (hg := (wanted_of rfl rfl (bool_tr rfl hc)).trans rfl)
      obtain rfl := hs.str 0 rfl
      refine WL.move (v := bstr x1) h1 ?_ (hg := (wanted_of rfl rfl (bool_tr rfl hc)).trans rfl)
      refine WL.binS (v := .bool (((rawA os)[p]).1 != x1)) rfl rfl (sb_neq _ _) ?_ (hg := (wanted_of rfl rfl (bool_tr rfl hc)).trans rfl)
      refine WL.pickF (v := .bool (((rawA os)[p]).1 != x1)) (bool_tr rfl hc) rfl ?_
      refine WL.nil ?_
      have hro : ((rawA os)[p]).1 = (os[p]'(by omega)).1 := by simp [rawA]
      refine Jk7 _ _ _ ?_ h0 h1 h2 h7 rfl (hs.pick [])
      rw [hro, bne_iff_ne]
      exact ⟨fun h _ => h, fun h => h (by omega)⟩
  refine W.block ?_
  refine W.loop hb0 (fun s ρ w => ρ 0 = .pointer (some ⟨gt, 0, none⟩) ∧ ρ 1 = bstr x1 ∧ ρ 2 = bstr x2 ∧ ρ 7 = .int .i64 s ∧ St ok F w [] [blk gt 29 [.slice a (rawA os).length c], own tRO 51 (.slice a (rawA os).length c) (rawA os), innA t_fold_Field 57 os]) ⟨rfl, rfl, rfl, rfl, hs⟩ ?_
  intro s ρ w os5 hI hf hbb
  obtain ⟨h0, h1, h2, h7, hs⟩ := hI
  unfold fposl at hf
  refine W.seqK fun K4 hK4 => ?_
  refine W.seqK fun K5 hK5 => ?_
  have Jk5 : ∀ (b : Bool) (ρ : Env) (w : World), ρ 0 = .pointer (some ⟨gt, 0, none⟩) → ρ 1 = bstr x1 → ρ 2 = bstr x2 → ρ 7 = .int .i64 s → ρ 28 = .bool b → St ok F w [] [blk gt 29 [.slice a (rawA os).length c], own tRO 51 (.slice a (rawA os).length c) (rawA os), innA t_fold_Field 57 os] → (if b then letV (IntKind.i64.wrap (s + 1)) fun j => some (.inl j) else some (.inr s)) = some os5 → K5 ρ w := by
    intro b ρ w h0 h1 h2 h7 h28 hs hf
    refine hK5 _ _ ?_
    rcases iteE hf with ⟨hc, hf⟩ | ⟨hc, hf⟩
    · refine W.cond_true (bool_tr h28 hc) ?_
      refine W.skip ?_
      refine hK4 _ _ ?_
      refine W.block ?_
      refine W.region ?_
      refine WL.move (v := .int .i64 s) h7 ?_
      obtain ⟨j, ej, hf⟩ := letE hf
      refine WL.bin (v := .int .i64 j) rfl rfl (ib_as ej (ib_add _ _ _)) ?_
      refine WL.assign (v := .int .i64 j) rfl ?_
      refine WL.nil ?_
      exact ⟨_, (Option.some.inj hf).symm, h0, h1, h2, rfl, hs⟩
    · refine W.cond_false (bool_tr h28 hc) ?_
      refine W.exit ?_
      have hr := Option.some.inj hf; subst hr
      have hr := hbb _ rfl; subst hr
      exact Jk3 _ _ h0 h1 h2 (by rw [h7, hbp]) hs
  refine W.region ?_
  refine WL.move (v := .int .i64 s) h7 ?_
  refine WL.move (v := .pointer (some ⟨gt, 0, none⟩)) h0 ?_
  refine WL.nilCheck rfl rfl ?_
  refine WL.fieldAddr (m := 0) rfl FA29_0 rfl ?_
  refine WL.load1 (v := .slice a (rawA os).length c) hs 0 rfl TI27 rfl rfl ?_
  refine WL.len (v := .slice a (rawA os).length c) rfl (len_own hs 1 rfl UN27) ?_
  refine WL.bin (v := .bool (decide (s < ((rawA os).length : Int)))) rfl rfl (ib_lss _ _ _) ?_
  refine WL.move (v := .bool (decide (s < ((rawA os).length : Int)))) rfl ?_
  rcases iteE hf with ⟨hc, hf⟩ | ⟨hc, hf⟩
  · refine WL.move (v := .pointer (some ⟨gt, 0, none⟩)) h0 ?_ (hg := (wanted_of rfl rfl (bool_tr rfl hc)).trans rfl)
    refine WL.nilCheck rfl rfl ?_ (hg := (wanted_of rfl rfl (bool_tr rfl hc)).trans rfl)
    refine WL.fieldAddr (m := 0) rfl FA29_0 rfl ?_ (hg := (wanted_of rfl rfl (bool_tr rfl hc)).trans rfl)
    refine WL.load1 (v := .slice a (rawA os).length c) hs 0 rfl TI27 rfl rfl ?_ (hg := (wanted_of rfl rfl (bool_tr rfl hc)).trans rfl)
    refine WL.move (v := .int .i64 s) h7 ?_ (hg := (wanted_of rfl rfl (bool_tr rfl hc)).trans rfl)
    obtain ⟨y, hy, hf⟩ := bindE hf
    refine WL.indexAddrO hs 1 rfl UN27 TI51 rfl rfl hy (fun ad hat => ?_) (hg := (wanted_of rfl rfl (bool_tr rfl hc)).trans rfl)
    refine WL.fieldAddrO (o2 := 0) hat.f rfl FA51_0 rfl (fun ad2 hat2 => ?_) (hg := (wanted_of rfl rfl (bool_tr rfl hc)).trans rfl)
    refine WL.loadOF F_RO_1 hs 1 rfl TI9 (.inr rfl) hat2 hy rfl (z := y.1) rfl (fun v hs => ?_) (hg := (wanted_of rfl rfl (bool_tr rfl hc)).trans rfl)
    obtain rfl := hs.str 0 rfl
    refine WL.move (v := bstr x1) h1 ?_ (hg := (wanted_of rfl rfl (bool_tr rfl hc)).trans rfl)
    refine WL.binS (v := .bool (Op.bytesLess y.1 x1)) rfl rfl (sb_lss _ _) ?_ (hg := (wanted_of rfl rfl (bool_tr rfl hc)).trans rfl)
    refine WL.pickT (v := .bool (Op.bytesLess y.1 x1)) (bool_tr rfl hc) rfl ?_
    refine WL.nil ?_
    exact Jk5 (Op.bytesLess y.1 x1) _ _ h0 h1 h2 h7 rfl (hs.pick []) hf
  · iterate 10 refine WL.pass ((wanted_of rfl rfl (bool_tr rfl hc)).trans rfl) rfl ?_
    refine WL.pickF (v := .bool false) (bool_tr rfl hc) rfl ?_
    refine WL.nil ?_
    exact Jk5 false _ _ h0 h1 h2 h7 rfl hs hf
end Go.Proofs.Ytlbcfjblpopcnaa
set_option linter.unusedVariables false
set_option linter.unusedSimpArgs false
namespace Go.Proofs.Ytlbcfjblpopcnaa
open Go Go.Proofs.YtlbcfjblpopcnaaL
theorem r32_upd_eq {α : Type} (key : α → List UInt8) (k : List UInt8) (g : Option α → α) : ∀ l : List α, r32_upd key k g l = upd key k g l
  | [] => rfl
  | a :: l => by
    unfold r32_upd upd
    rw [r32_upd_eq key k g l]
theorem r32_ins_eq (objs : List fold_Object) (k f : List UInt8) : r32_ins objs k f = insT objs k f := by
  unfold r32_ins insT
  rw [r32_upd_eq]
  congr 1
  funext o
  rw [r32_upd_eq]
  rfl
theorem insT_obj {objs : List fold_Object} (hs : SA ON_ objs) (hf : ∀ o ∈ objs, SA FN_ o.Fields) {k f : List UInt8} {o : fold_Object} (h : get ON_ (insT objs k f) k = some o) : SA FN_ o.Fields := by
  unfold insT at h
  rw [get_upd (inObj_key _ _ _) k hs, if_pos rfl] at h
  have h := Option.some.inj h
  rw [← h]
  unfold inObj
  refine SA_upd (insF_key f) ?_
  cases hg : get ON_ objs k with
  | none => exact .nil
  | some o => exact hf o (get_mem hg)
theorem insT_SA {objs : List fold_Object} (hs : SA ON_ objs) (k f : List UInt8) : SA ON_ (insT objs k f) := SA_upd (inObj_key _ _ _) hs
theorem eff_out {u : api_Update} {objs r : List fold_Object} {e : api_Effect} (h : r32_eff u objs e = some r) : r32_ok objs ∧ ∀ (ms : List fold_Object) (p : Nat) (hp : p < ms.length) (q : Nat) (hq : q < ms[p].Fields.length),
    ms = insT objs e.Object e.Field → ms[p].Name = e.Object → ms[p].Fields[q].Name = e.Field → ∃ y', r32_fld u e ms[p].Fields[q] = some y' ∧ r = ms.set p ⟨ms[p].Name, ms[p].Fields.set q y'⟩ := by
  unfold r32_eff at h
  split at h
  · rename_i hok
    refine ⟨hok, fun ms p hp q hq hm h1 h2 => ?_⟩
    obtain ⟨hsa, _, hfs⟩ := hok
    rw [r32_ins_eq, ← hm] at h
    have hsm : SA ON_ ms := by rw [hm]; exact insT_SA hsa _ _
    have p1 : Pos ON_ ms e.Object p := by rw [← h1]; exact Pos.self hsm hp
    have g1 : get ON_ ms e.Object = some ms[p] := p1.at_ hp h1
    have hfo : SA FN_ ms[p].Fields := insT_obj hsa (fun o ho => (hfs o ho).2) (by rw [← hm]; exact g1)
    have p2 : Pos FN_ ms[p].Fields e.Field q := by rw [← h2]; exact Pos.self hfo hq
    have g2 : get FN_ ms[p].Fields e.Field = some ms[p].Fields[q] := p2.at_ hq h2
    have g1' : (ms.find? fun o => o.Name == e.Object) = some ms[p] := g1
    have g2' : (ms[p].Fields.find? fun y => y.Name == e.Field) = some ms[p].Fields[q] := g2
    rw [g1', Option.bind_some, g2', Option.bind_some] at h
    cases hy : r32_fld u e ms[p].Fields[q] with
    | none => rw [hy] at h; cases h
    | some y' =>
      rw [hy, Option.bind_some] at h
      have h := Option.some.inj h
      refine ⟨y', rfl, ?_⟩
      rw [← h, r32_upd_eq, r32_upd_eq]
      have a1 : upd FN_ e.Field (fun _ => y') ms[p].Fields = ms[p].Fields.set q y' := upd_found p2 hq h2
      have a2 := upd_found (g := fun _ => (⟨e.Object, ms[p].Fields.set q y'⟩ : fold_Object)) p1 hp h1
      show upd ON_ e.Object (fun _ => ⟨e.Object, upd FN_ e.Field (fun _ => y') ms[p].Fields⟩) ms = _
      rw [a1, a2, h1]
  · cases h
end Go.Proofs.Ytlbcfjblpopcnaa
set_option linter.unusedVariables false
set_option linter.unusedSimpArgs false
set_option maxRecDepth 100000
set_option maxHeartbeats 4000000
namespace Go.Proofs.Ytlbcfjblpopcnaa
open Go Go.RowKit Go.Proofs.YtlbcfjblpopcnaaL
theorem FN50 : FN Try.prog 50 := fun _ _ => by kernel_rfl
theorem FN51 : FN Try.prog 51 := fun _ _ => by kernel_rfl
theorem FN52 : FN Try.prog 52 := fun _ _ => by kernel_rfl
theorem regR1 (ok : Nat → Prop) (w : World) (y : fold_Register) : t_fold_Register.R ok w y [.bool y.Set, .int .i64 y.Tag, .int .i64 y.Client, .int .i64 y.Seq, .int .i64 y.N, bstr y.S] :=
  ⟨[.bool y.Set], _, rfl, rfl, [.int .i64 y.Tag], _, rfl, rfl, [.int .i64 y.Client], _, rfl, rfl, [.int .i64 y.Seq], _, rfl, rfl, [.int .i64 y.N], _, rfl, rfl, rfl⟩
theorem esref32_Apply.calls {ok : Nat → Prop} {w0 : World} {x1 : fold_Store} {x2 : api_Update} {v1 v2 : Value} {r : fold_Store} (hf : esref32_Apply x1 x2 = some r) (i0 : (vl t_fold_Store x1 v1).holds ok w0) (i1 : (vl t_api_Update x2 v2).holds ok w0) :
    Calls Try.prog 23 #[v1, v2] w0 fun e w' => ∃ v, e = .returned v ∧ ∃ y : List Value, v = .agg y.toArray ∧ St ok (bz w0) w' [vl t_fold_Store r (.agg y.toArray)] [] := by
  unfold esref32_Apply at hf
  refine calls_of_W (fn := Try.f23) (N := 119) Try.func23 rfl Try.ntmps23 rfl ?_
  have hs : St ok (bz w0) w0 [vl t_fold_Store x1 v1, vl t_api_Update x2 v2] [] := St.init (All.cons i0 (All.cons i1 All.nil))
  clear i0 i1
  obtain ⟨cs1, hl1, rfl⟩ := hs.aggv (n := 1) 0 rfl rfl rfl
  obtain ⟨cs2, hl2, rfl⟩ := hs.aggv (n := 4) 1 rfl rfl rfl
  obtain ⟨ae, ce, rfl⟩ := open_api_Update hs 1 rfl
  have hs := hs.add (it := vl (tSlice t_api_Effect) x2.Effects (.slice ae x2.Effects.length ce)) fun ok hA => V_fld F_api_Update_Effects (hA.get 1 rfl) rfl rfl rfl
  refine W.seqK fun K1 hK1 => ?_
  refine W.region ?_
  refine WL.box (vs := cs1) hs rfl rfl (fun g2 w hs => ?_)
  refine WL.box (vs := [.int .i64 x2.Client, .int .i64 x2.Seq, .int .i64 x2.Tag, .slice ae x2.Effects.length ce]) hs rfl rfl (fun g3 w hs => ?_)
  refine WL.alloc hs ZV29 (fun g4 w hs => ?_)
  refine WL.nil ?_
  refine hK1 _ _ ?_
  obtain ⟨cp, hcp, hf⟩ := bindE hf
  refine W.seqK fun K2 hK2 => ?_
  refine W.region ?_
  refine WL.loadAll hs 2 rfl TI29 rfl hl1 ?_
  refine WL.call (vs := [.agg cs1.toArray]) hs FN21 ⟨rfl, trivial⟩ (fun ok hA => esref32_Copy.callr hcp (hA.get 1 rfl)) ?_
  rintro ⟨⟨a0, n0, c0⟩, ⟨os0, hos0⟩⟩ w hs
  refine WL.alloc hs ZV29 (fun g5 w hs => ?_)
  refine WL.storeAll (vs := [.slice a0 n0 c0]) hs 0 rfl TI29 rfl rfl rfl rfl (ones_of rfl) rfl (fun w hs => ?_)
  refine WL.nil ?_
  refine hK2 _ _ ?_
  have hs := hs.mask [true, true, true, true, true, false]
  have hs := hs.pick [0]
  have hs : St ok (bz w0) w [vl (tSlice t_api_Effect) x2.Effects (.slice ae x2.Effects.length ce)] [blk g5 29 [.slice a0 n0 c0], own tRO 51 (.slice a0 n0 c0) (rawA os0), innA t_fold_Field 57 os0, blk g4 29 [.slice none 0 0], blk g3 41 [.int .i64 x2.Client, .int .i64 x2.Seq, .int .i64 x2.Tag, .slice ae x2.Effects.length ce]] := hs
  obtain ⟨obj, hobj, hf⟩ := bindE hf
  refine W.seqK fun K3 hK3 => ?_
  have Jk3 : ∀ (os : List RO_) (a : Option Addr) (n c : Nat) (ρ : Env) (w : World), os.map mkO = obj → ρ 4 = .pointer (some ⟨g4, 0, none⟩) → ρ 5 = .pointer (some ⟨g5, 0, none⟩) → St ok (bz w0) w [vl (tSlice t_api_Effect) x2.Effects (.slice ae x2.Effects.length ce)] [blk g5 29 [.slice a n c], own tRO 51 (.slice a n c) (rawA os), innA t_fold_Field 57 os, blk g4 29 [.slice none 0 0], blk g3 41 [.int .i64 x2.Client, .int .i64 x2.Seq, .int .i64 x2.Tag, .slice ae x2.Effects.length ce]] → K3 ρ w := by
    intro os a n c ρ w hos h4 h5 hs
    refine hK3 _ _ ?_
    refine W.seqK fun K4 hK4 => ?_
    refine W.region ?_
    refine WL.loadN (vs := [.slice a n c]) hs 0 rfl TI29 h5 rfl rfl ?_
    refine WL.storeAll (vs := [.slice a n c]) hs 3 rfl TI29 h4 rfl rfl rfl (ones_of rfl) rfl (fun w hs => ?_)
    refine WL.nil ?_
    refine hK4 _ _ ?_
    refine W.ret ?_
    have hr := Option.some.inj hf; subst hr
    have hs0 := hs
    have hs := hs.mask [false, true, true]
    have hs : St ok (bz w0) w [vl (tSlice t_api_Effect) x2.Effects (.slice ae x2.Effects.length ce)] (own tRO 51 (.slice a n c) (rawA os) :: innA t_fold_Field 57 os :: []) := hs
    have hs := hs.rinOpen
    have hs := hs.robFreeze (T := t_fold_Object) (mk := mkO) (fun ok w q h => by
      obtain ⟨a3, c3, h1, h2⟩ := tSlice_V.1 h
      exact ⟨[bstr q.1], [q.2.1], rfl, rfl, a3, c3, by rw [h1], h2⟩) rfl
    rw [hos] at hs
    obtain rfl := hs.ownLen 0 rfl
    have hs := hs.freezeOwn 0 rfl
    have hs := hs.add (it := vl t_fold_Store (⟨obj⟩ : fold_Store) (.agg [.slice a obj.length c].toArray)) fun ok hA => V_agg (R_one (hA.get 0 rfl)) rfl
    exact ⟨_, resOk_one rfl (res_all hs0 3 rfl TI29 h4 rfl), [.slice a obj.length c], rfl, (hs.mask []).pick [0]⟩
  refine W.seqK fun K5 hK5 => ?_
  refine W.region ?_
  refine WL.assign (v := .int .i64 0) rfl ?_
  refine WL.nil ?_
  refine hK5 _ _ ?_
  refine W.block ?_
  refine W.loop hobj (fun s ρ w => ∃ (os : List RO_) (a : Option Addr) (n c : Nat), s.2 = os.map mkO ∧ ρ 3 = .pointer (some ⟨g3, 0, none⟩) ∧ ρ 4 = .pointer (some ⟨g4, 0, none⟩) ∧ ρ 5 = .pointer (some ⟨g5, 0, none⟩) ∧ ρ 6 = .int .i64 s.1 ∧ St ok (bz w0) w [vl (tSlice t_api_Effect) x2.Effects (.slice ae x2.Effects.length ce)] [blk g5 29 [.slice a n c], own tRO 51 (.slice a n c) (rawA os), innA t_fold_Field 57 os, blk g4 29 [.slice none 0 0], blk g3 41 [.int .i64 x2.Client, .int .i64 x2.Seq, .int .i64 x2.Tag, .slice ae x2.Effects.length ce]]) ⟨os0, a0, n0, c0, hos0.symm, rfl, rfl, rfl, rfl, hs⟩ ?_
  clear hs
  rintro ⟨i, objs⟩ ρ w o5 hI hf5 hbb
  obtain ⟨os1, a1, n1, c1, rfl, h3, h4, h5, h6, hs⟩ := hI
  unfold esref32_Apply.l1 at hf5
  dsimp only at hf5 h6
  refine W.seqK fun K6 hK6 => ?_
  refine W.seqK fun K7 hK7 => ?_
  refine W.region ?_
  refine WL.move (v := .int .i64 i) h6 ?_
  refine WL.fieldAddr (m := 3) h3 FA41_3 rfl ?_
  refine WL.load1 (v := .slice ae x2.Effects.length ce) hs 4 rfl TI39 rfl rfl ?_
  refine WL.len (v := .slice ae x2.Effects.length ce) rfl (len_slice UN39) ?_
  refine WL.bin (v := .bool (decide (i < (x2.Effects.length : Int)))) rfl rfl (ib_lss _ _ _) ?_
  refine WL.nil ?_
  refine hK7 _ _ ?_
  rcases iteE hf5 with ⟨hc, hf5⟩ | ⟨hc, hf5⟩
  rotate_left
  · refine W.cond_false (bool_tr rfl hc) ?_
    refine W.exit ?_
    have hr := Option.some.inj hf5; subst hr
    have hr := hbb _ rfl
    exact Jk3 os1 a1 n1 c1 _ _ hr h4 h5 hs
  refine W.cond_true (bool_tr rfl hc) ?_
  refine W.skip ?_
  refine hK6 _ _ ?_
  obtain ⟨e, he, hf5⟩ := bindE hf5
  obtain ⟨o', ho', hf5⟩ := bindE hf5
  obtain ⟨hok, heff⟩ := eff_out ho'
  obtain ⟨hsa, hlen, hfl⟩ := hok
  refine W.seqK fun K8 hK8 => ?_
  have Jk8 : ∀ (os : List RO_) (a : Option Addr) (n c : Nat) (ρ : Env) (w : World), o' = os.map mkO → ρ 3 = .pointer (some ⟨g3, 0, none⟩) → ρ 4 = .pointer (some ⟨g4, 0, none⟩) → ρ 5 = .pointer (some ⟨g5, 0, none⟩) → ρ 6 = .int .i64 i → St ok (bz w0) w [vl (tSlice t_api_Effect) x2.Effects (.slice ae x2.Effects.length ce)] [blk g5 29 [.slice a n c], own tRO 51 (.slice a n c) (rawA os), innA t_fold_Field 57 os, blk g4 29 [.slice none 0 0], blk g3 41 [.int .i64 x2.Client, .int .i64 x2.Seq, .int .i64 x2.Tag, .slice ae x2.Effects.length ce]] → K8 ρ w := by
    intro os a n c ρ w hos h3 h4 h5 h6 hs
    refine hK8 _ _ ?_
    refine W.region ?_
    refine WL.move (v := .int .i64 i) h6 ?_
    obtain ⟨j, ej, hf5⟩ := letE hf5
    refine WL.bin (v := .int .i64 j) rfl rfl (ib_as ej (ib_add _ _ _)) ?_
    refine WL.assign (v := .int .i64 j) rfl ?_
    refine WL.nil ?_
    exact ⟨_, (Option.some.inj hf5).symm, os, a, n, c, hos, h3, h4, h5, rfl, hs⟩
  refine W.block ?_
  refine W.seqK fun K9 hK9 => ?_
  refine W.region ?_
  refine WL.fieldAddr (m := 3) h3 FA41_3 rfl ?_
  refine WL.load1 (v := .slice ae x2.Effects.length ce) hs 4 rfl TI39 rfl rfl ?_
  refine WL.move (v := .int .i64 i) h6 ?_
  refine WL.indexAddr hs 0 rfl UN39 TI67 rfl rfl he (fun ad hs => ?_)
  refine WL.loadP hs 0 rfl TI67 (.inl rfl) rfl (fun v hs => ?_)
  obtain ⟨es, hl5, rfl⟩ := hs.aggv (n := 5) 0 rfl rfl rfl
  obtain rfl := open_api_Effect hs 0 rfl
  refine WL.alloc hs ZV67 (fun g7 w hs => ?_)
  refine WL.storeAll (vs := [.int .i64 e.Kind, bstr e.Object, bstr e.Field, .int .i64 e.N, bstr e.S]) hs 0 rfl TI67 rfl rfl rfl rfl (ones_of rfl) rfl (fun w hs => ?_)
  refine WL.nil ?_
  refine hK9 _ _ ?_
  have hs := hs.pick [2]
  refine W.seqK fun K10 hK10 => ?_
  refine W.region ?_
  refine WL.fieldAddr (m := 1) rfl FA67_1 rfl ?_
  refine WL.load1 (v := bstr e.Object) hs 0 rfl TI9 rfl rfl ?_
  refine WL.fieldAddr (m := 2) rfl FA67_2 rfl ?_
  refine WL.load1 (v := bstr e.Field) hs 0 rfl TI9 rfl rfl ?_
  have hs := hs.front 3 rfl
  have hs := hs.front 3 rfl
  have hs := hs.front 3 rfl
  have hs : St ok (bz w0) w [vl (tSlice t_api_Effect) x2.Effects (.slice ae x2.Effects.length ce)] ([blk g5 29 [.slice a1 n1 c1], own tRO 51 (.slice a1 n1 c1) (rawA os1), innA t_fold_Field 57 os1] ++ [blk g7 67 [.int .i64 e.Kind, bstr e.Object, bstr e.Field, .int .i64 e.N, bstr e.S], blk g4 29 [.slice none 0 0], blk g3 41 [.int .i64 x2.Client, .int .i64 x2.Seq, .int .i64 x2.Tag, .slice ae x2.Effects.length ce]]) := hs
  refine WL.callO (vs := [.pointer (some ⟨g5, 0, none⟩), bstr e.Object, bstr e.Field]) [blk g5 29 [.slice a1 n1 c1], own tRO 51 (.slice a1 n1 c1) (rawA os1), innA t_fold_Field 57 os1] hs FN50 ⟨h5, ⟨rfl, ⟨rfl, trivial⟩⟩⟩ (fun ok F hs => esref32_field.callr hsa (by rw [List.length_map] at hlen; exact hlen) (fun o ho => (hfl (mkO o) (List.mem_map_of_mem ho)).1) (hs.pick [])) ?_
  rintro ⟨⟨a, n, c, os', ad⟩, hm, p, hp0, hp1, q, hq, hq2, hat⟩ w hs
  refine WL.assign (v := .pointer (some ad)) rfl ?_
  refine WL.nil ?_
  refine hK10 _ _ ?_
  have hs := hs.pick [0]
  have hs : St ok (bz w0) w [vl (tSlice t_api_Effect) x2.Effects (.slice ae x2.Effects.length ce)] [blk g5 29 [.slice a n c], own tRO 51 (.slice a n c) (rawA os'), innA t_fold_Field 57 os', blk g7 67 [.int .i64 e.Kind, bstr e.Object, bstr e.Field, .int .i64 e.N, bstr e.S], blk g4 29 [.slice none 0 0], blk g3 41 [.int .i64 x2.Client, .int .i64 x2.Seq, .int .i64 x2.Tag, .slice ae x2.Effects.length ce]] := hs
  dsimp only at hm hp0 hp1 hq hq2 hat
  obtain ⟨y0, hy0⟩ : ∃ y0, y0 = os'[p] := ⟨_, rfl⟩
  have hlm : p < (os'.map mkO).length := by rw [List.length_map]; exact hp0
  have hgm : (os'.map mkO)[p] = mkO y0 := by rw [List.getElem_map, ← hy0]
  rw [← hy0] at hp1
  have hq' : q < y0.2.2.length := by rw [hy0]; exact hq
  have hq2' : (y0.2.2[q]'hq').Name = e.Field := by
    have : ∀ z : RO_, z = os'[p] → ∀ h : q < z.2.2.length, (z.2.2[q]'h).Name = e.Field := by rintro _ rfl h; exact hq2
    exact this _ hy0 _
  have hat' : Go.Proofs.YtlbcfjblpopcnaaL.OwnAt 12 y0.2.1 (q : Int) ad := by rw [hy0]; exact hat
  have hs := hs.front 2 rfl
  have hs := hs.rinTake hp0
  rw [← hy0] at hs

  obtain ⟨nm, vi, xs⟩ := y0
  dsimp only at hp1 hq' hq2' hat' hs
  subst hp1
  obtain ⟨y', hy', ho2⟩ : ∃ y', r32_fld x2 e xs[q] = some y' ∧ o' = (os'.map mkO).set p ⟨e.Object, xs.set q y'⟩ := by
    have hg : ∀ z : fold_Object, z = (os'.map mkO)[p] → z.Name = e.Object := fun z hz => by rw [hz, hgm]
    obtain ⟨y', h1, h2⟩ := heff (os'.map mkO) p hlm q (by rw [hgm]; exact hq') hm (by rw [hgm]) (by
      have : ∀ z : fold_Object, z = mkO (e.Object, vi, xs) → ∀ h : q < z.Fields.length, (z.Fields[q]'h).Name = e.Field := by rintro _ rfl h; exact hq2'
      exact this _ hgm _)
    refine ⟨y', ?_, ?_⟩
    · have : ∀ z : fold_Object, z = mkO (e.Object, vi, xs) → ∀ h : q < z.Fields.length, r32_fld x2 e (z.Fields[q]'h) = some y' → r32_fld x2 e xs[q] = some y' := by rintro _ rfl h hh; exact hh
      exact this _ hgm _ h1
    · rw [h2, hgm]
  obtain ⟨rest, hrest⟩ : ∃ rest, rest = os'.take p ++ os'.drop (p + 1) := ⟨_, rfl⟩
  rw [← hrest] at hs
  have hrp : rest.take p = os'.take p := by
    rw [hrest, List.take_append_of_le_length (by rw [List.length_take]; omega), List.take_take, Nat.min_self]
  have hrd : rest.drop p = os'.drop (p + 1) := by
    rw [hrest, List.drop_append_of_le_length (by rw [List.length_take]; omega), List.drop_of_length_le (by rw [List.length_take]; omega), List.nil_append]
  obtain ⟨gi, ni, ci, ev, rfl⟩ := hat'
  subst ev
  obtain rfl := hs.ownLen 0 rfl
  obtain ⟨y, hyy⟩ : ∃ y, y = xs[q] := ⟨_, rfl⟩
  rw [← hyy] at hy'
  have hqy : idx xs (q : Int) = some y := by rw [hyy]; exact idx_nat hq'
  have hA : ∀ k, OwnAtF 12 k (.slice (some ⟨gi, 0, none⟩) xs.length ci) (q : Int) ⟨gi, q * 12 + k, none⟩ := fun k => ⟨gi, _, _, rfl, rfl⟩
  have hs : St ok (bz w0) w [vl (tSlice t_api_Effect) x2.Effects (.slice ae x2.Effects.length ce)] [own t_fold_Field 57 (.slice (some ⟨gi, 0, none⟩) xs.length ci) xs, innA t_fold_Field 57 rest, blk g5 29 [.slice a n c], own tRO 51 (.slice a n c) (rawA os'), blk g7 67 [.int .i64 e.Kind, bstr e.Object, bstr e.Field, .int .i64 e.N, bstr e.S], blk g3 41 [.int .i64 x2.Client, .int .i64 x2.Seq, .int .i64 x2.Tag, .slice ae x2.Effects.length ce], blk g4 29 [.slice none 0 0]] := (((((hs.front 6 rfl).front 5 rfl).front 5 rfl).front 5 rfl).front 5 rfl).front 5 rfl
  have Jmod : ∀ (z : fold_Field) (ρ : Env) (w : World), r32_fld x2 e y = some z → ρ 3 = .pointer (some ⟨g3, 0, none⟩) → ρ 4 = .pointer (some ⟨g4, 0, none⟩) → ρ 5 = .pointer (some ⟨g5, 0, none⟩) → ρ 6 = .int .i64 i → St ok (bz w0) w [vl (tSlice t_api_Effect) x2.Effects (.slice ae x2.Effects.length ce)] [own t_fold_Field 57 (.slice (some ⟨gi, 0, none⟩) xs.length ci) (xs.set q z), innA t_fold_Field 57 rest, blk g5 29 [.slice a n c], own tRO 51 (.slice a n c) (rawA os'), blk g7 67 [.int .i64 e.Kind, bstr e.Object, bstr e.Field, .int .i64 e.N, bstr e.S], blk g3 41 [.int .i64 x2.Client, .int .i64 x2.Seq, .int .i64 x2.Tag, .slice ae x2.Effects.length ce], blk g4 29 [.slice none 0 0]] → K8 ρ w := by
    intro z ρ w hz h3 h4 h5 h6 hs
    rw [hy'] at hz
    have hz := Option.some.inj hz
    subst hz
    have hs := hs.rinAdd (p := p) (n := e.Object)
    rw [hrp, hrd] at hs
    have e1 : rawA (os'.take p ++ (e.Object, Value.slice (some ⟨gi, 0, none⟩) xs.length ci, xs.set q y') :: os'.drop (p + 1)) = rawA os' := by
      have h1 : rawA os' = os'.map fun o => (o.1, o.2.1) := rfl
      have h2 : os' = os'.take p ++ (e.Object, Value.slice (some ⟨gi, 0, none⟩) xs.length ci, xs) :: os'.drop (p + 1) := by
        rw [hy0, ← List.drop_eq_getElem_cons hp0, List.take_append_drop]
      conv => rhs; rw [h2]
      simp [rawA]
    refine Jk8 (os'.take p ++ (e.Object, Value.slice (some ⟨gi, 0, none⟩) xs.length ci, xs.set q y') :: os'.drop (p + 1)) a n c ρ w ?_ h3 h4 h5 h6 ?_
    · rw [ho2, List.set_eq_take_append_cons_drop, if_pos hlm, List.map_append, List.map_cons, List.map_take, List.map_drop]
    · rw [e1]
      have hs : St ok (bz w0) w [vl (tSlice t_api_Effect) x2.Effects (.slice ae x2.Effects.length ce)] [innA t_fold_Field 57 (os'.take p ++ (e.Object, Value.slice (some ⟨gi, 0, none⟩) xs.length ci, xs.set q y') :: os'.drop (p + 1)), blk g5 29 [.slice a n c], own tRO 51 (.slice a n c) (rawA os'), blk g7 67 [.int .i64 e.Kind, bstr e.Object, bstr e.Field, .int .i64 e.N, bstr e.S], blk g3 41 [.int .i64 x2.Client, .int .i64 x2.Seq, .int .i64 x2.Tag, .slice ae x2.Effects.length ce], blk g4 29 [.slice none 0 0]] := hs
      exact (((((hs.front 4 rfl).front 5 rfl).front 2 rfl).front 4 rfl).front 4 rfl).mask [true, true, true, true, true]
  have hyx : xs.set q y = xs := by rw [hyy]; exact List.set_getElem_self hq'
  refine W.seqK fun K11 hK11 => ?_
  refine W.region ?_
  refine WL.fieldAddr (m := 0) rfl FA67_0 rfl ?_
  refine WL.load1 (v := .int .i64 e.Kind) hs 4 rfl TI3 rfl rfl ?_
  refine WL.nil ?_
  refine hK11 _ _ ?_
  refine W.block ?_
  unfold r32_fld at Jmod
  refine W.seqK fun K12 hK12 => ?_
  refine W.region ?_
  refine WL.bin (v := .bool (e.Kind == 1)) rfl rfl (ib_eql _ _ _) ?_
  refine WL.assign (v := .bool (e.Kind == 1)) rfl ?_
  refine WL.nil ?_
  refine hK12 _ _ ?_
  by_cases hk1 : e.Kind = 1
  {
  refine W.cond_true (bool_tr rfl (by rw [hk1]; rfl)) ?_
  rw [if_pos hk1] at Jmod
  refine W.seqK fun K13 hK13 => ?_
  have Jw : ∀ (b : Bool) (ρ : Env) (w : World), (if y.Register.Set then esref32_before y.Register x2.Tag x2.Client x2.Seq else some true) = some b → ρ 3 = .pointer (some ⟨g3, 0, none⟩) → ρ 4 = .pointer (some ⟨g4, 0, none⟩) → ρ 5 = .pointer (some ⟨g5, 0, none⟩) → ρ 6 = .int .i64 i → ρ 7 = .pointer (some ⟨g7, 0, none⟩) → ρ 8 = .pointer (some ⟨gi, q * 12, none⟩) → ρ 50 = .bool b → St ok (bz w0) w [vl (tSlice t_api_Effect) x2.Effects (.slice ae x2.Effects.length ce)] [own t_fold_Field 57 (.slice (some ⟨gi, 0, none⟩) xs.length ci) xs, innA t_fold_Field 57 rest, blk g5 29 [.slice a n c], own tRO 51 (.slice a n c) (rawA os'), blk g7 67 [.int .i64 e.Kind, bstr e.Object, bstr e.Field, .int .i64 e.N, bstr e.S], blk g3 41 [.int .i64 x2.Client, .int .i64 x2.Seq, .int .i64 x2.Tag, .slice ae x2.Effects.length ce], blk g4 29 [.slice none 0 0]] → K13 ρ w := by
    intro b ρ w hb h3 h4 h5 h6 h7 h8 h50 hs
    refine hK13 _ _ ?_
    cases b with
    | false =>
      refine W.cond_false h50 ?_
      refine W.skip ?_
      refine Jmod y _ _ (by rw [hb]; rfl) h3 h4 h5 h6 ?_
      rw [hyx]
      exact hs
    | true =>
      refine W.cond_true h50 ?_
      refine W.region ?_
      refine WL.move (v := .pointer (some ⟨gi, q * 12, none⟩)) h8 ?_
      refine WL.fieldAddr (m := 2) h3 FA41_2 rfl ?_
      refine WL.load1 (v := .int .i64 x2.Tag) hs 5 rfl TI3 rfl rfl ?_
      refine WL.fieldAddr (m := 0) h3 FA41_0 rfl ?_
      refine WL.load1 (v := .int .i64 x2.Client) hs 5 rfl TI3 rfl rfl ?_
      refine WL.fieldAddr (m := 1) h3 FA41_1 rfl ?_
      refine WL.load1 (v := .int .i64 x2.Seq) hs 5 rfl TI3 rfl rfl ?_
      refine WL.fieldAddr (m := 3) h7 FA67_3 rfl ?_
      refine WL.load1 (v := .int .i64 e.N) hs 4 rfl TI2 rfl rfl ?_
      refine WL.fieldAddr (m := 4) h7 FA67_4 rfl ?_
      refine WL.load1 (v := bstr e.S) hs 4 rfl TI9 rfl rfl ?_
      refine WL.build (vs := [(0, .bool true), (1, .int .i64 x2.Tag), (2, .int .i64 x2.Client), (3, .int .i64 x2.Seq), (4, .int .i64 e.N), (5, bstr e.S)]) (cs := [.bool true, .int .i64 x2.Tag, .int .i64 x2.Client, .int .i64 x2.Seq, .int .i64 e.N, bstr e.S]) ⟨⟨rfl, rfl⟩, ⟨rfl, rfl⟩, ⟨rfl, rfl⟩, ⟨rfl, rfl⟩, ⟨rfl, rfl⟩, ⟨rfl, rfl⟩, trivial⟩ (bld PL54 (by kernel_rfl)) ?_
      refine WL.nilCheck rfl rfl ?_
      refine WL.fieldAddr (m := q * 12 + 1) rfl FA57_1 rfl ?_
      refine WL.storeOF F_fold_Field_Register (z := ⟨true, x2.Tag, x2.Client, x2.Seq, e.N, e.S⟩) (vs := [.bool true, .int .i64 x2.Tag, .int .i64 x2.Client, .int .i64 x2.Seq, .int .i64 e.N, bstr e.S]) (zs := xs.set q { y with Register := ⟨true, x2.Tag, x2.Client, x2.Seq, e.N, e.S⟩ }) hs 0 rfl TI54 (hA 1) hqy rfl rfl rfl (fun ok hA => ⟨[.bool true], _, rfl, rfl, [.int .i64 x2.Tag], _, rfl, rfl, [.int .i64 x2.Client], _, rfl, rfl, [.int .i64 x2.Seq], _, rfl, rfl, [.int .i64 e.N], _, rfl, rfl, rfl⟩) rfl (fun w hs => ?_)
      refine WL.nil ?_
      exact Jmod _ _ _ (by rw [hb]; rfl) h3 h4 h5 h6 hs
  rcases Bool.eq_false_or_eq_true y.Register.Set with hset | hset
  {
  obtain ⟨bb, hbb1⟩ : ∃ bb, esref32_before y.Register x2.Tag x2.Client x2.Seq = some bb := by unfold esref32_before; split; exact ⟨_, rfl⟩; split; exact ⟨_, rfl⟩; exact ⟨_, rfl⟩
  refine W.any (by kernel_rfl) 18 1 [true, true, true, true, true, true, true, true, true, true, true, true, true, true, true, true, true, true, false] rfl rfl (poAt [pv (.pointer (some ⟨gi, q * 12, none⟩)), pv (.pointer (some ⟨gi, q * 12, none⟩)), pv (.pointer (some ⟨gi, q * 12 + 1, none⟩)), pv (.pointer (some ⟨gi, q * 12 + 1, none⟩)), pv (.bool true), pv (.bool false), pv (.bool false), pv (.pointer (some ⟨gi, q * 12, none⟩)), pv (.pointer (some ⟨gi, q * 12, none⟩)), pv (.pointer (some ⟨gi, q * 12 + 1, none⟩)), pv (.agg ([.bool y.Register.Set, .int .i64 y.Register.Tag, .int .i64 y.Register.Client, .int .i64 y.Register.Seq, .int .i64 y.Register.N, bstr y.Register.S] : List Value).toArray), pv (.pointer (some ⟨g3, 2, none⟩)), pv (.int .i64 x2.Tag), pv (.pointer (some ⟨g3, 0, none⟩)), pv (.int .i64 x2.Client), pv (.pointer (some ⟨g3, 1, none⟩)), pv (.int .i64 x2.Seq), pv (.bool bb)]) (Λ := [own t_fold_Field 57 (.slice (some ⟨gi, 0, none⟩) xs.length ci) xs, innA t_fold_Field 57 rest, blk g5 29 [.slice a n c], own tRO 51 (.slice a n c) (rawA os'), blk g7 67 [.int .i64 e.Kind, bstr e.Object, bstr e.Field, .int .i64 e.N, bstr e.S], blk g3 41 [.int .i64 x2.Client, .int .i64 x2.Seq, .int .i64 x2.Tag, .slice ae x2.Effects.length ce], blk g4 29 [.slice none 0 0]]) hs (by kernel_rfl) (by kernel_rfl) (by kernel_rfl) ⟨⟨⟨⟨⟨⟨⟨⟨⟨⟨⟨⟨⟨⟨⟨⟨⟨⟨trivial, ?_⟩, ?_⟩, ?_⟩, ?_⟩, ?_⟩, ?_⟩, ?_⟩, ?_⟩, ?_⟩, ?_⟩, ?_⟩, ?_⟩, ?_⟩, ?_⟩, ?_⟩, ?_⟩, ?_⟩, ?_⟩ ?_
  {
  intro ρ w Γx Λx hs hu hp
  refine WL.move (v := .pointer (some ⟨gi, q * 12, none⟩)) ((hu 8 rfl).trans rfl) ?_
  exact WL.nil ⟨rfl, _, rfl, rfl, hs.cutG 0 0⟩ }
  {
  intro ρ w Γx Λx hs hu hp
  have e : ρ 32 = .pointer (some ⟨gi, q * 12, none⟩) := (hp 0 rfl).1
  refine WL.nilCheck e rfl ?_
  exact WL.nil ⟨rfl, _, rfl, rfl, hs.cutG 0 0⟩ }
  {
  intro ρ w Γx Λx hs hu hp
  have e : ρ 33 = .pointer (some ⟨gi, q * 12, none⟩) := (hp 1 rfl).1
  refine WL.fieldAddr (m := q * 12 + 1) e FA57_1 rfl ?_
  exact WL.nil ⟨rfl, _, rfl, rfl, hs.cutG 0 0⟩ }
  {
  intro ρ w Γx Λx hs hu hp
  have e : ρ 34 = .pointer (some ⟨gi, q * 12 + 1, none⟩) := (hp 2 rfl).1
  refine WL.fieldAddr (m := q * 12 + 1) e FA54_0 rfl ?_
  exact WL.nil ⟨rfl, _, rfl, rfl, hs.cutG 0 0⟩ }
  {
  intro ρ w Γx Λx hs hu hp
  have e : ρ 35 = .pointer (some ⟨gi, q * 12 + 1, none⟩) := (hp 3 rfl).1
  refine WL.loadOF (F_fold_Field_Register.comp F_fold_Register_Set) hs (Λx.length + 0) (getApp rfl) TI4 (.inr rfl) (hA 1) hqy e (z := true) hset (fun v hs => ?_)
  obtain rfl := hs.bool 0 rfl
  exact WL.nil ⟨rfl, _, rfl, rfl, hs.cutG 0 1⟩ }
  {
  intro ρ w Γx Λx hs hu hp
  have e : ρ 36 = .bool true := (hp 4 rfl).1
  refine WL.not e ?_
  exact WL.nil ⟨rfl, _, rfl, rfl, hs.cutG 0 0⟩ }
  {
  intro ρ w Γx Λx hs hu hp
  have e : ρ 37 = .bool false := (hp 5 rfl).1
  refine WL.move (v := .bool false) e ?_
  exact WL.nil ⟨rfl, _, rfl, rfl, hs.cutG 0 0⟩ }
  {
  intro ρ w Γx Λx hs hu hp
  have eg : ρ 38 = .bool false := (hp 6 rfl).1
  refine WL.move (v := .pointer (some ⟨gi, q * 12, none⟩)) ((hu 8 rfl).trans rfl) ?_ (hg := (wanted_of rfl rfl eg).trans rfl)
  exact WL.nil ⟨rfl, _, rfl, rfl, hs.cutG 0 0⟩ }
  {
  intro ρ w Γx Λx hs hu hp
  have eg : ρ 38 = .bool false := (hp 6 rfl).1
  have e : ρ 39 = .pointer (some ⟨gi, q * 12, none⟩) := (hp 7 rfl).1
  refine WL.nilCheck e rfl ?_ (hg := (wanted_of rfl rfl eg).trans rfl)
  exact WL.nil ⟨rfl, _, rfl, rfl, hs.cutG 0 0⟩ }
  {
  intro ρ w Γx Λx hs hu hp
  have eg : ρ 38 = .bool false := (hp 6 rfl).1
  have e : ρ 40 = .pointer (some ⟨gi, q * 12, none⟩) := (hp 8 rfl).1
  refine WL.fieldAddr (m := q * 12 + 1) e FA57_1 rfl ?_ (hg := (wanted_of rfl rfl eg).trans rfl)
  exact WL.nil ⟨rfl, _, rfl, rfl, hs.cutG 0 0⟩ }
  {
  intro ρ w Γx Λx hs hu hp
  have eg : ρ 38 = .bool false := (hp 6 rfl).1
  have e : ρ 41 = .pointer (some ⟨gi, q * 12 + 1, none⟩) := (hp 9 rfl).1
  refine WL.loadOF F_fold_Field_Register hs (Λx.length + 0) (getApp rfl) TI54 (.inl rfl) (hA 1) hqy e (z := y.Register) rfl (fun v hs => ?_) (hg := (wanted_of rfl rfl eg).trans rfl)
  obtain ⟨cs, hl, rfl⟩ := hs.aggv (n := 6) 0 rfl rfl rfl
  obtain rfl := open_fold_Register hs 0 rfl
  exact WL.nil ⟨rfl, _, rfl, rfl, hs.cutG 0 1⟩ }
  {
  intro ρ w Γx Λx hs hu hp
  have eg : ρ 38 = .bool false := (hp 6 rfl).1
  refine WL.fieldAddr (m := 2) ((hu 3 rfl).trans h3) FA41_2 rfl ?_ (hg := (wanted_of rfl rfl eg).trans rfl)
  exact WL.nil ⟨rfl, _, rfl, rfl, hs.cutG 0 0⟩ }
  {
  intro ρ w Γx Λx hs hu hp
  have eg : ρ 38 = .bool false := (hp 6 rfl).1
  have e : ρ 43 = .pointer (some ⟨g3, 2, none⟩) := (hp 11 rfl).1
  refine WL.load1 (v := .int .i64 x2.Tag) hs (Λx.length + 5) (getApp rfl) TI3 e rfl ?_ (hg := (wanted_of rfl rfl eg).trans rfl)
  exact WL.nil ⟨rfl, _, rfl, rfl, hs.cutG 0 0⟩ }
  {
  intro ρ w Γx Λx hs hu hp
  have eg : ρ 38 = .bool false := (hp 6 rfl).1
  refine WL.fieldAddr (m := 0) ((hu 3 rfl).trans h3) FA41_0 rfl ?_ (hg := (wanted_of rfl rfl eg).trans rfl)
  exact WL.nil ⟨rfl, _, rfl, rfl, hs.cutG 0 0⟩ }
  {
  intro ρ w Γx Λx hs hu hp
  have eg : ρ 38 = .bool false := (hp 6 rfl).1
  have e : ρ 45 = .pointer (some ⟨g3, 0, none⟩) := (hp 13 rfl).1
  refine WL.load1 (v := .int .i64 x2.Client) hs (Λx.length + 5) (getApp rfl) TI3 e rfl ?_ (hg := (wanted_of rfl rfl eg).trans rfl)
  exact WL.nil ⟨rfl, _, rfl, rfl, hs.cutG 0 0⟩ }
  {
  intro ρ w Γx Λx hs hu hp
  have eg : ρ 38 = .bool false := (hp 6 rfl).1
  refine WL.fieldAddr (m := 1) ((hu 3 rfl).trans h3) FA41_1 rfl ?_ (hg := (wanted_of rfl rfl eg).trans rfl)
  exact WL.nil ⟨rfl, _, rfl, rfl, hs.cutG 0 0⟩ }
  {
  intro ρ w Γx Λx hs hu hp
  have eg : ρ 38 = .bool false := (hp 6 rfl).1
  have e : ρ 47 = .pointer (some ⟨g3, 1, none⟩) := (hp 15 rfl).1
  refine WL.load1 (v := .int .i64 x2.Seq) hs (Λx.length + 5) (getApp rfl) TI3 e rfl ?_ (hg := (wanted_of rfl rfl eg).trans rfl)
  exact WL.nil ⟨rfl, _, rfl, rfl, hs.cutG 0 0⟩ }
  {
  intro ρ w Γx Λx hs hu hp
  have eg : ρ 38 = .bool false := (hp 6 rfl).1
  have e1 : ρ 42 = .agg ([.bool y.Register.Set, .int .i64 y.Register.Tag, .int .i64 y.Register.Client, .int .i64 y.Register.Seq, .int .i64 y.Register.N, bstr y.Register.S] : List Value).toArray := (hp 10 rfl).1
  have e2 : ρ 44 = .int .i64 x2.Tag := (hp 12 rfl).1
  have e3 : ρ 46 = .int .i64 x2.Client := (hp 14 rfl).1
  have e4 : ρ 48 = .int .i64 x2.Seq := (hp 16 rfl).1
  have hs := hs.add (it := vl t_fold_Register y.Register (.agg ([.bool y.Register.Set, .int .i64 y.Register.Tag, .int .i64 y.Register.Client, .int .i64 y.Register.Seq, .int .i64 y.Register.N, bstr y.Register.S] : List Value).toArray)) fun ok hA => V_agg (regR1 ok _ y.Register) rfl
  refine WL.call (vs := [.agg ([.bool y.Register.Set, .int .i64 y.Register.Tag, .int .i64 y.Register.Client, .int .i64 y.Register.Seq, .int .i64 y.Register.N, bstr y.Register.S] : List Value).toArray, .int .i64 x2.Tag, .int .i64 x2.Client, .int .i64 x2.Seq]) hs FN51 ⟨e1, ⟨e2, ⟨e3, ⟨e4, trivial⟩⟩⟩⟩ (fun ok hA => esref32_before.calls hbb1 (hA.get 0 rfl)) ?_ (hg := (wanted_of rfl rfl eg).trans rfl)
  rintro _ w hs
  exact WL.nil ⟨rfl, _, rfl, rfl, hs.cutG 0 1⟩ }
  {
  intro ρ w hs hu hp
  obtain ⟨⟨⟨⟨⟨⟨⟨⟨⟨⟨⟨⟨⟨⟨⟨⟨⟨⟨_, hp0_⟩, hp1_⟩, hp2_⟩, hp3_⟩, hp4_⟩, hp5_⟩, hp6_⟩, hp7_⟩, hp8_⟩, hp9_⟩, hp10_⟩, hp11_⟩, hp12_⟩, hp13_⟩, hp14_⟩, hp15_⟩, hp16_⟩, hp17_⟩ := hp
  have hs : St ok (bz w0) w [vl (tSlice t_api_Effect) x2.Effects (.slice ae x2.Effects.length ce)] [own t_fold_Field 57 (.slice (some ⟨gi, 0, none⟩) xs.length ci) xs, innA t_fold_Field 57 rest, blk g5 29 [.slice a n c], own tRO 51 (.slice a n c) (rawA os'), blk g7 67 [.int .i64 e.Kind, bstr e.Object, bstr e.Field, .int .i64 e.N, bstr e.S], blk g3 41 [.int .i64 x2.Client, .int .i64 x2.Seq, .int .i64 x2.Tag, .slice ae x2.Effects.length ce], blk g4 29 [.slice none 0 0]] := hs
  have e0 : ρ 32 = .pointer (some ⟨gi, q * 12, none⟩) := hp0_
  have e1 : ρ 33 = .pointer (some ⟨gi, q * 12, none⟩) := hp1_
  have e2 : ρ 34 = .pointer (some ⟨gi, q * 12 + 1, none⟩) := hp2_
  have e3 : ρ 35 = .pointer (some ⟨gi, q * 12 + 1, none⟩) := hp3_
  have e4 : ρ 36 = .bool true := hp4_
  have e5 : ρ 37 = .bool false := hp5_
  have e6 : ρ 38 = .bool false := hp6_
  have e7 : ρ 39 = .pointer (some ⟨gi, q * 12, none⟩) := hp7_
  have e8 : ρ 40 = .pointer (some ⟨gi, q * 12, none⟩) := hp8_
  have e9 : ρ 41 = .pointer (some ⟨gi, q * 12 + 1, none⟩) := hp9_
  have e10 : ρ 42 = .agg ([.bool y.Register.Set, .int .i64 y.Register.Tag, .int .i64 y.Register.Client, .int .i64 y.Register.Seq, .int .i64 y.Register.N, bstr y.Register.S] : List Value).toArray := hp10_
  have e11 : ρ 43 = .pointer (some ⟨g3, 2, none⟩) := hp11_
  have e12 : ρ 44 = .int .i64 x2.Tag := hp12_
  have e13 : ρ 45 = .pointer (some ⟨g3, 0, none⟩) := hp13_
  have e14 : ρ 46 = .int .i64 x2.Client := hp14_
  have e15 : ρ 47 = .pointer (some ⟨g3, 1, none⟩) := hp15_
  have e16 : ρ 48 = .int .i64 x2.Seq := hp16_
  have e17 : ρ 49 = .bool bb := hp17_
  refine WA.step [18] (by kernel_rfl) (by simp) ⟨?_, trivial⟩
  refine WL.pickF (v := .bool bb) e6 e17 ?_
  refine WL.nil ⟨rfl, _, rfl, ?_⟩
  refine WA.done (by kernel_rfl) ?_
  exact Jw bb _ _ (by rw [hset]; exact hbb1) ((hu 3 rfl).trans h3) ((hu 4 rfl).trans h4) ((hu 5 rfl).trans h5) ((hu 6 rfl).trans h6) ((hu 7 rfl).trans rfl) ((hu 8 rfl).trans rfl) rfl hs }
  }
  {
  refine W.any (by kernel_rfl) 18 1 [true, true, true, true, true, true, true, true, true, true, true, true, true, true, true, true, true, true, false] rfl rfl (poAt [pv (.pointer (some ⟨gi, q * 12, none⟩)), pv (.pointer (some ⟨gi, q * 12, none⟩)), pv (.pointer (some ⟨gi, q * 12 + 1, none⟩)), pv (.pointer (some ⟨gi, q * 12 + 1, none⟩)), pv (.bool false), pv (.bool true), pv (.bool true), pv (undef), pv (undef), pv (undef), pv (undef), pv (undef), pv (undef), pv (undef), pv (undef), pv (undef), pv (undef), pv (undef)]) (Λ := [own t_fold_Field 57 (.slice (some ⟨gi, 0, none⟩) xs.length ci) xs, innA t_fold_Field 57 rest, blk g5 29 [.slice a n c], own tRO 51 (.slice a n c) (rawA os'), blk g7 67 [.int .i64 e.Kind, bstr e.Object, bstr e.Field, .int .i64 e.N, bstr e.S], blk g3 41 [.int .i64 x2.Client, .int .i64 x2.Seq, .int .i64 x2.Tag, .slice ae x2.Effects.length ce], blk g4 29 [.slice none 0 0]]) hs (by kernel_rfl) (by kernel_rfl) (by kernel_rfl) ⟨⟨⟨⟨⟨⟨⟨⟨⟨⟨⟨⟨⟨⟨⟨⟨⟨⟨trivial, ?_⟩, ?_⟩, ?_⟩, ?_⟩, ?_⟩, ?_⟩, ?_⟩, ?_⟩, ?_⟩, ?_⟩, ?_⟩, ?_⟩, ?_⟩, ?_⟩, ?_⟩, ?_⟩, ?_⟩, ?_⟩ ?_
  {
  intro ρ w Γx Λx hs hu hp
  refine WL.move (v := .pointer (some ⟨gi, q * 12, none⟩)) ((hu 8 rfl).trans rfl) ?_
  exact WL.nil ⟨rfl, _, rfl, rfl, hs.cutG 0 0⟩ }
  {
  intro ρ w Γx Λx hs hu hp
  have e : ρ 32 = .pointer (some ⟨gi, q * 12, none⟩) := (hp 0 rfl).1
  refine WL.nilCheck e rfl ?_
  exact WL.nil ⟨rfl, _, rfl, rfl, hs.cutG 0 0⟩ }
  {
  intro ρ w Γx Λx hs hu hp
  have e : ρ 33 = .pointer (some ⟨gi, q * 12, none⟩) := (hp 1 rfl).1
  refine WL.fieldAddr (m := q * 12 + 1) e FA57_1 rfl ?_
  exact WL.nil ⟨rfl, _, rfl, rfl, hs.cutG 0 0⟩ }
  {
  intro ρ w Γx Λx hs hu hp
  have e : ρ 34 = .pointer (some ⟨gi, q * 12 + 1, none⟩) := (hp 2 rfl).1
  refine WL.fieldAddr (m := q * 12 + 1) e FA54_0 rfl ?_
  exact WL.nil ⟨rfl, _, rfl, rfl, hs.cutG 0 0⟩ }
  {
  intro ρ w Γx Λx hs hu hp
  have e : ρ 35 = .pointer (some ⟨gi, q * 12 + 1, none⟩) := (hp 3 rfl).1
  refine WL.loadOF (F_fold_Field_Register.comp F_fold_Register_Set) hs (Λx.length + 0) (getApp rfl) TI4 (.inr rfl) (hA 1) hqy e (z := false) hset (fun v hs => ?_)
  obtain rfl := hs.bool 0 rfl
  exact WL.nil ⟨rfl, _, rfl, rfl, hs.cutG 0 1⟩ }
  {
  intro ρ w Γx Λx hs hu hp
  have e : ρ 36 = .bool false := (hp 4 rfl).1
  refine WL.not e ?_
  exact WL.nil ⟨rfl, _, rfl, rfl, hs.cutG 0 0⟩ }
  {
  intro ρ w Γx Λx hs hu hp
  have e : ρ 37 = .bool true := (hp 5 rfl).1
  refine WL.move (v := .bool true) e ?_
  exact WL.nil ⟨rfl, _, rfl, rfl, hs.cutG 0 0⟩ }
  {
  intro ρ w Γx Λx hs hu hp
  have eg : ρ 38 = .bool true := (hp 6 rfl).1
  refine WL.pass ((wanted_of rfl rfl eg).trans rfl) rfl ?_
  exact WL.nil ⟨rfl, _, rfl, rfl, hs.cutG 0 0⟩ }
  {
  intro ρ w Γx Λx hs hu hp
  have eg : ρ 38 = .bool true := (hp 6 rfl).1
  refine WL.pass ((wanted_of rfl rfl eg).trans rfl) rfl ?_
  exact WL.nil ⟨rfl, _, rfl, rfl, hs.cutG 0 0⟩ }
  {
  intro ρ w Γx Λx hs hu hp
  have eg : ρ 38 = .bool true := (hp 6 rfl).1
  refine WL.pass ((wanted_of rfl rfl eg).trans rfl) rfl ?_
  exact WL.nil ⟨rfl, _, rfl, rfl, hs.cutG 0 0⟩ }
  {
  intro ρ w Γx Λx hs hu hp
  have eg : ρ 38 = .bool true := (hp 6 rfl).1
  refine WL.pass ((wanted_of rfl rfl eg).trans rfl) rfl ?_
  exact WL.nil ⟨rfl, _, rfl, rfl, hs.cutG 0 0⟩ }
  {
  intro ρ w Γx Λx hs hu hp
  have eg : ρ 38 = .bool true := (hp 6 rfl).1
  refine WL.pass ((wanted_of rfl rfl eg).trans rfl) rfl ?_
  exact WL.nil ⟨rfl, _, rfl, rfl, hs.cutG 0 0⟩ }
  {
  intro ρ w Γx Λx hs hu hp
  have eg : ρ 38 = .bool true := (hp 6 rfl).1
  refine WL.pass ((wanted_of rfl rfl eg).trans rfl) rfl ?_
  exact WL.nil ⟨rfl, _, rfl, rfl, hs.cutG 0 0⟩ }
  {
  intro ρ w Γx Λx hs hu hp
  have eg : ρ 38 = .bool true := (hp 6 rfl).1
  refine WL.pass ((wanted_of rfl rfl eg).trans rfl) rfl ?_
  exact WL.nil ⟨rfl, _, rfl, rfl, hs.cutG 0 0⟩ }
  {
  intro ρ w Γx Λx hs hu hp
  have eg : ρ 38 = .bool true := (hp 6 rfl).1
  refine WL.pass ((wanted_of rfl rfl eg).trans rfl) rfl ?_
  exact WL.nil ⟨rfl, _, rfl, rfl, hs.cutG 0 0⟩ }
  {
  intro ρ w Γx Λx hs hu hp
  have eg : ρ 38 = .bool true := (hp 6 rfl).1
  refine WL.pass ((wanted_of rfl rfl eg).trans rfl) rfl ?_
  exact WL.nil ⟨rfl, _, rfl, rfl, hs.cutG 0 0⟩ }
  {
  intro ρ w Γx Λx hs hu hp
  have eg : ρ 38 = .bool true := (hp 6 rfl).1
  refine WL.pass ((wanted_of rfl rfl eg).trans rfl) rfl ?_
  exact WL.nil ⟨rfl, _, rfl, rfl, hs.cutG 0 0⟩ }
  {
  intro ρ w Γx Λx hs hu hp
  have eg : ρ 38 = .bool true := (hp 6 rfl).1
  refine WL.pass ((wanted_of rfl rfl eg).trans rfl) rfl ?_
  exact WL.nil ⟨rfl, _, rfl, rfl, hs.cutG 0 0⟩ }
  {
  intro ρ w hs hu hp
  obtain ⟨⟨⟨⟨⟨⟨⟨⟨⟨⟨⟨⟨⟨⟨⟨⟨⟨⟨_, hp0_⟩, hp1_⟩, hp2_⟩, hp3_⟩, hp4_⟩, hp5_⟩, hp6_⟩, hp7_⟩, hp8_⟩, hp9_⟩, hp10_⟩, hp11_⟩, hp12_⟩, hp13_⟩, hp14_⟩, hp15_⟩, hp16_⟩, hp17_⟩ := hp
  have hs : St ok (bz w0) w [vl (tSlice t_api_Effect) x2.Effects (.slice ae x2.Effects.length ce)] [own t_fold_Field 57 (.slice (some ⟨gi, 0, none⟩) xs.length ci) xs, innA t_fold_Field 57 rest, blk g5 29 [.slice a n c], own tRO 51 (.slice a n c) (rawA os'), blk g7 67 [.int .i64 e.Kind, bstr e.Object, bstr e.Field, .int .i64 e.N, bstr e.S], blk g3 41 [.int .i64 x2.Client, .int .i64 x2.Seq, .int .i64 x2.Tag, .slice ae x2.Effects.length ce], blk g4 29 [.slice none 0 0]] := hs
  have e0 : ρ 32 = .pointer (some ⟨gi, q * 12, none⟩) := hp0_
  have e1 : ρ 33 = .pointer (some ⟨gi, q * 12, none⟩) := hp1_
  have e2 : ρ 34 = .pointer (some ⟨gi, q * 12 + 1, none⟩) := hp2_
  have e3 : ρ 35 = .pointer (some ⟨gi, q * 12 + 1, none⟩) := hp3_
  have e4 : ρ 36 = .bool false := hp4_
  have e5 : ρ 37 = .bool true := hp5_
  have e6 : ρ 38 = .bool true := hp6_
  have e7 : ρ 39 = undef := hp7_
  have e8 : ρ 40 = undef := hp8_
  have e9 : ρ 41 = undef := hp9_
  have e10 : ρ 42 = undef := hp10_
  have e11 : ρ 43 = undef := hp11_
  have e12 : ρ 44 = undef := hp12_
  have e13 : ρ 45 = undef := hp13_
  have e14 : ρ 46 = undef := hp14_
  have e15 : ρ 47 = undef := hp15_
  have e16 : ρ 48 = undef := hp16_
  have e17 : ρ 49 = undef := hp17_
  refine WA.step [18] (by kernel_rfl) (by simp) ⟨?_, trivial⟩
  refine WL.pickT (v := .bool true) e6 rfl ?_
  refine WL.nil ⟨rfl, _, rfl, ?_⟩
  refine WA.done (by kernel_rfl) ?_
  exact Jw true _ _ (by rw [hset]; rfl) ((hu 3 rfl).trans h3) ((hu 4 rfl).trans h4) ((hu 5 rfl).trans h5) ((hu 6 rfl).trans h6) ((hu 7 rfl).trans rfl) ((hu 8 rfl).trans rfl) rfl hs }
  }
  }
  rw [if_neg hk1] at Jmod
  refine W.cond_false (bool_tr rfl (by simpa using hk1)) ?_
  refine W.seqK fun K20 hK20 => ?_
  refine W.region ?_
  refine WL.bin (v := .bool (e.Kind == 2)) rfl rfl (ib_eql _ _ _) ?_
  refine WL.assign (v := .bool (e.Kind == 2)) rfl ?_
  refine WL.nil ?_
  refine hK20 _ _ ?_
  by_cases hk2 : e.Kind = 2
  {
  refine W.cond_true (bool_tr rfl (by rw [hk2]; rfl)) ?_
  rw [if_pos hk2] at Jmod
  refine W.seqK fun K21 hK21 => ?_
  have Jm : ∀ (x : fold_Field) (ρ : Env) (w : World), some { x with HasMax := true } = some (if !y.HasMax || decide (y.Max < e.N) then { y with Max := e.N, HasMax := true } else { y with HasMax := true } : fold_Field) → ρ 3 = .pointer (some ⟨g3, 0, none⟩) → ρ 4 = .pointer (some ⟨g4, 0, none⟩) → ρ 5 = .pointer (some ⟨g5, 0, none⟩) → ρ 6 = .int .i64 i → ρ 8 = .pointer (some ⟨gi, q * 12, none⟩) → St ok (bz w0) w [vl (tSlice t_api_Effect) x2.Effects (.slice ae x2.Effects.length ce)] [own t_fold_Field 57 (.slice (some ⟨gi, 0, none⟩) xs.length ci) (xs.set q x), innA t_fold_Field 57 rest, blk g5 29 [.slice a n c], own tRO 51 (.slice a n c) (rawA os'), blk g7 67 [.int .i64 e.Kind, bstr e.Object, bstr e.Field, .int .i64 e.N, bstr e.S], blk g3 41 [.int .i64 x2.Client, .int .i64 x2.Seq, .int .i64 x2.Tag, .slice ae x2.Effects.length ce], blk g4 29 [.slice none 0 0]] → K21 ρ w := by
    intro x ρ w hx h3 h4 h5 h6 h8 hs
    refine hK21 _ _ ?_
    refine W.region ?_
    refine WL.move (v := .pointer (some ⟨gi, q * 12, none⟩)) h8 ?_
    refine WL.nilCheck rfl rfl ?_
    refine WL.fieldAddr (m := q * 12 + 7) rfl FA57_2 rfl ?_
    have hxi : idx (xs.set q x) (q : Int) = some x := by
      rw [idx_nat (by rw [List.length_set]; exact hq')]
      simp
    refine WL.storeOF F_fold_Field_HasMax (z := true) (vs := [.bool true]) (zs := xs.set q { x with HasMax := true }) hs 0 rfl TI4 (hA 7) hxi rfl rfl rfl (fun ok hA => rfl) (by rw [Int.toNat_natCast, List.set_set]) (fun w hs => ?_)
    refine WL.nil ?_
    exact Jmod _ _ _ hx.symm h3 h4 h5 h6 hs
  refine W.seqK fun K22 hK22 => ?_
  have Jr : ∀ (b : Bool) (ρ : Env) (w : World), (!y.HasMax || decide (y.Max < e.N)) = b → ρ 3 = .pointer (some ⟨g3, 0, none⟩) → ρ 4 = .pointer (some ⟨g4, 0, none⟩) → ρ 5 = .pointer (some ⟨g5, 0, none⟩) → ρ 6 = .int .i64 i → ρ 7 = .pointer (some ⟨g7, 0, none⟩) → ρ 8 = .pointer (some ⟨gi, q * 12, none⟩) → ρ 80 = .bool b → St ok (bz w0) w [vl (tSlice t_api_Effect) x2.Effects (.slice ae x2.Effects.length ce)] [own t_fold_Field 57 (.slice (some ⟨gi, 0, none⟩) xs.length ci) xs, innA t_fold_Field 57 rest, blk g5 29 [.slice a n c], own tRO 51 (.slice a n c) (rawA os'), blk g7 67 [.int .i64 e.Kind, bstr e.Object, bstr e.Field, .int .i64 e.N, bstr e.S], blk g3 41 [.int .i64 x2.Client, .int .i64 x2.Seq, .int .i64 x2.Tag, .slice ae x2.Effects.length ce], blk g4 29 [.slice none 0 0]] → K22 ρ w := by
    intro b ρ w hb h3 h4 h5 h6 h7 h8 h80 hs
    refine hK22 _ _ ?_
    cases b with
    | false =>
      refine W.cond_false h80 ?_
      refine W.skip ?_
      refine Jm y _ _ (by rw [hb]; rfl) h3 h4 h5 h6 h8 ?_
      rw [hyx]
      exact hs
    | true =>
      refine W.cond_true h80 ?_
      refine W.region ?_
      refine WL.move (v := .pointer (some ⟨gi, q * 12, none⟩)) h8 ?_
      refine WL.fieldAddr (m := 3) h7 FA67_3 rfl ?_
      refine WL.load1 (v := .int .i64 e.N) hs 4 rfl TI2 rfl rfl ?_
      refine WL.nilCheck rfl rfl ?_
      refine WL.fieldAddr (m := q * 12 + 8) rfl FA57_3 rfl ?_
      refine WL.storeOF F_fold_Field_Max (z := e.N) (vs := [.int .i64 e.N]) (zs := xs.set q { y with Max := e.N }) hs 0 rfl TI2 (hA 8) hqy rfl rfl rfl (fun ok hA => rfl) rfl (fun w hs => ?_)
      refine WL.nil ?_
      exact Jm { y with Max := e.N } _ _ (by rw [hb]; rfl) h3 h4 h5 h6 h8 hs
  rcases Bool.eq_false_or_eq_true y.HasMax with hset | hset
  {
  refine W.any (by kernel_rfl) 13 1 [true, true, true, true, true, true, true, true, true, true, true, true, true, false] rfl rfl (poAt [pv (.pointer (some ⟨gi, q * 12, none⟩)), pv (.pointer (some ⟨gi, q * 12, none⟩)), pv (.pointer (some ⟨gi, q * 12 + 7, none⟩)), pv (.bool true), pv (.bool false), pv (.bool false), pv (.pointer (some ⟨gi, q * 12, none⟩)), pv (.pointer (some ⟨gi, q * 12, none⟩)), pv (.pointer (some ⟨gi, q * 12 + 8, none⟩)), pv (.int .i64 y.Max), pv (.pointer (some ⟨g7, 3, none⟩)), pv (.int .i64 e.N), pv (.bool (decide (y.Max < e.N)))]) (Λ := [own t_fold_Field 57 (.slice (some ⟨gi, 0, none⟩) xs.length ci) xs, innA t_fold_Field 57 rest, blk g5 29 [.slice a n c], own tRO 51 (.slice a n c) (rawA os'), blk g7 67 [.int .i64 e.Kind, bstr e.Object, bstr e.Field, .int .i64 e.N, bstr e.S], blk g3 41 [.int .i64 x2.Client, .int .i64 x2.Seq, .int .i64 x2.Tag, .slice ae x2.Effects.length ce], blk g4 29 [.slice none 0 0]]) hs (by kernel_rfl) (by kernel_rfl) (by kernel_rfl) ⟨⟨⟨⟨⟨⟨⟨⟨⟨⟨⟨⟨⟨trivial, ?_⟩, ?_⟩, ?_⟩, ?_⟩, ?_⟩, ?_⟩, ?_⟩, ?_⟩, ?_⟩, ?_⟩, ?_⟩, ?_⟩, ?_⟩ ?_
  {
  intro ρ w Γx Λx hs hu hp
  refine WL.move (v := .pointer (some ⟨gi, q * 12, none⟩)) ((hu 8 rfl).trans rfl) ?_
  exact WL.nil ⟨rfl, _, rfl, rfl, hs.cutG 0 0⟩ }
  {
  intro ρ w Γx Λx hs hu hp
  have e : ρ 67 = .pointer (some ⟨gi, q * 12, none⟩) := (hp 0 rfl).1
  refine WL.nilCheck e rfl ?_
  exact WL.nil ⟨rfl, _, rfl, rfl, hs.cutG 0 0⟩ }
  {
  intro ρ w Γx Λx hs hu hp
  have e : ρ 68 = .pointer (some ⟨gi, q * 12, none⟩) := (hp 1 rfl).1
  refine WL.fieldAddr (m := q * 12 + 7) e FA57_2 rfl ?_
  exact WL.nil ⟨rfl, _, rfl, rfl, hs.cutG 0 0⟩ }
  {
  intro ρ w Γx Λx hs hu hp
  have e : ρ 69 = .pointer (some ⟨gi, q * 12 + 7, none⟩) := (hp 2 rfl).1
  refine WL.loadOF F_fold_Field_HasMax hs (Λx.length + 0) (getApp rfl) TI4 (.inr rfl) (hA 7) hqy e (z := true) hset (fun v hs => ?_)
  obtain rfl := hs.bool 0 rfl
  exact WL.nil ⟨rfl, _, rfl, rfl, hs.cutG 0 1⟩ }
  {
  intro ρ w Γx Λx hs hu hp
  have e : ρ 70 = .bool true := (hp 3 rfl).1
  refine WL.not e ?_
  exact WL.nil ⟨rfl, _, rfl, rfl, hs.cutG 0 0⟩ }
  {
  intro ρ w Γx Λx hs hu hp
  have e : ρ 71 = .bool false := (hp 4 rfl).1
  refine WL.move (v := .bool false) e ?_
  exact WL.nil ⟨rfl, _, rfl, rfl, hs.cutG 0 0⟩ }
  {
  intro ρ w Γx Λx hs hu hp
  have eg : ρ 72 = .bool false := (hp 5 rfl).1
  refine WL.move (v := .pointer (some ⟨gi, q * 12, none⟩)) ((hu 8 rfl).trans rfl) ?_ (hg := (wanted_of rfl rfl eg).trans rfl)
  exact WL.nil ⟨rfl, _, rfl, rfl, hs.cutG 0 0⟩ }
  {
  intro ρ w Γx Λx hs hu hp
  have eg : ρ 72 = .bool false := (hp 5 rfl).1
  have e : ρ 73 = .pointer (some ⟨gi, q * 12, none⟩) := (hp 6 rfl).1
  refine WL.nilCheck e rfl ?_ (hg := (wanted_of rfl rfl eg).trans rfl)
  exact WL.nil ⟨rfl, _, rfl, rfl, hs.cutG 0 0⟩ }
  {
  intro ρ w Γx Λx hs hu hp
  have eg : ρ 72 = .bool false := (hp 5 rfl).1
  have e : ρ 74 = .pointer (some ⟨gi, q * 12, none⟩) := (hp 7 rfl).1
  refine WL.fieldAddr (m := q * 12 + 8) e FA57_3 rfl ?_ (hg := (wanted_of rfl rfl eg).trans rfl)
  exact WL.nil ⟨rfl, _, rfl, rfl, hs.cutG 0 0⟩ }
  {
  intro ρ w Γx Λx hs hu hp
  have eg : ρ 72 = .bool false := (hp 5 rfl).1
  have e : ρ 75 = .pointer (some ⟨gi, q * 12 + 8, none⟩) := (hp 8 rfl).1
  refine WL.loadOF F_fold_Field_Max hs (Λx.length + 0) (getApp rfl) TI2 (.inr rfl) (hA 8) hqy e (z := y.Max) rfl (fun v hs => ?_) (hg := (wanted_of rfl rfl eg).trans rfl)
  obtain rfl := hs.int 0 rfl
  exact WL.nil ⟨rfl, _, rfl, rfl, hs.cutG 0 1⟩ }
  {
  intro ρ w Γx Λx hs hu hp
  have eg : ρ 72 = .bool false := (hp 5 rfl).1
  refine WL.fieldAddr (m := 3) ((hu 7 rfl).trans rfl) FA67_3 rfl ?_ (hg := (wanted_of rfl rfl eg).trans rfl)
  exact WL.nil ⟨rfl, _, rfl, rfl, hs.cutG 0 0⟩ }
  {
  intro ρ w Γx Λx hs hu hp
  have eg : ρ 72 = .bool false := (hp 5 rfl).1
  have ed : ρ 77 = .pointer (some ⟨g7, 3, none⟩) := (hp 10 rfl).1
  refine WL.load1 (v := .int .i64 e.N) hs (Λx.length + 4) (getApp rfl) TI2 ed rfl ?_ (hg := (wanted_of rfl rfl eg).trans rfl)
  exact WL.nil ⟨rfl, _, rfl, rfl, hs.cutG 0 0⟩ }
  {
  intro ρ w Γx Λx hs hu hp
  have eg : ρ 72 = .bool false := (hp 5 rfl).1
  have e1 : ρ 76 = .int .i64 y.Max := (hp 9 rfl).1
  have e2 : ρ 78 = .int .i64 e.N := (hp 11 rfl).1
  refine WL.bin (v := .bool (decide (y.Max < e.N))) e1 e2 (ib_lss _ _ _) ?_ (hg := (wanted_of rfl rfl eg).trans rfl)
  exact WL.nil ⟨rfl, _, rfl, rfl, hs.cutG 0 0⟩ }
  {
  intro ρ w hs hu hp
  obtain ⟨⟨⟨⟨⟨⟨⟨⟨⟨⟨⟨⟨⟨_, hp0_⟩, hp1_⟩, hp2_⟩, hp3_⟩, hp4_⟩, hp5_⟩, hp6_⟩, hp7_⟩, hp8_⟩, hp9_⟩, hp10_⟩, hp11_⟩, hp12_⟩ := hp
  have hs : St ok (bz w0) w [vl (tSlice t_api_Effect) x2.Effects (.slice ae x2.Effects.length ce)] [own t_fold_Field 57 (.slice (some ⟨gi, 0, none⟩) xs.length ci) xs, innA t_fold_Field 57 rest, blk g5 29 [.slice a n c], own tRO 51 (.slice a n c) (rawA os'), blk g7 67 [.int .i64 e.Kind, bstr e.Object, bstr e.Field, .int .i64 e.N, bstr e.S], blk g3 41 [.int .i64 x2.Client, .int .i64 x2.Seq, .int .i64 x2.Tag, .slice ae x2.Effects.length ce], blk g4 29 [.slice none 0 0]] := hs
  have e0 : ρ 67 = .pointer (some ⟨gi, q * 12, none⟩) := hp0_
  have e1 : ρ 68 = .pointer (some ⟨gi, q * 12, none⟩) := hp1_
  have e2 : ρ 69 = .pointer (some ⟨gi, q * 12 + 7, none⟩) := hp2_
  have e3 : ρ 70 = .bool true := hp3_
  have e4 : ρ 71 = .bool false := hp4_
  have e5 : ρ 72 = .bool false := hp5_
  have e6 : ρ 73 = .pointer (some ⟨gi, q * 12, none⟩) := hp6_
  have e7 : ρ 74 = .pointer (some ⟨gi, q * 12, none⟩) := hp7_
  have e8 : ρ 75 = .pointer (some ⟨gi, q * 12 + 8, none⟩) := hp8_
  have e9 : ρ 76 = .int .i64 y.Max := hp9_
  have e10 : ρ 77 = .pointer (some ⟨g7, 3, none⟩) := hp10_
  have e11 : ρ 78 = .int .i64 e.N := hp11_
  have e12 : ρ 79 = .bool (decide (y.Max < e.N)) := hp12_
  refine WA.step [13] (by kernel_rfl) (by simp) ⟨?_, trivial⟩
  refine WL.pickF (v := .bool (decide (y.Max < e.N))) e5 e12 ?_
  refine WL.nil ⟨rfl, _, rfl, ?_⟩
  refine WA.done (by kernel_rfl) ?_
  exact Jr (decide (y.Max < e.N)) _ _ (by rw [hset]; rfl) ((hu 3 rfl).trans h3) ((hu 4 rfl).trans h4) ((hu 5 rfl).trans h5) ((hu 6 rfl).trans h6) ((hu 7 rfl).trans rfl) ((hu 8 rfl).trans rfl) rfl hs }
  }
  {
  refine W.any (by kernel_rfl) 13 1 [true, true, true, true, true, true, true, true, true, true, true, true, true, false] rfl rfl (poAt [pv (.pointer (some ⟨gi, q * 12, none⟩)), pv (.pointer (some ⟨gi, q * 12, none⟩)), pv (.pointer (some ⟨gi, q * 12 + 7, none⟩)), pv (.bool false), pv (.bool true), pv (.bool true), pv (undef), pv (undef), pv (undef), pv (undef), pv (undef), pv (undef), pv (undef)]) (Λ := [own t_fold_Field 57 (.slice (some ⟨gi, 0, none⟩) xs.length ci) xs, innA t_fold_Field 57 rest, blk g5 29 [.slice a n c], own tRO 51 (.slice a n c) (rawA os'), blk g7 67 [.int .i64 e.Kind, bstr e.Object, bstr e.Field, .int .i64 e.N, bstr e.S], blk g3 41 [.int .i64 x2.Client, .int .i64 x2.Seq, .int .i64 x2.Tag, .slice ae x2.Effects.length ce], blk g4 29 [.slice none 0 0]]) hs (by kernel_rfl) (by kernel_rfl) (by kernel_rfl) ⟨⟨⟨⟨⟨⟨⟨⟨⟨⟨⟨⟨⟨trivial, ?_⟩, ?_⟩, ?_⟩, ?_⟩, ?_⟩, ?_⟩, ?_⟩, ?_⟩, ?_⟩, ?_⟩, ?_⟩, ?_⟩, ?_⟩ ?_
  {
  intro ρ w Γx Λx hs hu hp
  refine WL.move (v := .pointer (some ⟨gi, q * 12, none⟩)) ((hu 8 rfl).trans rfl) ?_
  exact WL.nil ⟨rfl, _, rfl, rfl, hs.cutG 0 0⟩ }
  {
  intro ρ w Γx Λx hs hu hp
  have e : ρ 67 = .pointer (some ⟨gi, q * 12, none⟩) := (hp 0 rfl).1
  refine WL.nilCheck e rfl ?_
  exact WL.nil ⟨rfl, _, rfl, rfl, hs.cutG 0 0⟩ }
  {
  intro ρ w Γx Λx hs hu hp
  have e : ρ 68 = .pointer (some ⟨gi, q * 12, none⟩) := (hp 1 rfl).1
  refine WL.fieldAddr (m := q * 12 + 7) e FA57_2 rfl ?_
  exact WL.nil ⟨rfl, _, rfl, rfl, hs.cutG 0 0⟩ }
  {
  intro ρ w Γx Λx hs hu hp
  have e : ρ 69 = .pointer (some ⟨gi, q * 12 + 7, none⟩) := (hp 2 rfl).1
  refine WL.loadOF F_fold_Field_HasMax hs (Λx.length + 0) (getApp rfl) TI4 (.inr rfl) (hA 7) hqy e (z := false) hset (fun v hs => ?_)
  obtain rfl := hs.bool 0 rfl
  exact WL.nil ⟨rfl, _, rfl, rfl, hs.cutG 0 1⟩ }
  {
  intro ρ w Γx Λx hs hu hp
  have e : ρ 70 = .bool false := (hp 3 rfl).1
  refine WL.not e ?_
  exact WL.nil ⟨rfl, _, rfl, rfl, hs.cutG 0 0⟩ }
  {
  intro ρ w Γx Λx hs hu hp
  have e : ρ 71 = .bool true := (hp 4 rfl).1
  refine WL.move (v := .bool true) e ?_
  exact WL.nil ⟨rfl, _, rfl, rfl, hs.cutG 0 0⟩ }
  {
  intro ρ w Γx Λx hs hu hp
  have eg : ρ 72 = .bool true := (hp 5 rfl).1
  refine WL.pass ((wanted_of rfl rfl eg).trans rfl) rfl ?_
  exact WL.nil ⟨rfl, _, rfl, rfl, hs.cutG 0 0⟩ }
  {
  intro ρ w Γx Λx hs hu hp
  have eg : ρ 72 = .bool true := (hp 5 rfl).1
  refine WL.pass ((wanted_of rfl rfl eg).trans rfl) rfl ?_
  exact WL.nil ⟨rfl, _, rfl, rfl, hs.cutG 0 0⟩ }
  {
  intro ρ w Γx Λx hs hu hp
  have eg : ρ 72 = .bool true := (hp 5 rfl).1
  refine WL.pass ((wanted_of rfl rfl eg).trans rfl) rfl ?_
  exact WL.nil ⟨rfl, _, rfl, rfl, hs.cutG 0 0⟩ }
  {
  intro ρ w Γx Λx hs hu hp
  have eg : ρ 72 = .bool true := (hp 5 rfl).1
  refine WL.pass ((wanted_of rfl rfl eg).trans rfl) rfl ?_
  exact WL.nil ⟨rfl, _, rfl, rfl, hs.cutG 0 0⟩ }
  {
  intro ρ w Γx Λx hs hu hp
  have eg : ρ 72 = .bool true := (hp 5 rfl).1
  refine WL.pass ((wanted_of rfl rfl eg).trans rfl) rfl ?_
  exact WL.nil ⟨rfl, _, rfl, rfl, hs.cutG 0 0⟩ }
  {
  intro ρ w Γx Λx hs hu hp
  have eg : ρ 72 = .bool true := (hp 5 rfl).1
  refine WL.pass ((wanted_of rfl rfl eg).trans rfl) rfl ?_
  exact WL.nil ⟨rfl, _, rfl, rfl, hs.cutG 0 0⟩ }
  {
  intro ρ w Γx Λx hs hu hp
  have eg : ρ 72 = .bool true := (hp 5 rfl).1
  refine WL.pass ((wanted_of rfl rfl eg).trans rfl) rfl ?_
  exact WL.nil ⟨rfl, _, rfl, rfl, hs.cutG 0 0⟩ }
  {
  intro ρ w hs hu hp
  obtain ⟨⟨⟨⟨⟨⟨⟨⟨⟨⟨⟨⟨⟨_, hp0_⟩, hp1_⟩, hp2_⟩, hp3_⟩, hp4_⟩, hp5_⟩, hp6_⟩, hp7_⟩, hp8_⟩, hp9_⟩, hp10_⟩, hp11_⟩, hp12_⟩ := hp
  have hs : St ok (bz w0) w [vl (tSlice t_api_Effect) x2.Effects (.slice ae x2.Effects.length ce)] [own t_fold_Field 57 (.slice (some ⟨gi, 0, none⟩) xs.length ci) xs, innA t_fold_Field 57 rest, blk g5 29 [.slice a n c], own tRO 51 (.slice a n c) (rawA os'), blk g7 67 [.int .i64 e.Kind, bstr e.Object, bstr e.Field, .int .i64 e.N, bstr e.S], blk g3 41 [.int .i64 x2.Client, .int .i64 x2.Seq, .int .i64 x2.Tag, .slice ae x2.Effects.length ce], blk g4 29 [.slice none 0 0]] := hs
  have e0 : ρ 67 = .pointer (some ⟨gi, q * 12, none⟩) := hp0_
  have e1 : ρ 68 = .pointer (some ⟨gi, q * 12, none⟩) := hp1_
  have e2 : ρ 69 = .pointer (some ⟨gi, q * 12 + 7, none⟩) := hp2_
  have e3 : ρ 70 = .bool false := hp3_
  have e4 : ρ 71 = .bool true := hp4_
  have e5 : ρ 72 = .bool true := hp5_
  have e6 : ρ 73 = undef := hp6_
  have e7 : ρ 74 = undef := hp7_
  have e8 : ρ 75 = undef := hp8_
  have e9 : ρ 76 = undef := hp9_
  have e10 : ρ 77 = undef := hp10_
  have e11 : ρ 78 = undef := hp11_
  have e12 : ρ 79 = undef := hp12_
  refine WA.step [13] (by kernel_rfl) (by simp) ⟨?_, trivial⟩
  refine WL.pickT (v := .bool true) e5 rfl ?_
  refine WL.nil ⟨rfl, _, rfl, ?_⟩
  refine WA.done (by kernel_rfl) ?_
  exact Jr true _ _ (by rw [hset]; rfl) ((hu 3 rfl).trans h3) ((hu 4 rfl).trans h4) ((hu 5 rfl).trans h5) ((hu 6 rfl).trans h6) ((hu 7 rfl).trans rfl) ((hu 8 rfl).trans rfl) rfl hs }
  }
  }
  rw [if_neg hk2] at Jmod
  refine W.cond_false (bool_tr rfl (by simpa using hk2)) ?_
  refine W.seqK fun K30 hK30 => ?_
  refine W.region ?_
  refine WL.bin (v := .bool (e.Kind == 3)) rfl rfl (ib_eql _ _ _) ?_
  refine WL.assign (v := .bool (e.Kind == 3)) rfl ?_
  refine WL.nil ?_
  refine hK30 _ _ ?_
  by_cases hk3 : e.Kind = 3
  {
  refine W.cond_true (bool_tr rfl (by rw [hk3]; rfl)) ?_
  rw [if_pos hk3] at Jmod
  obtain ⟨sm, hsm⟩ : ∃ sm, IntKind.i64.wrap (y.Sum + e.N) = sm := ⟨_, rfl⟩
  rw [hsm] at Jmod
  refine W.any (by kernel_rfl) 10 1 [true, true, true, true, true, true, true, true, true, true, false] rfl rfl (poAt [pv (.pointer (some ⟨gi, q * 12, none⟩)), pv (.pointer (some ⟨gi, q * 12, none⟩)), pv (.pointer (some ⟨gi, q * 12, none⟩)), pv (.pointer (some ⟨gi, q * 12 + 9, none⟩)), pv (.int .i64 y.Sum), pv (.pointer (some ⟨g7, 3, none⟩)), pv (.int .i64 e.N), pv (.int .i64 sm), pv (.pointer (some ⟨gi, q * 12, none⟩)), pv (.pointer (some ⟨gi, q * 12 + 9, none⟩))]) (Λ := [own t_fold_Field 57 (.slice (some ⟨gi, 0, none⟩) xs.length ci) xs, innA t_fold_Field 57 rest, blk g5 29 [.slice a n c], own tRO 51 (.slice a n c) (rawA os'), blk g7 67 [.int .i64 e.Kind, bstr e.Object, bstr e.Field, .int .i64 e.N, bstr e.S], blk g3 41 [.int .i64 x2.Client, .int .i64 x2.Seq, .int .i64 x2.Tag, .slice ae x2.Effects.length ce], blk g4 29 [.slice none 0 0]]) hs (by kernel_rfl) (by kernel_rfl) (by kernel_rfl) ⟨⟨⟨⟨⟨⟨⟨⟨⟨⟨trivial, ?_⟩, ?_⟩, ?_⟩, ?_⟩, ?_⟩, ?_⟩, ?_⟩, ?_⟩, ?_⟩, ?_⟩ ?_
  {
  intro ρ w Γx Λx hs hu hp
  refine WL.move (v := .pointer (some ⟨gi, q * 12, none⟩)) ((hu 8 rfl).trans rfl) ?_
  exact WL.nil ⟨rfl, _, rfl, rfl, hs.cutG 0 0⟩ }
  {
  intro ρ w Γx Λx hs hu hp
  refine WL.move (v := .pointer (some ⟨gi, q * 12, none⟩)) ((hu 8 rfl).trans rfl) ?_
  exact WL.nil ⟨rfl, _, rfl, rfl, hs.cutG 0 0⟩ }
  {
  intro ρ w Γx Λx hs hu hp
  have e : ρ 92 = .pointer (some ⟨gi, q * 12, none⟩) := (hp 1 rfl).1
  refine WL.nilCheck e rfl ?_
  exact WL.nil ⟨rfl, _, rfl, rfl, hs.cutG 0 0⟩ }
  {
  intro ρ w Γx Λx hs hu hp
  have e : ρ 93 = .pointer (some ⟨gi, q * 12, none⟩) := (hp 2 rfl).1
  refine WL.fieldAddr (m := q * 12 + 9) e FA57_4 rfl ?_
  exact WL.nil ⟨rfl, _, rfl, rfl, hs.cutG 0 0⟩ }
  {
  intro ρ w Γx Λx hs hu hp
  have e : ρ 94 = .pointer (some ⟨gi, q * 12 + 9, none⟩) := (hp 3 rfl).1
  refine WL.loadOF F_fold_Field_Sum hs (Λx.length + 0) (getApp rfl) TI2 (.inr rfl) (hA 9) hqy e (z := y.Sum) rfl (fun v hs => ?_)
  obtain rfl := hs.int 0 rfl
  exact WL.nil ⟨rfl, _, rfl, rfl, hs.cutG 0 1⟩ }
  {
  intro ρ w Γx Λx hs hu hp
  refine WL.fieldAddr (m := 3) ((hu 7 rfl).trans rfl) FA67_3 rfl ?_
  exact WL.nil ⟨rfl, _, rfl, rfl, hs.cutG 0 0⟩ }
  {
  intro ρ w Γx Λx hs hu hp
  have ed : ρ 96 = .pointer (some ⟨g7, 3, none⟩) := (hp 5 rfl).1
  refine WL.load1 (v := .int .i64 e.N) hs (Λx.length + 4) (getApp rfl) TI2 ed rfl ?_
  exact WL.nil ⟨rfl, _, rfl, rfl, hs.cutG 0 0⟩ }
  {
  intro ρ w Γx Λx hs hu hp
  have e1 : ρ 95 = .int .i64 y.Sum := (hp 4 rfl).1
  have e2 : ρ 97 = .int .i64 e.N := (hp 6 rfl).1
  refine WL.bin (v := .int .i64 sm) e1 e2 (ib_as hsm (ib_add _ _ _)) ?_
  exact WL.nil ⟨rfl, _, rfl, rfl, hs.cutG 0 0⟩ }
  {
  intro ρ w Γx Λx hs hu hp
  have e : ρ 91 = .pointer (some ⟨gi, q * 12, none⟩) := (hp 0 rfl).1
  refine WL.nilCheck e rfl ?_
  exact WL.nil ⟨rfl, _, rfl, rfl, hs.cutG 0 0⟩ }
  {
  intro ρ w Γx Λx hs hu hp
  have e : ρ 99 = .pointer (some ⟨gi, q * 12, none⟩) := (hp 8 rfl).1
  refine WL.fieldAddr (m := q * 12 + 9) e FA57_4 rfl ?_
  exact WL.nil ⟨rfl, _, rfl, rfl, hs.cutG 0 0⟩ }
  {
  intro ρ w hs hu hp
  obtain ⟨⟨⟨⟨⟨⟨⟨⟨⟨⟨_, hp0_⟩, hp1_⟩, hp2_⟩, hp3_⟩, hp4_⟩, hp5_⟩, hp6_⟩, hp7_⟩, hp8_⟩, hp9_⟩ := hp
  have hs : St ok (bz w0) w [vl (tSlice t_api_Effect) x2.Effects (.slice ae x2.Effects.length ce)] [own t_fold_Field 57 (.slice (some ⟨gi, 0, none⟩) xs.length ci) xs, innA t_fold_Field 57 rest, blk g5 29 [.slice a n c], own tRO 51 (.slice a n c) (rawA os'), blk g7 67 [.int .i64 e.Kind, bstr e.Object, bstr e.Field, .int .i64 e.N, bstr e.S], blk g3 41 [.int .i64 x2.Client, .int .i64 x2.Seq, .int .i64 x2.Tag, .slice ae x2.Effects.length ce], blk g4 29 [.slice none 0 0]] := hs
  have e0 : ρ 91 = .pointer (some ⟨gi, q * 12, none⟩) := hp0_
  have e1 : ρ 92 = .pointer (some ⟨gi, q * 12, none⟩) := hp1_
  have e2 : ρ 93 = .pointer (some ⟨gi, q * 12, none⟩) := hp2_
  have e3 : ρ 94 = .pointer (some ⟨gi, q * 12 + 9, none⟩) := hp3_
  have e4 : ρ 95 = .int .i64 y.Sum := hp4_
  have e5 : ρ 96 = .pointer (some ⟨g7, 3, none⟩) := hp5_
  have e6 : ρ 97 = .int .i64 e.N := hp6_
  have e7 : ρ 98 = .int .i64 sm := hp7_
  have e8 : ρ 99 = .pointer (some ⟨gi, q * 12, none⟩) := hp8_
  have e9 : ρ 100 = .pointer (some ⟨gi, q * 12 + 9, none⟩) := hp9_
  refine WA.step [10] (by kernel_rfl) (by simp) ⟨?_, trivial⟩
  refine WL.storeOF F_fold_Field_Sum (z := sm) (vs := [.int .i64 sm]) (zs := xs.set q { y with Sum := sm }) hs 0 rfl TI2 (hA 9) hqy e9 e7 rfl (fun ok hA => rfl) rfl (fun w hs => ?_)
  refine WL.nil ⟨rfl, _, rfl, ?_⟩
  refine WA.done (by kernel_rfl) ?_
  exact Jmod _ _ _ rfl ((hu 3 rfl).trans h3) ((hu 4 rfl).trans h4) ((hu 5 rfl).trans h5) ((hu 6 rfl).trans h6) hs }
  }
  rw [if_neg hk3] at Jmod
  refine W.cond_false (bool_tr rfl (by simpa using hk3)) ?_
  refine W.seqK fun K40 hK40 => ?_
  refine W.region ?_
  refine WL.bin (v := .bool (e.Kind == 4)) rfl rfl (ib_eql _ _ _) ?_
  refine WL.assign (v := .bool (e.Kind == 4)) rfl ?_
  refine WL.nil ?_
  refine hK40 _ _ ?_
  by_cases hk4 : e.Kind = 4
  {
  refine W.cond_true (bool_tr rfl (by rw [hk4]; rfl)) ?_
  rw [if_pos hk4] at Jmod
  rw [r32_fld, if_neg hk1, if_neg hk2, if_neg hk3, if_pos hk4] at hy'
  obtain ⟨l, hl, hy'⟩ := bindE hy'
  rw [hl] at Jmod
  refine W.any (by kernel_rfl) 10 1 [true, true, true, true, true, true, true, true, true, true, false] rfl rfl (poAt [pv (.pointer (some ⟨gi, q * 12, none⟩)), pv (.pointer (some ⟨gi, q * 12, none⟩)), pv (.pointer (some ⟨gi, q * 12, none⟩)), pv (.pointer (some ⟨gi, q * 12 + 10, none⟩)), ⟨fun _ v => ∃ y1 : (Option Addr × Nat), v = .slice y1.1 y.Elems.length y1.2, fun v => [vl (tSlice tStr) y.Elems v], fun _ => [], [], []⟩, pv (.pointer (some ⟨g7, 4, none⟩)), pv (bstr e.S), ⟨fun _ v => ∃ y1 : (Option Addr × Nat), v = .slice y1.1 l.length y1.2, fun v => [vl (tSlice tStr) l v], fun _ => [], [], []⟩, pv (.pointer (some ⟨gi, q * 12, none⟩)), pv (.pointer (some ⟨gi, q * 12 + 10, none⟩))]) (Λ := [own t_fold_Field 57 (.slice (some ⟨gi, 0, none⟩) xs.length ci) xs, innA t_fold_Field 57 rest, blk g5 29 [.slice a n c], own tRO 51 (.slice a n c) (rawA os'), blk g7 67 [.int .i64 e.Kind, bstr e.Object, bstr e.Field, .int .i64 e.N, bstr e.S], blk g3 41 [.int .i64 x2.Client, .int .i64 x2.Seq, .int .i64 x2.Tag, .slice ae x2.Effects.length ce], blk g4 29 [.slice none 0 0]]) hs (by kernel_rfl) (by kernel_rfl) (by kernel_rfl) ⟨⟨⟨⟨⟨⟨⟨⟨⟨⟨trivial, ?_⟩, ?_⟩, ?_⟩, ?_⟩, ?_⟩, ?_⟩, ?_⟩, ?_⟩, ?_⟩, ?_⟩ ?_
  {
  intro ρ w Γx Λx hs hu hp
  refine WL.move (v := .pointer (some ⟨gi, q * 12, none⟩)) ((hu 8 rfl).trans rfl) ?_
  exact WL.nil ⟨rfl, _, rfl, rfl, hs.cutG 0 0⟩ }
  {
  intro ρ w Γx Λx hs hu hp
  refine WL.move (v := .pointer (some ⟨gi, q * 12, none⟩)) ((hu 8 rfl).trans rfl) ?_
  exact WL.nil ⟨rfl, _, rfl, rfl, hs.cutG 0 0⟩ }
  {
  intro ρ w Γx Λx hs hu hp
  have e : ρ 104 = .pointer (some ⟨gi, q * 12, none⟩) := (hp 1 rfl).1
  refine WL.nilCheck e rfl ?_
  exact WL.nil ⟨rfl, _, rfl, rfl, hs.cutG 0 0⟩ }
  {
  intro ρ w Γx Λx hs hu hp
  have e : ρ 105 = .pointer (some ⟨gi, q * 12, none⟩) := (hp 2 rfl).1
  refine WL.fieldAddr (m := q * 12 + 10) e FA57_5 rfl ?_
  exact WL.nil ⟨rfl, _, rfl, rfl, hs.cutG 0 0⟩ }
  {
  intro ρ w Γx Λx hs hu hp
  have e : ρ 106 = .pointer (some ⟨gi, q * 12 + 10, none⟩) := (hp 3 rfl).1
  refine WL.loadOF F_fold_Field_Elems hs (Λx.length + 0) (getApp rfl) TI55 (.inr rfl) (hA 10) hqy e (z := y.Elems) rfl (fun v hs => ?_)
  obtain ⟨a6, c6, rfl⟩ := hs.slice 0 rfl
  exact WL.nil ⟨rfl, _, rfl, ⟨(a6, c6), rfl⟩, hs.cutG 1 0⟩ }
  {
  intro ρ w Γx Λx hs hu hp
  refine WL.fieldAddr (m := 4) ((hu 7 rfl).trans rfl) FA67_4 rfl ?_
  exact WL.nil ⟨rfl, _, rfl, rfl, hs.cutG 0 0⟩ }
  {
  intro ρ w Γx Λx hs hu hp
  have ed : ρ 108 = .pointer (some ⟨g7, 4, none⟩) := (hp 5 rfl).1
  refine WL.load1 (v := bstr e.S) hs (Λx.length + 4) (getApp rfl) TI9 ed rfl ?_
  exact WL.nil ⟨rfl, _, rfl, rfl, hs.cutG 0 0⟩ }
  {
  intro ρ w Γx Λx hs hu hp
  obtain ⟨⟨⟨a6, c6⟩, e1r⟩, hm1⟩ := hp 4 rfl
  have e1 : ρ 107 = .slice a6 y.Elems.length c6 := e1r
  rw [e1r] at hm1
  have hs := hs.memo1 (it := vl (tSlice tStr) y.Elems (.slice a6 y.Elems.length c6)) (List.mem_append.2 (.inl (hm1 _ (List.mem_of_getElem? (i := 0) rfl))))
  have e2 : ρ 109 = bstr e.S := (hp 6 rfl).1
  refine WL.call (vs := [.slice a6 y.Elems.length c6, bstr e.S]) hs FN52 ⟨e1, ⟨e2, trivial⟩⟩ (fun ok hA => esref32_Insert.calls hl (hA.get 0 rfl)) ?_
  rintro ⟨a8, c8⟩ w hs
  exact WL.nil ⟨rfl, _, rfl, ⟨(a8, c8), rfl⟩, hs.cutG 1 1⟩ }
  {
  intro ρ w Γx Λx hs hu hp
  have e : ρ 103 = .pointer (some ⟨gi, q * 12, none⟩) := (hp 0 rfl).1
  refine WL.nilCheck e rfl ?_
  exact WL.nil ⟨rfl, _, rfl, rfl, hs.cutG 0 0⟩ }
  {
  intro ρ w Γx Λx hs hu hp
  have e : ρ 111 = .pointer (some ⟨gi, q * 12, none⟩) := (hp 8 rfl).1
  refine WL.fieldAddr (m := q * 12 + 10) e FA57_5 rfl ?_
  exact WL.nil ⟨rfl, _, rfl, rfl, hs.cutG 0 0⟩ }
  {
  intro ρ w hs hu hp
  obtain ⟨⟨⟨⟨⟨⟨⟨⟨⟨⟨_, hp0_⟩, hp1_⟩, hp2_⟩, hp3_⟩, hp4_⟩, hp5_⟩, hp6_⟩, hp7_⟩, hp8_⟩, hp9_⟩ := hp
  obtain ⟨⟨a8, c8⟩, e7r⟩ := hp7_
  have e7 : ρ 110 = .slice a8 l.length c8 := e7r
  have e9 : ρ 112 = .pointer (some ⟨gi, q * 12 + 10, none⟩) := hp9_
  have hs : St ok (bz w0) w [vl (tSlice tStr) l (ρ 110), vl (tSlice tStr) y.Elems (ρ 107), vl (tSlice t_api_Effect) x2.Effects (.slice ae x2.Effects.length ce)] [own t_fold_Field 57 (.slice (some ⟨gi, 0, none⟩) xs.length ci) xs, innA t_fold_Field 57 rest, blk g5 29 [.slice a n c], own tRO 51 (.slice a n c) (rawA os'), blk g7 67 [.int .i64 e.Kind, bstr e.Object, bstr e.Field, .int .i64 e.N, bstr e.S], blk g3 41 [.int .i64 x2.Client, .int .i64 x2.Seq, .int .i64 x2.Tag, .slice ae x2.Effects.length ce], blk g4 29 [.slice none 0 0]] := hs
  rw [e7] at hs
  refine WA.step [10] (by kernel_rfl) (by simp) ⟨?_, trivial⟩
  refine WL.storeOF F_fold_Field_Elems (z := l) (vs := [.slice a8 l.length c8]) (zs := xs.set q { y with Elems := l }) hs 0 rfl TI55 (hA 10) hqy e9 e7 rfl (fun ok hA => R_one (hA.get 0 rfl)) rfl (fun w hs => ?_)
  refine WL.nil ⟨rfl, _, rfl, ?_⟩
  refine WA.done (by kernel_rfl) ?_
  exact Jmod _ _ _ rfl ((hu 3 rfl).trans h3) ((hu 4 rfl).trans h4) ((hu 5 rfl).trans h5) ((hu 6 rfl).trans h6) (hs.pick [2]) }
  }
  rw [if_neg hk4] at Jmod
  refine W.cond_false (bool_tr rfl (by simpa using hk4)) ?_
  refine W.seqK fun K50 hK50 => ?_
  refine W.region ?_
  refine WL.bin (v := .bool (e.Kind == 5)) rfl rfl (ib_eql _ _ _) ?_
  refine WL.assign (v := .bool (e.Kind == 5)) rfl ?_
  refine WL.nil ?_
  refine hK50 _ _ ?_
  by_cases hk5 : e.Kind = 5
  {
  refine W.cond_true (bool_tr rfl (by rw [hk5]; rfl)) ?_
  rw [if_pos hk5] at Jmod
  refine W.region ?_
  refine WL.move (v := .pointer (some ⟨gi, q * 12, none⟩)) rfl ?_
  refine WL.nilCheck rfl rfl ?_
  refine WL.fieldAddr (m := q * 12 + 11) rfl FA57_6 rfl ?_
  refine WL.storeOF F_fold_Field_Flag (z := true) (vs := [.bool true]) (zs := xs.set q { y with Flag := true }) hs 0 rfl TI4 (hA 11) hqy rfl rfl rfl (fun ok hA => rfl) rfl (fun w hs => ?_)
  refine WL.nil ?_
  exact Jmod _ _ _ rfl h3 h4 h5 h6 hs
  }
  rw [if_neg hk5] at Jmod
  refine W.cond_false (bool_tr rfl (by simpa using hk5)) ?_
  refine W.skip ?_
  refine Jmod y _ _ rfl h3 h4 h5 h6 ?_
  rw [hyx]
  exact hs
end Go.Proofs.Ytlbcfjblpopcnaa
set_option linter.unusedVariables false
set_option linter.unusedSimpArgs false
namespace Go.Proofs.Ytlbcfjblpopcnaa
open Go Go.RowKit Go.Proofs.YtlbcfjblpopcnaaL
set_option maxRecDepth 100000
set_option maxHeartbeats 4000000
end Go.Proofs.Ytlbcfjblpopcnaa
set_option linter.unusedVariables false
set_option linter.unusedSimpArgs false
namespace Go.Proofs.Ytlbcfjblpopcnaa
open Go Go.RowKit Go.Proofs.YtlbcfjblpopcnaaL
set_option maxRecDepth 100000
set_option maxHeartbeats 4000000
theorem fold_FieldOf.calls {ok : Nat → Prop} {w0 : World} {x1 : fold_Object} {x5 : List UInt8} {v2 : Value} {r : fold_Field} (hf : fold_FieldOf x1 x5 = some r) (i0 : (vl t_fold_Object x1 v2).holds ok w0) :
    Calls Try.prog 28 #[v2, bstr x5] w0 fun e w' => ∃ v, e = .returned v ∧ ∃ y : (Option Addr × Nat × Nat), v = .agg ([bstr r.Name, .bool r.Register.Set, .int .i64 r.Register.Tag, .int .i64 r.Register.Client, .int .i64 r.Register.Seq, .int .i64 r.Register.N, bstr r.Register.S, .bool r.HasMax, .int .i64 r.Max, .int .i64 r.Sum, .slice y.1 y.2.1 y.2.2, .bool r.Flag] : List Value).toArray ∧ St ok (bz w0) w' [] [own tStr 9 (.slice y.1 y.2.1 y.2.2) r.Elems] := by
  unfold fold_FieldOf at hf
  refine calls_of_W (fn := Try.f28) (N := 26) Try.func28 rfl Try.ntmps28 rfl ?_
  have hs : St ok (bz w0) w0 [vl t_fold_Object x1 v2] [] := St.init (All.cons i0 All.nil)
  clear i0
  obtain ⟨cs3, hl4, rfl⟩ := hs.aggv (n := 2) 0 rfl rfl rfl
  refine W.seqK fun K6 hK6 => ?_
  refine W.region ?_
  refine WL.box (vs := cs3) hs rfl rfl (fun g7 w hs => ?_)
  refine WL.alloc hs ZV57 (fun g8 w hs => ?_)
  refine WL.nil ?_
  refine hK6 _ _ ?_
  refine W.seqK fun K9 hK9 => ?_
  have Jk14 : ∀ (x11 : fold_Field) (cs12 : List Value) (ρ : Env) (w : World), cs12.length = 12 → ρ 1 = bstr x5 → ρ 4 = .pointer (some ⟨g8, 0, none⟩) → St ok (bz w0) w [vl t_fold_Field x11 (.agg cs12.toArray)] [blk g8 57 cs12] → fold_FieldOf.j1 x5 x11 = some r → K9 ρ w := by
    intro x11 cs12 ρ w hl13 h10_1 h10_4 hs hf
    refine hK9 _ _ ?_
    unfold fold_FieldOf.j1 at hf
    refine W.seqK fun K15 hK15 => ?_
    refine W.region ?_
    refine WL.move (v := bstr x5) h10_1 ?_
    refine WL.build (vs := [(0, bstr x5)]) (cs := [bstr x5, .bool false, .int .i64 0, .int .i64 0, .int .i64 0, .int .i64 0, bstr [], .bool false, .int .i64 0, .int .i64 0, .slice none 0 0, .bool false]) ⟨⟨rfl, rfl⟩, trivial⟩ (bld PL57 rfl) ?_
    refine WL.storeAll (vs := [bstr x5, .bool false, .int .i64 0, .int .i64 0, .int .i64 0, .int .i64 0, bstr [], .bool false, .int .i64 0, .int .i64 0, .slice none 0 0, .bool false]) hs 0 rfl TI57 h10_4 rfl rfl rfl (ones_of rfl) hl13 (fun w hs => ?_)
    refine WL.nil ?_
    refine hK15 _ _ ?_
    refine W.ret ?_
    have hr := Option.some.inj hf; subst hr
    have hs := hs.ownNil tStr 9
    exact ⟨_, resOk_one rfl (res_all hs 1 rfl TI57 h10_4 rfl), (none, 0, 0), rfl, (hs.mask [true]).pick []⟩
  refine W.seqK fun K16 hK16 => ?_
  refine W.region ?_
  refine WL.fieldAddr (m := 1) rfl FA51_1 rfl ?_
  refine WL.loadF (z := x1.Fields) F_fold_Object_Fields hs 1 rfl 0 rfl rfl TI49 (.inr rfl) rfl rfl (fun v17 hs => ?_)
  obtain ⟨a18, c19, rfl⟩ := hs.slice 0 rfl
  refine WL.len (v := .slice a18 (x1.Fields).length c19) rfl (len_slice UN49) ?_
  refine WL.move (v := .int .i64 0) rfl ?_
  refine WL.nil ?_
  refine hK16 _ _ ?_
  refine W.block ?_
  obtain ⟨bs25, hbs25, hfs25⟩ := bindE hf
  have hs := hs.add (it := vl t_fold_Field (⟨[], (⟨false, 0, 0, 0, 0, []⟩ : fold_Register), false, 0, 0, [], false⟩ : fold_Field) (.agg ([bstr [], .bool false, .int .i64 0, .int .i64 0, .int .i64 0, .int .i64 0, bstr [], .bool false, .int .i64 0, .int .i64 0, .slice none 0 0, .bool false]).toArray)) fun ok hA => V_agg (show t_fold_Field.R ok _ _ _ from ⟨([bstr []]), ([.bool false, .int .i64 0, .int .i64 0, .int .i64 0, .int .i64 0, bstr [], .bool false, .int .i64 0, .int .i64 0, .slice none 0 0, .bool false]), rfl, rfl, ⟨([.bool false, .int .i64 0, .int .i64 0, .int .i64 0, .int .i64 0, bstr []]), [.bool false, .int .i64 0, .int .i64 0, .slice none 0 0, .bool false], rfl, ⟨[.bool false], ([.int .i64 0, .int .i64 0, .int .i64 0, .int .i64 0, bstr []]), rfl, rfl, ⟨[.int .i64 0], ([.int .i64 0, .int .i64 0, .int .i64 0, bstr []]), rfl, rfl, ⟨[.int .i64 0], ([.int .i64 0, .int .i64 0, bstr []]), rfl, rfl, ⟨[.int .i64 0], ([.int .i64 0, bstr []]), rfl, rfl, ⟨[.int .i64 0], ([bstr []]), rfl, rfl, rfl⟩⟩⟩⟩⟩, ⟨[.bool false], [.int .i64 0, .int .i64 0, .slice none 0 0, .bool false], rfl, rfl, ⟨[.int .i64 0], [.int .i64 0, .slice none 0 0, .bool false], rfl, rfl, ⟨[.int .i64 0], [.slice none 0 0, .bool false], rfl, rfl, ⟨[.slice none 0 0], [.bool false], rfl, R_nil, rfl⟩⟩⟩⟩⟩⟩) rfl
  have hs := hs.add (it := vl t_fold_Field (⟨[], (⟨false, 0, 0, 0, 0, []⟩ : fold_Register), false, 0, 0, [], false⟩ : fold_Field) (.agg ([bstr [], .bool false, .int .i64 0, .int .i64 0, .int .i64 0, .int .i64 0, bstr [], .bool false, .int .i64 0, .int .i64 0, .slice none 0 0, .bool false]).toArray)) fun ok hA => V_agg (show t_fold_Field.R ok _ _ _ from ⟨([bstr []]), ([.bool false, .int .i64 0, .int .i64 0, .int .i64 0, .int .i64 0, bstr [], .bool false, .int .i64 0, .int .i64 0, .slice none 0 0, .bool false]), rfl, rfl, ⟨([.bool false, .int .i64 0, .int .i64 0, .int .i64 0, .int .i64 0, bstr []]), [.bool false, .int .i64 0, .int .i64 0, .slice none 0 0, .bool false], rfl, ⟨[.bool false], ([.int .i64 0, .int .i64 0, .int .i64 0, .int .i64 0, bstr []]), rfl, rfl, ⟨[.int .i64 0], ([.int .i64 0, .int .i64 0, .int .i64 0, bstr []]), rfl, rfl, ⟨[.int .i64 0], ([.int .i64 0, .int .i64 0, bstr []]), rfl, rfl, ⟨[.int .i64 0], ([.int .i64 0, bstr []]), rfl, rfl, ⟨[.int .i64 0], ([bstr []]), rfl, rfl, rfl⟩⟩⟩⟩⟩, ⟨[.bool false], [.int .i64 0, .int .i64 0, .slice none 0 0, .bool false], rfl, rfl, ⟨[.int .i64 0], [.int .i64 0, .slice none 0 0, .bool false], rfl, rfl, ⟨[.int .i64 0], [.slice none 0 0, .bool false], rfl, rfl, ⟨[.slice none 0 0], [.bool false], rfl, R_nil, rfl⟩⟩⟩⟩⟩⟩) rfl
  refine W.loop hbs25 (fun s ρ w => match s with | (x21, x22) => ∃ (cs23 : List Value), cs23.length = 12 ∧ ρ 1 = bstr x5 ∧ ρ 4 = .pointer (some ⟨g8, 0, none⟩) ∧ ρ 8 = .slice a18 (x1.Fields).length c19 ∧ ρ 9 = .int .i64 ((x1.Fields).length : Int) ∧ ρ 10 = .int .i64 x21 ∧ St ok (bz w0) w [vl (tSlice t_fold_Field) x1.Fields (.slice a18 (x1.Fields).length c19), vl t_fold_Field x22 (.agg cs23.toArray)] [blk g8 57 cs23]) ⟨[bstr [], .bool false, .int .i64 0, .int .i64 0, .int .i64 0, .int .i64 0, bstr [], .bool false, .int .i64 0, .int .i64 0, .slice none 0 0, .bool false], rfl, rfl, rfl, rfl, rfl, rfl, (hs.mask [true]).pick [2, 0]⟩ ?_
  intro s ρ w os25 hI hf hbbs25
  obtain ⟨x21, x22⟩ := s
  obtain ⟨cs23, hl24, h20_1, h20_4, h20_8, h20_9, h20_10, hs⟩ := hI
  unfold fold_FieldOf.l1 at hf
  refine W.seqK fun K26 hK26 => ?_
  refine W.region ?_
  refine WL.bin (v := .bool (decide (x21 < ((x1.Fields).length : Int)))) h20_10 h20_9 (ib_lss _ _ _) ?_
  refine WL.nil ?_
  refine hK26 _ _ ?_
  refine W.seqK fun K27 hK27 => ?_
  rcases iteE hf with ⟨hc28, hf⟩ | ⟨hc28, hf⟩
  {
  refine W.cond_true (bool_tr rfl hc28) ?_
  refine W.skip ?_
  refine hK27 _ _ ?_
  refine W.seqK fun K29 hK29 => ?_
  refine W.block ?_
  refine W.seqK fun K30 hK30 => ?_
  refine W.region ?_
  obtain ⟨x31, hxx31, hf⟩ := bindE hf
  refine WL.indexAddr hs 0 rfl UN49 TI57 h20_8 h20_10 hxx31 (fun ad32 hs => ?_)
  refine WL.loadP hs 0 rfl TI57 (.inl rfl) rfl (fun v33 hs => ?_)
  obtain ⟨cs34, hl35, rfl⟩ := hs.aggv (n := 12) 0 rfl rfl rfl
  refine WL.alloc hs ZV57 (fun g36 w hs => ?_)
  obtain ⟨a37, c38, rfl⟩ := open_fold_Field hs 0 rfl
  have hs := hs.add (it := vl (tSlice tStr) x31.Elems (.slice a37 (x31.Elems).length c38)) fun ok hA => V_fld F_fold_Field_Elems (hA.get 0 rfl) rfl rfl rfl
  refine WL.storeAll (vs := [bstr x31.Name, .bool x31.Register.Set, .int .i64 x31.Register.Tag, .int .i64 x31.Register.Client, .int .i64 x31.Register.Seq, .int .i64 x31.Register.N, bstr x31.Register.S, .bool x31.HasMax, .int .i64 x31.Max, .int .i64 x31.Sum, .slice a37 (x31.Elems).length c38, .bool x31.Flag]) hs 0 rfl TI57 rfl rfl rfl rfl (ones_of rfl) rfl (fun w hs => ?_)
  refine WL.nil ?_
  refine hK30 _ _ ?_
  refine W.seqK fun K39 hK39 => ?_
  refine W.region ?_
  refine WL.fieldAddr (m := 0) rfl FA57_0 rfl ?_
  refine WL.load1 (v := bstr x31.Name) hs 0 rfl TI9 rfl rfl ?_
  refine WL.move (v := bstr x5) h20_1 ?_
  refine WL.binS (v := .bool (x31.Name == x5)) rfl rfl (sb_eql _ _) ?_
  refine WL.nil ?_
  refine hK39 _ _ ?_
  rcases iteE hf with ⟨hc40, hf⟩ | ⟨hc40, hf⟩
  {
  refine W.cond_true (bool_tr rfl hc40) ?_
  refine W.seqK fun K41 hK41 => ?_
  refine W.region ?_
  refine WL.fieldAddr (m := 10) rfl FA57_5 rfl ?_
  refine WL.load1 (v := .slice a37 (x31.Elems).length c38) hs 0 rfl TI55 rfl rfl ?_
  obtain ⟨x42, hxx42, hf⟩ := bindE hf
  refine WL.call (vs := [.slice a37 (x31.Elems).length c38]) hs FN55 ⟨rfl, trivial⟩ (fun ok hA => slices_Clone_string.calls (x1 := x31.Elems) hxx42 (hA.get 0 rfl)) ?_
  rintro ⟨a43, n44, c45⟩ w hs
  refine WL.fieldAddr (m := 10) rfl FA57_5 rfl ?_
  refine WL.store (vs := [.slice a43 n44 c45]) (cs' := [bstr x31.Name, .bool x31.Register.Set, .int .i64 x31.Register.Tag, .int .i64 x31.Register.Client, .int .i64 x31.Register.Seq, .int .i64 x31.Register.N, bstr x31.Register.S, .bool x31.HasMax, .int .i64 x31.Max, .int .i64 x31.Sum, .slice a43 n44 c45, .bool x31.Flag]) hs 1 rfl TI55 rfl rfl rfl rfl (ones_of rfl) (Nat.le_of_ble_eq_true rfl) rfl (fun w hs => ?_)
  refine WL.nil ?_
  refine hK41 _ _ ?_
  refine W.seqK fun K46 hK46 => ?_
  refine W.region ?_
  refine WL.loadN (vs := [bstr x31.Name, .bool x31.Register.Set, .int .i64 x31.Register.Tag, .int .i64 x31.Register.Client, .int .i64 x31.Register.Seq, .int .i64 x31.Register.N, bstr x31.Register.S, .bool x31.HasMax, .int .i64 x31.Max, .int .i64 x31.Sum, .slice a43 n44 c45, .bool x31.Flag]) hs 1 rfl TI57 rfl rfl rfl ?_
  refine WL.storeAll (vs := [bstr x31.Name, .bool x31.Register.Set, .int .i64 x31.Register.Tag, .int .i64 x31.Register.Client, .int .i64 x31.Register.Seq, .int .i64 x31.Register.N, bstr x31.Register.S, .bool x31.HasMax, .int .i64 x31.Max, .int .i64 x31.Sum, .slice a43 n44 c45, .bool x31.Flag]) hs 2 rfl TI57 h20_4 rfl rfl rfl (ones_of rfl) hl24 (fun w hs => ?_)
  refine WL.nil ?_
  refine hK46 _ _ ?_
  refine W.ret ?_
  have hr := Option.some.inj hf; subst hr
  have hr := hbbs25 _ rfl; subst hr
  have hf := hfs25
  have hr := Option.some.inj hf; subst hr
  exact ⟨_, resOk_one rfl (res_all hs 2 rfl TI57 h20_4 rfl), (a43, n44, c45), rfl, (hs.mask [true]).pick []⟩ }
  {
  refine W.cond_false (bool_tr rfl hc40) ?_
  refine W.skip ?_
  refine hK29 _ _ ?_
  refine W.region ?_
  obtain ⟨x47, ex47, hf⟩ := letE hf
  refine WL.bin (v := .int .i64 x47) h20_10 rfl (ib_as ex47 (ib_add _ _ _)) ?_
  refine WL.move (v := .int .i64 x47) rfl ?_
  refine WL.nil ?_
  exact ⟨_, (Option.some.inj hf).symm, cs23, hl24, h20_1, h20_4, h20_8, h20_9, rfl, (hs.mask [false, true]).pick [3, 4]⟩ } }
  {
  refine W.cond_false (bool_tr rfl hc28) ?_
  refine W.exit ?_
  have hr := Option.some.inj hf; subst hr
  have hr := hbbs25 _ rfl; subst hr
  have hf := hfs25
  exact Jk14 x22 cs23 _ _ hl24 h20_1 h20_4 ((hs.mask [true]).pick [1]) hf }
theorem fold_FieldOf.callc {ok : Nat → Prop} {w0 : World} {x1 : fold_Object} {x5 : List UInt8} {v2 : Value} {r : fold_Field} (hf : fold_FieldOf x1 x5 = some r) (i0 : (vl t_fold_Object x1 v2).holds ok w0) :
    Calls Try.prog 28 #[v2, bstr x5] w0 fun e w' => ∃ v, e = .returned v ∧ ∃ y : List Value, v = .agg y.toArray ∧ St ok (bz w0) w' [vl t_fold_Field r (.agg y.toArray)] [] := by
  refine (fold_FieldOf.calls (ok := ok) (w0 := w0) (x1 := x1) (x5 := x5) hf i0).mono ?_
  rintro e w' ⟨v, rfl, ⟨a50, n51, c52⟩, rfl, hs⟩
  obtain rfl := hs.ownLen 0 rfl
  have hs := hs.freezeOwn 0 rfl
  have hs := hs.add (it := vl t_fold_Field (⟨r.Name, (⟨r.Register.Set, r.Register.Tag, r.Register.Client, r.Register.Seq, r.Register.N, r.Register.S⟩ : fold_Register), r.HasMax, r.Max, r.Sum, r.Elems, r.Flag⟩ : fold_Field) (.agg [bstr r.Name, .bool r.Register.Set, .int .i64 r.Register.Tag, .int .i64 r.Register.Client, .int .i64 r.Register.Seq, .int .i64 r.Register.N, bstr r.Register.S, .bool r.HasMax, .int .i64 r.Max, .int .i64 r.Sum, .slice a50 (r.Elems).length c52, .bool r.Flag].toArray)) fun ok hA => V_agg (show t_fold_Field.R ok _ _ _ from ⟨[bstr r.Name], [.bool r.Register.Set, .int .i64 r.Register.Tag, .int .i64 r.Register.Client, .int .i64 r.Register.Seq, .int .i64 r.Register.N, bstr r.Register.S, .bool r.HasMax, .int .i64 r.Max, .int .i64 r.Sum, .slice a50 (r.Elems).length c52, .bool r.Flag], rfl, rfl, ⟨[.bool r.Register.Set, .int .i64 r.Register.Tag, .int .i64 r.Register.Client, .int .i64 r.Register.Seq, .int .i64 r.Register.N, bstr r.Register.S], [.bool r.HasMax, .int .i64 r.Max, .int .i64 r.Sum, .slice a50 (r.Elems).length c52, .bool r.Flag], rfl, ⟨[.bool r.Register.Set], [.int .i64 r.Register.Tag, .int .i64 r.Register.Client, .int .i64 r.Register.Seq, .int .i64 r.Register.N, bstr r.Register.S], rfl, rfl, ⟨[.int .i64 r.Register.Tag], [.int .i64 r.Register.Client, .int .i64 r.Register.Seq, .int .i64 r.Register.N, bstr r.Register.S], rfl, rfl, ⟨[.int .i64 r.Register.Client], [.int .i64 r.Register.Seq, .int .i64 r.Register.N, bstr r.Register.S], rfl, rfl, ⟨[.int .i64 r.Register.Seq], [.int .i64 r.Register.N, bstr r.Register.S], rfl, rfl, ⟨[.int .i64 r.Register.N], [bstr r.Register.S], rfl, rfl, rfl⟩⟩⟩⟩⟩, ⟨[.bool r.HasMax], [.int .i64 r.Max, .int .i64 r.Sum, .slice a50 (r.Elems).length c52, .bool r.Flag], rfl, rfl, ⟨[.int .i64 r.Max], [.int .i64 r.Sum, .slice a50 (r.Elems).length c52, .bool r.Flag], rfl, rfl, ⟨[.int .i64 r.Sum], [.slice a50 (r.Elems).length c52, .bool r.Flag], rfl, rfl, ⟨[.slice a50 (r.Elems).length c52], [.bool r.Flag], rfl, (R_one (hA.get 0 rfl)), rfl⟩⟩⟩⟩⟩⟩) rfl
  exact ⟨_, rfl, [bstr r.Name, .bool r.Register.Set, .int .i64 r.Register.Tag, .int .i64 r.Register.Client, .int .i64 r.Register.Seq, .int .i64 r.Register.N, bstr r.Register.S, .bool r.HasMax, .int .i64 r.Max, .int .i64 r.Sum, .slice a50 (r.Elems).length c52, .bool r.Flag], rfl, hs.pick [0]⟩
theorem slices_EqualFunc_Object.calls {ok : Nat → Prop} {w0 : World} {x1 : List fold_Object} {x4 : List fold_Object} {x7 : fold_Object × fold_Object → Option Bool} {a2 : Option Addr} {c3 : Nat} {a5 : Option Addr} {c6 : Nat} {v8 : Value} {r : Bool} (hf : slices_EqualFunc_Object x1 x4 x7 = some r) (i0 : (vl (tSlice t_fold_Object) x1 (.slice a2 x1.length c3)).holds ok w0) (i1 : (vl (tSlice t_fold_Object) x4 (.slice a5 x4.length c6)).holds ok w0) (i2 : (vl (tFun Try.prog (argK2 t_fold_Object t_fold_Object) (fun r : Bool => .bool r)) x7 v8).holds ok w0) :
    Calls Try.prog 53 #[.slice a2 x1.length c3, .slice a5 x4.length c6, v8] w0 fun e w' => ∃ v, e = .returned v ∧ ∃ y : Unit, v = .bool r ∧ St ok (bz w0) w' [] [] := by
  unfold slices_EqualFunc_Object at hf
  refine calls_of_W (fn := Try.f53) (N := 32) Try.func53 rfl Try.ntmps53 rfl ?_
  have hs : St ok (bz w0) w0 [vl (tSlice t_fold_Object) x1 (.slice a2 x1.length c3), vl (tSlice t_fold_Object) x4 (.slice a5 x4.length c6), vl (tFun Try.prog (argK2 t_fold_Object t_fold_Object) (fun r : Bool => .bool r)) x7 v8] [] := St.init (All.cons i0 (All.cons i1 (All.cons i2 All.nil)))
  clear i0 i1 i2
  refine W.seqK fun K9 hK9 => ?_
  refine W.region ?_
  refine WL.assign (v := .bool false) rfl ?_
  refine WL.nil ?_
  refine hK9 _ _ ?_
  refine W.seqK fun K10 hK10 => ?_
  refine W.seqK fun K11 hK11 => ?_
  refine W.region ?_
  refine WL.move (v := .slice a2 x1.length c3) rfl ?_
  refine WL.len (v := .slice a2 x1.length c3) rfl (len_slice UN27) ?_
  refine WL.move (v := .slice a5 x4.length c6) rfl ?_
  refine WL.len (v := .slice a5 x4.length c6) rfl (len_slice UN27) ?_
  refine WL.bin (v := .bool ((x1.length : Int) != (x4.length : Int))) rfl rfl (ib_neq _ _ _) ?_
  refine WL.nil ?_
  refine hK11 _ _ ?_
  rcases iteE hf with ⟨hc12, hf⟩ | ⟨hc12, hf⟩
  {
  refine W.cond_true (bool_tr rfl hc12) ?_
  refine W.seqK fun K13 hK13 => ?_
  refine W.region ?_
  refine WL.assign (v := .bool false) rfl ?_
  refine WL.nil ?_
  refine hK13 _ _ ?_
  refine W.ret ?_
  have hr := Option.some.inj hf; subst hr
  exact ⟨_, resOk_one rfl rfl, (), rfl, (hs.mask []).pick []⟩ }
  {
  refine W.cond_false (bool_tr rfl hc12) ?_
  refine W.skip ?_
  refine hK10 _ _ ?_
  refine W.seqK fun K14 hK14 => ?_
  have Jk16 : ∀  (ρ : Env) (w : World), St ok (bz w0) w [] [] → slices_EqualFunc_Object.j1 = some r → K14 ρ w := by
    intro  ρ w  hs hf
    refine hK14 _ _ ?_
    unfold slices_EqualFunc_Object.j1 at hf
    refine W.seqK fun K17 hK17 => ?_
    refine W.region ?_
    refine WL.assign (v := .bool true) rfl ?_
    refine WL.nil ?_
    refine hK17 _ _ ?_
    refine W.ret ?_
    have hr := Option.some.inj hf; subst hr
    exact ⟨_, resOk_one rfl rfl, (), rfl, (hs.mask []).pick []⟩
  refine W.seqK fun K18 hK18 => ?_
  refine W.region ?_
  refine WL.move (v := .slice a2 x1.length c3) rfl ?_
  refine WL.len (v := .slice a2 x1.length c3) rfl (len_slice UN27) ?_
  refine WL.move (v := .int .i64 0) rfl ?_
  refine WL.nil ?_
  refine hK18 _ _ ?_
  refine W.block ?_
  obtain ⟨bs21, hbs21, hfs21⟩ := bindE hf
  refine W.loop hbs21 (fun s ρ w => match s with | x20 => ρ 1 = .slice a5 x4.length c6 ∧ ρ 2 = v8 ∧ ρ 15 = .slice a2 x1.length c3 ∧ ρ 16 = .int .i64 (x1.length : Int) ∧ ρ 17 = .int .i64 x20 ∧ St ok (bz w0) w [vl (tSlice t_fold_Object) x4 (.slice a5 x4.length c6), vl (tFun Try.prog (argK2 t_fold_Object t_fold_Object) (fun r : Bool => .bool r)) x7 v8, vl (tSlice t_fold_Object) x1 (.slice a2 x1.length c3)] []) ⟨rfl, rfl, rfl, rfl, rfl, (hs.mask []).pick [1, 2, 0]⟩ ?_
  intro x20 ρ w os21 hI hf hbbs21
  obtain ⟨h19_1, h19_2, h19_15, h19_16, h19_17, hs⟩ := hI
  unfold slices_EqualFunc_Object.l1 at hf
  refine W.seqK fun K22 hK22 => ?_
  refine W.region ?_
  refine WL.bin (v := .bool (decide (x20 < (x1.length : Int)))) h19_17 h19_16 (ib_lss _ _ _) ?_
  refine WL.nil ?_
  refine hK22 _ _ ?_
  refine W.seqK fun K23 hK23 => ?_
  rcases iteE hf with ⟨hc24, hf⟩ | ⟨hc24, hf⟩
  {
  refine W.cond_true (bool_tr rfl hc24) ?_
  refine W.skip ?_
  refine hK23 _ _ ?_
  refine W.seqK fun K25 hK25 => ?_
  refine W.block ?_
  refine W.seqK fun K26 hK26 => ?_
  refine W.region ?_
  refine WL.move (v := .int .i64 x20) h19_17 ?_
  obtain ⟨x27, hxx27, hf⟩ := bindE hf
  refine WL.indexAddr hs 2 rfl UN27 TI51 h19_15 h19_17 hxx27 (fun ad28 hs => ?_)
  refine WL.loadP hs 0 rfl TI51 (.inl rfl) rfl (fun v29 hs => ?_)
  obtain ⟨cs30, hl31, rfl⟩ := hs.aggv (n := 2) 0 rfl rfl rfl
  refine WL.alloc hs ZV51 (fun g32 w hs => ?_)
  refine WL.assign (v := .int .i64 x20) rfl ?_
  refine WL.storeAll (vs := cs30) hs 0 rfl TI51 rfl rfl rfl hl31 (hs.ones 0 rfl rfl) rfl (fun w hs => ?_)
  refine WL.nil ?_
  refine hK26 _ _ ?_
  refine W.seqK fun K33 hK33 => ?_
  refine W.region ?_
  refine WL.move (v := .slice a5 x4.length c6) h19_1 ?_
  refine WL.move (v := .int .i64 x20) rfl ?_
  obtain ⟨x34, hxx34, hf⟩ := bindE hf
  refine WL.indexAddr hs 2 rfl UN27 TI51 rfl rfl hxx34 (fun ad35 hs => ?_)
  refine WL.loadP hs 0 rfl TI51 (.inl rfl) rfl (fun v36 hs => ?_)
  obtain ⟨cs37, hl38, rfl⟩ := hs.aggv (n := 2) 0 rfl rfl rfl
  refine WL.alloc hs ZV51 (fun g39 w hs => ?_)
  refine WL.storeAll (vs := cs37) hs 0 rfl TI51 rfl rfl rfl hl38 (hs.ones 0 rfl rfl) rfl (fun w hs => ?_)
  refine WL.nil ?_
  refine hK33 _ _ ?_
  refine W.seqK fun K40 hK40 => ?_
  refine W.region ?_
  refine WL.move (v := v8) h19_2 ?_
  refine WL.loadAll hs 1 rfl TI51 rfl hl31 ?_
  refine WL.loadAll hs 0 rfl TI51 rfl hl38 ?_
  obtain ⟨x41, hxx41, hf⟩ := bindE hf
  refine WL.callF (x := (x27, x34)) (vs := [.agg cs30.toArray, .agg cs37.toArray]) hs 5 rfl rfl ⟨rfl, ⟨rfl, trivial⟩⟩ (fun ok hA => ⟨_, _, rfl, hA.get 2 rfl, hA.get 0 rfl⟩) hxx41 (fun w hs => ?_)
  refine WL.not rfl ?_
  refine WL.nil ?_
  refine hK40 _ _ ?_
  rcases iteE hf with ⟨hc42, hf⟩ | ⟨hc42, hf⟩
  {
  refine W.cond_true (bool_tr rfl hc42) ?_
  refine W.seqK fun K43 hK43 => ?_
  refine W.region ?_
  refine WL.assign (v := .bool false) rfl ?_
  refine WL.nil ?_
  refine hK43 _ _ ?_
  refine W.ret ?_
  have hr := Option.some.inj hf; subst hr
  have hr := hbbs21 _ rfl; subst hr
  have hf := hfs21
  have hr := Option.some.inj hf; subst hr
  exact ⟨_, resOk_one rfl rfl, (), rfl, (hs.mask []).pick []⟩ }
  {
  refine W.cond_false (bool_tr rfl hc42) ?_
  refine W.skip ?_
  refine hK25 _ _ ?_
  refine W.region ?_
  obtain ⟨x44, ex44, hf⟩ := letE hf
  refine WL.bin (v := .int .i64 x44) h19_17 rfl (ib_as ex44 (ib_add _ _ _)) ?_
  refine WL.move (v := .int .i64 x44) rfl ?_
  refine WL.nil ?_
  exact ⟨_, (Option.some.inj hf).symm, h19_1, h19_2, h19_15, h19_16, rfl, (hs.mask []).pick [4, 5, 6]⟩ } }
  {
  refine W.cond_false (bool_tr rfl hc24) ?_
  refine W.exit ?_
  have hr := Option.some.inj hf; subst hr
  have hr := hbbs21 _ rfl; subst hr
  have hf := hfs21
  exact Jk16  _ _  ((hs.mask []).pick []) hf } }
theorem slices_EqualFunc_Field.calls {ok : Nat → Prop} {w0 : World} {x1 : List fold_Field} {x4 : List fold_Field} {x7 : fold_Field × fold_Field → Option Bool} {a2 : Option Addr} {c3 : Nat} {a5 : Option Addr} {c6 : Nat} {v8 : Value} {r : Bool} (hf : slices_EqualFunc_Field x1 x4 x7 = some r) (i0 : (vl (tSlice t_fold_Field) x1 (.slice a2 x1.length c3)).holds ok w0) (i1 : (vl (tSlice t_fold_Field) x4 (.slice a5 x4.length c6)).holds ok w0) (i2 : (vl (tFun Try.prog (argK2 t_fold_Field t_fold_Field) (fun r : Bool => .bool r)) x7 v8).holds ok w0) :
    Calls Try.prog 69 #[.slice a2 x1.length c3, .slice a5 x4.length c6, v8] w0 fun e w' => ∃ v, e = .returned v ∧ ∃ y : Unit, v = .bool r ∧ St ok (bz w0) w' [] [] := by
  unfold slices_EqualFunc_Field at hf
  refine calls_of_W (fn := Try.f69) (N := 32) Try.func69 rfl Try.ntmps69 rfl ?_
  have hs : St ok (bz w0) w0 [vl (tSlice t_fold_Field) x1 (.slice a2 x1.length c3), vl (tSlice t_fold_Field) x4 (.slice a5 x4.length c6), vl (tFun Try.prog (argK2 t_fold_Field t_fold_Field) (fun r : Bool => .bool r)) x7 v8] [] := St.init (All.cons i0 (All.cons i1 (All.cons i2 All.nil)))
  clear i0 i1 i2
  refine W.seqK fun K9 hK9 => ?_
  refine W.region ?_
  refine WL.assign (v := .bool false) rfl ?_
  refine WL.nil ?_
  refine hK9 _ _ ?_
  refine W.seqK fun K10 hK10 => ?_
  refine W.seqK fun K11 hK11 => ?_
  refine W.region ?_
  refine WL.move (v := .slice a2 x1.length c3) rfl ?_
  refine WL.len (v := .slice a2 x1.length c3) rfl (len_slice UN49) ?_
  refine WL.move (v := .slice a5 x4.length c6) rfl ?_
  refine WL.len (v := .slice a5 x4.length c6) rfl (len_slice UN49) ?_
  refine WL.bin (v := .bool ((x1.length : Int) != (x4.length : Int))) rfl rfl (ib_neq _ _ _) ?_
  refine WL.nil ?_
  refine hK11 _ _ ?_
  rcases iteE hf with ⟨hc12, hf⟩ | ⟨hc12, hf⟩
  {
  refine W.cond_true (bool_tr rfl hc12) ?_
  refine W.seqK fun K13 hK13 => ?_
  refine W.region ?_
  refine WL.assign (v := .bool false) rfl ?_
  refine WL.nil ?_
  refine hK13 _ _ ?_
  refine W.ret ?_
  have hr := Option.some.inj hf; subst hr
  exact ⟨_, resOk_one rfl rfl, (), rfl, (hs.mask []).pick []⟩ }
  {
  refine W.cond_false (bool_tr rfl hc12) ?_
  refine W.skip ?_
  refine hK10 _ _ ?_
  refine W.seqK fun K14 hK14 => ?_
  have Jk16 : ∀  (ρ : Env) (w : World), St ok (bz w0) w [] [] → slices_EqualFunc_Field.j1 = some r → K14 ρ w := by
    intro  ρ w  hs hf
    refine hK14 _ _ ?_
    unfold slices_EqualFunc_Field.j1 at hf
    refine W.seqK fun K17 hK17 => ?_
    refine W.region ?_
    refine WL.assign (v := .bool true) rfl ?_
    refine WL.nil ?_
    refine hK17 _ _ ?_
    refine W.ret ?_
    have hr := Option.some.inj hf; subst hr
    exact ⟨_, resOk_one rfl rfl, (), rfl, (hs.mask []).pick []⟩
  refine W.seqK fun K18 hK18 => ?_
  refine W.region ?_
  refine WL.move (v := .slice a2 x1.length c3) rfl ?_
  refine WL.len (v := .slice a2 x1.length c3) rfl (len_slice UN49) ?_
  refine WL.move (v := .int .i64 0) rfl ?_
  refine WL.nil ?_
  refine hK18 _ _ ?_
  refine W.block ?_
  obtain ⟨bs21, hbs21, hfs21⟩ := bindE hf
  refine W.loop hbs21 (fun s ρ w => match s with | x20 => ρ 1 = .slice a5 x4.length c6 ∧ ρ 2 = v8 ∧ ρ 15 = .slice a2 x1.length c3 ∧ ρ 16 = .int .i64 (x1.length : Int) ∧ ρ 17 = .int .i64 x20 ∧ St ok (bz w0) w [vl (tSlice t_fold_Field) x4 (.slice a5 x4.length c6), vl (tFun Try.prog (argK2 t_fold_Field t_fold_Field) (fun r : Bool => .bool r)) x7 v8, vl (tSlice t_fold_Field) x1 (.slice a2 x1.length c3)] []) ⟨rfl, rfl, rfl, rfl, rfl, (hs.mask []).pick [1, 2, 0]⟩ ?_
  intro x20 ρ w os21 hI hf hbbs21
  obtain ⟨h19_1, h19_2, h19_15, h19_16, h19_17, hs⟩ := hI
  unfold slices_EqualFunc_Field.l1 at hf
  refine W.seqK fun K22 hK22 => ?_
  refine W.region ?_
  refine WL.bin (v := .bool (decide (x20 < (x1.length : Int)))) h19_17 h19_16 (ib_lss _ _ _) ?_
  refine WL.nil ?_
  refine hK22 _ _ ?_
  refine W.seqK fun K23 hK23 => ?_
  rcases iteE hf with ⟨hc24, hf⟩ | ⟨hc24, hf⟩
  {
  refine W.cond_true (bool_tr rfl hc24) ?_
  refine W.skip ?_
  refine hK23 _ _ ?_
  refine W.seqK fun K25 hK25 => ?_
  refine W.block ?_
  refine W.seqK fun K26 hK26 => ?_
  refine W.region ?_
  refine WL.move (v := .int .i64 x20) h19_17 ?_
  obtain ⟨x27, hxx27, hf⟩ := bindE hf
  refine WL.indexAddr hs 2 rfl UN49 TI57 h19_15 h19_17 hxx27 (fun ad28 hs => ?_)
  refine WL.loadP hs 0 rfl TI57 (.inl rfl) rfl (fun v29 hs => ?_)
  obtain ⟨cs30, hl31, rfl⟩ := hs.aggv (n := 12) 0 rfl rfl rfl
  refine WL.alloc hs ZV57 (fun g32 w hs => ?_)
  refine WL.assign (v := .int .i64 x20) rfl ?_
  refine WL.storeAll (vs := cs30) hs 0 rfl TI57 rfl rfl rfl hl31 (hs.ones 0 rfl rfl) rfl (fun w hs => ?_)
  refine WL.nil ?_
  refine hK26 _ _ ?_
  refine W.seqK fun K33 hK33 => ?_
  refine W.region ?_
  refine WL.move (v := .slice a5 x4.length c6) h19_1 ?_
  refine WL.move (v := .int .i64 x20) rfl ?_
  obtain ⟨x34, hxx34, hf⟩ := bindE hf
  refine WL.indexAddr hs 2 rfl UN49 TI57 rfl rfl hxx34 (fun ad35 hs => ?_)
  refine WL.loadP hs 0 rfl TI57 (.inl rfl) rfl (fun v36 hs => ?_)
  obtain ⟨cs37, hl38, rfl⟩ := hs.aggv (n := 12) 0 rfl rfl rfl
  refine WL.alloc hs ZV57 (fun g39 w hs => ?_)
  refine WL.storeAll (vs := cs37) hs 0 rfl TI57 rfl rfl rfl hl38 (hs.ones 0 rfl rfl) rfl (fun w hs => ?_)
  refine WL.nil ?_
  refine hK33 _ _ ?_
  refine W.seqK fun K40 hK40 => ?_
  refine W.region ?_
  refine WL.move (v := v8) h19_2 ?_
  refine WL.loadAll hs 1 rfl TI57 rfl hl31 ?_
  refine WL.loadAll hs 0 rfl TI57 rfl hl38 ?_
  obtain ⟨x41, hxx41, hf⟩ := bindE hf
  refine WL.callF (x := (x27, x34)) (vs := [.agg cs30.toArray, .agg cs37.toArray]) hs 5 rfl rfl ⟨rfl, ⟨rfl, trivial⟩⟩ (fun ok hA => ⟨_, _, rfl, hA.get 2 rfl, hA.get 0 rfl⟩) hxx41 (fun w hs => ?_)
  refine WL.not rfl ?_
  refine WL.nil ?_
  refine hK40 _ _ ?_
  rcases iteE hf with ⟨hc42, hf⟩ | ⟨hc42, hf⟩
  {
  refine W.cond_true (bool_tr rfl hc42) ?_
  refine W.seqK fun K43 hK43 => ?_
  refine W.region ?_
  refine WL.assign (v := .bool false) rfl ?_
  refine WL.nil ?_
  refine hK43 _ _ ?_
  refine W.ret ?_
  have hr := Option.some.inj hf; subst hr
  have hr := hbbs21 _ rfl; subst hr
  have hf := hfs21
  have hr := Option.some.inj hf; subst hr
  exact ⟨_, resOk_one rfl rfl, (), rfl, (hs.mask []).pick []⟩ }
  {
  refine W.cond_false (bool_tr rfl hc42) ?_
  refine W.skip ?_
  refine hK25 _ _ ?_
  refine W.region ?_
  obtain ⟨x44, ex44, hf⟩ := letE hf
  refine WL.bin (v := .int .i64 x44) h19_17 rfl (ib_as ex44 (ib_add _ _ _)) ?_
  refine WL.move (v := .int .i64 x44) rfl ?_
  refine WL.nil ?_
  exact ⟨_, (Option.some.inj hf).symm, h19_1, h19_2, h19_15, h19_16, rfl, (hs.mask []).pick [4, 5, 6]⟩ } }
  {
  refine W.cond_false (bool_tr rfl hc24) ?_
  refine W.exit ?_
  have hr := Option.some.inj hf; subst hr
  have hr := hbbs21 _ rfl; subst hr
  have hf := hfs21
  exact Jk16  _ _  ((hs.mask []).pick []) hf } }
theorem slices_Equal_string.calls {ok : Nat → Prop} {w0 : World} {x1 : List (List UInt8)} {x4 : List (List UInt8)} {a2 : Option Addr} {c3 : Nat} {a5 : Option Addr} {c6 : Nat} {r : Bool} (hf : slices_Equal_string x1 x4 = some r) (i0 : (vl (tSlice tStr) x1 (.slice a2 x1.length c3)).holds ok w0) (i1 : (vl (tSlice tStr) x4 (.slice a5 x4.length c6)).holds ok w0) :
    Calls Try.prog 82 #[.slice a2 x1.length c3, .slice a5 x4.length c6] w0 fun e w' => ∃ v, e = .returned v ∧ ∃ y : Unit, v = .bool r ∧ St ok (bz w0) w' [] [] := by
  unfold slices_Equal_string at hf
  refine calls_of_W (fn := Try.f82) (N := 26) Try.func82 rfl Try.ntmps82 rfl ?_
  have hs : St ok (bz w0) w0 [vl (tSlice tStr) x1 (.slice a2 x1.length c3), vl (tSlice tStr) x4 (.slice a5 x4.length c6)] [] := St.init (All.cons i0 (All.cons i1 All.nil))
  clear i0 i1
  refine W.seqK fun K7 hK7 => ?_
  refine W.region ?_
  refine WL.assign (v := .bool false) rfl ?_
  refine WL.nil ?_
  refine hK7 _ _ ?_
  refine W.seqK fun K8 hK8 => ?_
  refine W.seqK fun K9 hK9 => ?_
  refine W.region ?_
  refine WL.move (v := .slice a2 x1.length c3) rfl ?_
  refine WL.len (v := .slice a2 x1.length c3) rfl (len_slice UN55) ?_
  refine WL.move (v := .slice a5 x4.length c6) rfl ?_
  refine WL.len (v := .slice a5 x4.length c6) rfl (len_slice UN55) ?_
  refine WL.bin (v := .bool ((x1.length : Int) != (x4.length : Int))) rfl rfl (ib_neq _ _ _) ?_
  refine WL.nil ?_
  refine hK9 _ _ ?_
  rcases iteE hf with ⟨hc10, hf⟩ | ⟨hc10, hf⟩
  {
  refine W.cond_true (bool_tr rfl hc10) ?_
  refine W.seqK fun K11 hK11 => ?_
  refine W.region ?_
  refine WL.assign (v := .bool false) rfl ?_
  refine WL.nil ?_
  refine hK11 _ _ ?_
  refine W.ret ?_
  have hr := Option.some.inj hf; subst hr
  exact ⟨_, resOk_one rfl rfl, (), rfl, (hs.mask []).pick []⟩ }
  {
  refine W.cond_false (bool_tr rfl hc10) ?_
  refine W.skip ?_
  refine hK8 _ _ ?_
  refine W.seqK fun K12 hK12 => ?_
  have Jk14 : ∀  (ρ : Env) (w : World), St ok (bz w0) w [] [] → slices_Equal_string.j1 = some r → K12 ρ w := by
    intro  ρ w  hs hf
    refine hK12 _ _ ?_
    unfold slices_Equal_string.j1 at hf
    refine W.seqK fun K15 hK15 => ?_
    refine W.region ?_
    refine WL.assign (v := .bool true) rfl ?_
    refine WL.nil ?_
    refine hK15 _ _ ?_
    refine W.ret ?_
    have hr := Option.some.inj hf; subst hr
    exact ⟨_, resOk_one rfl rfl, (), rfl, (hs.mask []).pick []⟩
  refine W.seqK fun K16 hK16 => ?_
  refine W.region ?_
  refine WL.move (v := .slice a2 x1.length c3) rfl ?_
  refine WL.len (v := .slice a2 x1.length c3) rfl (len_slice UN55) ?_
  refine WL.move (v := .int .i64 0) rfl ?_
  refine WL.nil ?_
  refine hK16 _ _ ?_
  refine W.block ?_
  obtain ⟨bs19, hbs19, hfs19⟩ := bindE hf
  refine W.loop hbs19 (fun s ρ w => match s with | x18 => ρ 0 = .slice a2 x1.length c3 ∧ ρ 1 = .slice a5 x4.length c6 ∧ ρ 12 = .int .i64 (x1.length : Int) ∧ ρ 13 = .int .i64 x18 ∧ St ok (bz w0) w [vl (tSlice tStr) x1 (.slice a2 x1.length c3), vl (tSlice tStr) x4 (.slice a5 x4.length c6)] []) ⟨rfl, rfl, rfl, rfl, (hs.mask []).pick [0, 1]⟩ ?_
  intro x18 ρ w os19 hI hf hbbs19
  obtain ⟨h17_0, h17_1, h17_12, h17_13, hs⟩ := hI
  unfold slices_Equal_string.l1 at hf
  refine W.seqK fun K20 hK20 => ?_
  refine W.region ?_
  refine WL.bin (v := .bool (decide (x18 < (x1.length : Int)))) h17_13 h17_12 (ib_lss _ _ _) ?_
  refine WL.nil ?_
  refine hK20 _ _ ?_
  refine W.seqK fun K21 hK21 => ?_
  rcases iteE hf with ⟨hc22, hf⟩ | ⟨hc22, hf⟩
  {
  refine W.cond_true (bool_tr rfl hc22) ?_
  refine W.skip ?_
  refine hK21 _ _ ?_
  refine W.seqK fun K23 hK23 => ?_
  refine W.block ?_
  refine W.seqK fun K24 hK24 => ?_
  refine W.region ?_
  refine WL.move (v := .int .i64 x18) h17_13 ?_
  refine WL.assign (v := .int .i64 x18) rfl ?_
  refine WL.nil ?_
  refine hK24 _ _ ?_
  refine W.seqK fun K25 hK25 => ?_
  obtain ⟨x26, hxx26, hf⟩ := bindE hf
  obtain ⟨x29, hxx29, hf⟩ := bindE hf
  refine W.any (by kernel_rfl) 9 0 [true, true, true, true, true, true, true, true, true] rfl rfl (poAt [pv (.slice a2 x1.length c3), pv (.int .i64 x18), pq (fun y : Addr => .pointer (some y)) (fun v => [pl tStr x26 (adOf v)]) (fun v => []), pv (bstr x26), pv (.slice a5 x4.length c6), pv (.int .i64 x18), pq (fun y : Addr => .pointer (some y)) (fun v => [pl tStr x29 (adOf v)]) (fun v => []), pv (bstr x29), pv (.bool (x26 != x29))]) (Λ := []) hs (by kernel_rfl) (by kernel_rfl) (by kernel_rfl) ⟨⟨⟨⟨⟨⟨⟨⟨⟨trivial, ?_⟩, ?_⟩, ?_⟩, ?_⟩, ?_⟩, ?_⟩, ?_⟩, ?_⟩, ?_⟩ ?_
  {
  intro ρ w Γx Λx hs hu hp
  refine WL.move (v := .slice a2 x1.length c3) ((hu 0 rfl).trans h17_0) ?_
  exact WL.nil ⟨rfl, _, rfl, rfl, hs.cutG 0 0⟩ }
  {
  intro ρ w Γx Λx hs hu hp
  refine WL.move (v := .int .i64 x18) (hu 5 rfl) ?_
  exact WL.nil ⟨rfl, _, rfl, rfl, hs.cutG 0 0⟩ }
  {
  intro ρ w Γx Λx hs hu hp
  have e32 : ρ 16 = .slice a2 x1.length c3 := (hp 0 rfl).1
  have e33 : ρ 17 = .int .i64 x18 := (hp 1 rfl).1
  refine WL.indexAddr hs (Γx.length + 0) (getApp rfl) UN55 TI9 e32 e33 hxx26 (fun ad27 hs => ?_)
  have hs := hs.add (it := pl tStr x26 ad27) fun ok hA => hA.get 0 rfl
  exact WL.nil ⟨rfl, _, rfl, ⟨ad27, rfl⟩, hs.cutG 1 1⟩ }
  {
  intro ρ w Γx Λx hs hu hp
  obtain ⟨⟨ad34, e35r⟩, hm36⟩ := hp 2 rfl
  have e35 : ρ 18 = .pointer (some ad34) := e35r
  rw [e35r] at hm36
  have hs := hs.memo1 (it := pl tStr x26 ad34) (List.mem_append.2 (.inl (hm36 _ (List.mem_of_getElem? (i := 0) rfl))))
  refine WL.loadP hs 0 rfl TI9 (.inr rfl) e35 (fun v28 hs => ?_)
  obtain rfl := hs.str 0 rfl
  exact WL.nil ⟨rfl, _, rfl, rfl, hs.cutG 0 2⟩ }
  {
  intro ρ w Γx Λx hs hu hp
  refine WL.move (v := .slice a5 x4.length c6) ((hu 1 rfl).trans h17_1) ?_
  exact WL.nil ⟨rfl, _, rfl, rfl, hs.cutG 0 0⟩ }
  {
  intro ρ w Γx Λx hs hu hp
  refine WL.move (v := .int .i64 x18) (hu 5 rfl) ?_
  exact WL.nil ⟨rfl, _, rfl, rfl, hs.cutG 0 0⟩ }
  {
  intro ρ w Γx Λx hs hu hp
  have e37 : ρ 20 = .slice a5 x4.length c6 := (hp 4 rfl).1
  have e38 : ρ 21 = .int .i64 x18 := (hp 5 rfl).1
  refine WL.indexAddr hs (Γx.length + 1) (getApp rfl) UN55 TI9 e37 e38 hxx29 (fun ad30 hs => ?_)
  have hs := hs.add (it := pl tStr x29 ad30) fun ok hA => hA.get 0 rfl
  exact WL.nil ⟨rfl, _, rfl, ⟨ad30, rfl⟩, hs.cutG 1 1⟩ }
  {
  intro ρ w Γx Λx hs hu hp
  obtain ⟨⟨ad39, e40r⟩, hm41⟩ := hp 6 rfl
  have e40 : ρ 22 = .pointer (some ad39) := e40r
  rw [e40r] at hm41
  have hs := hs.memo1 (it := pl tStr x29 ad39) (List.mem_append.2 (.inl (hm41 _ (List.mem_of_getElem? (i := 0) rfl))))
  refine WL.loadP hs 0 rfl TI9 (.inr rfl) e40 (fun v31 hs => ?_)
  obtain rfl := hs.str 0 rfl
  exact WL.nil ⟨rfl, _, rfl, rfl, hs.cutG 0 2⟩ }
  {
  intro ρ w Γx Λx hs hu hp
  have e42 : ρ 19 = bstr x26 := (hp 3 rfl).1
  have e43 : ρ 23 = bstr x29 := (hp 7 rfl).1
  refine WL.binS (v := .bool (x26 != x29)) e42 e43 (sb_neq _ _) ?_
  exact WL.nil ⟨rfl, _, rfl, rfl, hs.cutG 0 0⟩ }
  {
  intro ρ w hs hu44 hp
  obtain ⟨⟨⟨⟨⟨⟨⟨⟨⟨_, hp0_⟩, hp1_⟩, hp2_⟩, hp3_⟩, hp4_⟩, hp5_⟩, hp6_⟩, hp7_⟩, hp8_⟩ := hp
  have hs : St ok (bz w0) w [pl tStr x29 (adOf (ρ 22)), pl tStr x26 (adOf (ρ 18)), vl (tSlice tStr) x1 (.slice a2 x1.length c3), vl (tSlice tStr) x4 (.slice a5 x4.length c6)] [] := hs
  have e45 : ρ 24 = .bool (x26 != x29) := hp8_
  have e46 : ρ 23 = bstr x29 := hp7_
  obtain ⟨ad47, e48⟩ := hp6_
  have e48 : ρ 22 = .pointer (some ad47) := e48
  try rw [e48] at hs
  have e49 : ρ 21 = .int .i64 x18 := hp5_
  have e50 : ρ 20 = .slice a5 x4.length c6 := hp4_
  have e51 : ρ 19 = bstr x26 := hp3_
  obtain ⟨ad52, e53⟩ := hp2_
  have e53 : ρ 18 = .pointer (some ad52) := e53
  try rw [e53] at hs
  have e54 : ρ 17 = .int .i64 x18 := hp1_
  have e55 : ρ 16 = .slice a2 x1.length c3 := hp0_
  refine WA.done (by kernel_rfl) ?_
  refine hK25 _ _ ?_
  rcases iteE hf with ⟨hc56, hf⟩ | ⟨hc56, hf⟩
  {
  refine W.cond_true (bool_tr e45 hc56) ?_
  refine W.seqK fun K57 hK57 => ?_
  refine W.region ?_
  refine WL.assign (v := .bool false) rfl ?_
  refine WL.nil ?_
  refine hK57 _ _ ?_
  refine W.ret ?_
  have hr := Option.some.inj hf; subst hr
  have hr := hbbs19 _ rfl; subst hr
  have hf := hfs19
  have hr := Option.some.inj hf; subst hr
  exact ⟨_, resOk_one rfl rfl, (), rfl, (hs.mask []).pick []⟩ }
  {
  refine W.cond_false (bool_tr e45 hc56) ?_
  refine W.skip ?_
  refine hK23 _ _ ?_
  refine W.region ?_
  obtain ⟨x58, ex58, hf⟩ := letE hf
  refine WL.bin (v := .int .i64 x58) ((hu44 13 rfl).trans h17_13) rfl (ib_as ex58 (ib_add _ _ _)) ?_
  refine WL.move (v := .int .i64 x58) rfl ?_
  refine WL.nil ?_
  exact ⟨_, (Option.some.inj hf).symm, ((hu44 0 rfl).trans h17_0), ((hu44 1 rfl).trans h17_1), ((hu44 12 rfl).trans h17_12), rfl, (hs.mask []).pick [2, 3]⟩ } } }
  {
  refine W.cond_false (bool_tr rfl hc22) ?_
  refine W.exit ?_
  have hr := Option.some.inj hf; subst hr
  have hr := hbbs19 _ rfl; subst hr
  have hf := hfs19
  exact Jk14  _ _  ((hs.mask []).pick []) hf } }
theorem fold_equalFields.calls {ok : Nat → Prop} {w0 : World} {x1 : fold_Field} {x5 : fold_Field} {v2 : Value} {v6 : Value} {r : Bool} (hf : fold_equalFields x1 x5 = some r) (i0 : (vl t_fold_Field x1 v2).holds ok w0) (i1 : (vl t_fold_Field x5 v6).holds ok w0) :
    Calls Try.prog 70 #[v2, v6] w0 fun e w' => ∃ v, e = .returned v ∧ ∃ y : Unit, v = .bool r ∧ St ok (bz w0) w' [] [] := by
  unfold fold_equalFields at hf
  refine calls_of_W (fn := Try.f70) (N := 52) Try.func70 rfl Try.ntmps70 rfl ?_
  have hs : St ok (bz w0) w0 [vl t_fold_Field x1 v2, vl t_fold_Field x5 v6] [] := St.init (All.cons i0 (All.cons i1 All.nil))
  clear i0 i1
  obtain ⟨cs3, hl4, rfl⟩ := hs.aggv (n := 12) 0 rfl rfl rfl
  obtain ⟨cs7, hl8, rfl⟩ := hs.aggv (n := 12) 1 rfl rfl rfl
  refine W.seqK fun K9 hK9 => ?_
  refine W.region ?_
  refine WL.box (vs := cs3) hs rfl rfl (fun g10 w hs => ?_)
  refine WL.box (vs := cs7) hs rfl rfl (fun g11 w hs => ?_)
  refine WL.assign (v := .bool false) rfl ?_
  refine WL.nil ?_
  refine hK9 _ _ ?_
  refine W.seqK fun K12 hK12 => ?_
  have Jk15 : ∀ (x14 : Bool) (ρ : Env) (w : World), ρ 4 = .bool x14 → St ok (bz w0) w [] [] → fold_equalFields.j1 x14 = some r → K12 ρ w := by
    intro x14 ρ w h13_4 hs hf
    refine hK12 _ _ ?_
    unfold fold_equalFields.j1 at hf
    refine W.ret ?_
    have hr := Option.some.inj hf; subst hr
    exact ⟨_, resOk_one rfl h13_4, (), rfl, (hs.mask []).pick []⟩
  refine W.region ?_
  refine WL.fieldAddr (m := 0) rfl FA57_0 rfl ?_
  refine WL.loadF (z := x1.Name) F_fold_Field_Name hs 1 rfl 0 rfl rfl TI9 (.inr rfl) rfl rfl (fun v16 hs => ?_)
  obtain rfl := hs.str 0 rfl
  refine WL.fieldAddr (m := 0) rfl FA57_0 rfl ?_
  refine WL.loadF (z := x5.Name) F_fold_Field_Name hs 0 rfl 2 rfl rfl TI9 (.inr rfl) rfl rfl (fun v17 hs => ?_)
  obtain rfl := hs.str 0 rfl
  refine WL.binS (v := .bool (x1.Name == x5.Name)) rfl rfl (sb_eql _ _) ?_
  refine WL.move (v := .bool (x1.Name == x5.Name)) rfl ?_
  rcases iteE hf with ⟨hc18, hf⟩ | ⟨hc18, hf⟩
  {
  refine WL.fieldAddr (m := 1) rfl FA57_1 rfl ?_ (hg := (wanted_of rfl rfl (bool_tr rfl hc18)).trans rfl)
  refine WL.loadF (z := x1.Register) F_fold_Field_Register hs 1 rfl 2 rfl rfl TI54 (.inl rfl) rfl rfl (fun v19 hs => ?_) (hg := (wanted_of rfl rfl (bool_tr rfl hc18)).trans rfl)
  obtain ⟨cs20, hl21, rfl⟩ := hs.aggv (n := 6) 0 rfl rfl rfl
  refine WL.fieldAddr (m := 1) rfl FA57_1 rfl ?_ (hg := (wanted_of rfl rfl (bool_tr rfl hc18)).trans rfl)
  refine WL.loadF (z := x5.Register) F_fold_Field_Register hs 0 rfl 4 rfl rfl TI54 (.inl rfl) rfl rfl (fun v22 hs => ?_) (hg := (wanted_of rfl rfl (bool_tr rfl hc18)).trans rfl)
  obtain ⟨cs23, hl24, rfl⟩ := hs.aggv (n := 6) 0 rfl rfl rfl
  obtain rfl := open_fold_Register hs 1 rfl
  obtain rfl := open_fold_Register hs 0 rfl
  refine WL.eqA rfl rfl EG54 (EQ54 (⟨x1.Register.Set, x1.Register.Tag, x1.Register.Client, x1.Register.Seq, x1.Register.N, x1.Register.S⟩ : fold_Register) (⟨x5.Register.Set, x5.Register.Tag, x5.Register.Client, x5.Register.Seq, x5.Register.N, x5.Register.S⟩ : fold_Register)) ?_ (hg := (wanted_of rfl rfl (bool_tr rfl hc18)).trans rfl)
  refine WL.pickT (v := .bool (decide ((⟨x1.Register.Set, x1.Register.Tag, x1.Register.Client, x1.Register.Seq, x1.Register.N, x1.Register.S⟩ : fold_Register) = (⟨x5.Register.Set, x5.Register.Tag, x5.Register.Client, x5.Register.Seq, x5.Register.N, x5.Register.S⟩ : fold_Register)))) (bool_tr rfl hc18) rfl ?_
  refine WL.move (v := .bool (decide ((⟨x1.Register.Set, x1.Register.Tag, x1.Register.Client, x1.Register.Seq, x1.Register.N, x1.Register.S⟩ : fold_Register) = (⟨x5.Register.Set, x5.Register.Tag, x5.Register.Client, x5.Register.Seq, x5.Register.N, x5.Register.S⟩ : fold_Register)))) rfl ?_
  rcases iteE hf with ⟨hc25, hf⟩ | ⟨hc25, hf⟩
  {
  refine WL.fieldAddr (m := 7) rfl FA57_2 rfl ?_ (hg := (wanted_of rfl rfl (bool_tr rfl hc25)).trans rfl)
  refine WL.loadF (z := x1.HasMax) F_fold_Field_HasMax hs 1 rfl 4 rfl rfl TI4 (.inr rfl) rfl rfl (fun v26 hs => ?_) (hg := (wanted_of rfl rfl (bool_tr rfl hc25)).trans rfl)
  obtain rfl := hs.bool 0 rfl
  refine WL.fieldAddr (m := 7) rfl FA57_2 rfl ?_ (hg := (wanted_of rfl rfl (bool_tr rfl hc25)).trans rfl)
  refine WL.loadF (z := x5.HasMax) F_fold_Field_HasMax hs 0 rfl 6 rfl rfl TI4 (.inr rfl) rfl rfl (fun v27 hs => ?_) (hg := (wanted_of rfl rfl (bool_tr rfl hc25)).trans rfl)
  obtain rfl := hs.bool 0 rfl
  refine WL.eqB UN4 rfl rfl ?_ (hg := (wanted_of rfl rfl (bool_tr rfl hc25)).trans rfl)
  refine WL.pickT (v := .bool (x1.HasMax == x5.HasMax)) (bool_tr rfl hc25) rfl ?_
  refine WL.move (v := .bool (x1.HasMax == x5.HasMax)) rfl ?_
  rcases iteE hf with ⟨hc28, hf⟩ | ⟨hc28, hf⟩
  {
  refine WL.fieldAddr (m := 8) rfl FA57_3 rfl ?_ (hg := (wanted_of rfl rfl (bool_tr rfl hc28)).trans rfl)
  refine WL.loadF (z := x1.Max) F_fold_Field_Max hs 1 rfl 6 rfl rfl TI2 (.inr rfl) rfl rfl (fun v29 hs => ?_) (hg := (wanted_of rfl rfl (bool_tr rfl hc28)).trans rfl)
  obtain rfl := hs.int 0 rfl
  refine WL.fieldAddr (m := 8) rfl FA57_3 rfl ?_ (hg := (wanted_of rfl rfl (bool_tr rfl hc28)).trans rfl)
  refine WL.loadF (z := x5.Max) F_fold_Field_Max hs 0 rfl 8 rfl rfl TI2 (.inr rfl) rfl rfl (fun v30 hs => ?_) (hg := (wanted_of rfl rfl (bool_tr rfl hc28)).trans rfl)
  obtain rfl := hs.int 0 rfl
  refine WL.bin (v := .bool (x1.Max == x5.Max)) rfl rfl (ib_eql _ _ _) ?_ (hg := (wanted_of rfl rfl (bool_tr rfl hc28)).trans rfl)
  refine WL.pickT (v := .bool (x1.Max == x5.Max)) (bool_tr rfl hc28) rfl ?_
  refine WL.move (v := .bool (x1.Max == x5.Max)) rfl ?_
  rcases iteE hf with ⟨hc31, hf⟩ | ⟨hc31, hf⟩
  {
  refine WL.fieldAddr (m := 9) rfl FA57_4 rfl ?_ (hg := (wanted_of rfl rfl (bool_tr rfl hc31)).trans rfl)
  refine WL.loadF (z := x1.Sum) F_fold_Field_Sum hs 1 rfl 8 rfl rfl TI2 (.inr rfl) rfl rfl (fun v32 hs => ?_) (hg := (wanted_of rfl rfl (bool_tr rfl hc31)).trans rfl)
  obtain rfl := hs.int 0 rfl
  refine WL.fieldAddr (m := 9) rfl FA57_4 rfl ?_ (hg := (wanted_of rfl rfl (bool_tr rfl hc31)).trans rfl)
  refine WL.loadF (z := x5.Sum) F_fold_Field_Sum hs 0 rfl 10 rfl rfl TI2 (.inr rfl) rfl rfl (fun v33 hs => ?_) (hg := (wanted_of rfl rfl (bool_tr rfl hc31)).trans rfl)
  obtain rfl := hs.int 0 rfl
  refine WL.bin (v := .bool (x1.Sum == x5.Sum)) rfl rfl (ib_eql _ _ _) ?_ (hg := (wanted_of rfl rfl (bool_tr rfl hc31)).trans rfl)
  refine WL.pickT (v := .bool (x1.Sum == x5.Sum)) (bool_tr rfl hc31) rfl ?_
  refine WL.move (v := .bool (x1.Sum == x5.Sum)) rfl ?_
  rcases iteE hf with ⟨hc34, hf⟩ | ⟨hc34, hf⟩
  {
  refine WL.fieldAddr (m := 10) rfl FA57_5 rfl ?_ (hg := (wanted_of rfl rfl (bool_tr rfl hc34)).trans rfl)
  refine WL.loadF (z := x1.Elems) F_fold_Field_Elems hs 1 rfl 10 rfl rfl TI55 (.inr rfl) rfl rfl (fun v35 hs => ?_) (hg := (wanted_of rfl rfl (bool_tr rfl hc34)).trans rfl)
  obtain ⟨a36, c37, rfl⟩ := hs.slice 0 rfl
  refine WL.fieldAddr (m := 10) rfl FA57_5 rfl ?_ (hg := (wanted_of rfl rfl (bool_tr rfl hc34)).trans rfl)
  refine WL.loadF (z := x5.Elems) F_fold_Field_Elems hs 0 rfl 12 rfl rfl TI55 (.inr rfl) rfl rfl (fun v38 hs => ?_) (hg := (wanted_of rfl rfl (bool_tr rfl hc34)).trans rfl)
  obtain ⟨a39, c40, rfl⟩ := hs.slice 0 rfl
  obtain ⟨x41, hxx41, hf⟩ := bindE hf
  refine WL.call (vs := [.slice a36 (x1.Elems).length c37, .slice a39 (x5.Elems).length c40]) hs FN82 ⟨rfl, ⟨rfl, trivial⟩⟩ (fun ok hA => slices_Equal_string.calls (x1 := x1.Elems) (x4 := x5.Elems) hxx41 (hA.get 1 rfl) (hA.get 0 rfl)) ?_ (hg := (wanted_of rfl rfl (bool_tr rfl hc34)).trans rfl)
  rintro _ w hs
  refine WL.pickT (v := .bool x41) (bool_tr rfl hc34) rfl ?_
  refine WL.move (v := .bool x41) rfl ?_
  rcases iteE hf with ⟨hc42, hf⟩ | ⟨hc42, hf⟩
  {
  refine WL.fieldAddr (m := 11) rfl FA57_6 rfl ?_ (hg := (wanted_of rfl rfl (bool_tr rfl hc42)).trans rfl)
  refine WL.loadF (z := x1.Flag) F_fold_Field_Flag hs 1 rfl 12 rfl rfl TI4 (.inr rfl) rfl rfl (fun v43 hs => ?_) (hg := (wanted_of rfl rfl (bool_tr rfl hc42)).trans rfl)
  obtain rfl := hs.bool 0 rfl
  refine WL.fieldAddr (m := 11) rfl FA57_6 rfl ?_ (hg := (wanted_of rfl rfl (bool_tr rfl hc42)).trans rfl)
  refine WL.loadF (z := x5.Flag) F_fold_Field_Flag hs 0 rfl 14 rfl rfl TI4 (.inr rfl) rfl rfl (fun v44 hs => ?_) (hg := (wanted_of rfl rfl (bool_tr rfl hc42)).trans rfl)
  obtain rfl := hs.bool 0 rfl
  refine WL.eqB UN4 rfl rfl ?_ (hg := (wanted_of rfl rfl (bool_tr rfl hc42)).trans rfl)
  refine WL.pickT (v := .bool (x1.Flag == x5.Flag)) (bool_tr rfl hc42) rfl ?_
  refine WL.assign (v := .bool (x1.Flag == x5.Flag)) rfl ?_
  refine WL.nil ?_
  exact Jk15 (x1.Flag == x5.Flag) _ _ rfl ((hs.mask []).pick []) hf }
  {
  refine WL.pass ((wanted_of rfl rfl (bool_tr rfl hc42)).trans rfl) rfl ?_
  refine WL.pass ((wanted_of rfl rfl (bool_tr rfl hc42)).trans rfl) rfl ?_
  refine WL.pass ((wanted_of rfl rfl (bool_tr rfl hc42)).trans rfl) rfl ?_
  refine WL.pass ((wanted_of rfl rfl (bool_tr rfl hc42)).trans rfl) rfl ?_
  refine WL.pass ((wanted_of rfl rfl (bool_tr rfl hc42)).trans rfl) rfl ?_
  refine WL.pickF (v := .bool false) (bool_tr rfl hc42) rfl ?_
  refine WL.assign (v := .bool false) rfl ?_
  refine WL.nil ?_
  exact Jk15 false _ _ rfl ((hs.mask []).pick []) hf } }
  {
  refine WL.pass ((wanted_of rfl rfl (bool_tr rfl hc34)).trans rfl) rfl ?_
  refine WL.pass ((wanted_of rfl rfl (bool_tr rfl hc34)).trans rfl) rfl ?_
  refine WL.pass ((wanted_of rfl rfl (bool_tr rfl hc34)).trans rfl) rfl ?_
  refine WL.pass ((wanted_of rfl rfl (bool_tr rfl hc34)).trans rfl) rfl ?_
  refine WL.pass ((wanted_of rfl rfl (bool_tr rfl hc34)).trans rfl) rfl ?_
  refine WL.pickF (v := .bool false) (bool_tr rfl hc34) rfl ?_
  refine WL.move (v := .bool false) rfl ?_
  refine WL.pass ((wanted_of rfl rfl rfl).trans rfl) rfl ?_
  refine WL.pass ((wanted_of rfl rfl rfl).trans rfl) rfl ?_
  refine WL.pass ((wanted_of rfl rfl rfl).trans rfl) rfl ?_
  refine WL.pass ((wanted_of rfl rfl rfl).trans rfl) rfl ?_
  refine WL.pass ((wanted_of rfl rfl rfl).trans rfl) rfl ?_
  refine WL.pickF (v := .bool false) rfl rfl ?_
  refine WL.assign (v := .bool false) rfl ?_
  refine WL.nil ?_
  exact Jk15 false _ _ rfl ((hs.mask []).pick []) hf } }
  {
  refine WL.pass ((wanted_of rfl rfl (bool_tr rfl hc31)).trans rfl) rfl ?_
  refine WL.pass ((wanted_of rfl rfl (bool_tr rfl hc31)).trans rfl) rfl ?_
  refine WL.pass ((wanted_of rfl rfl (bool_tr rfl hc31)).trans rfl) rfl ?_
  refine WL.pass ((wanted_of rfl rfl (bool_tr rfl hc31)).trans rfl) rfl ?_
  refine WL.pass ((wanted_of rfl rfl (bool_tr rfl hc31)).trans rfl) rfl ?_
  refine WL.pickF (v := .bool false) (bool_tr rfl hc31) rfl ?_
  refine WL.move (v := .bool false) rfl ?_
  refine WL.pass ((wanted_of rfl rfl rfl).trans rfl) rfl ?_
  refine WL.pass ((wanted_of rfl rfl rfl).trans rfl) rfl ?_
  refine WL.pass ((wanted_of rfl rfl rfl).trans rfl) rfl ?_
  refine WL.pass ((wanted_of rfl rfl rfl).trans rfl) rfl ?_
  refine WL.pass ((wanted_of rfl rfl rfl).trans rfl) rfl ?_
  refine WL.pickF (v := .bool false) rfl rfl ?_
  refine WL.move (v := .bool false) rfl ?_
  refine WL.pass ((wanted_of rfl rfl rfl).trans rfl) rfl ?_
  refine WL.pass ((wanted_of rfl rfl rfl).trans rfl) rfl ?_
  refine WL.pass ((wanted_of rfl rfl rfl).trans rfl) rfl ?_
  refine WL.pass ((wanted_of rfl rfl rfl).trans rfl) rfl ?_
  refine WL.pass ((wanted_of rfl rfl rfl).trans rfl) rfl ?_
  refine WL.pickF (v := .bool false) rfl rfl ?_
  refine WL.assign (v := .bool false) rfl ?_
  refine WL.nil ?_
  exact Jk15 false _ _ rfl ((hs.mask []).pick []) hf } }
  {
  refine WL.pass ((wanted_of rfl rfl (bool_tr rfl hc28)).trans rfl) rfl ?_
  refine WL.pass ((wanted_of rfl rfl (bool_tr rfl hc28)).trans rfl) rfl ?_
  refine WL.pass ((wanted_of rfl rfl (bool_tr rfl hc28)).trans rfl) rfl ?_
  refine WL.pass ((wanted_of rfl rfl (bool_tr rfl hc28)).trans rfl) rfl ?_
  refine WL.pass ((wanted_of rfl rfl (bool_tr rfl hc28)).trans rfl) rfl ?_
  refine WL.pickF (v := .bool false) (bool_tr rfl hc28) rfl ?_
  refine WL.move (v := .bool false) rfl ?_
  refine WL.pass ((wanted_of rfl rfl rfl).trans rfl) rfl ?_
  refine WL.pass ((wanted_of rfl rfl rfl).trans rfl) rfl ?_
  refine WL.pass ((wanted_of rfl rfl rfl).trans rfl) rfl ?_
  refine WL.pass ((wanted_of rfl rfl rfl).trans rfl) rfl ?_
  refine WL.pass ((wanted_of rfl rfl rfl).trans rfl) rfl ?_
  refine WL.pickF (v := .bool false) rfl rfl ?_
  refine WL.move (v := .bool false) rfl ?_
  refine WL.pass ((wanted_of rfl rfl rfl).trans rfl) rfl ?_
  refine WL.pass ((wanted_of rfl rfl rfl).trans rfl) rfl ?_
  refine WL.pass ((wanted_of rfl rfl rfl).trans rfl) rfl ?_
  refine WL.pass ((wanted_of rfl rfl rfl).trans rfl) rfl ?_
  refine WL.pass ((wanted_of rfl rfl rfl).trans rfl) rfl ?_
  refine WL.pickF (v := .bool false) rfl rfl ?_
  refine WL.move (v := .bool false) rfl ?_
  refine WL.pass ((wanted_of rfl rfl rfl).trans rfl) rfl ?_
  refine WL.pass ((wanted_of rfl rfl rfl).trans rfl) rfl ?_
  refine WL.pass ((wanted_of rfl rfl rfl).trans rfl) rfl ?_
  refine WL.pass ((wanted_of rfl rfl rfl).trans rfl) rfl ?_
  refine WL.pass ((wanted_of rfl rfl rfl).trans rfl) rfl ?_
  refine WL.pickF (v := .bool false) rfl rfl ?_
  refine WL.assign (v := .bool false) rfl ?_
  refine WL.nil ?_
  exact Jk15 false _ _ rfl ((hs.mask []).pick []) hf } }
  {
  refine WL.pass ((wanted_of rfl rfl (bool_tr rfl hc25)).trans rfl) rfl ?_
  refine WL.pass ((wanted_of rfl rfl (bool_tr rfl hc25)).trans rfl) rfl ?_
  refine WL.pass ((wanted_of rfl rfl (bool_tr rfl hc25)).trans rfl) rfl ?_
  refine WL.pass ((wanted_of rfl rfl (bool_tr rfl hc25)).trans rfl) rfl ?_
  refine WL.pass ((wanted_of rfl rfl (bool_tr rfl hc25)).trans rfl) rfl ?_
  refine WL.pickF (v := .bool false) (bool_tr rfl hc25) rfl ?_
  refine WL.move (v := .bool false) rfl ?_
  refine WL.pass ((wanted_of rfl rfl rfl).trans rfl) rfl ?_
  refine WL.pass ((wanted_of rfl rfl rfl).trans rfl) rfl ?_
  refine WL.pass ((wanted_of rfl rfl rfl).trans rfl) rfl ?_
  refine WL.pass ((wanted_of rfl rfl rfl).trans rfl) rfl ?_
  refine WL.pass ((wanted_of rfl rfl rfl).trans rfl) rfl ?_
  refine WL.pickF (v := .bool false) rfl rfl ?_
  refine WL.move (v := .bool false) rfl ?_
  refine WL.pass ((wanted_of rfl rfl rfl).trans rfl) rfl ?_
  refine WL.pass ((wanted_of rfl rfl rfl).trans rfl) rfl ?_
  refine WL.pass ((wanted_of rfl rfl rfl).trans rfl) rfl ?_
  refine WL.pass ((wanted_of rfl rfl rfl).trans rfl) rfl ?_
  refine WL.pass ((wanted_of rfl rfl rfl).trans rfl) rfl ?_
  refine WL.pickF (v := .bool false) rfl rfl ?_
  refine WL.move (v := .bool false) rfl ?_
  refine WL.pass ((wanted_of rfl rfl rfl).trans rfl) rfl ?_
  refine WL.pass ((wanted_of rfl rfl rfl).trans rfl) rfl ?_
  refine WL.pass ((wanted_of rfl rfl rfl).trans rfl) rfl ?_
  refine WL.pass ((wanted_of rfl rfl rfl).trans rfl) rfl ?_
  refine WL.pass ((wanted_of rfl rfl rfl).trans rfl) rfl ?_
  refine WL.pickF (v := .bool false) rfl rfl ?_
  refine WL.move (v := .bool false) rfl ?_
  refine WL.pass ((wanted_of rfl rfl rfl).trans rfl) rfl ?_
  refine WL.pass ((wanted_of rfl rfl rfl).trans rfl) rfl ?_
  refine WL.pass ((wanted_of rfl rfl rfl).trans rfl) rfl ?_
  refine WL.pass ((wanted_of rfl rfl rfl).trans rfl) rfl ?_
  refine WL.pass ((wanted_of rfl rfl rfl).trans rfl) rfl ?_
  refine WL.pickF (v := .bool false) rfl rfl ?_
  refine WL.assign (v := .bool false) rfl ?_
  refine WL.nil ?_
  exact Jk15 false _ _ rfl ((hs.mask []).pick []) hf } }
  {
  refine WL.pass ((wanted_of rfl rfl (bool_tr rfl hc18)).trans rfl) rfl ?_
  refine WL.pass ((wanted_of rfl rfl (bool_tr rfl hc18)).trans rfl) rfl ?_
  refine WL.pass ((wanted_of rfl rfl (bool_tr rfl hc18)).trans rfl) rfl ?_
  refine WL.pass ((wanted_of rfl rfl (bool_tr rfl hc18)).trans rfl) rfl ?_
  refine WL.pass ((wanted_of rfl rfl (bool_tr rfl hc18)).trans rfl) rfl ?_
  refine WL.pickF (v := .bool false) (bool_tr rfl hc18) rfl ?_
  refine WL.move (v := .bool false) rfl ?_
  refine WL.pass ((wanted_of rfl rfl rfl).trans rfl) rfl ?_
  refine WL.pass ((wanted_of rfl rfl rfl).trans rfl) rfl ?_
  refine WL.pass ((wanted_of rfl rfl rfl).trans rfl) rfl ?_
  refine WL.pass ((wanted_of rfl rfl rfl).trans rfl) rfl ?_
  refine WL.pass ((wanted_of rfl rfl rfl).trans rfl) rfl ?_
  refine WL.pickF (v := .bool false) rfl rfl ?_
  refine WL.move (v := .bool false) rfl ?_
  refine WL.pass ((wanted_of rfl rfl rfl).trans rfl) rfl ?_
  refine WL.pass ((wanted_of rfl rfl rfl).trans rfl) rfl ?_
  refine WL.pass ((wanted_of rfl rfl rfl).trans rfl) rfl ?_
  refine WL.pass ((wanted_of rfl rfl rfl).trans rfl) rfl ?_
  refine WL.pass ((wanted_of rfl rfl rfl).trans rfl) rfl ?_
  refine WL.pickF (v := .bool false) rfl rfl ?_
  refine WL.move (v := .bool false) rfl ?_
  refine WL.pass ((wanted_of rfl rfl rfl).trans rfl) rfl ?_
  refine WL.pass ((wanted_of rfl rfl rfl).trans rfl) rfl ?_
  refine WL.pass ((wanted_of rfl rfl rfl).trans rfl) rfl ?_
  refine WL.pass ((wanted_of rfl rfl rfl).trans rfl) rfl ?_
  refine WL.pass ((wanted_of rfl rfl rfl).trans rfl) rfl ?_
  refine WL.pickF (v := .bool false) rfl rfl ?_
  refine WL.move (v := .bool false) rfl ?_
  refine WL.pass ((wanted_of rfl rfl rfl).trans rfl) rfl ?_
  refine WL.pass ((wanted_of rfl rfl rfl).trans rfl) rfl ?_
  refine WL.pass ((wanted_of rfl rfl rfl).trans rfl) rfl ?_
  refine WL.pass ((wanted_of rfl rfl rfl).trans rfl) rfl ?_
  refine WL.pass ((wanted_of rfl rfl rfl).trans rfl) rfl ?_
  refine WL.pickF (v := .bool false) rfl rfl ?_
  refine WL.move (v := .bool false) rfl ?_
  refine WL.pass ((wanted_of rfl rfl rfl).trans rfl) rfl ?_
  refine WL.pass ((wanted_of rfl rfl rfl).trans rfl) rfl ?_
  refine WL.pass ((wanted_of rfl rfl rfl).trans rfl) rfl ?_
  refine WL.pass ((wanted_of rfl rfl rfl).trans rfl) rfl ?_
  refine WL.pass ((wanted_of rfl rfl rfl).trans rfl) rfl ?_
  refine WL.pickF (v := .bool false) rfl rfl ?_
  refine WL.assign (v := .bool false) rfl ?_
  refine WL.nil ?_
  exact Jk15 false _ _ rfl ((hs.mask []).pick []) hf }
theorem fold_equalObjects.calls {ok : Nat → Prop} {w0 : World} {x1 : fold_Object} {x5 : fold_Object} {v2 : Value} {v6 : Value} {r : Bool} (hf : fold_equalObjects x1 x5 = some r) (i0 : (vl t_fold_Object x1 v2).holds ok w0) (i1 : (vl t_fold_Object x5 v6).holds ok w0) :
    Calls Try.prog 54 #[v2, v6] w0 fun e w' => ∃ v, e = .returned v ∧ ∃ y : Unit, v = .bool r ∧ St ok (bz w0) w' [] [] := by
  unfold fold_equalObjects at hf
  refine calls_of_W (fn := Try.f54) (N := 17) Try.func54 rfl Try.ntmps54 rfl ?_
  have hs : St ok (bz w0) w0 [vl t_fold_Object x1 v2, vl t_fold_Object x5 v6] [] := St.init (All.cons i0 (All.cons i1 All.nil))
  clear i0 i1
  obtain ⟨cs3, hl4, rfl⟩ := hs.aggv (n := 2) 0 rfl rfl rfl
  obtain ⟨cs7, hl8, rfl⟩ := hs.aggv (n := 2) 1 rfl rfl rfl
  refine W.seqK fun K9 hK9 => ?_
  refine W.region ?_
  refine WL.box (vs := cs3) hs rfl rfl (fun g10 w hs => ?_)
  refine WL.box (vs := cs7) hs rfl rfl (fun g11 w hs => ?_)
  refine WL.assign (v := .bool false) rfl ?_
  refine WL.nil ?_
  refine hK9 _ _ ?_
  refine W.seqK fun K12 hK12 => ?_
  have Jk15 : ∀ (x14 : Bool) (ρ : Env) (w : World), ρ 4 = .bool x14 → St ok (bz w0) w [] [] → fold_equalObjects.j1 x14 = some r → K12 ρ w := by
    intro x14 ρ w h13_4 hs hf
    refine hK12 _ _ ?_
    unfold fold_equalObjects.j1 at hf
    refine W.ret ?_
    have hr := Option.some.inj hf; subst hr
    exact ⟨_, resOk_one rfl h13_4, (), rfl, (hs.mask []).pick []⟩
  refine W.region ?_
  refine WL.fieldAddr (m := 0) rfl FA51_0 rfl ?_
  refine WL.loadF (z := x1.Name) F_fold_Object_Name hs 1 rfl 0 rfl rfl TI9 (.inr rfl) rfl rfl (fun v16 hs => ?_)
  obtain rfl := hs.str 0 rfl
  refine WL.fieldAddr (m := 0) rfl FA51_0 rfl ?_
  refine WL.loadF (z := x5.Name) F_fold_Object_Name hs 0 rfl 2 rfl rfl TI9 (.inr rfl) rfl rfl (fun v17 hs => ?_)
  obtain rfl := hs.str 0 rfl
  refine WL.binS (v := .bool (x1.Name == x5.Name)) rfl rfl (sb_eql _ _) ?_
  refine WL.move (v := .bool (x1.Name == x5.Name)) rfl ?_
  rcases iteE hf with ⟨hc18, hf⟩ | ⟨hc18, hf⟩
  {
  refine WL.fieldAddr (m := 1) rfl FA51_1 rfl ?_ (hg := (wanted_of rfl rfl (bool_tr rfl hc18)).trans rfl)
  refine WL.loadF (z := x1.Fields) F_fold_Object_Fields hs 1 rfl 2 rfl rfl TI49 (.inr rfl) rfl rfl (fun v19 hs => ?_) (hg := (wanted_of rfl rfl (bool_tr rfl hc18)).trans rfl)
  obtain ⟨a20, c21, rfl⟩ := hs.slice 0 rfl
  refine WL.fieldAddr (m := 1) rfl FA51_1 rfl ?_ (hg := (wanted_of rfl rfl (bool_tr rfl hc18)).trans rfl)
  refine WL.loadF (z := x5.Fields) F_fold_Object_Fields hs 0 rfl 4 rfl rfl TI49 (.inr rfl) rfl rfl (fun v22 hs => ?_) (hg := (wanted_of rfl rfl (bool_tr rfl hc18)).trans rfl)
  obtain ⟨a23, c24, rfl⟩ := hs.slice 0 rfl
  have hs := hs.add (it := vl (tFun Try.prog (argK2 t_fold_Field t_fold_Field) (fun r : Bool => .bool r)) (fun p : fold_Field × fold_Field => fold_equalFields p.1 p.2) (.func (.func 70) #[] #[])) fun ok hA => tFun_V.2 ⟨70, _, rfl, FN70, fun ok' w' hm p r vs hF har => by
    obtain ⟨u1, u2, rfl, h1, h2⟩ := har
    exact (fold_equalFields.calls (x1 := p.1) (x5 := p.2) hF h1 h2).mono (by rintro e w2 ⟨v, h1, y, h2, h3⟩; exact ⟨v, h1, h2, h3⟩)⟩
  obtain ⟨x25, hxx25, hf⟩ := bindE hf
  refine WL.call (vs := [.slice a20 (x1.Fields).length c21, .slice a23 (x5.Fields).length c24, (.func (.func 70) #[] #[])]) hs FN69 ⟨rfl, ⟨rfl, ⟨rfl, trivial⟩⟩⟩ (fun ok hA => slices_EqualFunc_Field.calls (x1 := x1.Fields) (x4 := x5.Fields) (x7 := (fun p : fold_Field × fold_Field => fold_equalFields p.1 p.2)) hxx25 (hA.get 2 rfl) (hA.get 1 rfl) (hA.get 0 rfl)) ?_ (hg := (wanted_of rfl rfl (bool_tr rfl hc18)).trans rfl)
  rintro _ w hs
  refine WL.pickT (v := .bool x25) (bool_tr rfl hc18) rfl ?_
  refine WL.assign (v := .bool x25) rfl ?_
  refine WL.nil ?_
  exact Jk15 x25 _ _ rfl ((hs.mask []).pick []) hf }
  {
  refine WL.pass ((wanted_of rfl rfl (bool_tr rfl hc18)).trans rfl) rfl ?_
  refine WL.pass ((wanted_of rfl rfl (bool_tr rfl hc18)).trans rfl) rfl ?_
  refine WL.pass ((wanted_of rfl rfl (bool_tr rfl hc18)).trans rfl) rfl ?_
  refine WL.pass ((wanted_of rfl rfl (bool_tr rfl hc18)).trans rfl) rfl ?_
  refine WL.pass ((wanted_of rfl rfl (bool_tr rfl hc18)).trans rfl) rfl ?_
  refine WL.pickF (v := .bool false) (bool_tr rfl hc18) rfl ?_
  refine WL.assign (v := .bool false) rfl ?_
  refine WL.nil ?_
  exact Jk15 false _ _ rfl ((hs.mask []).pick []) hf }
end Go.Proofs.Ytlbcfjblpopcnaa
set_option linter.unusedVariables false
set_option linter.unusedSimpArgs false
namespace Go.Proofs.Ytlbcfjblpopcnaa
open Go Go.RowKit Go.Proofs.YtlbcfjblpopcnaaL
set_option maxRecDepth 100000
set_option maxHeartbeats 4000000
theorem fold_Equal.calls {ok : Nat → Prop} {w0 : World} {x1 : fold_Store} {x5 : fold_Store} {v2 : Value} {v6 : Value} {r : Bool} (hf : fold_Equal x1 x5 = some r) (i0 : (vl t_fold_Store x1 v2).holds ok w0) (i1 : (vl t_fold_Store x5 v6).holds ok w0) :
    Calls Try.prog 26 #[v2, v6] w0 fun e w' => ∃ v, e = .returned v ∧ ∃ y : Unit, v = .bool r ∧ St ok (bz w0) w' [] [] := by
  unfold fold_Equal at hf
  refine calls_of_W (fn := Try.f26) (N := 10) Try.func26 rfl Try.ntmps26 rfl ?_
  have hs : St ok (bz w0) w0 [vl t_fold_Store x1 v2, vl t_fold_Store x5 v6] [] := St.init (All.cons i0 (All.cons i1 All.nil))
  clear i0 i1
  obtain ⟨cs3, hl4, rfl⟩ := hs.aggv (n := 1) 0 rfl rfl rfl
  obtain ⟨cs7, hl8, rfl⟩ := hs.aggv (n := 1) 1 rfl rfl rfl
  refine W.seqK fun K9 hK9 => ?_
  refine W.region ?_
  refine WL.box (vs := cs3) hs rfl rfl (fun g10 w hs => ?_)
  refine WL.box (vs := cs7) hs rfl rfl (fun g11 w hs => ?_)
  refine WL.assign (v := .bool false) rfl ?_
  refine WL.nil ?_
  refine hK9 _ _ ?_
  refine W.seqK fun K12 hK12 => ?_
  refine W.region ?_
  refine WL.fieldAddr (m := 0) rfl FA29_0 rfl ?_
  refine WL.loadF (z := x1.Objects) F_fold_Store_Objects hs 1 rfl 0 rfl rfl TI27 (.inr rfl) rfl rfl (fun v13 hs => ?_)
  obtain ⟨a14, c15, rfl⟩ := hs.slice 0 rfl
  refine WL.fieldAddr (m := 0) rfl FA29_0 rfl ?_
  refine WL.loadF (z := x5.Objects) F_fold_Store_Objects hs 0 rfl 2 rfl rfl TI27 (.inr rfl) rfl rfl (fun v16 hs => ?_)
  obtain ⟨a17, c18, rfl⟩ := hs.slice 0 rfl
  have hs := hs.add (it := vl (tFun Try.prog (argK2 t_fold_Object t_fold_Object) (fun r : Bool => .bool r)) (fun p : fold_Object × fold_Object => fold_equalObjects p.1 p.2) (.func (.func 54) #[] #[])) fun ok hA => tFun_V.2 ⟨54, _, rfl, FN54, fun ok' w' hm p r vs hF har => by
    obtain ⟨u1, u2, rfl, h1, h2⟩ := har
    exact (fold_equalObjects.calls (x1 := p.1) (x5 := p.2) hF h1 h2).mono (by rintro e w2 ⟨v, h1, y, h2, h3⟩; exact ⟨v, h1, h2, h3⟩)⟩
  obtain ⟨x19, hxx19, hf⟩ := bindE hf
  refine WL.call (vs := [.slice a14 (x1.Objects).length c15, .slice a17 (x5.Objects).length c18, (.func (.func 54) #[] #[])]) hs FN53 ⟨rfl, ⟨rfl, ⟨rfl, trivial⟩⟩⟩ (fun ok hA => slices_EqualFunc_Object.calls (x1 := x1.Objects) (x4 := x5.Objects) (x7 := (fun p : fold_Object × fold_Object => fold_equalObjects p.1 p.2)) hxx19 (hA.get 2 rfl) (hA.get 1 rfl) (hA.get 0 rfl)) ?_
  rintro _ w hs
  refine WL.assign (v := .bool x19) rfl ?_
  refine WL.nil ?_
  refine hK12 _ _ ?_
  refine W.ret ?_
  have hr := Option.some.inj hf; subst hr
  exact ⟨_, resOk_one rfl rfl, (), rfl, (hs.mask []).pick []⟩
theorem wire_AppendUint.calls {ok : Nat → Prop} {w0 : World} {x1 : List Int} {x4 : Int} {a2 : Option Addr} {c3 : Nat} {r : List Int} (hf : wire_AppendUint x1 x4 = some r) (i0 : (vl (tSlice (tInt .u8)) x1 (.slice a2 x1.length c3)).holds ok w0) :
    Calls Try.prog 65 #[.slice a2 x1.length c3, .int .u64 x4] w0 fun e w' => ∃ v, e = .returned v ∧ ∃ y : (Option Addr × Nat × Nat), v = .slice y.1 y.2.1 y.2.2 ∧ St ok (bz w0) w' [] [own (tInt .u8) 5 (.slice y.1 y.2.1 y.2.2) r] := by
  unfold wire_AppendUint at hf
  refine calls_of_W (fn := Try.f65) (N := 29) Try.func65 rfl Try.ntmps65 rfl ?_
  have hs : St ok (bz w0) w0 [vl (tSlice (tInt .u8)) x1 (.slice a2 x1.length c3)] [] := St.init (All.cons i0 All.nil)
  clear i0
  refine W.seqK fun K5 hK5 => ?_
  refine W.region ?_
  refine WL.assign (v := .slice none 0 0) rfl ?_
  refine WL.nil ?_
  refine hK5 _ _ ?_
  refine W.seqK fun K6 hK6 => ?_
  refine W.region ?_
  refine WL.assign (v := .slice none 0 0) rfl ?_
  refine WL.nil ?_
  refine hK6 _ _ ?_
  refine W.seqK fun K7 hK7 => ?_
  have hs := hs.ownNil (tInt .u8) 5
  have Jk14 : ∀ (x9 : Int) (x10 : List Int) (a11 : Option Addr) (c12 : Nat) (n13 : Nat) (ρ : Env) (w : World), ρ 0 = .slice a2 x1.length c3 → ρ 1 = .int .u64 x9 → ρ 5 = .slice a11 n13 c12 → St ok (bz w0) w [vl (tSlice (tInt .u8)) x1 (.slice a2 x1.length c3)] [own (tInt .u8) 5 (.slice a11 n13 c12) x10] → wire_AppendUint.j1 x1 x9 x10 = some r → K7 ρ w := by
    intro x9 x10 a11 c12 n13 ρ w h8_0 h8_1 h8_5 hs hf
    refine hK7 _ _ ?_
    unfold wire_AppendUint.j1 at hf
    refine W.seqK fun K15 hK15 => ?_
    refine W.region ?_
    refine WL.move (v := .slice a11 n13 c12) h8_5 ?_
    refine WL.move (v := .int .u64 x9) h8_1 ?_
    refine WL.convI UN32 UN5 rfl ?_
    refine WL.buildSlice (n := 1) (vs := [(0, .int .u8 (IntKind.u8.wrap x9))]) (cs := [.int .u8 (IntKind.u8.wrap x9)]) hs ⟨⟨rfl, rfl⟩, trivial⟩ (bls PS72 (by decide) rfl) (fun g16 w hs => ?_)
    obtain ⟨x17, hxx17, hf⟩ := bindE hf
    obtain ⟨hbx17, hex17⟩ := appE hxx17
    refine WL.append (ys := [(IntKind.u8.wrap x9)]) (zs := x17) hs 1 rfl 0 rfl UN72 EI5 rfl rfl (fun ok hA => (Cells.one (T := tInt .u8) rfl)) hbx17 (by omega) hex17 (fun v18 w hs => ?_)
    obtain ⟨a19, n21, c20, rfl⟩ := hs.ownv3 1 rfl
    refine WL.assign (v := .slice a19 n21 c20) rfl ?_
    refine WL.nil ?_
    refine hK15 _ _ ?_
    refine W.seqK fun K22 hK22 => ?_
    refine W.region ?_
    refine WL.move (v := .slice a2 x1.length c3) h8_0 ?_
    refine WL.move (v := .slice a2 x1.length c3) h8_0 ?_
    refine WL.len (v := .slice a2 x1.length c3) rfl (len_slice UN72) ?_
    refine WL.move (v := .slice a2 x1.length c3) h8_0 ?_
    refine WL.len (v := .slice a2 x1.length c3) rfl (len_slice UN72) ?_
    obtain ⟨x23, hxx23, hf⟩ := bindE hf
    refine WL.slice_hm hs 0 rfl UN72 TI5 rfl rfl rfl rfl hxx23 (fun a24 hs => ?_)
    refine WL.move (v := .slice a19 n21 c20) rfl ?_
    obtain rfl := hs.ownLen 1 rfl
    have hs := hs.freezeOwn 1 rfl
    obtain ⟨hy28, hf⟩ := guardE hf
    obtain ⟨x25, hxx25, hf⟩ := bindE hf
    obtain ⟨hbx25, hex25⟩ := appE hxx25
    refine WL.appendFSO (zs := x25) hs 1 rfl 0 rfl UN72 UN72 EI5 rfl rfl hbx25 (by omega) hex25 hy28 (fun a26 c27 w hs => ?_)
    refine WL.assign (v := .slice a26 x25.length c27) rfl ?_
    refine WL.nil ?_
    refine hK22 _ _ ?_
    refine W.ret ?_
    have hr := Option.some.inj hf; subst hr
    exact ⟨_, resOk_one rfl rfl, (a26, x25.length, c27), rfl, (hs.mask [true]).pick []⟩
  refine W.block ?_
  obtain ⟨bs35, hbs35, hfs35⟩ := bindE hf
  refine W.loop hbs35 (fun s ρ w => match s with | (x30, x31) => ∃ (a32 : Option Addr), ∃ (c33 : Nat), ∃ (n34 : Nat), ρ 0 = .slice a2 x1.length c3 ∧ ρ 1 = .int .u64 x30 ∧ ρ 5 = .slice a32 n34 c33 ∧ St ok (bz w0) w [vl (tSlice (tInt .u8)) x1 (.slice a2 x1.length c3)] [own (tInt .u8) 5 (.slice a32 n34 c33) x31]) ⟨none, 0, 0, rfl, rfl, rfl, (hs.mask [true]).pick [0]⟩ ?_
  intro s ρ w os35 hI hf hbbs35
  obtain ⟨x30, x31⟩ := s
  obtain ⟨a32, c33, n34, h29_0, h29_1, h29_5, hs⟩ := hI
  unfold wire_AppendUint.l1 at hf
  refine W.seqK fun K36 hK36 => ?_
  refine W.seqK fun K37 hK37 => ?_
  refine W.region ?_
  refine WL.move (v := .int .u64 x30) h29_1 ?_
  refine WL.bin (v := .bool (decide (128 ≤ x30))) rfl rfl (ib_geq _ _ _) ?_
  refine WL.nil ?_
  refine hK37 _ _ ?_
  rcases iteE hf with ⟨hc38, hf⟩ | ⟨hc38, hf⟩
  {
  refine W.cond_true (bool_tr rfl hc38) ?_
  refine W.skip ?_
  refine hK36 _ _ ?_
  refine W.block ?_
  refine W.seqK fun K39 hK39 => ?_
  refine W.region ?_
  refine WL.move (v := .slice a32 n34 c33) h29_5 ?_
  refine WL.move (v := .int .u64 x30) h29_1 ?_
  refine WL.convI UN32 UN5 rfl ?_
  obtain ⟨x40, ex40, hf⟩ := letE hf
  refine WL.bin (v := .int .u8 x40) rfl rfl (ib_as ex40 (ib_or _ _ _)) ?_
  refine WL.buildSlice (n := 1) (vs := [(0, .int .u8 x40)]) (cs := [.int .u8 x40]) hs ⟨⟨rfl, rfl⟩, trivial⟩ (bls PS72 (by decide) rfl) (fun g41 w hs => ?_)
  obtain ⟨x42, hxx42, hf⟩ := bindE hf
  obtain ⟨hbx42, hex42⟩ := appE hxx42
  refine WL.append (ys := [x40]) (zs := x42) hs 1 rfl 0 rfl UN72 EI5 rfl rfl (fun ok hA => (Cells.one (T := tInt .u8) rfl)) hbx42 (by omega) hex42 (fun v43 w hs => ?_)
  obtain ⟨a44, n46, c45, rfl⟩ := hs.ownv3 1 rfl
  refine WL.assign (v := .slice a44 n46 c45) rfl ?_
  refine WL.nil ?_
  refine hK39 _ _ ?_
  refine W.region ?_
  refine WL.move (v := .int .u64 x30) h29_1 ?_
  refine WL.shr rfl rfl (by decide) ?_
  refine WL.assign (v := .int .u64 (shrI .u64 x30 7)) rfl ?_
  refine WL.nil ?_
  exact ⟨_, (Option.some.inj hf).symm, a44, c45, n46, h29_0, rfl, rfl, (hs.mask [false, true]).pick [0]⟩ }
  {
  refine W.cond_false (bool_tr rfl hc38) ?_
  refine W.exit ?_
  have hr := Option.some.inj hf; subst hr
  have hr := hbbs35 _ rfl; subst hr
  have hf := hfs35
  exact Jk14 x30 x31 a32 c33 n34 _ _ h29_0 h29_1 h29_5 ((hs.mask [true]).pick [0]) hf }
theorem wire_AppendString.calls {ok : Nat → Prop} {w0 : World} {x1 : List Int} {x4 : List UInt8} {a2 : Option Addr} {c3 : Nat} {r : List Int} (hf : wire_AppendString x1 x4 = some r) (i0 : (vl (tSlice (tInt .u8)) x1 (.slice a2 x1.length c3)).holds ok w0) :
    Calls Try.prog 63 #[.slice a2 x1.length c3, bstr x4] w0 fun e w' => ∃ v, e = .returned v ∧ ∃ y : (Option Addr × Nat × Nat), v = .slice y.1 y.2.1 y.2.2 ∧ St ok (bz w0) w' [] [own (tInt .u8) 5 (.slice y.1 y.2.1 y.2.2) r] := by
  unfold wire_AppendString at hf
  refine calls_of_W (fn := Try.f63) (N := 12) Try.func63 rfl Try.ntmps63 rfl ?_
  have hs : St ok (bz w0) w0 [vl (tSlice (tInt .u8)) x1 (.slice a2 x1.length c3)] [] := St.init (All.cons i0 All.nil)
  clear i0
  refine W.seqK fun K5 hK5 => ?_
  refine W.region ?_
  refine WL.assign (v := .slice none 0 0) rfl ?_
  refine WL.nil ?_
  refine hK5 _ _ ?_
  refine W.seqK fun K6 hK6 => ?_
  refine W.region ?_
  refine WL.move (v := .slice a2 x1.length c3) rfl ?_
  refine WL.move (v := bstr x4) rfl ?_
  refine WL.len (v := bstr x4) rfl (len_string UN9) ?_
  obtain ⟨x7, ex7, hf⟩ := letE hf
  refine WL.convI_ UN3 UN32 rfl ex7 ?_
  obtain ⟨x8, hxx8, hf⟩ := bindE hf
  refine WL.call (vs := [.slice a2 x1.length c3, .int .u64 x7]) hs FN65 ⟨rfl, ⟨rfl, trivial⟩⟩ (fun ok hA => wire_AppendUint.calls (x1 := x1) (x4 := x7) hxx8 (hA.get 0 rfl)) ?_
  rintro ⟨a9, n10, c11⟩ w hs
  refine WL.move (v := bstr x4) rfl ?_
  obtain ⟨x12, hxx12, hf⟩ := bindE hf
  obtain ⟨hbx12, hex12⟩ := appE hxx12
  refine WL.appendStr (zs := x12) hs 0 rfl UN72 UN9 EI5 rfl rfl hbx12 (by omega) hex12 (fun v13 w hs => ?_)
  obtain ⟨a14, n16, c15, rfl⟩ := hs.ownv3 0 rfl
  refine WL.assign (v := .slice a14 n16 c15) rfl ?_
  refine WL.nil ?_
  refine hK6 _ _ ?_
  refine W.ret ?_
  have hr := Option.some.inj hf; subst hr
  exact ⟨_, resOk_one rfl rfl, (a14, n16, c15), rfl, (hs.mask [true]).pick []⟩
theorem wire_AppendBool.calls {ok : Nat → Prop} {w0 : World} {x1 : List Int} {x4 : Bool} {a2 : Option Addr} {c3 : Nat} {r : List Int} (hf : wire_AppendBool x1 x4 = some r) (i0 : (vl (tSlice (tInt .u8)) x1 (.slice a2 x1.length c3)).holds ok w0) :
    Calls Try.prog 64 #[.slice a2 x1.length c3, .bool x4] w0 fun e w' => ∃ v, e = .returned v ∧ ∃ y : (Option Addr × Nat × Nat), v = .slice y.1 y.2.1 y.2.2 ∧ St ok (bz w0) w' [] [own (tInt .u8) 5 (.slice y.1 y.2.1 y.2.2) r] := by
  unfold wire_AppendBool at hf
  refine calls_of_W (fn := Try.f64) (N := 22) Try.func64 rfl Try.ntmps64 rfl ?_
  have hs : St ok (bz w0) w0 [vl (tSlice (tInt .u8)) x1 (.slice a2 x1.length c3)] [] := St.init (All.cons i0 All.nil)
  clear i0
  refine W.seqK fun K5 hK5 => ?_
  refine W.region ?_
  refine WL.assign (v := .slice none 0 0) rfl ?_
  refine WL.nil ?_
  refine hK5 _ _ ?_
  refine W.seqK fun K6 hK6 => ?_
  refine W.seqK fun K7 hK7 => ?_
  refine W.region ?_
  refine WL.move (v := .bool x4) rfl ?_
  refine WL.nil ?_
  refine hK7 _ _ ?_
  rcases iteE hf with ⟨hc8, hf⟩ | ⟨hc8, hf⟩
  {
  refine W.cond_true (bool_tr rfl hc8) ?_
  refine W.seqK fun K9 hK9 => ?_
  refine W.region ?_
  refine WL.move (v := .slice a2 x1.length c3) rfl ?_
  refine WL.move (v := .slice a2 x1.length c3) rfl ?_
  refine WL.len (v := .slice a2 x1.length c3) rfl (len_slice UN72) ?_
  refine WL.move (v := .slice a2 x1.length c3) rfl ?_
  refine WL.len (v := .slice a2 x1.length c3) rfl (len_slice UN72) ?_
  obtain ⟨x10, hxx10, hf⟩ := bindE hf
  refine WL.slice_hm hs 0 rfl UN72 TI5 rfl rfl rfl rfl hxx10 (fun a11 hs => ?_)
  refine WL.buildSlice (n := 1) (vs := [(0, .int .u8 1)]) (cs := [.int .u8 1]) hs ⟨⟨rfl, rfl⟩, trivial⟩ (bls PS72 (by decide) rfl) (fun g12 w hs => ?_)
  obtain ⟨x13, hxx13, hf⟩ := bindE hf
  obtain ⟨hbx13, hex13⟩ := appE hxx13
  refine WL.appendFO (ys := [1]) (zs := x13) hs 0 rfl 0 rfl UN72 EI5 rfl rfl (fun ok hA => (Cells.one (T := tInt .u8) rfl)) hbx13 (by omega) hex13 (Nat.zero_lt_succ _) (fun a14 c15 w hs => ?_)
  refine WL.assign (v := .slice a14 x13.length c15) rfl ?_
  refine WL.nil ?_
  refine hK9 _ _ ?_
  refine W.ret ?_
  have hr := Option.some.inj hf; subst hr
  exact ⟨_, resOk_one rfl rfl, (a14, x13.length, c15), rfl, (hs.mask [true]).pick []⟩ }
  {
  refine W.cond_false (bool_tr rfl hc8) ?_
  refine W.skip ?_
  refine hK6 _ _ ?_
  refine W.seqK fun K16 hK16 => ?_
  refine W.region ?_
  refine WL.move (v := .slice a2 x1.length c3) rfl ?_
  refine WL.move (v := .slice a2 x1.length c3) rfl ?_
  refine WL.len (v := .slice a2 x1.length c3) rfl (len_slice UN72) ?_
  refine WL.move (v := .slice a2 x1.length c3) rfl ?_
  refine WL.len (v := .slice a2 x1.length c3) rfl (len_slice UN72) ?_
  obtain ⟨x17, hxx17, hf⟩ := bindE hf
  refine WL.slice_hm hs 0 rfl UN72 TI5 rfl rfl rfl rfl hxx17 (fun a18 hs => ?_)
  refine WL.buildSlice (n := 1) (vs := [(0, .int .u8 0)]) (cs := [.int .u8 0]) hs ⟨⟨rfl, rfl⟩, trivial⟩ (bls PS72 (by decide) rfl) (fun g19 w hs => ?_)
  obtain ⟨x20, hxx20, hf⟩ := bindE hf
  obtain ⟨hbx20, hex20⟩ := appE hxx20
  refine WL.appendFO (ys := [0]) (zs := x20) hs 0 rfl 0 rfl UN72 EI5 rfl rfl (fun ok hA => (Cells.one (T := tInt .u8) rfl)) hbx20 (by omega) hex20 (Nat.zero_lt_succ _) (fun a21 c22 w hs => ?_)
  refine WL.assign (v := .slice a21 x20.length c22) rfl ?_
  refine WL.nil ?_
  refine hK16 _ _ ?_
  refine W.ret ?_
  have hr := Option.some.inj hf; subst hr
  exact ⟨_, resOk_one rfl rfl, (a21, x20.length, c22), rfl, (hs.mask [true]).pick []⟩ }
theorem wire_AppendInt.calls {ok : Nat → Prop} {w0 : World} {x1 : List Int} {x4 : Int} {a2 : Option Addr} {c3 : Nat} {r : List Int} (hf : wire_AppendInt x1 x4 = some r) (i0 : (vl (tSlice (tInt .u8)) x1 (.slice a2 x1.length c3)).holds ok w0) :
    Calls Try.prog 66 #[.slice a2 x1.length c3, .int .i64 x4] w0 fun e w' => ∃ v, e = .returned v ∧ ∃ y : (Option Addr × Nat × Nat), v = .slice y.1 y.2.1 y.2.2 ∧ St ok (bz w0) w' [] [own (tInt .u8) 5 (.slice y.1 y.2.1 y.2.2) r] := by
  unfold wire_AppendInt at hf
  refine calls_of_W (fn := Try.f66) (N := 14) Try.func66 rfl Try.ntmps66 rfl ?_
  have hs : St ok (bz w0) w0 [vl (tSlice (tInt .u8)) x1 (.slice a2 x1.length c3)] [] := St.init (All.cons i0 All.nil)
  clear i0
  refine W.seqK fun K5 hK5 => ?_
  refine W.region ?_
  refine WL.assign (v := .slice none 0 0) rfl ?_
  refine WL.nil ?_
  refine hK5 _ _ ?_
  refine W.seqK fun K6 hK6 => ?_
  refine W.region ?_
  refine WL.move (v := .slice a2 x1.length c3) rfl ?_
  refine WL.move (v := .int .i64 x4) rfl ?_
  refine WL.convI UN2 UN32 rfl ?_
  obtain ⟨x8, ex8, hf⟩ := letE hf
  refine WL.shl_ (e := x8) rfl rfl (by decide) ex8 ?_
  refine WL.move (v := .int .i64 x4) rfl ?_
  refine WL.shr rfl rfl (by decide) ?_
  obtain ⟨x10, ex10, hf⟩ := letE hf
  refine WL.convI_ UN2 UN32 rfl ex10 ?_
  obtain ⟨x11, ex11, hf⟩ := letE hf
  refine WL.bin (v := .int .u64 x11) rfl rfl (ib_as ex11 (ib_xor _ _ _)) ?_
  obtain ⟨x12, hxx12, hf⟩ := bindE hf
  refine WL.call (vs := [.slice a2 x1.length c3, .int .u64 x11]) hs FN65 ⟨rfl, ⟨rfl, trivial⟩⟩ (fun ok hA => wire_AppendUint.calls (x1 := x1) (x4 := x11) hxx12 (hA.get 0 rfl)) ?_
  rintro ⟨a13, n14, c15⟩ w hs
  refine WL.assign (v := .slice a13 n14 c15) rfl ?_
  refine WL.nil ?_
  refine hK6 _ _ ?_
  refine W.ret ?_
  have hr := Option.some.inj hf; subst hr
  exact ⟨_, resOk_one rfl rfl, (a13, n14, c15), rfl, (hs.mask [true]).pick []⟩
theorem fold_appendField.calls {ok : Nat → Prop} {w0 : World} {x1 : List Int} {x4 : List UInt8} {x5 : fold_Field} {a2 : Option Addr} {c3 : Nat} {v6 : Value} {r : List Int} (hf : fold_appendField x1 x4 x5 = some r) (i0 : (vl (tSlice (tInt .u8)) x1 (.slice a2 x1.length c3)).holds ok w0) (i1 : (vl t_fold_Field x5 v6).holds ok w0) :
    Calls Try.prog 39 #[.slice a2 x1.length c3, bstr x4, v6] w0 fun e w' => ∃ v, e = .returned v ∧ ∃ y : (Option Addr × Nat × Nat), v = .slice y.1 y.2.1 y.2.2 ∧ St ok (bz w0) w' [] [own (tInt .u8) 5 (.slice y.1 y.2.1 y.2.2) r] := by
  unfold fold_appendField at hf
  refine calls_of_W (fn := Try.f39) (N := 84) Try.func39 rfl Try.ntmps39 rfl ?_
  have hs : St ok (bz w0) w0 [vl (tSlice (tInt .u8)) x1 (.slice a2 x1.length c3), vl t_fold_Field x5 v6] [] := St.init (All.cons i0 (All.cons i1 All.nil))
  clear i0 i1
  obtain ⟨cs7, hl8, rfl⟩ := hs.aggv (n := 12) 1 rfl rfl rfl
  refine W.seqK fun K9 hK9 => ?_
  refine W.region ?_
  refine WL.box (vs := cs7) hs rfl rfl (fun g10 w hs => ?_)
  refine WL.assign (v := .slice none 0 0) rfl ?_
  refine WL.nil ?_
  refine hK9 _ _ ?_
  refine W.seqK fun K11 hK11 => ?_
  refine W.region ?_
  refine WL.move (v := .slice a2 x1.length c3) rfl ?_
  refine WL.move (v := bstr x4) rfl ?_
  obtain ⟨x12, hxx12, hf⟩ := bindE hf
  refine WL.call (vs := [.slice a2 x1.length c3, bstr x4]) hs FN63 ⟨rfl, ⟨rfl, trivial⟩⟩ (fun ok hA => wire_AppendString.calls (x1 := x1) (x4 := x4) hxx12 (hA.get 0 rfl)) ?_
  rintro ⟨a13, n14, c15⟩ w hs
  refine WL.assign (v := .slice a13 n14 c15) rfl ?_
  refine WL.nil ?_
  refine hK11 _ _ ?_
  refine W.seqK fun K16 hK16 => ?_
  refine W.region ?_
  refine WL.move (v := .slice a13 n14 c15) rfl ?_
  refine WL.fieldAddr (m := 0) rfl FA57_0 rfl ?_
  refine WL.loadF (z := x5.Name) F_fold_Field_Name hs 1 rfl 1 rfl rfl TI9 (.inr rfl) rfl rfl (fun v17 hs => ?_)
  obtain rfl := hs.str 0 rfl
  obtain rfl := hs.ownLen 0 rfl
  have hs := hs.freezeOwn 0 rfl
  obtain ⟨x18, hxx18, hf⟩ := bindE hf
  refine WL.call (vs := [.slice a13 x12.length c15, bstr x5.Name]) hs FN63 ⟨rfl, ⟨rfl, trivial⟩⟩ (fun ok hA => wire_AppendString.calls (x1 := x12) (x4 := x5.Name) hxx18 (hA.get 0 rfl)) ?_
  rintro ⟨a19, n20, c21⟩ w hs
  refine WL.assign (v := .slice a19 n20 c21) rfl ?_
  refine WL.nil ?_
  refine hK16 _ _ ?_
  refine W.seqK fun K22 hK22 => ?_
  refine W.region ?_
  refine WL.move (v := .slice a19 n20 c21) rfl ?_
  refine WL.fieldAddr (m := 1) rfl FA57_1 rfl ?_
  refine WL.fieldAddr (m := 1) rfl FA54_0 rfl ?_
  refine WL.loadF (z := x5.Register.Set) (F_fold_Field_Register.comp F_fold_Register_Set) hs 1 rfl 3 rfl rfl TI4 (.inr rfl) rfl rfl (fun v23 hs => ?_)
  obtain rfl := hs.bool 0 rfl
  obtain rfl := hs.ownLen 0 rfl
  have hs := hs.freezeOwn 0 rfl
  obtain ⟨x24, hxx24, hf⟩ := bindE hf
  refine WL.call (vs := [.slice a19 x18.length c21, .bool x5.Register.Set]) hs FN64 ⟨rfl, ⟨rfl, trivial⟩⟩ (fun ok hA => wire_AppendBool.calls (x1 := x18) (x4 := x5.Register.Set) hxx24 (hA.get 0 rfl)) ?_
  rintro ⟨a25, n26, c27⟩ w hs
  refine WL.assign (v := .slice a25 n26 c27) rfl ?_
  refine WL.nil ?_
  refine hK22 _ _ ?_
  refine W.seqK fun K28 hK28 => ?_
  have Jk33 : ∀ (x30 : List Int) (a31 : Option Addr) (c32 : Nat) (ρ : Env) (w : World), ρ 0 = .slice a31 x30.length c32 → ρ 5 = .pointer (some ⟨g10, 0, none⟩) → St ok (bz w0) w [vl (tSlice (tInt .u8)) x30 (.slice a31 x30.length c32), vl t_fold_Field x5 (.agg cs7.toArray)] [blk g10 57 cs7] → fold_appendField.j2 x5 x30 = some r → K28 ρ w := by
    intro x30 a31 c32 ρ w h29_0 h29_5 hs hf
    refine hK28 _ _ ?_
    unfold fold_appendField.j2 at hf
    refine W.seqK fun K34 hK34 => ?_
    refine W.region ?_
    refine WL.move (v := .slice a31 x30.length c32) h29_0 ?_
    refine WL.fieldAddr (m := 1) h29_5 FA57_1 rfl ?_
    refine WL.fieldAddr (m := 5) rfl FA54_4 rfl ?_
    refine WL.loadF (z := x5.Register.N) (F_fold_Field_Register.comp F_fold_Register_N) hs 0 rfl 1 rfl rfl TI2 (.inr rfl) rfl rfl (fun v35 hs => ?_)
    obtain rfl := hs.int 0 rfl
    obtain ⟨x36, hxx36, hf⟩ := bindE hf
    refine WL.call (vs := [.slice a31 x30.length c32, .int .i64 x5.Register.N]) hs FN66 ⟨rfl, ⟨rfl, trivial⟩⟩ (fun ok hA => wire_AppendInt.calls (x1 := x30) (x4 := x5.Register.N) hxx36 (hA.get 1 rfl)) ?_
    rintro ⟨a37, n38, c39⟩ w hs
    refine WL.assign (v := .slice a37 n38 c39) rfl ?_
    refine WL.nil ?_
    refine hK34 _ _ ?_
    refine W.seqK fun K40 hK40 => ?_
    refine W.region ?_
    refine WL.move (v := .slice a37 n38 c39) rfl ?_
    refine WL.fieldAddr (m := 1) h29_5 FA57_1 rfl ?_
    refine WL.fieldAddr (m := 6) rfl FA54_5 rfl ?_
    refine WL.loadF (z := x5.Register.S) (F_fold_Field_Register.comp F_fold_Register_S) hs 1 rfl 2 rfl rfl TI9 (.inr rfl) rfl rfl (fun v41 hs => ?_)
    obtain rfl := hs.str 0 rfl
    obtain rfl := hs.ownLen 0 rfl
    have hs := hs.freezeOwn 0 rfl
    obtain ⟨x42, hxx42, hf⟩ := bindE hf
    refine WL.call (vs := [.slice a37 x36.length c39, bstr x5.Register.S]) hs FN63 ⟨rfl, ⟨rfl, trivial⟩⟩ (fun ok hA => wire_AppendString.calls (x1 := x36) (x4 := x5.Register.S) hxx42 (hA.get 0 rfl)) ?_
    rintro ⟨a43, n44, c45⟩ w hs
    refine WL.assign (v := .slice a43 n44 c45) rfl ?_
    refine WL.nil ?_
    refine hK40 _ _ ?_
    refine W.seqK fun K46 hK46 => ?_
    refine W.region ?_
    refine WL.move (v := .slice a43 n44 c45) rfl ?_
    refine WL.fieldAddr (m := 7) h29_5 FA57_2 rfl ?_
    refine WL.loadF (z := x5.HasMax) F_fold_Field_HasMax hs 1 rfl 4 rfl rfl TI4 (.inr rfl) rfl rfl (fun v47 hs => ?_)
    obtain rfl := hs.bool 0 rfl
    obtain rfl := hs.ownLen 0 rfl
    have hs := hs.freezeOwn 0 rfl
    obtain ⟨x48, hxx48, hf⟩ := bindE hf
    refine WL.call (vs := [.slice a43 x42.length c45, .bool x5.HasMax]) hs FN64 ⟨rfl, ⟨rfl, trivial⟩⟩ (fun ok hA => wire_AppendBool.calls (x1 := x42) (x4 := x5.HasMax) hxx48 (hA.get 0 rfl)) ?_
    rintro ⟨a49, n50, c51⟩ w hs
    refine WL.assign (v := .slice a49 n50 c51) rfl ?_
    refine WL.nil ?_
    refine hK46 _ _ ?_
    refine W.seqK fun K52 hK52 => ?_
    refine W.region ?_
    refine WL.move (v := .slice a49 n50 c51) rfl ?_
    refine WL.fieldAddr (m := 8) h29_5 FA57_3 rfl ?_
    refine WL.loadF (z := x5.Max) F_fold_Field_Max hs 1 rfl 6 rfl rfl TI2 (.inr rfl) rfl rfl (fun v53 hs => ?_)
    obtain rfl := hs.int 0 rfl
    obtain rfl := hs.ownLen 0 rfl
    have hs := hs.freezeOwn 0 rfl
    obtain ⟨x54, hxx54, hf⟩ := bindE hf
    refine WL.call (vs := [.slice a49 x48.length c51, .int .i64 x5.Max]) hs FN66 ⟨rfl, ⟨rfl, trivial⟩⟩ (fun ok hA => wire_AppendInt.calls (x1 := x48) (x4 := x5.Max) hxx54 (hA.get 0 rfl)) ?_
    rintro ⟨a55, n56, c57⟩ w hs
    refine WL.assign (v := .slice a55 n56 c57) rfl ?_
    refine WL.nil ?_
    refine hK52 _ _ ?_
    refine W.seqK fun K58 hK58 => ?_
    refine W.region ?_
    refine WL.move (v := .slice a55 n56 c57) rfl ?_
    refine WL.fieldAddr (m := 9) h29_5 FA57_4 rfl ?_
    refine WL.loadF (z := x5.Sum) F_fold_Field_Sum hs 1 rfl 8 rfl rfl TI2 (.inr rfl) rfl rfl (fun v59 hs => ?_)
    obtain rfl := hs.int 0 rfl
    obtain rfl := hs.ownLen 0 rfl
    have hs := hs.freezeOwn 0 rfl
    obtain ⟨x60, hxx60, hf⟩ := bindE hf
    refine WL.call (vs := [.slice a55 x54.length c57, .int .i64 x5.Sum]) hs FN66 ⟨rfl, ⟨rfl, trivial⟩⟩ (fun ok hA => wire_AppendInt.calls (x1 := x54) (x4 := x5.Sum) hxx60 (hA.get 0 rfl)) ?_
    rintro ⟨a61, n62, c63⟩ w hs
    refine WL.assign (v := .slice a61 n62 c63) rfl ?_
    refine WL.nil ?_
    refine hK58 _ _ ?_
    refine W.seqK fun K64 hK64 => ?_
    refine W.region ?_
    refine WL.move (v := .slice a61 n62 c63) rfl ?_
    refine WL.fieldAddr (m := 10) h29_5 FA57_5 rfl ?_
    refine WL.loadF (z := x5.Elems) F_fold_Field_Elems hs 1 rfl 10 rfl rfl TI55 (.inr rfl) rfl rfl (fun v65 hs => ?_)
    obtain ⟨a66, c67, rfl⟩ := hs.slice 0 rfl
    refine WL.len (v := .slice a66 (x5.Elems).length c67) rfl (len_slice UN55) ?_
    obtain ⟨x68, ex68, hf⟩ := letE hf
    refine WL.convI_ UN3 UN32 rfl ex68 ?_
    obtain rfl := hs.ownLen 0 rfl
    have hs := hs.freezeOwn 0 rfl
    obtain ⟨x69, hxx69, hf⟩ := bindE hf
    refine WL.call (vs := [.slice a61 x60.length c63, .int .u64 x68]) hs FN65 ⟨rfl, ⟨rfl, trivial⟩⟩ (fun ok hA => wire_AppendUint.calls (x1 := x60) (x4 := x68) hxx69 (hA.get 0 rfl)) ?_
    rintro ⟨a70, n71, c72⟩ w hs
    refine WL.assign (v := .slice a70 n71 c72) rfl ?_
    refine WL.nil ?_
    refine hK64 _ _ ?_
    refine W.seqK fun K73 hK73 => ?_
    have Jk78 : ∀ (x75 : List Int) (a76 : Option Addr) (c77 : Nat) (ρ : Env) (w : World), ρ 0 = .slice a76 x75.length c77 → ρ 5 = .pointer (some ⟨g10, 0, none⟩) → St ok (bz w0) w [vl (tSlice (tInt .u8)) x75 (.slice a76 x75.length c77), vl t_fold_Field x5 (.agg cs7.toArray)] [blk g10 57 cs7] → fold_appendField.j1 x5 x75 = some r → K73 ρ w := by
      intro x75 a76 c77 ρ w h74_0 h74_5 hs hf
      refine hK73 _ _ ?_
      unfold fold_appendField.j1 at hf
      refine W.seqK fun K79 hK79 => ?_
      refine W.region ?_
      refine WL.move (v := .slice a76 x75.length c77) h74_0 ?_
      refine WL.fieldAddr (m := 11) h74_5 FA57_6 rfl ?_
      refine WL.loadF (z := x5.Flag) F_fold_Field_Flag hs 0 rfl 1 rfl rfl TI4 (.inr rfl) rfl rfl (fun v80 hs => ?_)
      obtain rfl := hs.bool 0 rfl
      obtain ⟨x81, hxx81, hf⟩ := bindE hf
      refine WL.call (vs := [.slice a76 x75.length c77, .bool x5.Flag]) hs FN64 ⟨rfl, ⟨rfl, trivial⟩⟩ (fun ok hA => wire_AppendBool.calls (x1 := x75) (x4 := x5.Flag) hxx81 (hA.get 1 rfl)) ?_
      rintro ⟨a82, n83, c84⟩ w hs
      refine WL.assign (v := .slice a82 n83 c84) rfl ?_
      refine WL.nil ?_
      refine hK79 _ _ ?_
      refine W.ret ?_
      have hr := Option.some.inj hf; subst hr
      exact ⟨_, resOk_one rfl rfl, (a82, n83, c84), rfl, (hs.mask [true]).pick []⟩
    refine W.seqK fun K85 hK85 => ?_
    refine W.region ?_
    refine WL.fieldAddr (m := 10) h29_5 FA57_5 rfl ?_
    refine WL.loadF (z := x5.Elems) F_fold_Field_Elems hs 1 rfl 12 rfl rfl TI55 (.inr rfl) rfl rfl (fun v86 hs => ?_)
    obtain ⟨a87, c88, rfl⟩ := hs.slice 0 rfl
    refine WL.len (v := .slice a87 (x5.Elems).length c88) rfl (len_slice UN55) ?_
    refine WL.move (v := .int .i64 0) rfl ?_
    refine WL.nil ?_
    refine hK85 _ _ ?_
    refine W.block ?_
    obtain ⟨bs94, hbs94, hfs94⟩ := bindE hf
    obtain rfl := hs.ownLen 0 rfl
    have hs := hs.freezeOwn 0 rfl
    refine W.loop hbs94 (fun s ρ w => match s with | (x90, x93) => ∃ (a91 : Option Addr), ∃ (c92 : Nat), ρ 0 = .slice a91 x90.length c92 ∧ ρ 5 = .pointer (some ⟨g10, 0, none⟩) ∧ ρ 70 = .slice a87 (x5.Elems).length c88 ∧ ρ 71 = .int .i64 ((x5.Elems).length : Int) ∧ ρ 72 = .int .i64 x93 ∧ St ok (bz w0) w [vl (tSlice (tInt .u8)) x90 (.slice a91 x90.length c92), vl (tSlice tStr) x5.Elems (.slice a87 (x5.Elems).length c88), vl t_fold_Field x5 (.agg cs7.toArray)] [blk g10 57 cs7]) ⟨a70, c72, rfl, h29_5, rfl, rfl, rfl, (hs.mask [true]).pick [0, 1, 14]⟩ ?_
    intro s ρ w os94 hI hf hbbs94
    obtain ⟨x90, x93⟩ := s
    obtain ⟨a91, c92, h89_0, h89_5, h89_70, h89_71, h89_72, hs⟩ := hI
    unfold fold_appendField.l1 at hf
    refine W.seqK fun K95 hK95 => ?_
    refine W.region ?_
    refine WL.bin (v := .bool (decide (x93 < ((x5.Elems).length : Int)))) h89_72 h89_71 (ib_lss _ _ _) ?_
    refine WL.nil ?_
    refine hK95 _ _ ?_
    refine W.seqK fun K96 hK96 => ?_
    rcases iteE hf with ⟨hc97, hf⟩ | ⟨hc97, hf⟩
    {
    refine W.cond_true (bool_tr rfl hc97) ?_
    refine W.skip ?_
    refine hK96 _ _ ?_
    refine W.seqK fun K98 hK98 => ?_
    refine W.block ?_
    refine W.seqK fun K99 hK99 => ?_
    refine W.region ?_
    obtain ⟨x100, hxx100, hf⟩ := bindE hf
    refine WL.indexAddr hs 1 rfl UN55 TI9 h89_70 h89_72 hxx100 (fun ad101 hs => ?_)
    refine WL.loadP hs 0 rfl TI9 (.inr rfl) rfl (fun v102 hs => ?_)
    obtain rfl := hs.str 0 rfl
    refine WL.assign (v := bstr x100) rfl ?_
    refine WL.nil ?_
    refine hK99 _ _ ?_
    refine W.region ?_
    refine WL.move (v := .slice a91 x90.length c92) h89_0 ?_
    refine WL.move (v := bstr x100) rfl ?_
    obtain ⟨x103, hxx103, hf⟩ := bindE hf
    refine WL.call (vs := [.slice a91 x90.length c92, bstr x100]) hs FN63 ⟨rfl, ⟨rfl, trivial⟩⟩ (fun ok hA => wire_AppendString.calls (x1 := x90) (x4 := x100) hxx103 (hA.get 2 rfl)) ?_
    rintro ⟨a104, n105, c106⟩ w hs
    refine WL.assign (v := .slice a104 n105 c106) rfl ?_
    refine WL.nil ?_
    refine hK98 _ _ ?_
    refine W.region ?_
    obtain ⟨x107, ex107, hf⟩ := letE hf
    refine WL.bin (v := .int .i64 x107) h89_72 rfl (ib_as ex107 (ib_add _ _ _)) ?_
    refine WL.move (v := .int .i64 x107) rfl ?_
    refine WL.nil ?_
    obtain rfl := hs.ownLen 0 rfl
    have hs := hs.freezeOwn 0 rfl
    exact ⟨_, (Option.some.inj hf).symm, a104, c106, rfl, h89_5, h89_70, h89_71, rfl, (hs.mask [true]).pick [0, 4, 5]⟩ }
    {
    refine W.cond_false (bool_tr rfl hc97) ?_
    refine W.exit ?_
    have hr := Option.some.inj hf; subst hr
    have hr := hbbs94 _ rfl; subst hr
    have hf := hfs94
    exact Jk78 x90 a91 c92 _ _ h89_0 h89_5 ((hs.mask [true]).pick [0, 2]) hf }
  refine W.seqK fun K109 hK109 => ?_
  refine W.region ?_
  refine WL.fieldAddr (m := 1) rfl FA57_1 rfl ?_
  refine WL.fieldAddr (m := 2) rfl FA54_1 rfl ?_
  refine WL.loadF (z := x5.Register.Tag) (F_fold_Field_Register.comp F_fold_Register_Tag) hs 1 rfl 5 rfl rfl TI3 (.inr rfl) rfl rfl (fun v110 hs => ?_)
  obtain rfl := hs.int 0 rfl
  refine WL.fieldAddr (m := 1) rfl FA57_1 rfl ?_
  refine WL.fieldAddr (m := 3) rfl FA54_2 rfl ?_
  refine WL.loadF (z := x5.Register.Client) (F_fold_Field_Register.comp F_fold_Register_Client) hs 1 rfl 6 rfl rfl TI3 (.inr rfl) rfl rfl (fun v111 hs => ?_)
  obtain rfl := hs.int 0 rfl
  refine WL.fieldAddr (m := 1) rfl FA57_1 rfl ?_
  refine WL.fieldAddr (m := 4) rfl FA54_3 rfl ?_
  refine WL.loadF (z := x5.Register.Seq) (F_fold_Field_Register.comp F_fold_Register_Seq) hs 1 rfl 7 rfl rfl TI3 (.inr rfl) rfl rfl (fun v112 hs => ?_)
  obtain rfl := hs.int 0 rfl
  refine WL.build (vs := [(0, .int .i64 x5.Register.Tag), (1, .int .i64 x5.Register.Client), (2, .int .i64 x5.Register.Seq)]) (cs := [.int .i64 x5.Register.Tag, .int .i64 x5.Register.Client, .int .i64 x5.Register.Seq]) ⟨⟨rfl, rfl⟩, ⟨⟨rfl, rfl⟩, ⟨⟨rfl, rfl⟩, trivial⟩⟩⟩ (bldA (places := [(0, 1), (1, 1), (2, 1)]) (zero := [.int .i64 0, .int .i64 0, .int .i64 0]) UN102 TI3 ZA102 rfl rfl rfl) ?_
  refine WL.move (v := .int .i64 0) rfl ?_
  refine WL.nil ?_
  refine hK109 _ _ ?_
  refine W.block ?_
  obtain ⟨bs118, hbs118, hfs118⟩ := bindE hf
  obtain rfl := hs.ownLen 0 rfl
  have hs := hs.freezeOwn 0 rfl
  refine W.loop hbs118 (fun s ρ w => match s with | (x114, x117) => ∃ (a115 : Option Addr), ∃ (c116 : Nat), ρ 0 = .slice a115 x114.length c116 ∧ ρ 5 = .pointer (some ⟨g10, 0, none⟩) ∧ ρ 32 = .agg ([.int .i64 x5.Register.Tag, .int .i64 x5.Register.Client, .int .i64 x5.Register.Seq] : List Value).toArray ∧ ρ 33 = .int .i64 x117 ∧ St ok (bz w0) w [vl (tSlice (tInt .u8)) x114 (.slice a115 x114.length c116), vl t_fold_Field x5 (.agg cs7.toArray)] [blk g10 57 cs7]) ⟨a25, c27, rfl, rfl, rfl, rfl, (hs.mask [true]).pick [0, 9]⟩ ?_
  intro s ρ w os118 hI hf hbbs118
  obtain ⟨x114, x117⟩ := s
  obtain ⟨a115, c116, h113_0, h113_5, h113_32, h113_33, hs⟩ := hI
  unfold fold_appendField.l2 at hf
  refine W.seqK fun K119 hK119 => ?_
  refine W.region ?_
  refine WL.bin (v := .bool (decide (x117 < 3))) h113_33 rfl (ib_lss _ _ _) ?_
  refine WL.nil ?_
  refine hK119 _ _ ?_
  refine W.seqK fun K120 hK120 => ?_
  rcases iteE hf with ⟨hc121, hf⟩ | ⟨hc121, hf⟩
  {
  refine W.cond_true (bool_tr rfl hc121) ?_
  refine W.skip ?_
  refine hK120 _ _ ?_
  refine W.seqK fun K122 hK122 => ?_
  refine W.block ?_
  refine W.seqK fun K123 hK123 => ?_
  refine W.region ?_
  obtain ⟨x124, hxx124, hf⟩ := bindE hf
  refine WL.indexA (xs := ([x5.Register.Tag, x5.Register.Client, x5.Register.Seq] : List Int)) (enc := (fun x => Value.int .i64 x)) UN102 TI3 rfl h113_32 h113_33 hxx124 ?_
  refine WL.assign (v := .int .i64 x124) rfl ?_
  refine WL.nil ?_
  refine hK123 _ _ ?_
  refine W.region ?_
  refine WL.move (v := .slice a115 x114.length c116) h113_0 ?_
  refine WL.move (v := .int .i64 x124) rfl ?_
  refine WL.convI UN3 UN32 rfl ?_
  obtain ⟨x125, hxx125, hf⟩ := bindE hf
  refine WL.call (vs := [.slice a115 x114.length c116, .int .u64 (IntKind.u64.wrap x124)]) hs FN65 ⟨rfl, ⟨rfl, trivial⟩⟩ (fun ok hA => wire_AppendUint.calls (x1 := x114) (x4 := (IntKind.u64.wrap x124)) hxx125 (hA.get 0 rfl)) ?_
  rintro ⟨a126, n127, c128⟩ w hs
  refine WL.assign (v := .slice a126 n127 c128) rfl ?_
  refine WL.nil ?_
  refine hK122 _ _ ?_
  refine W.region ?_
  obtain ⟨x129, ex129, hf⟩ := letE hf
  refine WL.bin (v := .int .i64 x129) h113_33 rfl (ib_as ex129 (ib_add _ _ _)) ?_
  refine WL.move (v := .int .i64 x129) rfl ?_
  refine WL.nil ?_
  obtain rfl := hs.ownLen 0 rfl
  have hs := hs.freezeOwn 0 rfl
  exact ⟨_, (Option.some.inj hf).symm, a126, c128, rfl, h113_5, h113_32, rfl, (hs.mask [true]).pick [0, 2]⟩ }
  {
  refine W.cond_false (bool_tr rfl hc121) ?_
  refine W.exit ?_
  have hr := Option.some.inj hf; subst hr
  have hr := hbbs118 _ rfl; subst hr
  have hf := hfs118
  exact Jk33 x114 a115 c116 _ _ h113_0 h113_5 ((hs.mask [true]).pick [0, 1]) hf }
theorem fold_Hash.calls {ok : Nat → Prop} {w0 : World} {x1 : fold_Store} {v2 : Value} {r : Int} (hf : fold_Hash x1 = some r) (i0 : (vl t_fold_Store x1 v2).holds ok w0) :
    Calls Try.prog 16 #[v2] w0 fun e w' => ∃ v, e = .returned v ∧ ∃ y : Unit, v = .int .u64 r ∧ St ok (bz w0) w' [] [] := by
  unfold fold_Hash at hf
  refine calls_of_W (fn := Try.f16) (N := 42) Try.func16 rfl Try.ntmps16 rfl ?_
  have hs : St ok (bz w0) w0 [vl t_fold_Store x1 v2] [] := St.init (All.cons i0 All.nil)
  clear i0
  obtain ⟨cs3, hl4, rfl⟩ := hs.aggv (n := 1) 0 rfl rfl rfl
  refine W.seqK fun K5 hK5 => ?_
  refine W.region ?_
  refine WL.box (vs := cs3) hs rfl rfl (fun g6 w hs => ?_)
  refine WL.assign (v := .int .u64 0) rfl ?_
  refine WL.nil ?_
  refine hK5 _ _ ?_
  refine W.seqK fun K7 hK7 => ?_
  refine W.region ?_
  refine WL.assign (v := .int .u64 14695981039346656037) rfl ?_
  refine WL.nil ?_
  refine hK7 _ _ ?_
  refine W.seqK fun K8 hK8 => ?_
  have Jk11 : ∀ (x10 : Int) (ρ : Env) (w : World), ρ 3 = .int .u64 x10 → St ok (bz w0) w [] [] → fold_Hash.j1 x10 = some r → K8 ρ w := by
    intro x10 ρ w h9_3 hs hf
    refine hK8 _ _ ?_
    unfold fold_Hash.j1 at hf
    refine W.seqK fun K12 hK12 => ?_
    refine W.region ?_
    refine WL.move (v := .int .u64 x10) h9_3 ?_
    refine WL.assign (v := .int .u64 x10) rfl ?_
    refine WL.nil ?_
    refine hK12 _ _ ?_
    refine W.ret ?_
    have hr := Option.some.inj hf; subst hr
    exact ⟨_, resOk_one rfl rfl, (), rfl, (hs.mask []).pick []⟩
  refine W.seqK fun K13 hK13 => ?_
  refine W.region ?_
  refine WL.fieldAddr (m := 0) rfl FA29_0 rfl ?_
  refine WL.loadF (z := x1.Objects) F_fold_Store_Objects hs 0 rfl 0 rfl rfl TI27 (.inr rfl) rfl rfl (fun v14 hs => ?_)
  obtain ⟨a15, c16, rfl⟩ := hs.slice 0 rfl
  refine WL.len (v := .slice a15 (x1.Objects).length c16) rfl (len_slice UN27) ?_
  refine WL.move (v := .int .i64 0) rfl ?_
  refine WL.nil ?_
  refine hK13 _ _ ?_
  refine W.block ?_
  obtain ⟨bs20, hbs20, hfs20⟩ := bindE hf
  refine W.loop hbs20 (fun s ρ w => match s with | (x18, x19) => ρ 3 = .int .u64 x18 ∧ ρ 11 = .slice a15 (x1.Objects).length c16 ∧ ρ 12 = .int .i64 ((x1.Objects).length : Int) ∧ ρ 13 = .int .i64 x19 ∧ St ok (bz w0) w [vl (tSlice t_fold_Object) x1.Objects (.slice a15 (x1.Objects).length c16)] []) ⟨rfl, rfl, rfl, rfl, (hs.mask []).pick [0]⟩ ?_
  intro s ρ w os20 hI hf hbbs20
  obtain ⟨x18, x19⟩ := s
  obtain ⟨h17_3, h17_11, h17_12, h17_13, hs⟩ := hI
  unfold fold_Hash.l3 at hf
  refine W.seqK fun K21 hK21 => ?_
  refine W.region ?_
  refine WL.bin (v := .bool (decide (x19 < ((x1.Objects).length : Int)))) h17_13 h17_12 (ib_lss _ _ _) ?_
  refine WL.nil ?_
  refine hK21 _ _ ?_
  refine W.seqK fun K22 hK22 => ?_
  rcases iteE hf with ⟨hc23, hf⟩ | ⟨hc23, hf⟩
  {
  refine W.cond_true (bool_tr rfl hc23) ?_
  refine W.skip ?_
  refine hK22 _ _ ?_
  refine W.seqK fun K24 hK24 => ?_
  have Jk27 : ∀ (x26 : Int) (ρ : Env) (w : World), ρ 3 = .int .u64 x26 → ρ 11 = .slice a15 (x1.Objects).length c16 → ρ 12 = .int .i64 ((x1.Objects).length : Int) → ρ 13 = .int .i64 x19 → St ok (bz w0) w [vl (tSlice t_fold_Object) x1.Objects (.slice a15 (x1.Objects).length c16)] [] → fold_Hash.j2 x19 x26 = some os20 → K24 ρ w := by
    intro x26 ρ w h25_3 h25_11 h25_12 h25_13 hs hf
    refine hK24 _ _ ?_
    unfold fold_Hash.j2 at hf
    refine W.region ?_
    obtain ⟨x28, ex28, hf⟩ := letE hf
    refine WL.bin (v := .int .i64 x28) h25_13 rfl (ib_as ex28 (ib_add _ _ _)) ?_
    refine WL.move (v := .int .i64 x28) rfl ?_
    refine WL.nil ?_
    exact ⟨_, (Option.some.inj hf).symm, h25_3, h25_11, h25_12, rfl, (hs.mask []).pick [0]⟩
  refine W.block ?_
  refine W.seqK fun K29 hK29 => ?_
  refine W.region ?_
  obtain ⟨x30, hxx30, hf⟩ := bindE hf
  refine WL.indexAddr hs 0 rfl UN27 TI51 h17_11 h17_13 hxx30 (fun ad31 hs => ?_)
  refine WL.loadP hs 0 rfl TI51 (.inl rfl) rfl (fun v32 hs => ?_)
  obtain ⟨cs33, hl34, rfl⟩ := hs.aggv (n := 2) 0 rfl rfl rfl
  refine WL.alloc hs ZV51 (fun g35 w hs => ?_)
  refine WL.storeAll (vs := cs33) hs 0 rfl TI51 rfl rfl rfl hl34 (hs.ones 0 rfl rfl) rfl (fun w hs => ?_)
  refine WL.nil ?_
  refine hK29 _ _ ?_
  refine W.seqK fun K36 hK36 => ?_
  refine W.region ?_
  refine WL.fieldAddr (m := 1) rfl FA51_1 rfl ?_
  refine WL.loadF (z := x30.Fields) F_fold_Object_Fields hs 0 rfl 0 rfl rfl TI49 (.inr rfl) rfl rfl (fun v37 hs => ?_)
  obtain ⟨a38, c39, rfl⟩ := hs.slice 0 rfl
  refine WL.len (v := .slice a38 (x30.Fields).length c39) rfl (len_slice UN49) ?_
  refine WL.move (v := .int .i64 0) rfl ?_
  refine WL.nil ?_
  refine hK36 _ _ ?_
  refine W.block ?_
  obtain ⟨bs43, hbs43, hfs43⟩ := bindE hf
  refine W.loop hbs43 (fun s ρ w => match s with | (x41, x42) => ρ 3 = .int .u64 x41 ∧ ρ 5 = .pointer (some ⟨g35, 0, none⟩) ∧ ρ 11 = .slice a15 (x1.Objects).length c16 ∧ ρ 12 = .int .i64 ((x1.Objects).length : Int) ∧ ρ 13 = .int .i64 x19 ∧ ρ 18 = .slice a38 (x30.Fields).length c39 ∧ ρ 19 = .int .i64 ((x30.Fields).length : Int) ∧ ρ 20 = .int .i64 x42 ∧ St ok (bz w0) w [vl (tSlice t_fold_Object) x1.Objects (.slice a15 (x1.Objects).length c16), vl (tSlice t_fold_Field) x30.Fields (.slice a38 (x30.Fields).length c39), vl t_fold_Object x30 (.agg cs33.toArray)] [blk g35 51 cs33]) ⟨h17_3, rfl, h17_11, h17_12, h17_13, rfl, rfl, rfl, (hs.mask [true]).pick [3, 0, 1]⟩ ?_
  intro s ρ w os43 hI hf hbbs43
  obtain ⟨x41, x42⟩ := s
  obtain ⟨h40_3, h40_5, h40_11, h40_12, h40_13, h40_18, h40_19, h40_20, hs⟩ := hI
  unfold fold_Hash.l2 at hf
  refine W.seqK fun K44 hK44 => ?_
  refine W.region ?_
  refine WL.bin (v := .bool (decide (x42 < ((x30.Fields).length : Int)))) h40_20 h40_19 (ib_lss _ _ _) ?_
  refine WL.nil ?_
  refine hK44 _ _ ?_
  refine W.seqK fun K45 hK45 => ?_
  rcases iteE hf with ⟨hc46, hf⟩ | ⟨hc46, hf⟩
  {
  refine W.cond_true (bool_tr rfl hc46) ?_
  refine W.skip ?_
  refine hK45 _ _ ?_
  refine W.seqK fun K47 hK47 => ?_
  have Jk50 : ∀ (x49 : Int) (ρ : Env) (w : World), ρ 3 = .int .u64 x49 → ρ 5 = .pointer (some ⟨g35, 0, none⟩) → ρ 11 = .slice a15 (x1.Objects).length c16 → ρ 12 = .int .i64 ((x1.Objects).length : Int) → ρ 13 = .int .i64 x19 → ρ 18 = .slice a38 (x30.Fields).length c39 → ρ 19 = .int .i64 ((x30.Fields).length : Int) → ρ 20 = .int .i64 x42 → St ok (bz w0) w [vl (tSlice t_fold_Object) x1.Objects (.slice a15 (x1.Objects).length c16), vl (tSlice t_fold_Field) x30.Fields (.slice a38 (x30.Fields).length c39), vl t_fold_Object x30 (.agg cs33.toArray)] [blk g35 51 cs33] → fold_Hash.j3 x42 x49 = some os43 → K47 ρ w := by
    intro x49 ρ w h48_3 h48_5 h48_11 h48_12 h48_13 h48_18 h48_19 h48_20 hs hf
    refine hK47 _ _ ?_
    unfold fold_Hash.j3 at hf
    refine W.region ?_
    obtain ⟨x51, ex51, hf⟩ := letE hf
    refine WL.bin (v := .int .i64 x51) h48_20 rfl (ib_as ex51 (ib_add _ _ _)) ?_
    refine WL.move (v := .int .i64 x51) rfl ?_
    refine WL.nil ?_
    exact ⟨_, (Option.some.inj hf).symm, h48_3, h48_5, h48_11, h48_12, h48_13, h48_18, h48_19, rfl, (hs.mask [true]).pick [0, 1, 2]⟩
  refine W.block ?_
  refine W.seqK fun K52 hK52 => ?_
  refine W.region ?_
  obtain ⟨x53, hxx53, hf⟩ := bindE hf
  refine WL.indexAddr hs 1 rfl UN49 TI57 h40_18 h40_20 hxx53 (fun ad54 hs => ?_)
  refine WL.loadP hs 0 rfl TI57 (.inl rfl) rfl (fun v55 hs => ?_)
  obtain ⟨cs56, hl57, rfl⟩ := hs.aggv (n := 12) 0 rfl rfl rfl
  refine WL.alloc hs ZV57 (fun g58 w hs => ?_)
  refine WL.storeAll (vs := cs56) hs 0 rfl TI57 rfl rfl rfl hl57 (hs.ones 0 rfl rfl) rfl (fun w hs => ?_)
  refine WL.nil ?_
  refine hK52 _ _ ?_
  refine W.seqK fun K59 hK59 => ?_
  refine W.region ?_
  refine WL.fieldAddr (m := 0) h40_5 FA51_0 rfl ?_
  refine WL.loadF (z := x30.Name) F_fold_Object_Name hs 1 rfl 4 rfl rfl TI9 (.inr rfl) rfl rfl (fun v60 hs => ?_)
  obtain rfl := hs.str 0 rfl
  refine WL.loadAll hs 0 rfl TI57 rfl hl57 ?_
  have hs := hs.add (it := vl (tSlice (tInt .u8)) [] (.slice none 0 0)) fun ok hA => V_nil
  obtain ⟨x61, hxx61, hf⟩ := bindE hf
  refine WL.call (vs := [.slice none 0 0, bstr x30.Name, .agg cs56.toArray]) hs FN39 ⟨rfl, ⟨rfl, ⟨rfl, trivial⟩⟩⟩ (fun ok hA => fold_appendField.calls (a2 := none) (c3 := 0) (x1 := []) (x4 := x30.Name) (x5 := x53) hxx61 (hA.get 0 rfl) (hA.get 2 rfl)) ?_
  rintro ⟨a62, n63, c64⟩ w hs
  refine WL.len (v := .slice a62 n63 c64) rfl (len_own hs 0 rfl UN72) ?_
  refine WL.move (v := .int .i64 0) rfl ?_
  refine WL.nil ?_
  refine hK59 _ _ ?_
  refine W.block ?_
  obtain ⟨bs68, hbs68, hfs68⟩ := bindE hf
  refine W.loop hbs68 (fun s ρ w => match s with | (x66, x67) => ρ 3 = .int .u64 x66 ∧ ρ 5 = .pointer (some ⟨g35, 0, none⟩) ∧ ρ 11 = .slice a15 (x1.Objects).length c16 ∧ ρ 12 = .int .i64 ((x1.Objects).length : Int) ∧ ρ 13 = .int .i64 x19 ∧ ρ 18 = .slice a38 (x30.Fields).length c39 ∧ ρ 19 = .int .i64 ((x30.Fields).length : Int) ∧ ρ 20 = .int .i64 x42 ∧ ρ 27 = .slice a62 n63 c64 ∧ ρ 28 = .int .i64 (x61.length : Int) ∧ ρ 29 = .int .i64 x67 ∧ St ok (bz w0) w [vl (tSlice t_fold_Object) x1.Objects (.slice a15 (x1.Objects).length c16), vl (tSlice t_fold_Field) x30.Fields (.slice a38 (x30.Fields).length c39), vl t_fold_Object x30 (.agg cs33.toArray)] [own (tInt .u8) 5 (.slice a62 n63 c64) x61, blk g35 51 cs33]) ⟨h40_3, h40_5, h40_11, h40_12, h40_13, h40_18, h40_19, h40_20, rfl, rfl, rfl, (hs.mask [true, false, true]).pick [4, 5, 6]⟩ ?_
  intro s ρ w os68 hI hf hbbs68
  obtain ⟨x66, x67⟩ := s
  obtain ⟨h65_3, h65_5, h65_11, h65_12, h65_13, h65_18, h65_19, h65_20, h65_27, h65_28, h65_29, hs⟩ := hI
  unfold fold_Hash.l1 at hf
  refine W.seqK fun K69 hK69 => ?_
  refine W.region ?_
  refine WL.bin (v := .bool (decide (x67 < (x61.length : Int)))) h65_29 h65_28 (ib_lss _ _ _) ?_
  refine WL.nil ?_
  refine hK69 _ _ ?_
  refine W.seqK fun K70 hK70 => ?_
  rcases iteE hf with ⟨hc71, hf⟩ | ⟨hc71, hf⟩
  {
  refine W.cond_true (bool_tr rfl hc71) ?_
  refine W.skip ?_
  refine hK70 _ _ ?_
  refine W.seqK fun K72 hK72 => ?_
  refine W.block ?_
  refine W.seqK fun K73 hK73 => ?_
  refine W.region ?_
  obtain ⟨x74, hxx74, hf⟩ := bindE hf
  refine WL.indexAddrO hs 0 rfl UN72 TI5 h65_27 h65_29 hxx74 (fun ad75 hatad75 => ?_)
  refine WL.loadO hs 0 rfl TI5 (.inr rfl) hatad75 hxx74 rfl (fun v76 hs => ?_)
  obtain rfl := hs.int 0 rfl
  refine WL.assign (v := .int .u8 x74) rfl ?_
  refine WL.nil ?_
  refine hK73 _ _ ?_
  refine W.region ?_
  refine WL.move (v := .int .u64 x66) h65_3 ?_
  refine WL.move (v := .int .u8 x74) rfl ?_
  refine WL.convI UN5 UN32 rfl ?_
  obtain ⟨x77, ex77, hf⟩ := letE hf
  refine WL.bin (v := .int .u64 x77) rfl rfl (ib_as ex77 (ib_xor _ _ _)) ?_
  obtain ⟨x78, ex78, hf⟩ := letE hf
  refine WL.bin (v := .int .u64 x78) rfl rfl (ib_as ex78 (ib_mul _ _ _)) ?_
  refine WL.assign (v := .int .u64 x78) rfl ?_
  refine WL.nil ?_
  refine hK72 _ _ ?_
  refine W.region ?_
  obtain ⟨x79, ex79, hf⟩ := letE hf
  refine WL.bin (v := .int .i64 x79) h65_29 rfl (ib_as ex79 (ib_add _ _ _)) ?_
  refine WL.move (v := .int .i64 x79) rfl ?_
  refine WL.nil ?_
  exact ⟨_, (Option.some.inj hf).symm, rfl, h65_5, h65_11, h65_12, h65_13, h65_18, h65_19, h65_20, h65_27, h65_28, rfl, (hs.mask [true, true]).pick [1, 2, 3]⟩ }
  {
  refine W.cond_false (bool_tr rfl hc71) ?_
  refine W.exit ?_
  have hr := Option.some.inj hf; subst hr
  have hr := hbbs68 _ rfl; subst hr
  have hf := hfs68
  exact Jk50 x66 _ _ h65_3 h65_5 h65_11 h65_12 h65_13 h65_18 h65_19 h65_20 ((hs.mask [false, true]).pick [0, 1, 2]) hf } }
  {
  refine W.cond_false (bool_tr rfl hc46) ?_
  refine W.exit ?_
  have hr := Option.some.inj hf; subst hr
  have hr := hbbs43 _ rfl; subst hr
  have hf := hfs43
  exact Jk27 x41 _ _ h40_3 h40_11 h40_12 h40_13 ((hs.mask []).pick [0]) hf } }
  {
  refine W.cond_false (bool_tr rfl hc23) ?_
  refine W.exit ?_
  have hr := Option.some.inj hf; subst hr
  have hr := hbbs20 _ rfl; subst hr
  have hf := hfs20
  exact Jk11 x18 _ _ h17_3 ((hs.mask []).pick []) hf }
end Go.Proofs.Ytlbcfjblpopcnaa
