/- Package fold: what apply, load, store, Fold, Apply and Find do. -/
import Derived.Test.YtbbeobiampbddaaFl
import Derived.Test.YtbbeobiampbddaaFp0
import Derived.Test.YtbbeobiampbddaaMe
import Derived.Test.YtbbeobiampbddaaMf
set_option linter.unusedVariables false
set_option linter.unusedSimpArgs false
set_option maxRecDepth 20000
namespace Go.Proofs.Ytbbeobiampbddaa
open Go Go.RowKit Go.Proofs.YtbbeobiampbddaaL
abbrev rcells (r : fold_Register) : List Value := [.bool r.Set, .int .i64 r.Tag, .int .i64 r.Client, .int .i64 r.Seq, .int .i64 r.N, bstr r.S]
def fcells (y : fold_Field) (v : Value) : List Value := [bstr y.Name, .bool y.Register.Set, .int .i64 y.Register.Tag, .int .i64 y.Register.Client, .int .i64 y.Register.Seq, .int .i64 y.Register.N, bstr y.Register.S, .bool y.HasMax, .int .i64 y.Max, .int .i64 y.Sum, v, .bool y.Flag]
abbrev ecells (e : api_Effect) : List Value := [.int .i64 e.Kind, bstr e.Object, bstr e.Field, .int .i64 e.N, bstr e.S]
theorem regR (ok : Nat → Prop) (w : World) (r : fold_Register) : t_fold_Register.R ok w r (rcells r) := ⟨[.bool r.Set], _, rfl, rfl, ⟨[.int .i64 r.Tag], _, rfl, rfl, ⟨[.int .i64 r.Client], _, rfl, rfl, ⟨[.int .i64 r.Seq], _, rfl, rfl, ⟨[.int .i64 r.N], [bstr r.S], rfl, rfl, rfl⟩⟩⟩⟩⟩
theorem fieldR (ok : Nat → Prop) (w : World) (y : fold_Field) (v : Value) (h : (tSlice tStr).V ok w y.Elems v) : t_fold_Field.R ok w y (fcells y v) :=
  ⟨[bstr y.Name], _, rfl, rfl, ⟨rcells y.Register, [.bool y.HasMax, .int .i64 y.Max, .int .i64 y.Sum, v, .bool y.Flag], rfl, regR ok w y.Register, ⟨[.bool y.HasMax], _, rfl, rfl, ⟨[.int .i64 y.Max], _, rfl, rfl, ⟨[.int .i64 y.Sum], _, rfl, rfl, ⟨[v], [.bool y.Flag], rfl, R_one h, rfl⟩⟩⟩⟩⟩⟩
def FKf : FK fold_Field where
  n := 12
  E := 9
  fc := fcells
  fe := fold_Field.Elems
  nm := fold_Field.Name
  inj := by
    intro x v x' v' h
    unfold fcells at h
    simp only [List.cons.injEq] at h
    exact h.2.2.2.2.2.2.2.2.2.2.1
/-- What is left when a field is taken out: all around it, or all if there is none. -/
def FinO (g : Nat) (x1 : fold_B) (k f : List UInt8) (fs : List fold_Field) (O : LObj) : Prop :=
  (∃ h : Hole fold_Field, O = allo (holeL FKf g h) ∧ cont h.all = x1 ∧ h.k = k ∧ f = h.y.Name ∧ (∀ e ∈ h.f1, f ≠ e.1.Name) ∧ ∀ q ∈ h.b1, q.1 ≠ k) ∨
  (∃ C, O = bldc FKf C g x1 ∧ fs.find? (fun q => f == q.Name) = none)
theorem fold_with_at (x : fold_B) (k : List UInt8) : ∃ fs, (fold_with x k).lookup k = some fs := by
  unfold fold_with
  cases h : x.lookup k with
  | some fs => exact ⟨fs, by simpa using h⟩
  | none =>
    simp only [Option.isNone_none, if_true]
    refine ⟨[], ?_⟩
    induction x with
    | nil => simp
    | cons a x ih =>
      rw [List.lookup_cons] at h
      rw [List.cons_append, List.lookup_cons]
      cases hk : k == a.1 with
      | false => rw [hk] at h; exact ih h
      | true => rw [hk] at h; cases h
/-! apply -/
theorem fold_apply.calls {ok : Nat → Prop} {F : Base} {w0 : World} {x : fold_B} {u : api_Update} {g : Nat} {vu : Value} {r : fold_B} (hf : fold_apply u x = some r) (hs : St ok F w0 [vl t_api_Update u vu] [bldo FKf g x]) :
    Calls Try.prog 47 #[.map (some g), vu] w0 fun e w' => ∃ v, e = .returned v ∧ ∃ y : Unit, v = .tuple #[] ∧ St ok F w' [] [bldo FKf g r] := by
  unfold fold_apply at hf
  obtain ⟨cs, hl, rfl⟩ := hs.aggv (n := 4) 0 rfl rfl rfl
  obtain ⟨a, c, rfl⟩ := open_api_Update hs 0 rfl
  refine calls_of_W (fn := Try.f47) (N := 110) Try.func47 rfl Try.ntmps47 rfl ?_
  refine W.seqK fun K1 hK1 => ?_
  refine W.region ?_
  refine WL.box (vs := [.int .i64 u.Client, .int .i64 u.Seq, .int .i64 u.Tag, .slice a u.Effects.length c]) hs rfl rfl (fun g3 w hs => ?_)
  refine WL.nil ?_
  refine hK1 _ _ ?_
  have hs := hs.front 1 rfl
  refine W.seqK fun K2 hK2 => ?_
  refine W.region ?_
  refine WL.fieldAddr (m := 3) rfl FA75_3 rfl ?_
  refine WL.loadF (z := u.Effects) F_api_Update_Effects hs 1 rfl 0 rfl rfl TI30 (.inr rfl) rfl rfl (fun v hs => ?_)
  obtain ⟨a2, c2, rfl⟩ := hs.slice 0 rfl
  refine WL.len (v := .slice a2 u.Effects.length c2) rfl (len_slice UN30) ?_
  refine WL.move (v := .int .i64 0) rfl ?_
  refine WL.nil ?_
  refine hK2 _ _ ?_
  refine W.block ?_
  refine W.loop hf (fun s ρ w => match s with | (i, x) => ρ 0 = .map (some g) ∧ ρ 3 = .pointer (some ⟨g3, 0, none⟩) ∧ ρ 10 = .slice a2 u.Effects.length c2 ∧ ρ 11 = .int .i64 (u.Effects.length : Int) ∧ ρ 12 = .int .i64 i ∧ St ok F w [vl (tSlice t_api_Effect) u.Effects (.slice a2 u.Effects.length c2), vl t_api_Update u (.agg [.int .i64 u.Client, .int .i64 u.Seq, .int .i64 u.Tag, .slice a u.Effects.length c].toArray)] [bldo FKf g x, blk g3 75 [.int .i64 u.Client, .int .i64 u.Seq, .int .i64 u.Tag, .slice a u.Effects.length c]]) ⟨rfl, rfl, rfl, rfl, rfl, hs⟩ ?_
  intro s ρ w o hI hf hbb
  obtain ⟨i, x⟩ := s
  obtain ⟨h0, h3, h10, h11, h12, hs⟩ := hI
  unfold fold_apply.l1 at hf
  refine W.seqK fun K3 hK3 => ?_
  refine W.region ?_
  refine WL.bin (v := .bool (decide (i < (u.Effects.length : Int)))) h12 h11 (ib_lss _ _ _) ?_
  refine WL.nil ?_
  refine hK3 _ _ ?_
  refine W.seqK fun K4 hK4 => ?_
  rcases iteE hf with ⟨hc, hf⟩ | ⟨hc, hf⟩
  · refine W.cond_true (bool_tr rfl hc) ?_
    refine W.skip ?_
    refine hK4 _ _ ?_
    obtain ⟨e, he, hf⟩ := bindE hf
    obtain ⟨x', hx', hf⟩ := bindE hf
    refine W.seqK fun K5 hK5 => ?_
    have Jend : ∀ (ρ : Env) (w : World), ρ 0 = .map (some g) → ρ 3 = .pointer (some ⟨g3, 0, none⟩) → ρ 10 = .slice a2 u.Effects.length c2 → ρ 11 = .int .i64 (u.Effects.length : Int) → ρ 12 = .int .i64 i →
        St ok F w [vl (tSlice t_api_Effect) u.Effects (.slice a2 u.Effects.length c2), vl t_api_Update u (.agg [.int .i64 u.Client, .int .i64 u.Seq, .int .i64 u.Tag, .slice a u.Effects.length c].toArray)] [bldo FKf g x', blk g3 75 [.int .i64 u.Client, .int .i64 u.Seq, .int .i64 u.Tag, .slice a u.Effects.length c]] → K5 ρ w := by
      intro ρ w h0 h3 h10 h11 h12 hs
      refine hK5 _ _ ?_
      refine W.region ?_
      obtain ⟨j, ej, hf⟩ := letE hf
      refine WL.bin (v := .int .i64 j) h12 rfl (ib_as ej (ib_add _ _ _)) ?_
      refine WL.move (v := .int .i64 j) rfl ?_
      refine WL.nil ?_
      exact ⟨_, (Option.some.inj hf).symm, h0, h3, h10, h11, rfl, hs⟩
    unfold fold_eff at hx'
    obtain ⟨y', hy', hx'⟩ := bindE hx'
    have hx' := Option.some.inj hx'
    refine W.block ?_
    refine W.seqK fun K6 hK6 => ?_
    refine W.region ?_
    refine WL.indexAddr hs 0 rfl UN30 TI72 h10 h12 he (fun ad hs => ?_)
    refine WL.loadP hs 0 rfl TI72 (.inl rfl) rfl (fun v hs => ?_)
    obtain ⟨es, hl5, rfl⟩ := hs.aggv (n := 5) 0 rfl rfl rfl
    obtain rfl := open_api_Effect hs 0 rfl
    refine WL.alloc hs ZV72 (fun g5 w hs => ?_)
    refine WL.storeAll (vs := ecells e) hs 0 rfl TI72 rfl rfl rfl rfl (ones_of rfl) rfl (fun w hs => ?_)
    refine WL.nil ?_
    refine hK6 _ _ ?_
    have hs := (hs.front 1 rfl).pick [2, 3]
    have hs : St ok F w [vl (tSlice t_api_Effect) u.Effects (.slice a2 u.Effects.length c2), vl t_api_Update u (.agg [.int .i64 u.Client, .int .i64 u.Seq, .int .i64 u.Tag, .slice a u.Effects.length c].toArray)] [bldo FKf g x, blk g5 72 (ecells e), blk g3 75 [.int .i64 u.Client, .int .i64 u.Seq, .int .i64 u.Tag, .slice a u.Effects.length c]] := hs
    refine W.seqK fun K7 hK7 => ?_
    obtain ⟨fs, hfs⟩ := fold_with_at x e.Object
    have Jin : ∀ (C : List (BE fold_Field) → Prop) (ρ : Env) (w : World), ρ 0 = .map (some g) → ρ 3 = .pointer (some ⟨g3, 0, none⟩) → ρ 5 = .pointer (some ⟨g5, 0, none⟩) → ρ 10 = .slice a2 u.Effects.length c2 → ρ 11 = .int .i64 (u.Effects.length : Int) → ρ 12 = .int .i64 i →
        St ok F w [vl (tSlice t_api_Effect) u.Effects (.slice a2 u.Effects.length c2), vl t_api_Update u (.agg [.int .i64 u.Client, .int .i64 u.Seq, .int .i64 u.Tag, .slice a u.Effects.length c].toArray)] [bldc FKf C g (fold_with x e.Object), blk g5 72 (ecells e), blk g3 75 [.int .i64 u.Client, .int .i64 u.Seq, .int .i64 u.Tag, .slice a u.Effects.length c]] → K7 ρ w := by
      intro C ρ w h0 h3 h5 h10 h11 h12 hs
      refine hK7 _ _ ?_
      refine W.seqK fun K9 hK9 => ?_
      have core : ∀ (O : LObj) (y0 : fold_Field) (a3 : Option Addr) (n3 c3 g6 : Nat) (ρ : Env) (w : World), fold_at (fold_with x e.Object) e.Object e.Field = y0 → FinO g (fold_with x e.Object) e.Object e.Field fs O →
          ρ 0 = .map (some g) → ρ 3 = .pointer (some ⟨g3, 0, none⟩) → ρ 5 = .pointer (some ⟨g5, 0, none⟩) → ρ 6 = .pointer (some ⟨g6, 0, none⟩) → ρ 10 = .slice a2 u.Effects.length c2 → ρ 11 = .int .i64 (u.Effects.length : Int) → ρ 12 = .int .i64 i →
          St ok F w [vl (tSlice t_api_Effect) u.Effects (.slice a2 u.Effects.length c2), vl t_api_Update u (.agg [.int .i64 u.Client, .int .i64 u.Seq, .int .i64 u.Tag, .slice a u.Effects.length c].toArray)]
            [own tStr 9 (.slice a3 n3 c3) y0.Elems, O, blk g6 61 (fcells y0 (.slice a3 n3 c3)), blk g5 72 (ecells e), blk g3 75 [.int .i64 u.Client, .int .i64 u.Seq, .int .i64 u.Tag, .slice a u.Effects.length c]] → K9 ρ w := by
        intro O y0 a3 n3 c3 g6 ρ w hat hO h0 h3 h5 h6 h10 h11 h12 hs
        rw [hat] at hy'
        obtain ⟨y1, ey1⟩ : ∃ y1 : fold_Field, y1 = { y0 with Name := e.Field } := ⟨_, rfl⟩
        rw [← ey1] at hy'
        have eE : y0.Elems = y1.Elems := by rw [ey1]
        have eN : y1.Name = e.Field := by rw [ey1]
        have eS : setAt (fcells y0 (.slice a3 n3 c3)) 0 [bstr e.Field] = fcells y1 (.slice a3 n3 c3) := by rw [ey1]; rfl
        rw [eE] at hs
        refine hK9 _ _ ?_
        refine W.seqK fun K10 hK10 => ?_
        refine W.region ?_
        refine WL.fieldAddr (m := 2) h5 FA72_2 rfl ?_
        refine WL.load1 (v := bstr e.Field) hs 3 rfl TI9 rfl rfl ?_
        refine WL.fieldAddr (m := 0) h6 FA61_0 rfl ?_
        refine WL.store (vs := [bstr e.Field]) (cs' := fcells y1 (.slice a3 n3 c3)) hs 2 rfl TI9 rfl rfl rfl rfl (ones_of rfl) (Nat.le_of_ble_eq_true rfl) eS (fun w hs => ?_)
        refine WL.nil ?_
        refine hK10 _ _ ?_
        clear ey1 eE eS hat
        refine W.seqK fun K11 hK11 => ?_
        -- put back
        have Jset : ∀ (y' : fold_Field) (a4 : Option Addr) (n4 c4 : Nat) (ρ : Env) (w : World), fold_upd u e y1 = some y' → y'.Name = e.Field →
            ρ 0 = .map (some g) → ρ 3 = .pointer (some ⟨g3, 0, none⟩) → ρ 5 = .pointer (some ⟨g5, 0, none⟩) → ρ 6 = .pointer (some ⟨g6, 0, none⟩) → ρ 10 = .slice a2 u.Effects.length c2 → ρ 11 = .int .i64 (u.Effects.length : Int) → ρ 12 = .int .i64 i →
            St ok F w [vl (tSlice t_api_Effect) u.Effects (.slice a2 u.Effects.length c2), vl t_api_Update u (.agg [.int .i64 u.Client, .int .i64 u.Seq, .int .i64 u.Tag, .slice a u.Effects.length c].toArray)]
              [own tStr 9 (.slice a4 n4 c4) y'.Elems, O, blk g6 61 (fcells y' (.slice a4 n4 c4)), blk g5 72 (ecells e), blk g3 75 [.int .i64 u.Client, .int .i64 u.Seq, .int .i64 u.Tag, .slice a u.Effects.length c]] → K11 ρ w := by
          intro y2 a4 n4 c4 ρ w hup hn h0 h3 h5 h6 h10 h11 h12 hs
          rw [hup] at hy'
          have hy' := Option.some.inj hy'
          subst hy'
          refine hK11 _ _ ?_
          refine W.region ?_
          refine WL.move (v := .map (some g)) h0 ?_
          refine WL.fieldAddr (m := 1) h5 FA72_1 rfl ?_
          refine WL.load1 (v := bstr e.Object) hs 3 rfl TI9 rfl rfl ?_
          have hones : ∀ u ∈ FKf.fc y2 (.slice a4 n4 c4), u.oneCell' = true := ones_of rfl
          rcases hO with ⟨h, rfl, hc1, hk, hfy, hf1, hb1⟩ | ⟨C, rfl, hnone⟩
          · have hs := hs.front 1 rfl
            refine WL.holeLook FKf (h := h) hs (kkStr UN9) UN91 rfl (by rw [hk]; rfl) ZR100 (by rw [hk]; exact hb1) ?_
            refine WL.fieldAddr (m := 2) h5 FA72_2 rfl ?_
            refine WL.load1 (v := bstr e.Field) hs 3 rfl TI9 rfl rfl ?_
            refine WL.loadN (vs := fcells y2 (.slice a4 n4 c4)) hs 2 rfl TI61 h6 rfl rfl ?_
            have hs := hs.front 1 rfl
            refine WL.bldGive (K := FKf) (h := h) (y' := y2) (v' := .slice a4 n4 c4) hs (kkStr UN9) UN100 rfl (by show _ = bstr h.y.Name; rw [← hfy]; rfl) rfl (hn.trans hfy) rfl hones (by rw [hk]; exact hb1) (fun q hq => by show h.y.Name ≠ _; rw [← hfy]; exact hf1 q hq) (fun w hs => ?_)
            refine WL.nil ?_
            have hcont := hole_cont (K := FKf) (h := h) (y' := y2) (v' := .slice a4 n4 c4) hc1 (fs := fs) (by rw [hk]; exact hfs) (hn.trans hfy) (by rw [hk]; exact hb1) (fun q hq => by show h.y.Name ≠ _; rw [← hfy]; exact hf1 q hq)
            rw [hcont] at hs
            refine Jend _ _ h0 h3 h10 h11 h12 ?_
            rw [← hx']
            have e1 : fold_set (fold_with x e.Object) e.Object y2 = mset (fold_with x e.Object) h.k (fput FKf.nm y2 fs) := by
              unfold fold_set
              rw [hfs, hk]
              rfl
            rw [e1]
            exact (hs.mask [true, false, false, true]).bldWeak
          · have hs := hs.front 1 rfl
            refine WL.bldLook FKf (k := e.Object) hs (kkStr UN9) UN91 rfl rfl ZR100 (fun hno hs => ?_) (fun fs2 gi hfs2 hs => ?_)
            · rw [hfs] at hno; cases hno
            · rw [hfs] at hfs2
              have hfs2 := Option.some.inj hfs2
              subst hfs2
              refine WL.fieldAddr (m := 2) h5 FA72_2 rfl ?_
              refine WL.load1 (v := bstr e.Field) hs 3 rfl TI9 rfl rfl ?_
              refine WL.loadN (vs := fcells y2 (.slice a4 n4 c4)) hs 2 rfl TI61 h6 rfl rfl ?_
              have hs := hs.front 1 rfl
              refine WL.bldAdd (K := FKf) (k := e.Object) (y' := y2) (v' := .slice a4 n4 c4) hs (kkStr UN9) UN100 rfl (by show _ = bstr y2.Name; rw [hn]; rfl) rfl rfl hones hfs (by rw [show (fun q => FKf.nm y2 == FKf.nm q) = (fun q : fold_Field => e.Field == q.Name) from funext fun q => by show (y2.Name == q.Name) = _; rw [hn]]; exact hnone) (fun w hs => ?_)
              refine WL.nil ?_
              refine Jend _ _ h0 h3 h10 h11 h12 ?_
              rw [← hx']
              have e1 : fold_set (fold_with x e.Object) e.Object y2 = mset (fold_with x e.Object) e.Object (fput FKf.nm y2 fs) := by
                unfold fold_set
                rw [hfs]
                rfl
              rw [e1]
              exact (hs.mask [true, false, false, true]).bldWeak
        refine W.seqK fun K12 hK12 => ?_
        refine W.region ?_
        refine WL.fieldAddr (m := 0) h5 FA72_0 rfl ?_
        refine WL.load1 (v := .int .i64 e.Kind) hs 3 rfl TI3 rfl rfl ?_
        refine WL.nil ?_
        refine hK12 _ _ ?_
        refine W.block ?_
        have hup := hy'
        unfold fold_upd at hup
        refine W.seqK fun K13 hK13 => ?_
        refine W.region ?_
        refine WL.bin (v := .bool (e.Kind == 1)) rfl rfl (ib_eql _ _ _) ?_
        refine WL.assign (v := .bool (e.Kind == 1)) rfl ?_
        refine WL.nil ?_
        refine hK13 _ _ ?_
        rcases iteE hup with ⟨hk1, hup⟩ | ⟨hk1, hup⟩
        · refine W.cond_true (bool_tr rfl hk1) ?_
          obtain ⟨b, hb, hup⟩ := bindE hup
          refine W.seqK fun K14 hK14 => ?_
          refine W.region ?_
          refine WL.loadAll hs 4 rfl TI75 h3 rfl ?_
          refine WL.fieldAddr (m := 1) h6 FA61_1 rfl ?_
          refine WL.loadN (vs := rcells y1.Register) hs 2 rfl TI58 rfl rfl rfl ?_
          refine WL.call (vs := [.agg [.int .i64 u.Client, .int .i64 u.Seq, .int .i64 u.Tag, .slice a u.Effects.length c].toArray, .agg (rcells y1.Register).toArray]) hs FN57 ⟨rfl, rfl, trivial⟩ (fun ok hA => fold_newer.calls (x1 := u) (x5 := y1.Register) hb (hA.get 1 rfl) (V_agg (regR ok _ _) rfl)) ?_
          rintro _ w hs
          refine WL.nil ?_
          refine hK14 _ _ ?_
          cases b with
          | true =>
            refine W.cond_true rfl ?_
            refine W.region ?_
            refine WL.fieldAddr (m := 2) h3 FA75_2 rfl ?_
            refine WL.load1 (v := .int .i64 u.Tag) hs 4 rfl TI3 rfl rfl ?_
            refine WL.fieldAddr (m := 0) h3 FA75_0 rfl ?_
            refine WL.load1 (v := .int .i64 u.Client) hs 4 rfl TI3 rfl rfl ?_
            refine WL.fieldAddr (m := 1) h3 FA75_1 rfl ?_
            refine WL.load1 (v := .int .i64 u.Seq) hs 4 rfl TI3 rfl rfl ?_
            refine WL.fieldAddr (m := 3) h5 FA72_3 rfl ?_
            refine WL.load1 (v := .int .i64 e.N) hs 3 rfl TI2 rfl rfl ?_
            refine WL.fieldAddr (m := 4) h5 FA72_4 rfl ?_
            refine WL.load1 (v := bstr e.S) hs 3 rfl TI9 rfl rfl ?_
            refine WL.build (vs := [(0, .bool true), (1, .int .i64 u.Tag), (2, .int .i64 u.Client), (3, .int .i64 u.Seq), (4, .int .i64 e.N), (5, bstr e.S)]) (cs := rcells ⟨true, u.Tag, u.Client, u.Seq, e.N, e.S⟩) ⟨⟨rfl, rfl⟩, ⟨rfl, rfl⟩, ⟨rfl, rfl⟩, ⟨rfl, rfl⟩, ⟨rfl, rfl⟩, ⟨rfl, rfl⟩, trivial⟩ (bld PL58 rfl) ?_
            refine WL.fieldAddr (m := 1) h6 FA61_1 rfl ?_
            refine WL.store (vs := rcells ⟨true, u.Tag, u.Client, u.Seq, e.N, e.S⟩) (cs' := fcells { y1 with Register := ⟨true, u.Tag, u.Client, u.Seq, e.N, e.S⟩ } (.slice a3 n3 c3)) hs 2 rfl TI58 rfl rfl rfl rfl (ones_of rfl) (Nat.le_of_ble_eq_true rfl) rfl (fun w hs => ?_)
            refine WL.nil ?_
            have hup := Option.some.inj hup
            subst hup
            exact Jset _ a3 n3 c3 _ _ hy' eN h0 h3 h5 h6 h10 h11 h12 hs
          | false =>
            refine W.cond_false rfl ?_
            refine W.skip ?_
            have hup := Option.some.inj hup
            subst hup
            exact Jset _ a3 n3 c3 _ _ hy' eN h0 h3 h5 h6 h10 h11 h12 hs
        · refine W.cond_false (bool_tr rfl hk1) ?_
          refine W.seqK fun K15 hK15 => ?_
          refine W.region ?_
          refine WL.bin (v := .bool (e.Kind == 2)) rfl rfl (ib_eql _ _ _) ?_
          refine WL.assign (v := .bool (e.Kind == 2)) rfl ?_
          refine WL.nil ?_
          refine hK15 _ _ ?_
          rcases iteE hup with ⟨hk2, hup⟩ | ⟨hk2, hup⟩
          · refine W.cond_true (bool_tr rfl hk2) ?_
            refine W.seqK fun K16 hK16 => ?_
            have J16 : ∀ (ρ : Env) (w : World), some { y1 with HasMax := true, Max := e.N } = some y' → ρ 66 = .bool true → ρ 0 = .map (some g) → ρ 3 = .pointer (some ⟨g3, 0, none⟩) → ρ 5 = .pointer (some ⟨g5, 0, none⟩) → ρ 6 = .pointer (some ⟨g6, 0, none⟩) → ρ 10 = .slice a2 u.Effects.length c2 → ρ 11 = .int .i64 (u.Effects.length : Int) → ρ 12 = .int .i64 i →
                St ok F w [vl (tSlice t_api_Effect) u.Effects (.slice a2 u.Effects.length c2), vl t_api_Update u (.agg [.int .i64 u.Client, .int .i64 u.Seq, .int .i64 u.Tag, .slice a u.Effects.length c].toArray)] [own tStr 9 (.slice a3 n3 c3) y1.Elems, O, blk g6 61 (fcells y1 (.slice a3 n3 c3)), blk g5 72 (ecells e), blk g3 75 [.int .i64 u.Client, .int .i64 u.Seq, .int .i64 u.Tag, .slice a u.Effects.length c]] → K16 ρ w := by
              intro ρ w hup h66 h0 h3 h5 h6 h10 h11 h12 hs
              refine hK16 _ _ ?_
              refine W.cond_true h66 ?_
              have hs := hs.front 2 rfl
              refine W.any (by kernel_rfl) 4 2 [true, true, true, true, false, false] rfl rfl (poAt [pv (.pointer (some ⟨g5, 3, none⟩)), pv (.int .i64 e.N), pv (.pointer (some ⟨g6, 7, none⟩)), pw (blk g6 61 (fcells y1 (.slice a3 n3 c3))) (blk g6 61 (fcells { y1 with HasMax := true } (.slice a3 n3 c3)))])
                (Λ := [own tStr 9 (.slice a3 n3 c3) y1.Elems, O, blk g5 72 (ecells e), blk g3 75 [.int .i64 u.Client, .int .i64 u.Seq, .int .i64 u.Tag, .slice a u.Effects.length c]]) hs (by kernel_rfl) (by kernel_rfl) (by kernel_rfl) ⟨⟨⟨⟨trivial, ?_⟩, ?_⟩, ?_⟩, ?_⟩ ?_
              · intro ρ w Γx Λx hs hu hp
                refine WL.fieldAddr (m := 3) ((hu 5 rfl).trans h5) FA72_3 rfl ?_
                exact WL.nil ⟨rfl, _, rfl, rfl, hs.cutG 0 0⟩
              · intro ρ w Γx Λx hs hu hp
                have e1 : ρ 67 = .pointer (some ⟨g5, 3, none⟩) := (hp 0 rfl).1
                refine WL.load1 (v := .int .i64 e.N) hs (Λx.length + 2) (getApp rfl) TI2 e1 rfl ?_
                exact WL.nil ⟨rfl, _, rfl, rfl, hs.cutG 0 0⟩
              · intro ρ w Γx Λx hs hu hp
                refine WL.fieldAddr (m := 7) ((hu 6 rfl).trans h6) FA61_2 rfl ?_
                exact WL.nil ⟨rfl, _, rfl, rfl, hs.cutG 0 0⟩
              · intro ρ w Γx Λx hs hu hp
                have e1 : ρ 69 = .pointer (some ⟨g6, 7, none⟩) := (hp 2 rfl).1
                refine WL.store (vs := [.bool true]) (cs' := fcells { y1 with HasMax := true } (.slice a3 n3 c3)) hs (Λx.length + 0) (getApp rfl) TI4 e1 rfl rfl rfl (ones_of rfl) (Nat.le_of_ble_eq_true rfl) rfl (fun w hs => ?_)
                exact WL.nil ⟨rfl, _, rfl, trivial, hs.backP.cutG 0 0⟩
              · intro ρ w hs hu hp
                obtain ⟨⟨⟨⟨_, hp0⟩, hp1⟩, hp2⟩, hp3⟩ := hp
                have hs : St ok F w [vl (tSlice t_api_Effect) u.Effects (.slice a2 u.Effects.length c2), vl t_api_Update u (.agg [.int .i64 u.Client, .int .i64 u.Seq, .int .i64 u.Tag, .slice a u.Effects.length c].toArray)] [blk g6 61 (fcells { y1 with HasMax := true } (.slice a3 n3 c3)), own tStr 9 (.slice a3 n3 c3) y1.Elems, O, blk g5 72 (ecells e), blk g3 75 [.int .i64 u.Client, .int .i64 u.Seq, .int .i64 u.Tag, .slice a u.Effects.length c]] := hs
                have e1 : ρ 68 = .int .i64 e.N := hp1
                refine WA.step [4] (by kernel_rfl) (by simp) ⟨?_, trivial⟩
                refine WL.fieldAddr (m := 8) ((hu 6 rfl).trans h6) FA61_3 rfl ?_
                refine WL.nil ⟨rfl, _, rfl, ?_⟩
                refine WA.step [5] (by kernel_rfl) (by simp) ⟨?_, trivial⟩
                refine WL.store (vs := [.int .i64 e.N]) (cs' := fcells { y1 with HasMax := true, Max := e.N } (.slice a3 n3 c3)) hs 0 rfl TI2 rfl e1 rfl rfl (ones_of rfl) (Nat.le_of_ble_eq_true rfl) rfl (fun w hs => ?_)
                refine WL.nil ⟨rfl, _, rfl, ?_⟩
                refine WA.done (by kernel_rfl) ?_
                have hup := Option.some.inj hup
                subst hup
                exact Jset _ a3 n3 c3 _ _ hy' eN ((hu 0 rfl).trans h0) ((hu 3 rfl).trans h3) ((hu 5 rfl).trans h5) ((hu 6 rfl).trans h6) ((hu 10 rfl).trans h10) ((hu 11 rfl).trans h11) ((hu 12 rfl).trans h12) ((hs.front 2 rfl).front 2 rfl)
            refine W.region ?_
            refine WL.fieldAddr (m := 7) h6 FA61_2 rfl ?_
            refine WL.load1 (v := .bool y1.HasMax) hs 2 rfl TI4 rfl rfl ?_
            refine WL.not rfl ?_
            refine WL.move (v := .bool (!y1.HasMax)) rfl ?_
            rcases iteE hup with ⟨hm, hup⟩ | ⟨hm, hup⟩
            · refine WL.pass ((wanted_of rfl rfl (bool_tr rfl hm)).trans rfl) rfl ?_
              refine WL.pass ((wanted_of rfl rfl (bool_tr rfl hm)).trans rfl) rfl ?_
              refine WL.pass ((wanted_of rfl rfl (bool_tr rfl hm)).trans rfl) rfl ?_
              refine WL.pass ((wanted_of rfl rfl (bool_tr rfl hm)).trans rfl) rfl ?_
              refine WL.pass ((wanted_of rfl rfl (bool_tr rfl hm)).trans rfl) rfl ?_
              refine WL.pickT (v := .bool true) (bool_tr rfl hm) rfl ?_
              refine WL.nil ?_
              exact J16 _ _ hup rfl h0 h3 h5 h6 h10 h11 h12 hs
            · refine WL.fieldAddr (m := 8) h6 FA61_3 rfl ?_ (hg := (wanted_of rfl rfl (bool_tr rfl hm)).trans rfl)
              refine WL.load1 (v := .int .i64 y1.Max) hs 2 rfl TI2 rfl rfl ?_ (hg := (wanted_of rfl rfl (bool_tr rfl hm)).trans rfl)
              refine WL.fieldAddr (m := 3) h5 FA72_3 rfl ?_ (hg := (wanted_of rfl rfl (bool_tr rfl hm)).trans rfl)
              refine WL.load1 (v := .int .i64 e.N) hs 3 rfl TI2 rfl rfl ?_ (hg := (wanted_of rfl rfl (bool_tr rfl hm)).trans rfl)
              refine WL.bin (v := .bool (decide (y1.Max < e.N))) rfl rfl (ib_lss _ _ _) ?_ (hg := (wanted_of rfl rfl (bool_tr rfl hm)).trans rfl)
              refine WL.pickF (v := .bool (decide (y1.Max < e.N))) (bool_tr rfl hm) rfl ?_
              refine WL.nil ?_
              rcases iteE hup with ⟨hm2, hup⟩ | ⟨hm2, hup⟩
              · exact J16 _ _ hup (bool_tr rfl hm2) h0 h3 h5 h6 h10 h11 h12 hs
              · refine hK16 _ _ ?_
                refine W.cond_false (bool_tr rfl hm2) ?_
                refine W.skip ?_
                have hup := Option.some.inj hup
                subst hup
                exact Jset _ a3 n3 c3 _ _ hy' eN h0 h3 h5 h6 h10 h11 h12 hs
          · refine W.cond_false (bool_tr rfl hk2) ?_
            refine W.seqK fun K17 hK17 => ?_
            refine W.region ?_
            refine WL.bin (v := .bool (e.Kind == 3)) rfl rfl (ib_eql _ _ _) ?_
            refine WL.assign (v := .bool (e.Kind == 3)) rfl ?_
            refine WL.nil ?_
            refine hK17 _ _ ?_
            rcases iteE hup with ⟨hk3, hup⟩ | ⟨hk3, hup⟩
            · refine W.cond_true (bool_tr rfl hk3) ?_
              refine W.region ?_
              refine WL.fieldAddr (m := 9) h6 FA61_4 rfl ?_
              refine WL.load1 (v := .int .i64 y1.Sum) hs 2 rfl TI2 rfl rfl ?_
              refine WL.fieldAddr (m := 3) h5 FA72_3 rfl ?_
              refine WL.load1 (v := .int .i64 e.N) hs 3 rfl TI2 rfl rfl ?_
              refine WL.bin (v := .int .i64 (IntKind.i64.wrap (y1.Sum + e.N))) rfl rfl (ib_add _ _ _) ?_
              refine WL.fieldAddr (m := 9) h6 FA61_4 rfl ?_
              refine WL.store (vs := [.int .i64 (IntKind.i64.wrap (y1.Sum + e.N))]) (cs' := fcells { y1 with Sum := IntKind.i64.wrap (y1.Sum + e.N) } (.slice a3 n3 c3)) hs 2 rfl TI2 rfl rfl rfl rfl (ones_of rfl) (Nat.le_of_ble_eq_true rfl) rfl (fun w hs => ?_)
              refine WL.nil ?_
              have hup := Option.some.inj hup
              subst hup
              exact Jset _ a3 n3 c3 _ _ hy' eN h0 h3 h5 h6 h10 h11 h12 hs
            · refine W.cond_false (bool_tr rfl hk3) ?_
              refine W.seqK fun K18 hK18 => ?_
              refine W.region ?_
              refine WL.bin (v := .bool (e.Kind == 4)) rfl rfl (ib_eql _ _ _) ?_
              refine WL.assign (v := .bool (e.Kind == 4)) rfl ?_
              refine WL.nil ?_
              refine hK18 _ _ ?_
              rcases iteE hup with ⟨hk4, hup⟩ | ⟨hk4, hup⟩
              · refine W.cond_true (bool_tr rfl hk4) ?_
                obtain ⟨l, hlO, hup⟩ := bindE hup
                unfold insO at hlO
                obtain ⟨⟨hasc, hlen⟩, hlO⟩ := guardE hlO
                have hlO := Option.some.inj hlO
                have hup := Option.some.inj hup
                subst hup
                have hns := insS_pos y1.Elems e.S
                refine W.seqK fun K19 hK19 => ?_
                refine W.region ?_
                refine WL.fieldAddr (m := 10) h6 FA61_5 rfl ?_
                refine WL.load1 (v := .slice a3 n3 c3) hs 2 rfl TI59 rfl rfl ?_
                refine WL.fieldAddr (m := 4) h5 FA72_4 rfl ?_
                refine WL.load1 (v := bstr e.S) hs 3 rfl TI9 rfl rfl ?_
                refine WL.callR (vs := [.slice a3 n3 c3, bstr e.S]) (R := fun v w' => v = .tuple ([.int .i64 (posS y1.Elems e.S : Nat), .bool (decide (posS y1.Elems e.S < y1.Elems.length ∧ y1.Elems.getD (posS y1.Elems e.S) e.S = e.S))] : List Value).toArray ∧ St ok F w' [vl (tSlice t_api_Effect) u.Effects (.slice a2 u.Effects.length c2), vl t_api_Update u (.agg [.int .i64 u.Client, .int .i64 u.Seq, .int .i64 u.Tag, .slice a u.Effects.length c].toArray)] [own tStr 9 (.slice a3 n3 c3) y1.Elems, O, blk g6 61 (fcells y1 (.slice a3 n3 c3)), blk g5 72 (ecells e), blk g3 75 [.int .i64 u.Client, .int .i64 u.Seq, .int .i64 u.Tag, .slice a u.Effects.length c]])
                  FN58 ⟨rfl, rfl, trivial⟩ ((bsearch_own lay_bs (s := e.S) hs 0 rfl hasc (by omega)).mono (by rintro e' w' ⟨rfl, q, rfl⟩; exact ⟨_, rfl, rfl, hs.drewN q⟩)) ?_
                rintro _ w ⟨rfl, hs⟩
                refine WL.move rfl ?_
                refine WL.extract rfl rfl ?_
                refine WL.extract rfl rfl ?_
                refine WL.assign (v := .int .i64 (posS y1.Elems e.S : Nat)) rfl ?_
                refine WL.assign (v := .bool (decide (posS y1.Elems e.S < y1.Elems.length ∧ y1.Elems.getD (posS y1.Elems e.S) e.S = e.S))) rfl ?_
                refine WL.nil ?_
                refine hK19 _ _ ?_
                refine W.seqK fun K20 hK20 => ?_
                refine W.region ?_
                refine WL.move (v := .bool (decide (posS y1.Elems e.S < y1.Elems.length ∧ y1.Elems.getD (posS y1.Elems e.S) e.S = e.S))) rfl ?_
                refine WL.not rfl ?_
                refine WL.nil ?_
                refine hK20 _ _ ?_
                by_cases hfd : posS y1.Elems e.S < y1.Elems.length ∧ y1.Elems.getD (posS y1.Elems e.S) e.S = e.S
                · rw [if_pos hfd, hlO] at hns
                  refine W.cond_false (bool_tr rfl (by rw [decide_eq_true hfd]; rfl)) ?_
                  refine W.skip ?_
                  exact Jset _ a3 n3 c3 _ _ hy' eN h0 h3 h5 h6 h10 h11 h12 (by rw [hns]; exact hs)
                · rw [if_neg hfd, hlO] at hns
                  refine W.cond_true (bool_tr rfl (by rw [decide_eq_false hfd]; rfl)) ?_
                  refine W.region ?_
                  refine WL.fieldAddr (m := 10) h6 FA61_5 rfl ?_
                  refine WL.load1 (v := .slice a3 n3 c3) hs 2 rfl TI59 rfl rfl ?_
                  refine WL.move (v := .int .i64 (posS y1.Elems e.S : Nat)) rfl ?_
                  refine WL.fieldAddr (m := 4) h5 FA72_4 rfl ?_
                  refine WL.load1 (v := bstr e.S) hs 3 rfl TI9 rfl rfl ?_
                  refine WL.buildSlice (n := 1) (vs := [(0, bstr e.S)]) (cs := [bstr e.S]) hs ⟨⟨rfl, rfl⟩, trivial⟩ (bls PS59 (by decide) rfl) (fun gl w hs => ?_)
                  refine WL.callR (vs := [.slice a3 n3 c3, .int .i64 (posS y1.Elems e.S : Nat), .slice (some ⟨gl, 0, none⟩) 1 1]) (R := fun v w' => St ok F w' [vl (tSlice t_api_Effect) u.Effects (.slice a2 u.Effects.length c2), vl t_api_Update u (.agg [.int .i64 u.Client, .int .i64 u.Seq, .int .i64 u.Tag, .slice a u.Effects.length c].toArray)] [own tStr 9 v l, O, blk g6 61 (fcells y1 (.slice a3 n3 c3)), blk g5 72 (ecells e), blk g3 75 [.int .i64 u.Client, .int .i64 u.Seq, .int .i64 u.Tag, .slice a u.Effects.length c]])
                    FN59 ⟨rfl, rfl, rfl, trivial⟩ ((insert_own lay_ins rfl (s := e.S) (k := posS y1.Elems e.S) hs 0 rfl (posS_le _ _) (by omega)).mono (by rintro e' w' ⟨v', rfl, hs'⟩; refine ⟨v', rfl, ?_⟩; rw [hns]; exact hs')) ?_
                  rintro v w hs
                  obtain ⟨a4, n4, c4, rfl⟩ := hs.ownv3 0 rfl
                  refine WL.fieldAddr (m := 10) h6 FA61_5 rfl ?_
                  refine WL.store (vs := [.slice a4 n4 c4]) (cs' := fcells { y1 with Elems := l } (.slice a4 n4 c4)) hs 2 rfl TI59 rfl rfl rfl rfl (ones_of rfl) (Nat.le_of_ble_eq_true rfl) rfl (fun w hs => ?_)
                  refine WL.nil ?_
                  exact Jset _ a4 n4 c4 _ _ hy' eN h0 h3 h5 h6 h10 h11 h12 hs
              · refine W.cond_false (bool_tr rfl hk4) ?_
                refine W.seqK fun K21 hK21 => ?_
                refine W.region ?_
                refine WL.bin (v := .bool (e.Kind == 5)) rfl rfl (ib_eql _ _ _) ?_
                refine WL.assign (v := .bool (e.Kind == 5)) rfl ?_
                refine WL.nil ?_
                refine hK21 _ _ ?_
                rcases iteE hup with ⟨hk5, hup⟩ | ⟨hk5, hup⟩
                · refine W.cond_true (bool_tr rfl hk5) ?_
                  refine W.region ?_
                  refine WL.fieldAddr (m := 11) h6 FA61_6 rfl ?_
                  refine WL.store (vs := [.bool true]) (cs' := fcells { y1 with Flag := true } (.slice a3 n3 c3)) hs 2 rfl TI4 rfl rfl rfl rfl (ones_of rfl) (Nat.le_of_ble_eq_true rfl) rfl (fun w hs => ?_)
                  refine WL.nil ?_
                  have hup := Option.some.inj hup
                  subst hup
                  exact Jset _ a3 n3 c3 _ _ hy' eN h0 h3 h5 h6 h10 h11 h12 hs
                · refine W.cond_false (bool_tr rfl hk5) ?_
                  refine W.skip ?_
                  have hup := Option.some.inj hup
                  subst hup
                  exact Jset _ a3 n3 c3 _ _ hy' eN h0 h3 h5 h6 h10 h11 h12 hs
      refine W.region ?_
      refine WL.move (v := .map (some g)) h0 ?_
      refine WL.fieldAddr (m := 1) h5 FA72_1 rfl ?_
      refine WL.load1 (v := bstr e.Object) hs 1 rfl TI9 rfl rfl ?_
      refine WL.bldLook FKf (k := e.Object) hs (kkStr UN9) UN91 rfl rfl ZR100 (fun hno hs => ?_) (fun fs2 gi hfs2 hs => ?_)
      · rw [hfs] at hno; cases hno
      · rw [hfs] at hfs2
        have hfs2 := Option.some.inj hfs2
        subst hfs2
        refine WL.fieldAddr (m := 2) h5 FA72_2 rfl ?_
        refine WL.load1 (v := bstr e.Field) hs 1 rfl TI9 rfl rfl ?_
        refine WL.bldTake (K := FKf) (k := e.Object) (f := e.Field) (z := fcells fold_zero (.slice none 0 0)) hs (kkStr UN9) UN100 rfl rfl ZR61 rfl (ones_of rfl) hfs (fun hn hs => ?_) (fun h hy hx hk hgi hfe hf1 hb1 hs => ?_)
        · have hs := hs.ownNil tStr 9
          refine WL.alloc hs ZV61 (fun g6 w hs => ?_)
          refine WL.storeAll (vs := fcells fold_zero (.slice none 0 0)) hs 0 rfl TI61 rfl rfl rfl rfl (ones_of rfl) rfl (fun w hs => ?_)
          refine WL.nil ?_
          refine core _ fold_zero none 0 0 g6 _ _ ?_ (.inr ⟨_, rfl, hn⟩) h0 h3 h5 rfl h10 h11 h12 ((hs.front 2 rfl).front 2 rfl)
          unfold fold_at
          rw [hfs]
          show (fs.find? _).getD _ = _
          have hn' : fs.find? (fun q => e.Field == q.Name) = none := hn
          rw [hn']
          rfl
        · obtain ⟨a3, n3, c3, hv⟩ := hs.ownv3 0 rfl
          rw [hv] at hs ⊢
          refine WL.alloc hs ZV61 (fun g6 w hs => ?_)
          refine WL.storeAll (vs := fcells h.y (.slice a3 n3 c3)) hs 0 rfl TI61 rfl rfl rfl rfl (ones_of rfl) rfl (fun w hs => ?_)
          refine WL.nil ?_
          refine core _ h.y a3 n3 c3 g6 _ _ ?_ (.inl ⟨h, rfl, hx, hk, hfe, hf1, hb1⟩) h0 h3 h5 rfl h10 h11 h12 ((hs.front 2 rfl).front 2 rfl)
          unfold fold_at
          rw [hfs]
          show (fs.find? _).getD _ = _
          have hy2 : fs.find? (fun q => e.Field == q.Name) = some h.y := hy
          rw [hy2]
          rfl
    refine W.seqK fun K8 hK8 => ?_
    refine W.region ?_
    refine WL.move (v := .map (some g)) h0 ?_
    refine WL.fieldAddr (m := 1) rfl FA72_1 rfl ?_
    refine WL.load1 (v := bstr e.Object) hs 1 rfl TI9 rfl rfl ?_
    refine WL.bldLook FKf (k := e.Object) hs (kkStr UN9) UN91 rfl rfl ZR100 (fun hno hs => ?_) (fun fs2 gi hfs2 hs => ?_)
    · refine WL.nilEqM UN100 rfl ?_
      refine WL.nil ?_
      refine hK8 _ _ ?_
      refine W.cond_true rfl ?_
      refine W.region ?_
      refine WL.move (v := .map (some g)) h0 ?_
      refine WL.fieldAddr (m := 1) rfl FA72_1 rfl ?_
      refine WL.load1 (v := bstr e.Object) hs 1 rfl TI9 rfl rfl ?_
      refine WL.makeMap bstr (tRaw FKf.n) hs (fun gi w hs => ?_)
      refine WL.bldPut (K := FKf) (k := e.Object) hs (kkStr UN9) UN91 rfl rfl rfl hno (fun w hs => ?_)
      refine WL.nil ?_
      refine Jin (At e.Object gi) _ _ h0 h3 rfl h10 h11 h12 ?_
      have e1 : fold_with x e.Object = x ++ [(e.Object, [])] := by
        unfold fold_with
        rw [hno]
        rfl
      rw [e1]
      exact hs
    · refine WL.nilEqM UN100 rfl ?_
      refine WL.nil ?_
      refine hK8 _ _ ?_
      refine W.cond_false rfl ?_
      refine W.skip ?_
      refine Jin (At e.Object gi) _ _ h0 h3 rfl h10 h11 h12 ?_
      have e1 : fold_with x e.Object = x := by
        unfold fold_with
        rw [hfs2]
        rfl
      rw [e1]
      exact hs
  · refine W.cond_false (bool_tr rfl hc) ?_
    refine W.exit ?_
    have hr := Option.some.inj hf; subst hr
    have hr := hbb _ rfl; subst hr
    exact ⟨_, resOk_none rfl, (), rfl, (hs.mask [true]).pick []⟩
/-! load -/
theorem fold_load.calls {ok : Nat → Prop} {w0 : World} {t : fold_Store} {vt : Value} {r : fold_B} (hf : fold_load t = some r) (i0 : (vl t_fold_Store t vt).holds ok w0) :
    Calls Try.prog 51 #[vt] w0 fun e w' => ∃ v, e = .returned v ∧ ∃ g : Nat, v = .map (some g) ∧ St ok (bz w0) w' [] [bldo FKf g r] := by
  unfold fold_load at hf
  have hs : St ok (bz w0) w0 [vl t_fold_Store t vt] [] := St.init (All.cons i0 All.nil)
  clear i0
  obtain ⟨cs, hl, rfl⟩ := hs.aggv (n := 1) 0 rfl rfl rfl
  refine calls_of_W (fn := Try.f51) (N := 40) Try.func51 rfl Try.ntmps51 rfl ?_
  refine W.seqK fun K1 hK1 => ?_
  refine W.region ?_
  refine WL.box (vs := cs) hs rfl rfl (fun g1 w hs => ?_)
  refine WL.assign (v := .map none) rfl ?_
  refine WL.nil ?_
  refine hK1 _ _ ?_
  refine W.seqK fun K2 hK2 => ?_
  refine W.region ?_
  refine WL.makeMap bstr tCell hs (fun g w hs => ?_)
  refine WL.assign (v := .map (some g)) rfl ?_
  refine WL.nil ?_
  refine hK2 _ _ ?_
  have hs := St.bldClose (K := FKf) (g := g) (b := []) (C := fun _ => True) hs trivial rfl
  refine W.seqK fun K3 hK3 => ?_
  have Jret : ∀ (ρ : Env) (w : World), ρ 3 = .map (some g) → St ok (bz w0) w [vl (tSlice t_fold_Object) t.Objects (.slice none 0 0)] [bldo FKf g r] ∨ St ok (bz w0) w [] [bldo FKf g r] → K3 ρ w := by
    intro ρ w h3 hs
    have hs : St ok (bz w0) w [] [bldo FKf g r] := hs.elim (fun h => h.pick []) id
    refine hK3 _ _ ?_
    refine W.seqK fun K4 hK4 => ?_
    refine W.region ?_
    refine WL.move (v := .map (some g)) h3 ?_
    refine WL.assign (v := .map (some g)) rfl ?_
    refine WL.nil ?_
    refine hK4 _ _ ?_
    refine W.ret ?_
    exact ⟨_, resOk_one rfl rfl, g, rfl, hs⟩
  refine W.seqK fun K4 hK4 => ?_
  refine W.region ?_
  refine WL.fieldAddr (m := 0) rfl FA50_0 rfl ?_
  refine WL.loadF (z := t.Objects) F_fold_Store_Objects hs 1 rfl 0 rfl rfl TI48 (.inr rfl) rfl rfl (fun v hs => ?_)
  obtain ⟨a2, c2, rfl⟩ := hs.slice 0 rfl
  refine WL.len (v := .slice a2 t.Objects.length c2) rfl (len_slice UN48) ?_
  refine WL.move (v := .int .i64 0) rfl ?_
  refine WL.nil ?_
  refine hK4 _ _ ?_
  refine W.block ?_
  refine W.loop (σ := Int × fold_B) hf (fun s ρ w => match s with | (i, x) => ρ 3 = .map (some g) ∧ ρ 11 = .slice a2 t.Objects.length c2 ∧ ρ 12 = .int .i64 (t.Objects.length : Int) ∧ ρ 13 = .int .i64 i ∧ St ok (bz w0) w [vl (tSlice t_fold_Object) t.Objects (.slice a2 t.Objects.length c2)] [bldo FKf g x]) ⟨rfl, rfl, rfl, rfl, (hs.mask [true]).pick [0]⟩ ?_
  intro s ρ w o hI hf hbb
  obtain ⟨i, x⟩ := s
  obtain ⟨h3, h11, h12, h13, hs⟩ := hI
  unfold fold_load.l2 at hf
  refine W.seqK fun K5 hK5 => ?_
  refine W.region ?_
  refine WL.bin (v := .bool (decide (i < (t.Objects.length : Int)))) h13 h12 (ib_lss _ _ _) ?_
  refine WL.nil ?_
  refine hK5 _ _ ?_
  refine W.seqK fun K6 hK6 => ?_
  rcases iteE hf with ⟨hc, hf⟩ | ⟨hc, hf⟩
  · refine W.cond_true (bool_tr rfl hc) ?_
    refine W.skip ?_
    refine hK6 _ _ ?_
    obtain ⟨ob, hob, hf⟩ := bindE hf
    obtain ⟨fs, hfs, hf⟩ := bindE hf
    refine W.seqK fun K7 hK7 => ?_
    have Jend : ∀ (ρ : Env) (w : World), ρ 3 = .map (some g) → ρ 11 = .slice a2 t.Objects.length c2 → ρ 12 = .int .i64 (t.Objects.length : Int) → ρ 13 = .int .i64 i → St ok (bz w0) w [vl (tSlice t_fold_Object) t.Objects (.slice a2 t.Objects.length c2)] [bldo FKf g (mset x ob.Name fs)] → K7 ρ w := by
      intro ρ w h3 h11 h12 h13 hs
      refine hK7 _ _ ?_
      refine W.region ?_
      obtain ⟨j, ej, hf⟩ := letE hf
      refine WL.bin (v := .int .i64 j) h13 rfl (ib_as ej (ib_add _ _ _)) ?_
      refine WL.move (v := .int .i64 j) rfl ?_
      refine WL.nil ?_
      exact ⟨_, (Option.some.inj hf).symm, h3, h11, h12, rfl, hs⟩
    refine W.block ?_
    refine W.seqK fun K8 hK8 => ?_
    refine W.region ?_
    refine WL.indexAddr hs 0 rfl UN48 TI65 h11 h13 hob (fun ad hs => ?_)
    refine WL.loadP hs 0 rfl TI65 (.inl rfl) rfl (fun v hs => ?_)
    obtain ⟨os, hlo, rfl⟩ := hs.aggv (n := 2) 0 rfl rfl rfl
    obtain ⟨a3, c3, rfl⟩ := open_fold_Object hs 0 rfl
    refine WL.alloc hs ZV65 (fun g5 w hs => ?_)
    refine WL.storeAll (vs := [bstr ob.Name, .slice a3 ob.Fields.length c3]) hs 0 rfl TI65 rfl rfl rfl rfl (ones_of rfl) rfl (fun w hs => ?_)
    refine WL.nil ?_
    refine hK8 _ _ ?_
    refine W.seqK fun K9 hK9 => ?_
    refine W.region ?_
    refine WL.makeMap bstr (tRaw FKf.n) hs (fun gi w hs => ?_)
    refine WL.assign (v := .map (some gi)) rfl ?_
    refine WL.nil ?_
    refine hK9 _ _ ?_
    have hs := St.innClose (K := FKf) (gi := gi) (fs := []) (l := []) hs rfl
    refine W.seqK fun K10 hK10 => ?_
    have Jput : ∀ (ρ : Env) (w : World), ρ 3 = .map (some g) → ρ 5 = .pointer (some ⟨g5, 0, none⟩) → ρ 6 = .map (some gi) → ρ 11 = .slice a2 t.Objects.length c2 → ρ 12 = .int .i64 (t.Objects.length : Int) → ρ 13 = .int .i64 i →
        St ok (bz w0) w [vl (tSlice t_fold_Object) t.Objects (.slice a2 t.Objects.length c2)] [inno FKf gi fs, bldo FKf g x, blk g5 65 [bstr ob.Name, .slice a3 ob.Fields.length c3]] → K10 ρ w := by
      intro ρ w h3 h5 h6 h11 h12 h13 hs
      refine hK10 _ _ ?_
      refine W.region ?_
      refine WL.move (v := .map (some g)) h3 ?_
      refine WL.fieldAddr (m := 0) h5 FA65_0 rfl ?_
      refine WL.load1 (v := bstr ob.Name) hs 2 rfl TI9 rfl rfl ?_
      refine WL.move (v := .map (some gi)) h6 ?_
      refine WL.bldAttach FKf (k := ob.Name) hs (kkStr UN9) UN91 rfl rfl rfl (fun w hs => ?_)
      refine WL.nil ?_
      exact Jend _ _ h3 h11 h12 h13 (hs.mask [true])
    refine W.seqK fun K11 hK11 => ?_
    refine W.region ?_
    refine WL.fieldAddr (m := 1) rfl FA65_1 rfl ?_
    refine WL.loadF (z := ob.Fields) F_fold_Object_Fields hs 1 rfl 0 rfl rfl TI63 (.inr rfl) rfl rfl (fun v hs => ?_)
    obtain ⟨a4, c4, rfl⟩ := hs.slice 0 rfl
    refine WL.len (v := .slice a4 ob.Fields.length c4) rfl (len_slice UN63) ?_
    refine WL.move (v := .int .i64 0) rfl ?_
    refine WL.nil ?_
    refine hK11 _ _ ?_
    refine W.block ?_
    have hs := (hs.front 2 rfl).pick [0, 3]
    have hs := hs.front 1 rfl
    refine W.loop (σ := Int × List fold_Field) hfs (fun s ρ w => match s with | (k, fs) => ρ 3 = .map (some g) ∧ ρ 5 = .pointer (some ⟨g5, 0, none⟩) ∧ ρ 6 = .map (some gi) ∧ ρ 11 = .slice a2 t.Objects.length c2 ∧ ρ 12 = .int .i64 (t.Objects.length : Int) ∧ ρ 13 = .int .i64 i ∧ ρ 19 = .slice a4 ob.Fields.length c4 ∧ ρ 20 = .int .i64 (ob.Fields.length : Int) ∧ ρ 21 = .int .i64 k ∧ St ok (bz w0) w [vl (tSlice t_fold_Field) ob.Fields (.slice a4 ob.Fields.length c4), vl (tSlice t_fold_Object) t.Objects (.slice a2 t.Objects.length c2)] [inno FKf gi fs, bldo FKf g x, blk g5 65 [bstr ob.Name, .slice a3 ob.Fields.length c3]]) ⟨h3, rfl, rfl, h11, h12, h13, rfl, rfl, rfl, hs⟩ ?_
    intro s ρ w o2 hI hf2 hbb2
    obtain ⟨k, fs2⟩ := s
    obtain ⟨h3, h5, h6, h11, h12, h13, h19, h20, h21, hs⟩ := hI
    unfold fold_load.l1 at hf2
    refine W.seqK fun K12 hK12 => ?_
    refine W.region ?_
    refine WL.bin (v := .bool (decide (k < (ob.Fields.length : Int)))) h21 h20 (ib_lss _ _ _) ?_
    refine WL.nil ?_
    refine hK12 _ _ ?_
    refine W.seqK fun K13 hK13 => ?_
    rcases iteE hf2 with ⟨hc2, hf2⟩ | ⟨hc2, hf2⟩
    · refine W.cond_true (bool_tr rfl hc2) ?_
      refine W.skip ?_
      refine hK13 _ _ ?_
      obtain ⟨f, hfk, hf2⟩ := bindE hf2
      obtain ⟨l, hcl, hf2⟩ := bindE hf2
      refine W.seqK fun K14 hK14 => ?_
      refine W.block ?_
      refine W.seqK fun K15 hK15 => ?_
      refine W.region ?_
      refine WL.indexAddr hs 0 rfl UN63 TI61 h19 h21 hfk (fun ad hs => ?_)
      refine WL.loadP hs 0 rfl TI61 (.inl rfl) rfl (fun v hs => ?_)
      obtain ⟨ds, hld, rfl⟩ := hs.aggv (n := 12) 0 rfl rfl rfl
      obtain ⟨a6, c6, rfl⟩ := open_fold_Field hs 0 rfl
      have hs := hs.add (it := vl (tSlice tStr) f.Elems (.slice a6 f.Elems.length c6)) fun ok hA => V_fld F_fold_Field_Elems (hA.get 0 rfl) rfl rfl rfl
      refine WL.alloc hs ZV61 (fun g8 w hs => ?_)
      refine WL.storeAll (vs := fcells f (.slice a6 f.Elems.length c6)) hs 0 rfl TI61 rfl rfl rfl rfl (ones_of rfl) rfl (fun w hs => ?_)
      refine WL.nil ?_
      refine hK15 _ _ ?_
      refine W.seqK fun K16 hK16 => ?_
      refine W.region ?_
      refine WL.fieldAddr (m := 10) rfl FA61_5 rfl ?_
      refine WL.load1 (v := .slice a6 f.Elems.length c6) hs 0 rfl TI59 rfl rfl ?_
      refine WL.call (vs := [.slice a6 f.Elems.length c6]) hs FN50 ⟨rfl, trivial⟩ (fun ok hA => slices_Clone_string.calls (x1 := f.Elems) hcl (hA.get 0 rfl)) ?_
      rintro ⟨a7, n7, c7⟩ w hs
      refine WL.fieldAddr (m := 10) rfl FA61_5 rfl ?_
      refine WL.store (vs := [.slice a7 n7 c7]) (cs' := fcells { f with Elems := l } (.slice a7 n7 c7)) hs 1 rfl TI59 rfl rfl rfl rfl (ones_of rfl) (Nat.le_of_ble_eq_true rfl) rfl (fun w hs => ?_)
      refine WL.nil ?_
      refine hK16 _ _ ?_
      refine W.region ?_
      refine WL.move (v := .map (some gi)) h6 ?_
      refine WL.fieldAddr (m := 0) rfl FA61_0 rfl ?_
      refine WL.load1 (v := bstr f.Name) hs 1 rfl TI9 rfl rfl ?_
      refine WL.loadN (vs := fcells { f with Elems := l } (.slice a7 n7 c7)) hs 1 rfl TI61 rfl rfl rfl ?_
      have hs := (hs.front 2 rfl).front 1 rfl
      refine WL.innPut FKf (y := { f with Elems := l }) (v := .slice a7 n7 c7) hs (kkStr UN9) UN100 rfl rfl rfl rfl (ones_of rfl) (fun w hs => ?_)
      refine WL.nil ?_
      refine hK14 _ _ ?_
      refine W.region ?_
      obtain ⟨j, ej, hf2⟩ := letE hf2
      refine WL.bin (v := .int .i64 j) h21 rfl (ib_as ej (ib_add _ _ _)) ?_
      refine WL.move (v := .int .i64 j) rfl ?_
      refine WL.nil ?_
      exact ⟨_, (Option.some.inj hf2).symm, h3, h5, h6, h11, h12, h13, h19, h20, rfl, (hs.mask [true, false, true, true]).pick [3, 4]⟩
    · refine W.cond_false (bool_tr rfl hc2) ?_
      refine W.exit ?_
      have hr := Option.some.inj hf2; subst hr
      have hr := hbb2 _ rfl; subst hr
      exact Jput _ _ h3 h5 h6 h11 h12 h13 (hs.pick [1])
  · refine W.cond_false (bool_tr rfl hc) ?_
    refine W.exit ?_
    have hr := Option.some.inj hf; subst hr
    have hr := hbb _ rfl; subst hr
    exact Jret _ _ h3 (.inr (hs.pick []))
/-! store -/
theorem fold_store.calls {ok : Nat → Prop} {w0 : World} {x : fold_F} {g : Nat} {r : fold_Store} (hf : fold_store x = some r) (i0 : (vl (tMap bstr (tMap bstr t_fold_Field)) x (.map (some g))).holds ok w0) :
    Calls Try.prog 48 #[.map (some g)] w0 fun e w' => ∃ v, e = .returned v ∧ ∃ y : List Value, v = .agg y.toArray ∧ St ok (bz w0) w' [vl t_fold_Store r (.agg y.toArray)] [] := by
  unfold fold_store at hf
  obtain ⟨ns, hns, hf⟩ := bindE hf
  obtain ⟨ol, hol, hf⟩ := bindE hf
  have hf := Option.some.inj hf
  subst hf
  have hs : St ok (bz w0) w0 [vl (tMap bstr (tMap bstr t_fold_Field)) x (.map (some g))] [] := St.init (All.cons i0 All.nil)
  clear i0
  refine calls_of_W (fn := Try.f48) (N := 48) Try.func48 rfl Try.ntmps48 rfl ?_
  refine W.seqK fun K1 hK1 => ?_
  refine W.region ?_
  refine WL.alloc hs ZV50 (fun g2 w hs => ?_)
  refine WL.nil ?_
  refine hK1 _ _ ?_
  refine W.seqK fun K2 hK2 => ?_
  refine W.region ?_
  refine WL.alloc hs ZV50 (fun g3 w hs => ?_)
  refine WL.nil ?_
  refine hK2 _ _ ?_
  refine W.seqK fun K3 hK3 => ?_
  have hs := hs.ownNil t_fold_Object 65
  have Jret : ∀ (a : Option Addr) (n c : Nat) (ρ : Env) (w : World), ρ 2 = .pointer (some ⟨g2, 0, none⟩) → ρ 3 = .pointer (some ⟨g3, 0, none⟩) → St ok (bz w0) w [] [own t_fold_Object 65 (.slice a n c) ol, blk g3 50 [.slice a n c], blk g2 50 [.slice none 0 0]] → K3 ρ w := by
    intro a n c ρ w h2 h3 hs
    refine hK3 _ _ ?_
    refine W.seqK fun K4 hK4 => ?_
    refine W.region ?_
    refine WL.loadN (vs := [.slice a n c]) hs 1 rfl TI50 h3 rfl rfl ?_
    refine WL.storeAll (vs := [.slice a n c]) hs 2 rfl TI50 h2 rfl rfl rfl (ones_of rfl) rfl (fun w hs => ?_)
    refine WL.nil ?_
    refine hK4 _ _ ?_
    refine W.ret ?_
    obtain rfl := hs.ownLen 0 rfl
    have hs2 := hs.freezeOwn 0 rfl
    have hs3 := hs2.add (it := vl t_fold_Store ⟨ol⟩ (.agg [.slice a ol.length c].toArray)) fun ok hA => V_agg (R_one (hA.get 0 rfl)) rfl
    exact ⟨_, resOk_one rfl (res_all hs 2 rfl TI50 h2 rfl), [.slice a ol.length c], rfl, (hs3.mask []).pick [0]⟩
  refine W.seqK fun K4 hK4 => ?_
  refine W.region ?_
  refine WL.move (v := .map (some g)) rfl ?_
  refine WL.sortedKeys sk_B UN9 hs 0 rfl rfl hns (fun cl v w hs => ?_)
  obtain ⟨a1, c1, rfl⟩ := hs.ownv 0 rfl
  have hs := hs.freezeOwn 0 rfl
  refine WL.len (v := .slice a1 ns.length c1) rfl (len_slice UN59) ?_
  refine WL.move (v := .int .i64 0) rfl ?_
  refine WL.nil ?_
  refine hK4 _ _ ?_
  refine W.block ?_
  refine W.loop (σ := Int × List fold_Object) hol (fun s ρ w => match s with | (i, out) => ∃ (a : Option Addr), ∃ (n : Nat), ∃ (c : Nat), ρ 0 = .map (some g) ∧ ρ 2 = .pointer (some ⟨g2, 0, none⟩) ∧ ρ 3 = .pointer (some ⟨g3, 0, none⟩) ∧ ρ 11 = .slice a1 ns.length c1 ∧ ρ 12 = .int .i64 (ns.length : Int) ∧ ρ 13 = .int .i64 i ∧ St ok (bz w0) w [vl (tSlice tStr) ns (.slice a1 ns.length c1), vl (tMap bstr (tMap bstr t_fold_Field)) x (.map (some g))] [own t_fold_Object 65 (.slice a n c) out, blk g3 50 [.slice a n c], blk g2 50 [.slice none 0 0]]) ⟨none, 0, 0, rfl, rfl, rfl, rfl, rfl, rfl, hs⟩ ?_
  intro s ρ w o hI hf hbb
  obtain ⟨i, out⟩ := s
  obtain ⟨a, n, c, h0, h2, h3, h11, h12, h13, hs⟩ := hI
  unfold fold_store.l2 at hf
  refine W.seqK fun K5 hK5 => ?_
  refine W.region ?_
  refine WL.bin (v := .bool (decide (i < (ns.length : Int)))) h13 h12 (ib_lss _ _ _) ?_
  refine WL.nil ?_
  refine hK5 _ _ ?_
  refine W.seqK fun K6 hK6 => ?_
  rcases iteE hf with ⟨hc, hf⟩ | ⟨hc, hf⟩
  · refine W.cond_true (bool_tr rfl hc) ?_
    refine W.skip ?_
    refine hK6 _ _ ?_
    obtain ⟨nm, hnm, hf⟩ := bindE hf
    obtain ⟨fs, hfs, hf⟩ := bindE hf
    obtain ⟨l, hl, hf⟩ := bindE hf
    obtain ⟨out', hout, hf⟩ := bindE hf
    refine W.seqK fun K7 hK7 => ?_
    have Jend : ∀ (a : Option Addr) (n c : Nat) (ρ : Env) (w : World), ρ 0 = .map (some g) → ρ 2 = .pointer (some ⟨g2, 0, none⟩) → ρ 3 = .pointer (some ⟨g3, 0, none⟩) → ρ 11 = .slice a1 ns.length c1 → ρ 12 = .int .i64 (ns.length : Int) → ρ 13 = .int .i64 i → St ok (bz w0) w [vl (tSlice tStr) ns (.slice a1 ns.length c1), vl (tMap bstr (tMap bstr t_fold_Field)) x (.map (some g))] [own t_fold_Object 65 (.slice a n c) out', blk g3 50 [.slice a n c], blk g2 50 [.slice none 0 0]] → K7 ρ w := by
      intro a n c ρ w h0 h2 h3 h11 h12 h13 hs
      refine hK7 _ _ ?_
      refine W.region ?_
      obtain ⟨j, ej, hf⟩ := letE hf
      refine WL.bin (v := .int .i64 j) h13 rfl (ib_as ej (ib_add _ _ _)) ?_
      refine WL.move (v := .int .i64 j) rfl ?_
      refine WL.nil ?_
      exact ⟨_, (Option.some.inj hf).symm, a, n, c, h0, h2, h3, h11, h12, rfl, hs⟩
    refine W.block ?_
    refine W.seqK fun K8 hK8 => ?_
    refine W.region ?_
    refine WL.indexAddr hs 0 rfl UN59 TI9 h11 h13 hnm (fun ad hs => ?_)
    refine WL.loadP hs 0 rfl TI9 (.inr rfl) rfl (fun v hs => ?_)
    obtain rfl := hs.str 0 rfl
    refine WL.assign (v := bstr nm) rfl ?_
    refine WL.nil ?_
    refine hK8 _ _ ?_
    have hs := hs.pick [2, 3]
    refine W.seqK fun K9 hK9 => ?_
    refine W.region ?_
    refine WL.move (v := bstr nm) rfl ?_
    refine WL.build (vs := [(0, bstr nm)]) (cs := [bstr nm, .slice none 0 0]) ⟨⟨rfl, rfl⟩, trivial⟩ (bld PL65 rfl) ?_
    refine WL.alloc hs ZV65 (fun g6 w hs => ?_)
    refine WL.storeAll (vs := [bstr nm, .slice none 0 0]) hs 0 rfl TI65 rfl rfl rfl rfl (ones_of rfl) rfl (fun w hs => ?_)
    refine WL.nil ?_
    refine hK9 _ _ ?_
    have hs := hs.ownNil t_fold_Field 61
    refine W.seqK fun K10 hK10 => ?_
    have Jobj : ∀ (a4 : Option Addr) (n4 c4 : Nat) (ρ : Env) (w : World), ρ 0 = .map (some g) → ρ 2 = .pointer (some ⟨g2, 0, none⟩) → ρ 3 = .pointer (some ⟨g3, 0, none⟩) → ρ 6 = .pointer (some ⟨g6, 0, none⟩) → ρ 11 = .slice a1 ns.length c1 → ρ 12 = .int .i64 (ns.length : Int) → ρ 13 = .int .i64 i →
        St ok (bz w0) w [vl (tSlice tStr) ns (.slice a1 ns.length c1), vl (tMap bstr (tMap bstr t_fold_Field)) x (.map (some g))] [own t_fold_Field 61 (.slice a4 n4 c4) l, blk g6 65 [bstr nm, .slice a4 n4 c4], own t_fold_Object 65 (.slice a n c) out, blk g3 50 [.slice a n c], blk g2 50 [.slice none 0 0]] → K10 ρ w := by
      intro a4 n4 c4 ρ w h0 h2 h3 h6 h11 h12 h13 hs
      refine hK10 _ _ ?_
      refine W.region ?_
      refine WL.fieldAddr (m := 0) h3 FA50_0 rfl ?_
      refine WL.load1 (v := .slice a n c) hs 3 rfl TI48 rfl rfl ?_
      refine WL.loadN (vs := [bstr nm, .slice a4 n4 c4]) hs 1 rfl TI65 h6 rfl rfl ?_
      refine WL.buildSlice (n := 1) (vs := [(0, .agg ([bstr nm, .slice a4 n4 c4] : List Value).toArray)]) (cs := [bstr nm, .slice a4 n4 c4]) hs ⟨⟨rfl, rfl⟩, trivial⟩ (bls PS48 (by decide) rfl) (fun g9 w hs => ?_)
      obtain rfl := hs.ownLen 1 rfl
      have hs := hs.freezeOwn 1 rfl
      obtain ⟨hb1, he1⟩ := appE hout
      refine WL.append (ys := [(⟨nm, l⟩ : fold_Object)]) (zs := out') hs 2 rfl 0 rfl UN48 EI65 rfl rfl (fun ok hA => (Cells.one (T := t_fold_Object) (show t_fold_Object.R ok _ (⟨nm, l⟩ : fold_Object) _ from ⟨[bstr nm], [.slice a4 l.length c4], rfl, rfl, (R_one (hA.get 0 rfl))⟩))) hb1 (by omega) he1 (fun v w hs => ?_)
      obtain ⟨a5, n5, c5, rfl⟩ := hs.ownv3 2 rfl
      refine WL.fieldAddr (m := 0) h3 FA50_0 rfl ?_
      refine WL.storeAll (vs := [.slice a5 n5 c5]) hs 3 rfl TI48 rfl rfl rfl rfl (ones_of rfl) rfl (fun w hs => ?_)
      refine WL.nil ?_
      exact Jend a5 n5 c5 _ _ h0 h2 h3 h11 h12 h13 ((hs.mask [false, false, true, true, true]).pick [1, 2])
    refine W.seqK fun K11 hK11 => ?_
    refine W.region ?_
    refine WL.move (v := .map (some g)) h0 ?_
    refine WL.move (v := bstr nm) rfl ?_
    refine WL.lookupT (V := tMap bstr t_fold_Field) (z0 := []) (y := (x.lookup nm).getD []) hs 1 rfl (kkStr UN9) UN91 rfl rfl ZR100 (fun _ _ => tMap_V.2 (.inl ⟨rfl, rfl⟩)) rfl (fun mv hs => ?_)
    refine WL.sortedKeys sk_F UN9 hs 0 rfl rfl hfs (fun cl v w hs => ?_)
    obtain ⟨a7, c7, rfl⟩ := hs.ownv 0 rfl
    have hs := hs.freezeOwn 0 rfl
    refine WL.len (v := .slice a7 fs.length c7) rfl (len_slice UN59) ?_
    refine WL.move (v := .int .i64 0) rfl ?_
    refine WL.nil ?_
    refine hK11 _ _ ?_
    refine W.block ?_
    refine W.loop (σ := Int × List fold_Field) hl (fun s ρ w => match s with | (k, l) => ∃ (a4 : Option Addr), ∃ (n4 : Nat), ∃ (c4 : Nat), ρ 0 = .map (some g) ∧ ρ 2 = .pointer (some ⟨g2, 0, none⟩) ∧ ρ 3 = .pointer (some ⟨g3, 0, none⟩) ∧ ρ 5 = bstr nm ∧ ρ 6 = .pointer (some ⟨g6, 0, none⟩) ∧ ρ 11 = .slice a1 ns.length c1 ∧ ρ 12 = .int .i64 (ns.length : Int) ∧ ρ 13 = .int .i64 i ∧ ρ 23 = .slice a7 fs.length c7 ∧ ρ 24 = .int .i64 (fs.length : Int) ∧ ρ 25 = .int .i64 k ∧ St ok (bz w0) w [vl (tSlice tStr) fs (.slice a7 fs.length c7), vl (tSlice tStr) ns (.slice a1 ns.length c1), vl (tMap bstr (tMap bstr t_fold_Field)) x (.map (some g))] [own t_fold_Field 61 (.slice a4 n4 c4) l, blk g6 65 [bstr nm, .slice a4 n4 c4], own t_fold_Object 65 (.slice a n c) out, blk g3 50 [.slice a n c], blk g2 50 [.slice none 0 0]]) ⟨none, 0, 0, h0, h2, h3, rfl, rfl, h11, h12, h13, rfl, rfl, rfl, hs.pick [0, 2, 3]⟩ ?_
    intro s ρ w o2 hI hf2 hbb2
    obtain ⟨k, l2⟩ := s
    obtain ⟨a4, n4, c4, h0, h2, h3, h5, h6, h11, h12, h13, h23, h24, h25, hs⟩ := hI
    unfold fold_store.l1 at hf2
    refine W.seqK fun K12 hK12 => ?_
    refine W.region ?_
    refine WL.bin (v := .bool (decide (k < (fs.length : Int)))) h25 h24 (ib_lss _ _ _) ?_
    refine WL.nil ?_
    refine hK12 _ _ ?_
    refine W.seqK fun K13 hK13 => ?_
    rcases iteE hf2 with ⟨hc2, hf2⟩ | ⟨hc2, hf2⟩
    · refine W.cond_true (bool_tr rfl hc2) ?_
      refine W.skip ?_
      refine hK13 _ _ ?_
      obtain ⟨fm, hfm, hf2⟩ := bindE hf2
      obtain ⟨l3, hl3, hf2⟩ := bindE hf2
      refine W.seqK fun K14 hK14 => ?_
      refine W.block ?_
      refine W.seqK fun K15 hK15 => ?_
      refine W.region ?_
      refine WL.indexAddr hs 0 rfl UN59 TI9 h23 h25 hfm (fun ad hs => ?_)
      refine WL.loadP hs 0 rfl TI9 (.inr rfl) rfl (fun v hs => ?_)
      obtain rfl := hs.str 0 rfl
      refine WL.assign (v := bstr fm) rfl ?_
      refine WL.nil ?_
      refine hK15 _ _ ?_
      have hs := hs.pick [2, 3, 4]
      refine W.region ?_
      refine WL.fieldAddr (m := 1) h6 FA65_1 rfl ?_
      refine WL.load1 (v := .slice a4 n4 c4) hs 1 rfl TI63 rfl rfl ?_
      refine WL.move (v := .map (some g)) h0 ?_
      refine WL.move (v := bstr nm) h5 ?_
      refine WL.lookupT (V := tMap bstr t_fold_Field) (z0 := []) (y := (x.lookup nm).getD []) hs 2 rfl (kkStr UN9) UN91 rfl rfl ZR100 (fun _ _ => tMap_V.2 (.inl ⟨rfl, rfl⟩)) rfl (fun mv2 hs => ?_)
      refine WL.move (v := bstr fm) rfl ?_
      refine WL.lookupT (V := t_fold_Field) (z0 := fold_zero) (y := (((x.lookup nm).getD []).lookup fm).getD fold_zero) hs 0 rfl (kkStr UN9) UN100 rfl rfl ZR61 (fun ok w => V_agg (cs := fcells fold_zero (.slice none 0 0)) (fieldR ok w fold_zero (.slice none 0 0) V_nil) rfl) rfl (fun fv hs => ?_)
      obtain ⟨ds, hld, rfl⟩ := hs.aggv (n := 12) 0 rfl rfl rfl
      obtain ⟨a6, c6, rfl⟩ := open_fold_Field hs 0 rfl
      refine WL.buildSlice (n := 1) (vs := [(0, .agg (fcells ((((x.lookup nm).getD []).lookup fm).getD fold_zero) (.slice a6 ((((x.lookup nm).getD []).lookup fm).getD fold_zero).Elems.length c6)).toArray)]) (cs := fcells ((((x.lookup nm).getD []).lookup fm).getD fold_zero) (.slice a6 ((((x.lookup nm).getD []).lookup fm).getD fold_zero).Elems.length c6)) hs ⟨⟨rfl, rfl⟩, trivial⟩ (bls PS63 (by decide) rfl) (fun g9 w hs => ?_)
      obtain ⟨hb1, he1⟩ := appE hl3
      refine WL.append (ys := [(((x.lookup nm).getD []).lookup fm).getD fold_zero]) (zs := l3) hs 1 rfl 0 rfl UN63 EI61 rfl rfl (fun ok hA => Cells.one (T := t_fold_Field) (R_agg (hA.get 0 rfl) rfl)) hb1 (by omega) he1 (fun v w hs => ?_)
      obtain ⟨a8, n8, c8, rfl⟩ := hs.ownv3 1 rfl
      refine WL.fieldAddr (m := 1) h6 FA65_1 rfl ?_
      refine WL.store (vs := [.slice a8 n8 c8]) (cs' := [bstr nm, .slice a8 n8 c8]) hs 2 rfl TI63 rfl rfl rfl rfl (ones_of rfl) (Nat.le_of_ble_eq_true rfl) rfl (fun w hs => ?_)
      refine WL.nil ?_
      refine hK14 _ _ ?_
      refine W.region ?_
      obtain ⟨j, ej, hf2⟩ := letE hf2
      refine WL.bin (v := .int .i64 j) h25 rfl (ib_as ej (ib_add _ _ _)) ?_
      refine WL.move (v := .int .i64 j) rfl ?_
      refine WL.nil ?_
      exact ⟨_, (Option.some.inj hf2).symm, a8, n8, c8, h0, h2, h3, h5, h6, h11, h12, h13, h23, h24, rfl, (hs.mask [false, true, true, true, true, true]).pick [2, 3, 4]⟩
    · refine W.cond_false (bool_tr rfl hc2) ?_
      refine W.exit ?_
      have hr := Option.some.inj hf2; subst hr
      have hr := hbb2 _ rfl; subst hr
      exact Jobj a4 n4 c4 _ _ h0 h2 h3 h6 h11 h12 h13 (hs.pick [1, 2])
  · refine W.cond_false (bool_tr rfl hc) ?_
    refine W.exit ?_
    have hr := Option.some.inj hf; subst hr
    have hr := hbb _ rfl; subst hr
    exact Jret a n c _ _ h2 h3 (hs.pick [])
/-- load's and apply's map, once it is only read. -/
theorem St.bFreeze {ok : Nat → Prop} {F : Base} {w : World} {Γ : List It} {Λ : List LObj} {g : Nat} {x : fold_B} (hs : St ok F w Γ (bldo FKf g x :: Λ)) : St ok F w (vl (tMap bstr (tMap bstr t_fold_Field)) (fold_frz x) (.map (some g)) :: Γ) Λ :=
  St.bldFreeze FKf (T := t_fold_Field) (fun ok w y v h => fieldR ok w y v h) rfl hs
/-! Apply -/
theorem fold_Apply.calls {ok : Nat → Prop} {w0 : World} {x1 : fold_Store} {x2 : api_Update} {v1 v2 : Value} {r : fold_Store} (hf : fold_Apply x1 x2 = some r) (i0 : (vl t_fold_Store x1 v1).holds ok w0) (i1 : (vl t_api_Update x2 v2).holds ok w0) :
    Calls Try.prog 35 #[v1, v2] w0 fun e w' => ∃ v, e = .returned v ∧ ∃ y : List Value, v = .agg y.toArray ∧ St ok (bz w0) w' [vl t_fold_Store r (.agg y.toArray)] [] := by
  unfold fold_Apply at hf
  obtain ⟨b, hb, hf⟩ := bindE hf
  obtain ⟨b', hb', hf⟩ := bindE hf
  have hs : St ok (bz w0) w0 [vl t_fold_Store x1 v1, vl t_api_Update x2 v2] [] := St.init (All.cons i0 (All.cons i1 All.nil))
  clear i0 i1
  obtain ⟨cs, hl, rfl⟩ := hs.aggv (n := 1) 0 rfl rfl rfl
  obtain ⟨ds, hld, rfl⟩ := hs.aggv (n := 4) 1 rfl rfl rfl
  refine calls_of_W (fn := Try.f35) (N := 13) Try.func35 rfl Try.ntmps35 rfl ?_
  refine W.seqK fun K1 hK1 => ?_
  refine W.region ?_
  refine WL.box (vs := cs) hs rfl rfl (fun g2 w hs => ?_)
  refine WL.box (vs := ds) hs rfl rfl (fun g3 w hs => ?_)
  refine WL.alloc hs ZV50 (fun g4 w hs => ?_)
  refine WL.nil ?_
  refine hK1 _ _ ?_
  refine W.seqK fun K2 hK2 => ?_
  refine W.region ?_
  refine WL.loadAll hs 2 rfl TI50 rfl hl ?_
  refine WL.call (vs := [.agg cs.toArray]) hs FN51 ⟨rfl, trivial⟩ (fun ok hA => fold_load.calls hb (hA.get 0 rfl)) ?_
  rintro g w hs
  refine WL.assign (v := .map (some g)) rfl ?_
  refine WL.nil ?_
  refine hK2 _ _ ?_
  refine W.seqK fun K3 hK3 => ?_
  refine W.region ?_
  refine WL.move (v := .map (some g)) rfl ?_
  refine WL.loadAll hs 2 rfl TI75 rfl hld ?_
  have hs := hs.pick [1]
  refine WL.callO (vs := [.map (some g), .agg ds.toArray]) [bldo FKf g b] hs FN47 ⟨rfl, rfl, trivial⟩ (fun ok F hA => fold_apply.calls hb' hA) ?_
  rintro _ w hs
  refine WL.nil ?_
  refine hK3 _ _ ?_
  refine W.seqK fun K4 hK4 => ?_
  refine W.region ?_
  refine WL.move (v := .map (some g)) rfl ?_
  have hs := St.bFreeze hs
  refine WL.call (vs := [.map (some g)]) hs FN48 ⟨rfl, trivial⟩ (fun ok hA => fold_store.calls hf (hA.get 0 rfl)) ?_
  rintro y w hs
  have hly := hs.agglen (n := 1) 0 rfl rfl rfl
  refine WL.storeAll (vs := y) hs 0 rfl TI50 rfl rfl rfl hly (hs.ones 0 rfl rfl) rfl (fun w hs => ?_)
  refine WL.nil ?_
  refine hK4 _ _ ?_
  refine W.ret ?_
  exact ⟨_, resOk_one rfl (res_all hs 0 rfl TI50 rfl hly), y, rfl, (hs.mask []).pick [0]⟩
/-! empty -/
theorem update_empty.calls {ok : Nat → Prop} {w0 : World} {x1 : List UInt8} {r : Bool} (hf : update_empty x1 = some r) :
    Calls Try.prog 84 #[bstr x1] w0 fun e w' => ∃ v, e = .returned v ∧ ∃ y : Unit, v = .bool r ∧ St ok (bz w0) w' [] [] := by
  unfold update_empty at hf
  have hr := Option.some.inj hf; subst hr
  refine calls_of_W (fn := Try.f84) (N := 7) Try.func84 rfl Try.ntmps84 rfl ?_
  have hs : St ok (bz w0) w0 [] [] := St.init All.nil
  refine W.seqK fun K1 hK1 => ?_
  refine W.region ?_
  refine WL.assign (v := .bool false) rfl ?_
  refine WL.nil ?_
  refine hK1 _ _ ?_
  refine W.seqK fun K2 hK2 => ?_
  refine W.seqK fun K3 hK3 => ?_
  refine W.region ?_
  refine WL.move (v := bstr x1) rfl ?_
  refine WL.rangeS hs UN9 rfl (fun r w hs => ?_)
  refine WL.nil ?_
  refine hK3 _ _ ?_
  refine W.block ?_
  have hl : loopO (fun _ : Unit => some (.inr () : Unit ⊕ Unit)) () = some () := by
    rw [loopO_iff]
    exact ⟨1, rfl⟩
  refine W.loop hl (fun _ ρ w => ρ 4 = .pointer (some ⟨r, 0, none⟩) ∧ St ok (bz w0) w [] [sit r x1]) ⟨rfl, hs⟩ ?_
  intro _ ρ w o hI _ _
  obtain ⟨h4, hs⟩ := hI
  refine W.seqK fun K4 hK4 => ?_
  refine W.region ?_
  refine WL.nextS hs 0 rfl h4 (fun hn => ?_) (fun hn u v w hs => ?_)
  · refine WL.extract (v := .bool false) rfl rfl ?_
    refine WL.nil ?_
    refine hK4 _ _ ?_
    refine W.seqK fun K5 hK5 => ?_
    refine W.cond_false rfl ?_
    refine W.exit ?_
    refine hK2 _ _ ?_
    refine W.seqK fun K6 hK6 => ?_
    refine W.region ?_
    refine WL.assign (v := .bool true) rfl ?_
    refine WL.nil ?_
    refine hK6 _ _ ?_
    refine W.ret ?_
    exact ⟨.bool true, resOk_one rfl rfl, (), by rw [hn]; rfl, hs.mask [false]⟩
  · refine WL.extract (v := .bool true) rfl rfl ?_
    refine WL.nil ?_
    refine hK4 _ _ ?_
    refine W.seqK fun K5 hK5 => ?_
    refine W.cond_true rfl ?_
    refine W.skip ?_
    refine hK5 _ _ ?_
    refine W.block ?_
    refine W.seqK fun K6 hK6 => ?_
    refine W.region ?_
    refine WL.assign (v := .bool false) rfl ?_
    refine WL.nil ?_
    refine hK6 _ _ ?_
    refine W.ret ?_
    exact ⟨.bool false, resOk_one rfl rfl, (), by rw [decide_eq_false hn], hs.mask [false]⟩
end Go.Proofs.Ytbbeobiampbddaa
