import Derived.Test.YthfoljpjhegkmaaDoorFh
import Derived.Test.YthfoljpjhegkmaaDoorFp13
set_option linter.unusedVariables false
set_option linter.unusedSimpArgs false
namespace Go.Proofs.YthfoljpjhegkmaaDoor
open Go Go.RowKit Go.Proofs.YthfoljpjhegkmaaDoorL
set_option maxRecDepth 100000
set_option maxHeartbeats 4000000
/-! elasticstore/elasticstoreref10.placed: function 38 -/
theorem esref10_placed.calls {ok : Nat → Prop} {w0 : World} {x1 : api_Change} {x5 : List api_Change} {x8 : api_Summary} {v2 : Value} {a6 : Option Addr} {c7 : Nat} {v9 : Value} {r : api_Change × Int} (hf : esref10_placed x1 x5 x8 = some r) (i0 : (vl t_api_Change x1 v2).holds ok w0) (i1 : (vl (tSlice t_api_Change) x5 (.slice a6 x5.length c7)).holds ok w0) (i2 : (vl t_api_Summary x8 v9).holds ok w0) :
    Calls Tryd.prog 38 #[v2, .slice a6 x5.length c7, v9] w0 fun e w' => ∃ v, e = .returned v ∧ ∃ y : List Value, v = .tuple #[.agg y.toArray, .int .i64 r.2] ∧ St ok (bz w0) w' [vl t_api_Change r.1 (.agg y.toArray)] [] := by
  unfold esref10_placed at hf
  refine calls_of_W (fn := Tryd.f38) (N := 105) Tryd.func38 rfl Tryd.ntmps38 rfl ?_
  have hs : St ok (bz w0) w0 [vl t_api_Change x1 v2, vl (tSlice t_api_Change) x5 (.slice a6 x5.length c7), vl t_api_Summary x8 v9] [] := St.init (All.cons i0 (All.cons i1 (All.cons i2 All.nil)))
  clear i0 i1 i2
  obtain ⟨cs3, hl4, rfl⟩ := hs.aggv (n := 7) 0 rfl rfl rfl
  obtain ⟨cs10, hl11, rfl⟩ := hs.aggv (n := 9) 2 rfl rfl rfl
  refine W.seqK fun K12 hK12 => ?_
  refine W.region ?_
  obtain rfl := open_api_Change hs 0 rfl
  refine WL.box (vs := [.int .i64 x1.Kind, .int .i64 x1.Server, .int .i64 x1.Weight, .int .i64 x1.Version, .int .i64 x1.Rule.Kind, .int .i64 x1.Rule.Columns, .int .i64 x1.Rule.Faulty]) hs rfl rfl (fun g13 w hs => ?_)
  refine WL.box (vs := cs10) hs rfl rfl (fun g14 w hs => ?_)
  refine WL.alloc hs ZV26 (fun g15 w hs => ?_)
  refine WL.assign (v := .int .i64 0) rfl ?_
  refine WL.nil ?_
  refine hK12 _ _ ?_
  refine W.seqK fun K16 hK16 => ?_
  refine W.seqK fun K17 hK17 => ?_
  refine W.region ?_
  refine WL.move (v := .slice a6 x5.length c7) rfl ?_
  refine WL.len (v := .slice a6 x5.length c7) rfl (len_slice UN38) ?_
  refine WL.bin (v := .bool (decide (6 ≤ (x5.length : Int)))) rfl rfl (ib_geq _ _ _) ?_
  refine WL.nil ?_
  refine hK17 _ _ ?_
  rcases iteE hf with ⟨hc18, hf⟩ | ⟨hc18, hf⟩
  · refine W.cond_true (bool_tr rfl hc18) ?_
    refine W.seqK fun K19 hK19 => ?_
    refine W.region ?_
    refine WL.loadN (vs := [.int .i64 x1.Kind, .int .i64 x1.Server, .int .i64 x1.Weight, .int .i64 x1.Version, .int .i64 x1.Rule.Kind, .int .i64 x1.Rule.Columns, .int .i64 x1.Rule.Faulty]) hs 2 rfl TI26 rfl rfl rfl ?_
    refine WL.storeAll (vs := [.int .i64 x1.Kind, .int .i64 x1.Server, .int .i64 x1.Weight, .int .i64 x1.Version, .int .i64 x1.Rule.Kind, .int .i64 x1.Rule.Columns, .int .i64 x1.Rule.Faulty]) hs 0 rfl TI26 rfl rfl rfl rfl (ones_of rfl) rfl (fun w hs => ?_)
    refine WL.assign (v := .int .i64 3) rfl ?_
    refine WL.nil ?_
    refine hK19 _ _ ?_
    refine W.ret ?_
    have hr := Option.some.inj hf; subst hr
    have hs := hs.add (it := vl t_api_Change (⟨x1.Kind, x1.Server, x1.Weight, x1.Version, (⟨x1.Rule.Kind, x1.Rule.Columns, x1.Rule.Faulty⟩ : api_Rule)⟩ : api_Change) (.agg [.int .i64 x1.Kind, .int .i64 x1.Server, .int .i64 x1.Weight, .int .i64 x1.Version, .int .i64 x1.Rule.Kind, .int .i64 x1.Rule.Columns, .int .i64 x1.Rule.Faulty].toArray)) fun ok hA => V_agg (show t_api_Change.R ok _ _ _ from ⟨[.int .i64 x1.Kind], [.int .i64 x1.Server, .int .i64 x1.Weight, .int .i64 x1.Version, .int .i64 x1.Rule.Kind, .int .i64 x1.Rule.Columns, .int .i64 x1.Rule.Faulty], rfl, rfl, ⟨[.int .i64 x1.Server], [.int .i64 x1.Weight, .int .i64 x1.Version, .int .i64 x1.Rule.Kind, .int .i64 x1.Rule.Columns, .int .i64 x1.Rule.Faulty], rfl, rfl, ⟨[.int .i64 x1.Weight], [.int .i64 x1.Version, .int .i64 x1.Rule.Kind, .int .i64 x1.Rule.Columns, .int .i64 x1.Rule.Faulty], rfl, rfl, ⟨[.int .i64 x1.Version], [.int .i64 x1.Rule.Kind, .int .i64 x1.Rule.Columns, .int .i64 x1.Rule.Faulty], rfl, rfl, ⟨[.int .i64 x1.Rule.Kind], [.int .i64 x1.Rule.Columns, .int .i64 x1.Rule.Faulty], rfl, rfl, ⟨[.int .i64 x1.Rule.Columns], [.int .i64 x1.Rule.Faulty], rfl, rfl, rfl⟩⟩⟩⟩⟩⟩) rfl
    exact ⟨_, resOk_two rfl (res_all hs 0 rfl TI26 rfl rfl) rfl, [.int .i64 x1.Kind, .int .i64 x1.Server, .int .i64 x1.Weight, .int .i64 x1.Version, .int .i64 x1.Rule.Kind, .int .i64 x1.Rule.Columns, .int .i64 x1.Rule.Faulty], rfl, (hs.mask []).pick [0]⟩
  · refine W.cond_false (bool_tr rfl hc18) ?_
    refine W.skip ?_
    refine hK16 _ _ ?_
    refine W.seqK fun K20 hK20 => ?_
    have Jk25 : ∀ (x22 : api_Change) (cs23 : List Value) (ρ : Env) (w : World), cs23.length = 7 → ρ 1 = .slice a6 x5.length c7 → ρ 3 = .pointer (some ⟨g13, 0, none⟩) → ρ 5 = .pointer (some ⟨g14, 0, none⟩) → ρ 6 = .pointer (some ⟨g15, 0, none⟩) → St ok (bz w0) w [vl (tSlice t_api_Change) x5 (.slice a6 x5.length c7), vl t_api_Change x22 (.agg cs23.toArray), vl t_api_Summary x8 (.agg cs10.toArray)] [blk g15 26 cs23, blk g14 36 cs10, blk g13 26 [.int .i64 x1.Kind, .int .i64 x1.Server, .int .i64 x1.Weight, .int .i64 x1.Version, .int .i64 x1.Rule.Kind, .int .i64 x1.Rule.Columns, .int .i64 x1.Rule.Faulty]] → esref10_placed.j5 x1 x5 x8 x22 = some r → K20 ρ w := by
      intro x22 cs23 ρ w hl24 h21_1 h21_3 h21_5 h21_6 hs hf
      refine hK20 _ _ ?_
      unfold esref10_placed.j5 at hf
      refine W.seqK fun K26 hK26 => ?_
      obtain ⟨x30, hxx30, hf⟩ := bindE hf
      obtain ⟨x34, hxx34, hf⟩ := bindE hf
      refine W.any (by kernel_rfl) 10 2 [true, true, true, true, true, true, true, true, true, true, false, false] rfl rfl (poAt [pv (.pointer (some ⟨g14, 0, none⟩)), pq (fun y : (Option Addr × Nat) => .slice y.1 (x8.Joined).length y.2) (fun v => [vl (tSlice (tInt .i64)) x8.Joined v]) (fun v => []), pv (.pointer (some ⟨g13, 1, none⟩)), pv (.int .i64 x1.Server), pv (.bool x30), pv (.pointer (some ⟨g14, 1, none⟩)), pq (fun y : (Option Addr × Nat) => .slice y.1 (x8.Removed).length y.2) (fun v => [vl (tSlice (tInt .i64)) x8.Removed v]) (fun v => []), pv (.pointer (some ⟨g13, 1, none⟩)), pv (.int .i64 x1.Server), pv (.bool x34)]) (Λ := [blk g15 26 cs23, blk g14 36 cs10, blk g13 26 [.int .i64 x1.Kind, .int .i64 x1.Server, .int .i64 x1.Weight, .int .i64 x1.Version, .int .i64 x1.Rule.Kind, .int .i64 x1.Rule.Columns, .int .i64 x1.Rule.Faulty]]) hs (by kernel_rfl) (by kernel_rfl) (by kernel_rfl) ⟨⟨⟨⟨⟨⟨⟨⟨⟨⟨trivial, ?_⟩, ?_⟩, ?_⟩, ?_⟩, ?_⟩, ?_⟩, ?_⟩, ?_⟩, ?_⟩, ?_⟩ ?_
      · intro ρ w Γx Λx hs hu hp
        refine WL.fieldAddr (m := 0) ((hu 5 rfl).trans h21_5) FA36_0 rfl ?_
        exact WL.nil ⟨rfl, _, rfl, rfl, hs.cutG 0 0⟩
      · intro ρ w Γx Λx hs hu hp
        have e35 : ρ 40 = .pointer (some ⟨g14, 0, none⟩) := (hp 0 rfl).1
        refine WL.loadF (z := x8.Joined) F_api_Summary_Joined hs (Λx.length + 1) (getApp rfl) (Γx.length + 2) (getApp rfl) rfl TI33 (.inr rfl) e35 rfl (fun v27 hs => ?_)
        obtain ⟨a28, c29, rfl⟩ := hs.slice 0 rfl
        have hs := hs.add (it := vl (tSlice (tInt .i64)) x8.Joined (.slice a28 (x8.Joined).length c29)) fun ok hA => hA.get 0 rfl
        exact WL.nil ⟨rfl, _, rfl, ⟨(a28, c29), rfl⟩, hs.cutG 1 1⟩
      · intro ρ w Γx Λx hs hu hp
        refine WL.fieldAddr (m := 1) ((hu 3 rfl).trans h21_3) FA26_1 rfl ?_
        exact WL.nil ⟨rfl, _, rfl, rfl, hs.cutG 0 0⟩
      · intro ρ w Γx Λx hs hu hp
        have e36 : ρ 42 = .pointer (some ⟨g13, 1, none⟩) := (hp 2 rfl).1
        refine WL.load1 (v := .int .i64 x1.Server) hs (Λx.length + 2) (getApp rfl) TI3 e36 rfl ?_
        exact WL.nil ⟨rfl, _, rfl, rfl, hs.cutG 0 0⟩
      · intro ρ w Γx Λx hs hu hp
        obtain ⟨⟨⟨a37, c38⟩, e39r⟩, hm40⟩ := hp 1 rfl
        have e39 : ρ 41 = .slice a37 (x8.Joined).length c38 := e39r
        rw [e39r] at hm40
        have hs := hs.memo1 (it := vl (tSlice (tInt .i64)) x8.Joined (.slice a37 (x8.Joined).length c38)) (List.mem_append.2 (.inl (hm40 _ (List.mem_of_getElem? (i := 0) rfl))))
        have e41 : ρ 43 = .int .i64 x1.Server := (hp 3 rfl).1
        refine WL.call (vs := [.slice a37 (x8.Joined).length c38, .int .i64 x1.Server]) hs FN59 ⟨e39, ⟨e41, trivial⟩⟩ (fun ok hA => esref06_In.calls (x1 := x8.Joined) (x4 := x1.Server) hxx30 (hA.get 0 rfl)) ?_
        rintro _ w hs
        exact WL.nil ⟨rfl, _, rfl, rfl, hs.cutG 0 1⟩
      · intro ρ w Γx Λx hs hu hp
        refine WL.fieldAddr (m := 1) ((hu 5 rfl).trans h21_5) FA36_1 rfl ?_
        exact WL.nil ⟨rfl, _, rfl, rfl, hs.cutG 0 0⟩
      · intro ρ w Γx Λx hs hu hp
        have e42 : ρ 45 = .pointer (some ⟨g14, 1, none⟩) := (hp 5 rfl).1
        refine WL.loadF (z := x8.Removed) F_api_Summary_Removed hs (Λx.length + 1) (getApp rfl) (Γx.length + 2) (getApp rfl) rfl TI33 (.inr rfl) e42 rfl (fun v31 hs => ?_)
        obtain ⟨a32, c33, rfl⟩ := hs.slice 0 rfl
        have hs := hs.add (it := vl (tSlice (tInt .i64)) x8.Removed (.slice a32 (x8.Removed).length c33)) fun ok hA => hA.get 0 rfl
        exact WL.nil ⟨rfl, _, rfl, ⟨(a32, c33), rfl⟩, hs.cutG 1 1⟩
      · intro ρ w Γx Λx hs hu hp
        refine WL.fieldAddr (m := 1) ((hu 3 rfl).trans h21_3) FA26_1 rfl ?_
        exact WL.nil ⟨rfl, _, rfl, rfl, hs.cutG 0 0⟩
      · intro ρ w Γx Λx hs hu hp
        have e43 : ρ 47 = .pointer (some ⟨g13, 1, none⟩) := (hp 7 rfl).1
        refine WL.load1 (v := .int .i64 x1.Server) hs (Λx.length + 2) (getApp rfl) TI3 e43 rfl ?_
        exact WL.nil ⟨rfl, _, rfl, rfl, hs.cutG 0 0⟩
      · intro ρ w Γx Λx hs hu hp
        obtain ⟨⟨⟨a44, c45⟩, e46r⟩, hm47⟩ := hp 6 rfl
        have e46 : ρ 46 = .slice a44 (x8.Removed).length c45 := e46r
        rw [e46r] at hm47
        have hs := hs.memo1 (it := vl (tSlice (tInt .i64)) x8.Removed (.slice a44 (x8.Removed).length c45)) (List.mem_append.2 (.inl (hm47 _ (List.mem_of_getElem? (i := 0) rfl))))
        have e48 : ρ 48 = .int .i64 x1.Server := (hp 8 rfl).1
        refine WL.call (vs := [.slice a44 (x8.Removed).length c45, .int .i64 x1.Server]) hs FN59 ⟨e46, ⟨e48, trivial⟩⟩ (fun ok hA => esref06_In.calls (x1 := x8.Removed) (x4 := x1.Server) hxx34 (hA.get 0 rfl)) ?_
        rintro _ w hs
        exact WL.nil ⟨rfl, _, rfl, rfl, hs.cutG 0 1⟩
      · intro ρ w hs hu49 hp
        obtain ⟨⟨⟨⟨⟨⟨⟨⟨⟨⟨_, hp0_⟩, hp1_⟩, hp2_⟩, hp3_⟩, hp4_⟩, hp5_⟩, hp6_⟩, hp7_⟩, hp8_⟩, hp9_⟩ := hp
        have hs : St ok (bz w0) w [vl (tSlice (tInt .i64)) x8.Removed (ρ 46), vl (tSlice (tInt .i64)) x8.Joined (ρ 41), vl (tSlice t_api_Change) x5 (.slice a6 x5.length c7), vl t_api_Change x22 (.agg cs23.toArray), vl t_api_Summary x8 (.agg cs10.toArray)] [blk g15 26 cs23, blk g14 36 cs10, blk g13 26 [.int .i64 x1.Kind, .int .i64 x1.Server, .int .i64 x1.Weight, .int .i64 x1.Version, .int .i64 x1.Rule.Kind, .int .i64 x1.Rule.Columns, .int .i64 x1.Rule.Faulty]] := hs
        have e50 : ρ 49 = .bool x34 := hp9_
        have e51 : ρ 48 = .int .i64 x1.Server := hp8_
        have e52 : ρ 47 = .pointer (some ⟨g13, 1, none⟩) := hp7_
        obtain ⟨⟨a53, c54⟩, e55⟩ := hp6_
        have e55 : ρ 46 = .slice a53 (x8.Removed).length c54 := e55
        try rw [e55] at hs
        have e56 : ρ 45 = .pointer (some ⟨g14, 1, none⟩) := hp5_
        have e57 : ρ 44 = .bool x30 := hp4_
        have e58 : ρ 43 = .int .i64 x1.Server := hp3_
        have e59 : ρ 42 = .pointer (some ⟨g13, 1, none⟩) := hp2_
        obtain ⟨⟨a60, c61⟩, e62⟩ := hp1_
        have e62 : ρ 41 = .slice a60 (x8.Joined).length c61 := e62
        try rw [e62] at hs
        have e63 : ρ 40 = .pointer (some ⟨g14, 0, none⟩) := hp0_
        refine WA.step [10] (by kernel_rfl) (by simp) ⟨?_, trivial⟩
        refine WL.assign (v := .bool x30) e57 ?_
        refine WL.nil ⟨rfl, _, rfl, ?_⟩
        refine WA.step [11] (by kernel_rfl) (by simp) ⟨?_, trivial⟩
        refine WL.assign (v := .bool x34) e50 ?_
        refine WL.nil ⟨rfl, _, rfl, ?_⟩
        refine WA.done (by kernel_rfl) ?_
        refine hK26 _ _ ?_
        refine W.seqK fun K64 hK64 => ?_
        have Jk70 : ∀ (x66 : api_Change) (x69 : Int) (cs67 : List Value) (ρ : Env) (w : World), cs67.length = 7 → ρ 3 = .pointer (some ⟨g13, 0, none⟩) → ρ 6 = .pointer (some ⟨g15, 0, none⟩) → St ok (bz w0) w [vl t_api_Change x66 (.agg cs67.toArray)] [blk g15 26 cs67, blk g13 26 [.int .i64 x1.Kind, .int .i64 x1.Server, .int .i64 x1.Weight, .int .i64 x69, .int .i64 x1.Rule.Kind, .int .i64 x1.Rule.Columns, .int .i64 x1.Rule.Faulty]] → esref10_placed.j1 x1 x66 x69 = some r → K64 ρ w := by
          intro x66 x69 cs67 ρ w hl68 h65_3 h65_6 hs hf
          refine hK64 _ _ ?_
          unfold esref10_placed.j1 at hf
          refine W.seqK fun K71 hK71 => ?_
          refine W.region ?_
          refine WL.loadN (vs := [.int .i64 x1.Kind, .int .i64 x1.Server, .int .i64 x1.Weight, .int .i64 x69, .int .i64 x1.Rule.Kind, .int .i64 x1.Rule.Columns, .int .i64 x1.Rule.Faulty]) hs 1 rfl TI26 h65_3 rfl rfl ?_
          refine WL.storeAll (vs := [.int .i64 x1.Kind, .int .i64 x1.Server, .int .i64 x1.Weight, .int .i64 x69, .int .i64 x1.Rule.Kind, .int .i64 x1.Rule.Columns, .int .i64 x1.Rule.Faulty]) hs 0 rfl TI26 h65_6 rfl rfl rfl (ones_of rfl) hl68 (fun w hs => ?_)
          refine WL.assign (v := .int .i64 0) rfl ?_
          refine WL.nil ?_
          refine hK71 _ _ ?_
          refine W.ret ?_
          have hr := Option.some.inj hf; subst hr
          have hs := hs.add (it := vl t_api_Change (⟨x1.Kind, x1.Server, x1.Weight, x69, (⟨x1.Rule.Kind, x1.Rule.Columns, x1.Rule.Faulty⟩ : api_Rule)⟩ : api_Change) (.agg [.int .i64 x1.Kind, .int .i64 x1.Server, .int .i64 x1.Weight, .int .i64 x69, .int .i64 x1.Rule.Kind, .int .i64 x1.Rule.Columns, .int .i64 x1.Rule.Faulty].toArray)) fun ok hA => V_agg (show t_api_Change.R ok _ _ _ from ⟨[.int .i64 x1.Kind], [.int .i64 x1.Server, .int .i64 x1.Weight, .int .i64 x69, .int .i64 x1.Rule.Kind, .int .i64 x1.Rule.Columns, .int .i64 x1.Rule.Faulty], rfl, rfl, ⟨[.int .i64 x1.Server], [.int .i64 x1.Weight, .int .i64 x69, .int .i64 x1.Rule.Kind, .int .i64 x1.Rule.Columns, .int .i64 x1.Rule.Faulty], rfl, rfl, ⟨[.int .i64 x1.Weight], [.int .i64 x69, .int .i64 x1.Rule.Kind, .int .i64 x1.Rule.Columns, .int .i64 x1.Rule.Faulty], rfl, rfl, ⟨[.int .i64 x69], [.int .i64 x1.Rule.Kind, .int .i64 x1.Rule.Columns, .int .i64 x1.Rule.Faulty], rfl, rfl, ⟨[.int .i64 x1.Rule.Kind], [.int .i64 x1.Rule.Columns, .int .i64 x1.Rule.Faulty], rfl, rfl, ⟨[.int .i64 x1.Rule.Columns], [.int .i64 x1.Rule.Faulty], rfl, rfl, rfl⟩⟩⟩⟩⟩⟩) rfl
          exact ⟨_, resOk_two rfl (res_all hs 0 rfl TI26 h65_6 rfl) rfl, [.int .i64 x1.Kind, .int .i64 x1.Server, .int .i64 x1.Weight, .int .i64 x69, .int .i64 x1.Rule.Kind, .int .i64 x1.Rule.Columns, .int .i64 x1.Rule.Faulty], rfl, (hs.mask []).pick [0]⟩
        refine W.seqK fun K72 hK72 => ?_
        refine W.region ?_
        refine WL.fieldAddr (m := 0) ((hu49 3 rfl).trans h21_3) FA26_0 rfl ?_
        refine WL.load1 (v := .int .i64 x1.Kind) hs 2 rfl TI3 rfl rfl ?_
        refine WL.nil ?_
        refine hK72 _ _ ?_
        refine W.block ?_
        refine W.seqK fun K73 hK73 => ?_
        refine W.region ?_
        refine WL.bin (v := .bool (x1.Kind == 1)) rfl rfl (ib_eql _ _ _) ?_
        refine WL.assign (v := .bool (x1.Kind == 1)) rfl ?_
        refine WL.nil ?_
        refine hK73 _ _ ?_
        rcases iteE hf with ⟨hc74, hf⟩ | ⟨hc74, hf⟩
        · refine W.cond_true (bool_tr rfl hc74) ?_
          refine W.seqK fun K75 hK75 => ?_
          refine W.seqK fun K76 hK76 => ?_
          have Jk79 : ∀ (x78 : Bool) (ρ : Env) (w : World), ρ 3 = .pointer (some ⟨g13, 0, none⟩) → ρ 6 = .pointer (some ⟨g15, 0, none⟩) → ρ 91 = .bool x78 → St ok (bz w0) w [vl t_api_Change x22 (.agg cs23.toArray)] [blk g15 26 cs23, blk g13 26 [.int .i64 x1.Kind, .int .i64 x1.Server, .int .i64 x1.Weight, .int .i64 x1.Version, .int .i64 x1.Rule.Kind, .int .i64 x1.Rule.Columns, .int .i64 x1.Rule.Faulty]] → esref10_placed.j2 x1 x78 = some r → K76 ρ w := by
            intro x78 ρ w h77_3 h77_6 h77_91 hs hf
            refine hK76 _ _ ?_
            unfold esref10_placed.j2 at hf
            rcases iteE hf with ⟨hc80, hf⟩ | ⟨hc80, hf⟩
            · refine W.cond_true (bool_tr h77_91 hc80) ?_
              refine W.seqK fun K81 hK81 => ?_
              refine W.region ?_
              refine WL.loadN (vs := [.int .i64 x1.Kind, .int .i64 x1.Server, .int .i64 x1.Weight, .int .i64 x1.Version, .int .i64 x1.Rule.Kind, .int .i64 x1.Rule.Columns, .int .i64 x1.Rule.Faulty]) hs 1 rfl TI26 h77_3 rfl rfl ?_
              refine WL.storeAll (vs := [.int .i64 x1.Kind, .int .i64 x1.Server, .int .i64 x1.Weight, .int .i64 x1.Version, .int .i64 x1.Rule.Kind, .int .i64 x1.Rule.Columns, .int .i64 x1.Rule.Faulty]) hs 0 rfl TI26 h77_6 rfl rfl rfl (ones_of rfl) hl24 (fun w hs => ?_)
              refine WL.assign (v := .int .i64 5) rfl ?_
              refine WL.nil ?_
              refine hK81 _ _ ?_
              refine W.ret ?_
              have hr := Option.some.inj hf; subst hr
              have hs := hs.add (it := vl t_api_Change (⟨x1.Kind, x1.Server, x1.Weight, x1.Version, (⟨x1.Rule.Kind, x1.Rule.Columns, x1.Rule.Faulty⟩ : api_Rule)⟩ : api_Change) (.agg [.int .i64 x1.Kind, .int .i64 x1.Server, .int .i64 x1.Weight, .int .i64 x1.Version, .int .i64 x1.Rule.Kind, .int .i64 x1.Rule.Columns, .int .i64 x1.Rule.Faulty].toArray)) fun ok hA => V_agg (show t_api_Change.R ok _ _ _ from ⟨[.int .i64 x1.Kind], [.int .i64 x1.Server, .int .i64 x1.Weight, .int .i64 x1.Version, .int .i64 x1.Rule.Kind, .int .i64 x1.Rule.Columns, .int .i64 x1.Rule.Faulty], rfl, rfl, ⟨[.int .i64 x1.Server], [.int .i64 x1.Weight, .int .i64 x1.Version, .int .i64 x1.Rule.Kind, .int .i64 x1.Rule.Columns, .int .i64 x1.Rule.Faulty], rfl, rfl, ⟨[.int .i64 x1.Weight], [.int .i64 x1.Version, .int .i64 x1.Rule.Kind, .int .i64 x1.Rule.Columns, .int .i64 x1.Rule.Faulty], rfl, rfl, ⟨[.int .i64 x1.Version], [.int .i64 x1.Rule.Kind, .int .i64 x1.Rule.Columns, .int .i64 x1.Rule.Faulty], rfl, rfl, ⟨[.int .i64 x1.Rule.Kind], [.int .i64 x1.Rule.Columns, .int .i64 x1.Rule.Faulty], rfl, rfl, ⟨[.int .i64 x1.Rule.Columns], [.int .i64 x1.Rule.Faulty], rfl, rfl, rfl⟩⟩⟩⟩⟩⟩) rfl
              exact ⟨_, resOk_two rfl (res_all hs 0 rfl TI26 h77_6 rfl) rfl, [.int .i64 x1.Kind, .int .i64 x1.Server, .int .i64 x1.Weight, .int .i64 x1.Version, .int .i64 x1.Rule.Kind, .int .i64 x1.Rule.Columns, .int .i64 x1.Rule.Faulty], rfl, (hs.mask []).pick [0]⟩
            · refine W.cond_false (bool_tr h77_91 hc80) ?_
              refine W.skip ?_
              refine hK75 _ _ ?_
              refine W.seqK fun K82 hK82 => ?_
              refine W.region ?_
              refine WL.loadN (vs := [.int .i64 x1.Kind, .int .i64 x1.Server, .int .i64 x1.Weight, .int .i64 x1.Version, .int .i64 x1.Rule.Kind, .int .i64 x1.Rule.Columns, .int .i64 x1.Rule.Faulty]) hs 1 rfl TI26 h77_3 rfl rfl ?_
              refine WL.storeAll (vs := [.int .i64 x1.Kind, .int .i64 x1.Server, .int .i64 x1.Weight, .int .i64 x1.Version, .int .i64 x1.Rule.Kind, .int .i64 x1.Rule.Columns, .int .i64 x1.Rule.Faulty]) hs 0 rfl TI26 h77_6 rfl rfl rfl (ones_of rfl) hl24 (fun w hs => ?_)
              refine WL.assign (v := .int .i64 0) rfl ?_
              refine WL.nil ?_
              refine hK82 _ _ ?_
              refine W.ret ?_
              have hr := Option.some.inj hf; subst hr
              have hs := hs.add (it := vl t_api_Change (⟨x1.Kind, x1.Server, x1.Weight, x1.Version, (⟨x1.Rule.Kind, x1.Rule.Columns, x1.Rule.Faulty⟩ : api_Rule)⟩ : api_Change) (.agg [.int .i64 x1.Kind, .int .i64 x1.Server, .int .i64 x1.Weight, .int .i64 x1.Version, .int .i64 x1.Rule.Kind, .int .i64 x1.Rule.Columns, .int .i64 x1.Rule.Faulty].toArray)) fun ok hA => V_agg (show t_api_Change.R ok _ _ _ from ⟨[.int .i64 x1.Kind], [.int .i64 x1.Server, .int .i64 x1.Weight, .int .i64 x1.Version, .int .i64 x1.Rule.Kind, .int .i64 x1.Rule.Columns, .int .i64 x1.Rule.Faulty], rfl, rfl, ⟨[.int .i64 x1.Server], [.int .i64 x1.Weight, .int .i64 x1.Version, .int .i64 x1.Rule.Kind, .int .i64 x1.Rule.Columns, .int .i64 x1.Rule.Faulty], rfl, rfl, ⟨[.int .i64 x1.Weight], [.int .i64 x1.Version, .int .i64 x1.Rule.Kind, .int .i64 x1.Rule.Columns, .int .i64 x1.Rule.Faulty], rfl, rfl, ⟨[.int .i64 x1.Version], [.int .i64 x1.Rule.Kind, .int .i64 x1.Rule.Columns, .int .i64 x1.Rule.Faulty], rfl, rfl, ⟨[.int .i64 x1.Rule.Kind], [.int .i64 x1.Rule.Columns, .int .i64 x1.Rule.Faulty], rfl, rfl, ⟨[.int .i64 x1.Rule.Columns], [.int .i64 x1.Rule.Faulty], rfl, rfl, rfl⟩⟩⟩⟩⟩⟩) rfl
              exact ⟨_, resOk_two rfl (res_all hs 0 rfl TI26 h77_6 rfl) rfl, [.int .i64 x1.Kind, .int .i64 x1.Server, .int .i64 x1.Weight, .int .i64 x1.Version, .int .i64 x1.Rule.Kind, .int .i64 x1.Rule.Columns, .int .i64 x1.Rule.Faulty], rfl, (hs.mask []).pick [0]⟩
          refine W.region ?_
          refine WL.move (v := .bool x30) rfl ?_
          refine WL.move (v := .bool x30) rfl ?_
          rcases iteE hf with ⟨hc83, hf⟩ | ⟨hc83, hf⟩
          · refine WL.pass ((wanted_of rfl rfl (bool_tr rfl hc83)).trans rfl) rfl ?_
            refine WL.pickT (v := .bool true) (bool_tr rfl hc83) rfl ?_
            refine WL.nil ?_
            exact Jk79 true _ _ ((hu49 3 rfl).trans h21_3) ((hu49 6 rfl).trans h21_6) rfl ((hs.mask [true, false, true]).pick [3]) hf
          · refine WL.move (v := .bool x34) rfl ?_ (hg := (wanted_of rfl rfl (bool_tr rfl hc83)).trans rfl)
            refine WL.pickF (v := .bool x34) (bool_tr rfl hc83) rfl ?_
            refine WL.nil ?_
            exact Jk79 x34 _ _ ((hu49 3 rfl).trans h21_3) ((hu49 6 rfl).trans h21_6) rfl ((hs.mask [true, false, true]).pick [3]) hf
        · refine W.cond_false (bool_tr rfl hc74) ?_
          refine W.seqK fun K84 hK84 => ?_
          refine W.region ?_
          refine WL.bin (v := .bool (x1.Kind == 4)) rfl rfl (ib_eql _ _ _) ?_
          refine WL.assign (v := .bool (x1.Kind == 4)) rfl ?_
          refine WL.nil ?_
          refine hK84 _ _ ?_
          rcases iteE hf with ⟨hc85, hf⟩ | ⟨hc85, hf⟩
          · refine W.cond_true (bool_tr rfl hc85) ?_
            refine W.seqK fun K86 hK86 => ?_
            refine W.seqK fun K87 hK87 => ?_
            refine W.region ?_
            refine WL.fieldAddr (m := 6) ((hu49 5 rfl).trans h21_5) FA36_4 rfl ?_
            refine WL.loadF (z := x8.Version) F_api_Summary_Version hs 1 rfl 4 rfl rfl TI3 (.inr rfl) rfl rfl (fun v88 hs => ?_)
            obtain rfl := hs.int 0 rfl
            refine WL.bin (v := .bool (decide (1000 ≤ x8.Version))) rfl rfl (ib_geq _ _ _) ?_
            refine WL.nil ?_
            refine hK87 _ _ ?_
            rcases iteE hf with ⟨hc89, hf⟩ | ⟨hc89, hf⟩
            · refine W.cond_true (bool_tr rfl hc89) ?_
              refine W.seqK fun K90 hK90 => ?_
              refine W.region ?_
              refine WL.loadN (vs := [.int .i64 x1.Kind, .int .i64 x1.Server, .int .i64 x1.Weight, .int .i64 x1.Version, .int .i64 x1.Rule.Kind, .int .i64 x1.Rule.Columns, .int .i64 x1.Rule.Faulty]) hs 2 rfl TI26 ((hu49 3 rfl).trans h21_3) rfl rfl ?_
              refine WL.storeAll (vs := [.int .i64 x1.Kind, .int .i64 x1.Server, .int .i64 x1.Weight, .int .i64 x1.Version, .int .i64 x1.Rule.Kind, .int .i64 x1.Rule.Columns, .int .i64 x1.Rule.Faulty]) hs 0 rfl TI26 ((hu49 6 rfl).trans h21_6) rfl rfl rfl (ones_of rfl) hl24 (fun w hs => ?_)
              refine WL.assign (v := .int .i64 9) rfl ?_
              refine WL.nil ?_
              refine hK90 _ _ ?_
              refine W.ret ?_
              have hr := Option.some.inj hf; subst hr
              have hs := hs.add (it := vl t_api_Change (⟨x1.Kind, x1.Server, x1.Weight, x1.Version, (⟨x1.Rule.Kind, x1.Rule.Columns, x1.Rule.Faulty⟩ : api_Rule)⟩ : api_Change) (.agg [.int .i64 x1.Kind, .int .i64 x1.Server, .int .i64 x1.Weight, .int .i64 x1.Version, .int .i64 x1.Rule.Kind, .int .i64 x1.Rule.Columns, .int .i64 x1.Rule.Faulty].toArray)) fun ok hA => V_agg (show t_api_Change.R ok _ _ _ from ⟨[.int .i64 x1.Kind], [.int .i64 x1.Server, .int .i64 x1.Weight, .int .i64 x1.Version, .int .i64 x1.Rule.Kind, .int .i64 x1.Rule.Columns, .int .i64 x1.Rule.Faulty], rfl, rfl, ⟨[.int .i64 x1.Server], [.int .i64 x1.Weight, .int .i64 x1.Version, .int .i64 x1.Rule.Kind, .int .i64 x1.Rule.Columns, .int .i64 x1.Rule.Faulty], rfl, rfl, ⟨[.int .i64 x1.Weight], [.int .i64 x1.Version, .int .i64 x1.Rule.Kind, .int .i64 x1.Rule.Columns, .int .i64 x1.Rule.Faulty], rfl, rfl, ⟨[.int .i64 x1.Version], [.int .i64 x1.Rule.Kind, .int .i64 x1.Rule.Columns, .int .i64 x1.Rule.Faulty], rfl, rfl, ⟨[.int .i64 x1.Rule.Kind], [.int .i64 x1.Rule.Columns, .int .i64 x1.Rule.Faulty], rfl, rfl, ⟨[.int .i64 x1.Rule.Columns], [.int .i64 x1.Rule.Faulty], rfl, rfl, rfl⟩⟩⟩⟩⟩⟩) rfl
              exact ⟨_, resOk_two rfl (res_all hs 0 rfl TI26 ((hu49 6 rfl).trans h21_6) rfl) rfl, [.int .i64 x1.Kind, .int .i64 x1.Server, .int .i64 x1.Weight, .int .i64 x1.Version, .int .i64 x1.Rule.Kind, .int .i64 x1.Rule.Columns, .int .i64 x1.Rule.Faulty], rfl, (hs.mask []).pick [0]⟩
            · refine W.cond_false (bool_tr rfl hc89) ?_
              refine W.skip ?_
              refine hK86 _ _ ?_
              refine W.region ?_
              refine WL.fieldAddr (m := 6) ((hu49 5 rfl).trans h21_5) FA36_4 rfl ?_
              refine WL.loadF (z := x8.Version) F_api_Summary_Version hs 1 rfl 5 rfl rfl TI3 (.inr rfl) rfl rfl (fun v91 hs => ?_)
              obtain rfl := hs.int 0 rfl
              obtain ⟨x92, ex92, hf⟩ := letE hf
              refine WL.bin (v := .int .i64 x92) rfl rfl (ib_as ex92 (ib_add _ _ _)) ?_
              refine WL.fieldAddr (m := 3) ((hu49 3 rfl).trans h21_3) FA26_3 rfl ?_
              refine WL.store (vs := [.int .i64 x92]) (cs' := [.int .i64 x1.Kind, .int .i64 x1.Server, .int .i64 x1.Weight, .int .i64 x92, .int .i64 x1.Rule.Kind, .int .i64 x1.Rule.Columns, .int .i64 x1.Rule.Faulty]) hs 2 rfl TI3 rfl rfl rfl rfl (ones_of rfl) (Nat.le_of_ble_eq_true rfl) rfl (fun w hs => ?_)
              refine WL.nil ?_
              exact Jk70 x22 x92 cs23 _ _ hl24 ((hu49 3 rfl).trans h21_3) ((hu49 6 rfl).trans h21_6) ((hs.mask [true, false, true]).pick [5]) hf
          · refine W.cond_false (bool_tr rfl hc85) ?_
            refine W.seqK fun K93 hK93 => ?_
            refine W.seqK fun K94 hK94 => ?_
            have Jk97 : ∀ (x96 : Bool) (ρ : Env) (w : World), ρ 3 = .pointer (some ⟨g13, 0, none⟩) → ρ 5 = .pointer (some ⟨g14, 0, none⟩) → ρ 6 = .pointer (some ⟨g15, 0, none⟩) → ρ 64 = .bool x96 → St ok (bz w0) w [vl t_api_Change x22 (.agg cs23.toArray), vl t_api_Summary x8 (.agg cs10.toArray)] [blk g15 26 cs23, blk g14 36 cs10, blk g13 26 [.int .i64 x1.Kind, .int .i64 x1.Server, .int .i64 x1.Weight, .int .i64 x1.Version, .int .i64 x1.Rule.Kind, .int .i64 x1.Rule.Columns, .int .i64 x1.Rule.Faulty]] → esref10_placed.j4 x1 x8 x22 x96 = some r → K94 ρ w := by
              intro x96 ρ w h95_3 h95_5 h95_6 h95_64 hs hf
              refine hK94 _ _ ?_
              unfold esref10_placed.j4 at hf
              rcases iteE hf with ⟨hc98, hf⟩ | ⟨hc98, hf⟩
              · refine W.cond_true (bool_tr h95_64 hc98) ?_
                refine W.seqK fun K99 hK99 => ?_
                refine W.region ?_
                refine WL.loadN (vs := [.int .i64 x1.Kind, .int .i64 x1.Server, .int .i64 x1.Weight, .int .i64 x1.Version, .int .i64 x1.Rule.Kind, .int .i64 x1.Rule.Columns, .int .i64 x1.Rule.Faulty]) hs 2 rfl TI26 h95_3 rfl rfl ?_
                refine WL.storeAll (vs := [.int .i64 x1.Kind, .int .i64 x1.Server, .int .i64 x1.Weight, .int .i64 x1.Version, .int .i64 x1.Rule.Kind, .int .i64 x1.Rule.Columns, .int .i64 x1.Rule.Faulty]) hs 0 rfl TI26 h95_6 rfl rfl rfl (ones_of rfl) hl24 (fun w hs => ?_)
                refine WL.assign (v := .int .i64 6) rfl ?_
                refine WL.nil ?_
                refine hK99 _ _ ?_
                refine W.ret ?_
                have hr := Option.some.inj hf; subst hr
                have hs := hs.add (it := vl t_api_Change (⟨x1.Kind, x1.Server, x1.Weight, x1.Version, (⟨x1.Rule.Kind, x1.Rule.Columns, x1.Rule.Faulty⟩ : api_Rule)⟩ : api_Change) (.agg [.int .i64 x1.Kind, .int .i64 x1.Server, .int .i64 x1.Weight, .int .i64 x1.Version, .int .i64 x1.Rule.Kind, .int .i64 x1.Rule.Columns, .int .i64 x1.Rule.Faulty].toArray)) fun ok hA => V_agg (show t_api_Change.R ok _ _ _ from ⟨[.int .i64 x1.Kind], [.int .i64 x1.Server, .int .i64 x1.Weight, .int .i64 x1.Version, .int .i64 x1.Rule.Kind, .int .i64 x1.Rule.Columns, .int .i64 x1.Rule.Faulty], rfl, rfl, ⟨[.int .i64 x1.Server], [.int .i64 x1.Weight, .int .i64 x1.Version, .int .i64 x1.Rule.Kind, .int .i64 x1.Rule.Columns, .int .i64 x1.Rule.Faulty], rfl, rfl, ⟨[.int .i64 x1.Weight], [.int .i64 x1.Version, .int .i64 x1.Rule.Kind, .int .i64 x1.Rule.Columns, .int .i64 x1.Rule.Faulty], rfl, rfl, ⟨[.int .i64 x1.Version], [.int .i64 x1.Rule.Kind, .int .i64 x1.Rule.Columns, .int .i64 x1.Rule.Faulty], rfl, rfl, ⟨[.int .i64 x1.Rule.Kind], [.int .i64 x1.Rule.Columns, .int .i64 x1.Rule.Faulty], rfl, rfl, ⟨[.int .i64 x1.Rule.Columns], [.int .i64 x1.Rule.Faulty], rfl, rfl, rfl⟩⟩⟩⟩⟩⟩) rfl
                exact ⟨_, resOk_two rfl (res_all hs 0 rfl TI26 h95_6 rfl) rfl, [.int .i64 x1.Kind, .int .i64 x1.Server, .int .i64 x1.Weight, .int .i64 x1.Version, .int .i64 x1.Rule.Kind, .int .i64 x1.Rule.Columns, .int .i64 x1.Rule.Faulty], rfl, (hs.mask []).pick [0]⟩
              · refine W.cond_false (bool_tr h95_64 hc98) ?_
                refine W.skip ?_
                refine hK93 _ _ ?_
                refine W.seqK fun K100 hK100 => ?_
                refine W.seqK fun K101 hK101 => ?_
                have Jk104 : ∀ (x103 : Bool) (ρ : Env) (w : World), ρ 3 = .pointer (some ⟨g13, 0, none⟩) → ρ 5 = .pointer (some ⟨g14, 0, none⟩) → ρ 6 = .pointer (some ⟨g15, 0, none⟩) → ρ 75 = .bool x103 → St ok (bz w0) w [vl t_api_Change x22 (.agg cs23.toArray), vl t_api_Summary x8 (.agg cs10.toArray)] [blk g15 26 cs23, blk g14 36 cs10, blk g13 26 [.int .i64 x1.Kind, .int .i64 x1.Server, .int .i64 x1.Weight, .int .i64 x1.Version, .int .i64 x1.Rule.Kind, .int .i64 x1.Rule.Columns, .int .i64 x1.Rule.Faulty]] → esref10_placed.j3 x1 x8 x22 x103 = some r → K101 ρ w := by
                  intro x103 ρ w h102_3 h102_5 h102_6 h102_75 hs hf
                  refine hK101 _ _ ?_
                  unfold esref10_placed.j3 at hf
                  rcases iteE hf with ⟨hc105, hf⟩ | ⟨hc105, hf⟩
                  · refine W.cond_true (bool_tr h102_75 hc105) ?_
                    refine W.seqK fun K106 hK106 => ?_
                    refine W.region ?_
                    refine WL.loadN (vs := [.int .i64 x1.Kind, .int .i64 x1.Server, .int .i64 x1.Weight, .int .i64 x1.Version, .int .i64 x1.Rule.Kind, .int .i64 x1.Rule.Columns, .int .i64 x1.Rule.Faulty]) hs 2 rfl TI26 h102_3 rfl rfl ?_
                    refine WL.storeAll (vs := [.int .i64 x1.Kind, .int .i64 x1.Server, .int .i64 x1.Weight, .int .i64 x1.Version, .int .i64 x1.Rule.Kind, .int .i64 x1.Rule.Columns, .int .i64 x1.Rule.Faulty]) hs 0 rfl TI26 h102_6 rfl rfl rfl (ones_of rfl) hl24 (fun w hs => ?_)
                    refine WL.assign (v := .int .i64 9) rfl ?_
                    refine WL.nil ?_
                    refine hK106 _ _ ?_
                    refine W.ret ?_
                    have hr := Option.some.inj hf; subst hr
                    have hs := hs.add (it := vl t_api_Change (⟨x1.Kind, x1.Server, x1.Weight, x1.Version, (⟨x1.Rule.Kind, x1.Rule.Columns, x1.Rule.Faulty⟩ : api_Rule)⟩ : api_Change) (.agg [.int .i64 x1.Kind, .int .i64 x1.Server, .int .i64 x1.Weight, .int .i64 x1.Version, .int .i64 x1.Rule.Kind, .int .i64 x1.Rule.Columns, .int .i64 x1.Rule.Faulty].toArray)) fun ok hA => V_agg (show t_api_Change.R ok _ _ _ from ⟨[.int .i64 x1.Kind], [.int .i64 x1.Server, .int .i64 x1.Weight, .int .i64 x1.Version, .int .i64 x1.Rule.Kind, .int .i64 x1.Rule.Columns, .int .i64 x1.Rule.Faulty], rfl, rfl, ⟨[.int .i64 x1.Server], [.int .i64 x1.Weight, .int .i64 x1.Version, .int .i64 x1.Rule.Kind, .int .i64 x1.Rule.Columns, .int .i64 x1.Rule.Faulty], rfl, rfl, ⟨[.int .i64 x1.Weight], [.int .i64 x1.Version, .int .i64 x1.Rule.Kind, .int .i64 x1.Rule.Columns, .int .i64 x1.Rule.Faulty], rfl, rfl, ⟨[.int .i64 x1.Version], [.int .i64 x1.Rule.Kind, .int .i64 x1.Rule.Columns, .int .i64 x1.Rule.Faulty], rfl, rfl, ⟨[.int .i64 x1.Rule.Kind], [.int .i64 x1.Rule.Columns, .int .i64 x1.Rule.Faulty], rfl, rfl, ⟨[.int .i64 x1.Rule.Columns], [.int .i64 x1.Rule.Faulty], rfl, rfl, rfl⟩⟩⟩⟩⟩⟩) rfl
                    exact ⟨_, resOk_two rfl (res_all hs 0 rfl TI26 h102_6 rfl) rfl, [.int .i64 x1.Kind, .int .i64 x1.Server, .int .i64 x1.Weight, .int .i64 x1.Version, .int .i64 x1.Rule.Kind, .int .i64 x1.Rule.Columns, .int .i64 x1.Rule.Faulty], rfl, (hs.mask []).pick [0]⟩
                  · refine W.cond_false (bool_tr h102_75 hc105) ?_
                    refine W.skip ?_
                    refine hK100 _ _ ?_
                    refine W.seqK fun K107 hK107 => ?_
                    refine W.region ?_
                    refine WL.fieldAddr (m := 0) h102_3 FA26_0 rfl ?_
                    refine WL.load1 (v := .int .i64 x1.Kind) hs 2 rfl TI3 rfl rfl ?_
                    refine WL.bin (v := .bool (x1.Kind == 3)) rfl rfl (ib_eql _ _ _) ?_
                    refine WL.nil ?_
                    refine hK107 _ _ ?_
                    rcases iteE hf with ⟨hc108, hf⟩ | ⟨hc108, hf⟩
                    · refine W.cond_true (bool_tr rfl hc108) ?_
                      refine W.region ?_
                      refine WL.loadAll hs 1 rfl TI36 h102_5 hl11 ?_
                      refine WL.fieldAddr (m := 1) h102_3 FA26_1 rfl ?_
                      refine WL.load1 (v := .int .i64 x1.Server) hs 2 rfl TI3 rfl rfl ?_
                      obtain ⟨x109, hxx109, hf⟩ := bindE hf
                      refine WL.call (vs := [.agg cs10.toArray, .int .i64 x1.Server]) hs FN61 ⟨rfl, ⟨rfl, trivial⟩⟩ (fun ok hA => esref10_entryVersion.calls (x1 := x8) (x5 := x1.Server) hxx109 (hA.get 1 rfl)) ?_
                      rintro _ w hs
                      obtain ⟨x110, ex110, hf⟩ := letE hf
                      refine WL.bin (v := .int .i64 x110) rfl rfl (ib_as ex110 (ib_add _ _ _)) ?_
                      refine WL.fieldAddr (m := 3) h102_3 FA26_3 rfl ?_
                      refine WL.store (vs := [.int .i64 x110]) (cs' := [.int .i64 x1.Kind, .int .i64 x1.Server, .int .i64 x1.Weight, .int .i64 x110, .int .i64 x1.Rule.Kind, .int .i64 x1.Rule.Columns, .int .i64 x1.Rule.Faulty]) hs 2 rfl TI3 rfl rfl rfl rfl (ones_of rfl) (Nat.le_of_ble_eq_true rfl) rfl (fun w hs => ?_)
                      refine WL.nil ?_
                      exact Jk70 x22 x110 cs23 _ _ hl24 h102_3 h102_6 ((hs.mask [true, false, true]).pick [0]) hf
                    · refine W.cond_false (bool_tr rfl hc108) ?_
                      refine W.skip ?_
                      exact Jk70 x22 x1.Version cs23 _ _ hl24 h102_3 h102_6 ((hs.mask [true, false, true]).pick [0]) hf
                refine W.region ?_
                refine WL.fieldAddr (m := 0) h95_3 FA26_0 rfl ?_
                refine WL.load1 (v := .int .i64 x1.Kind) hs 2 rfl TI3 rfl rfl ?_
                refine WL.bin (v := .bool (x1.Kind == 3)) rfl rfl (ib_eql _ _ _) ?_
                refine WL.move (v := .bool (x1.Kind == 3)) rfl ?_
                rcases iteE hf with ⟨hc111, hf⟩ | ⟨hc111, hf⟩
                · refine WL.loadAll hs 1 rfl TI36 h95_5 hl11 ?_ (hg := (wanted_of rfl rfl (bool_tr rfl hc111)).trans rfl)
                  refine WL.fieldAddr (m := 1) h95_3 FA26_1 rfl ?_ (hg := (wanted_of rfl rfl (bool_tr rfl hc111)).trans rfl)
                  refine WL.load1 (v := .int .i64 x1.Server) hs 2 rfl TI3 rfl rfl ?_ (hg := (wanted_of rfl rfl (bool_tr rfl hc111)).trans rfl)
                  obtain ⟨x112, hxx112, hf⟩ := bindE hf
                  refine WL.call (vs := [.agg cs10.toArray, .int .i64 x1.Server]) hs FN61 ⟨rfl, ⟨rfl, trivial⟩⟩ (fun ok hA => esref10_entryVersion.calls (x1 := x8) (x5 := x1.Server) hxx112 (hA.get 1 rfl)) ?_ (hg := (wanted_of rfl rfl (bool_tr rfl hc111)).trans rfl)
                  rintro _ w hs
                  refine WL.bin (v := .bool (decide (1000 ≤ x112))) rfl rfl (ib_geq _ _ _) ?_ (hg := (wanted_of rfl rfl (bool_tr rfl hc111)).trans rfl)
                  refine WL.pickT (v := .bool (decide (1000 ≤ x112))) (bool_tr rfl hc111) rfl ?_
                  refine WL.nil ?_
                  exact Jk104 (decide (1000 ≤ x112)) _ _ h95_3 h95_5 h95_6 rfl ((hs.mask [true, true, true]).pick [0, 1]) hf
                · refine WL.pass ((wanted_of rfl rfl (bool_tr rfl hc111)).trans rfl) rfl ?_
                  refine WL.pass ((wanted_of rfl rfl (bool_tr rfl hc111)).trans rfl) rfl ?_
                  refine WL.pass ((wanted_of rfl rfl (bool_tr rfl hc111)).trans rfl) rfl ?_
                  refine WL.pass ((wanted_of rfl rfl (bool_tr rfl hc111)).trans rfl) rfl ?_
                  refine WL.pass ((wanted_of rfl rfl (bool_tr rfl hc111)).trans rfl) rfl ?_
                  refine WL.pickF (v := .bool false) (bool_tr rfl hc111) rfl ?_
                  refine WL.nil ?_
                  exact Jk104 false _ _ h95_3 h95_5 h95_6 rfl ((hs.mask [true, true, true]).pick [0, 1]) hf
            refine W.region ?_
            refine WL.move (v := .bool x30) rfl ?_
            refine WL.move (v := .bool x30) rfl ?_
            rcases iteE hf with ⟨hc113, hf⟩ | ⟨hc113, hf⟩
            · refine WL.move (v := .bool x34) rfl ?_ (hg := (wanted_of rfl rfl (bool_tr rfl hc113)).trans rfl)
              refine WL.not rfl ?_ (hg := (wanted_of rfl rfl (bool_tr rfl hc113)).trans rfl)
              refine WL.pickT (v := .bool (!x34)) (bool_tr rfl hc113) rfl ?_
              refine WL.not rfl ?_
              refine WL.move (v := .bool (!(!x34))) rfl ?_
              rcases iteE hf with ⟨hc114, hf⟩ | ⟨hc114, hf⟩
              · refine WL.move (v := .slice a6 x5.length c7) ((hu49 1 rfl).trans h21_1) ?_ (hg := (wanted_of rfl rfl (bool_tr rfl hc114)).trans rfl)
                refine WL.fieldAddr (m := 1) ((hu49 3 rfl).trans h21_3) FA26_1 rfl ?_ (hg := (wanted_of rfl rfl (bool_tr rfl hc114)).trans rfl)
                refine WL.load1 (v := .int .i64 x1.Server) hs 2 rfl TI3 rfl rfl ?_ (hg := (wanted_of rfl rfl (bool_tr rfl hc114)).trans rfl)
                obtain ⟨x115, hxx115, hf⟩ := bindE hf
                refine WL.call (vs := [.slice a6 x5.length c7, .int .i64 x1.Server]) hs FN60 ⟨rfl, ⟨rfl, trivial⟩⟩ (fun ok hA => esref10_joins.calls (x1 := x5) (x4 := x1.Server) hxx115 (hA.get 2 rfl)) ?_ (hg := (wanted_of rfl rfl (bool_tr rfl hc114)).trans rfl)
                rintro _ w hs
                refine WL.not rfl ?_ (hg := (wanted_of rfl rfl (bool_tr rfl hc114)).trans rfl)
                refine WL.pickT (v := .bool (!x115)) (bool_tr rfl hc114) rfl ?_
                refine WL.nil ?_
                exact Jk97 (!x115) _ _ ((hu49 3 rfl).trans h21_3) ((hu49 5 rfl).trans h21_5) ((hu49 6 rfl).trans h21_6) rfl ((hs.mask [true, true, true]).pick [3, 4]) hf
              · refine WL.pass ((wanted_of rfl rfl (bool_tr rfl hc114)).trans rfl) rfl ?_
                refine WL.pass ((wanted_of rfl rfl (bool_tr rfl hc114)).trans rfl) rfl ?_
                refine WL.pass ((wanted_of rfl rfl (bool_tr rfl hc114)).trans rfl) rfl ?_
                refine WL.pass ((wanted_of rfl rfl (bool_tr rfl hc114)).trans rfl) rfl ?_
                refine WL.pass ((wanted_of rfl rfl (bool_tr rfl hc114)).trans rfl) rfl ?_
                refine WL.pickF (v := .bool false) (bool_tr rfl hc114) rfl ?_
                refine WL.nil ?_
                exact Jk97 false _ _ ((hu49 3 rfl).trans h21_3) ((hu49 5 rfl).trans h21_5) ((hu49 6 rfl).trans h21_6) rfl ((hs.mask [true, true, true]).pick [3, 4]) hf
            · refine WL.pass ((wanted_of rfl rfl (bool_tr rfl hc113)).trans rfl) rfl ?_
              refine WL.pass ((wanted_of rfl rfl (bool_tr rfl hc113)).trans rfl) rfl ?_
              refine WL.pickF (v := .bool false) (bool_tr rfl hc113) rfl ?_
              refine WL.not rfl ?_
              refine WL.move (v := .bool true) rfl ?_
              refine WL.move (v := .slice a6 x5.length c7) ((hu49 1 rfl).trans h21_1) ?_ (hg := (wanted_of rfl rfl rfl).trans rfl)
              refine WL.fieldAddr (m := 1) ((hu49 3 rfl).trans h21_3) FA26_1 rfl ?_ (hg := (wanted_of rfl rfl rfl).trans rfl)
              refine WL.load1 (v := .int .i64 x1.Server) hs 2 rfl TI3 rfl rfl ?_ (hg := (wanted_of rfl rfl rfl).trans rfl)
              obtain ⟨x116, hxx116, hf⟩ := bindE hf
              refine WL.call (vs := [.slice a6 x5.length c7, .int .i64 x1.Server]) hs FN60 ⟨rfl, ⟨rfl, trivial⟩⟩ (fun ok hA => esref10_joins.calls (x1 := x5) (x4 := x1.Server) hxx116 (hA.get 2 rfl)) ?_ (hg := (wanted_of rfl rfl rfl).trans rfl)
              rintro _ w hs
              refine WL.not rfl ?_ (hg := (wanted_of rfl rfl rfl).trans rfl)
              refine WL.pickT (v := .bool (!x116)) rfl rfl ?_
              refine WL.nil ?_
              exact Jk97 (!x116) _ _ ((hu49 3 rfl).trans h21_3) ((hu49 5 rfl).trans h21_5) ((hu49 6 rfl).trans h21_6) rfl ((hs.mask [true, true, true]).pick [3, 4]) hf
    refine W.seqK fun K117 hK117 => ?_
    refine W.region ?_
    refine WL.assign (v := .int .i64 0) rfl ?_
    refine WL.nil ?_
    refine hK117 _ _ ?_
    refine W.block ?_
    obtain ⟨bs123, hbs123, hfs123⟩ := bindE hf
    have hs := hs.add (it := vl t_api_Change (⟨0, 0, 0, 0, (⟨0, 0, 0⟩ : api_Rule)⟩ : api_Change) (.agg [.int .i64 0, .int .i64 0, .int .i64 0, .int .i64 0, .int .i64 0, .int .i64 0, .int .i64 0].toArray)) fun ok hA => V_agg (show t_api_Change.R ok _ _ _ from ⟨[.int .i64 0], [.int .i64 0, .int .i64 0, .int .i64 0, .int .i64 0, .int .i64 0, .int .i64 0], rfl, rfl, ⟨[.int .i64 0], [.int .i64 0, .int .i64 0, .int .i64 0, .int .i64 0, .int .i64 0], rfl, rfl, ⟨[.int .i64 0], [.int .i64 0, .int .i64 0, .int .i64 0, .int .i64 0], rfl, rfl, ⟨[.int .i64 0], [.int .i64 0, .int .i64 0, .int .i64 0], rfl, rfl, ⟨[.int .i64 0], [.int .i64 0, .int .i64 0], rfl, rfl, ⟨[.int .i64 0], [.int .i64 0], rfl, rfl, rfl⟩⟩⟩⟩⟩⟩) rfl
    have hs := hs.add (it := vl t_api_Change (⟨0, 0, 0, 0, (⟨0, 0, 0⟩ : api_Rule)⟩ : api_Change) (.agg [.int .i64 0, .int .i64 0, .int .i64 0, .int .i64 0, .int .i64 0, .int .i64 0, .int .i64 0].toArray)) fun ok hA => V_agg (show t_api_Change.R ok _ _ _ from ⟨[.int .i64 0], [.int .i64 0, .int .i64 0, .int .i64 0, .int .i64 0, .int .i64 0, .int .i64 0], rfl, rfl, ⟨[.int .i64 0], [.int .i64 0, .int .i64 0, .int .i64 0, .int .i64 0, .int .i64 0], rfl, rfl, ⟨[.int .i64 0], [.int .i64 0, .int .i64 0, .int .i64 0, .int .i64 0], rfl, rfl, ⟨[.int .i64 0], [.int .i64 0, .int .i64 0, .int .i64 0], rfl, rfl, ⟨[.int .i64 0], [.int .i64 0, .int .i64 0], rfl, rfl, ⟨[.int .i64 0], [.int .i64 0], rfl, rfl, rfl⟩⟩⟩⟩⟩⟩) rfl
    refine W.loop hbs123 (fun s ρ w => match s with | (x119, x120) => ∃ (cs121 : List Value), cs121.length = 7 ∧ ρ 1 = .slice a6 x5.length c7 ∧ ρ 3 = .pointer (some ⟨g13, 0, none⟩) ∧ ρ 5 = .pointer (some ⟨g14, 0, none⟩) ∧ ρ 6 = .pointer (some ⟨g15, 0, none⟩) ∧ ρ 8 = .int .i64 x119 ∧ St ok (bz w0) w [vl (tSlice t_api_Change) x5 (.slice a6 x5.length c7), vl t_api_Change x120 (.agg cs121.toArray), vl t_api_Summary x8 (.agg cs10.toArray)] [blk g15 26 cs121, blk g14 36 cs10, blk g13 26 [.int .i64 x1.Kind, .int .i64 x1.Server, .int .i64 x1.Weight, .int .i64 x1.Version, .int .i64 x1.Rule.Kind, .int .i64 x1.Rule.Columns, .int .i64 x1.Rule.Faulty]]) ⟨[.int .i64 0, .int .i64 0, .int .i64 0, .int .i64 0, .int .i64 0, .int .i64 0, .int .i64 0], rfl, rfl, rfl, rfl, rfl, rfl, (hs.mask [true, true, true]).pick [3, 0, 4]⟩ ?_
    intro s ρ w os123 hI hf hbbs123
    obtain ⟨x119, x120⟩ := s
    obtain ⟨cs121, hl122, h118_1, h118_3, h118_5, h118_6, h118_8, hs⟩ := hI
    unfold esref10_placed.l1 at hf
    refine W.seqK fun K124 hK124 => ?_
    refine W.seqK fun K125 hK125 => ?_
    refine W.region ?_
    refine WL.move (v := .int .i64 x119) h118_8 ?_
    refine WL.move (v := .slice a6 x5.length c7) h118_1 ?_
    refine WL.len (v := .slice a6 x5.length c7) rfl (len_slice UN38) ?_
    refine WL.bin (v := .bool (decide (x119 < (x5.length : Int)))) rfl rfl (ib_lss _ _ _) ?_
    refine WL.nil ?_
    refine hK125 _ _ ?_
    rcases iteE hf with ⟨hc126, hf⟩ | ⟨hc126, hf⟩
    · refine W.cond_true (bool_tr rfl hc126) ?_
      refine W.skip ?_
      refine hK124 _ _ ?_
      refine W.seqK fun K127 hK127 => ?_
      refine W.block ?_
      refine W.seqK fun K128 hK128 => ?_
      have Jk131 : ∀ (x130 : Bool) (ρ : Env) (w : World), ρ 1 = .slice a6 x5.length c7 → ρ 3 = .pointer (some ⟨g13, 0, none⟩) → ρ 5 = .pointer (some ⟨g14, 0, none⟩) → ρ 6 = .pointer (some ⟨g15, 0, none⟩) → ρ 8 = .int .i64 x119 → ρ 38 = .bool x130 → St ok (bz w0) w [vl (tSlice t_api_Change) x5 (.slice a6 x5.length c7), vl t_api_Change x120 (.agg cs121.toArray), vl t_api_Summary x8 (.agg cs10.toArray)] [blk g15 26 cs121, blk g14 36 cs10, blk g13 26 [.int .i64 x1.Kind, .int .i64 x1.Server, .int .i64 x1.Weight, .int .i64 x1.Version, .int .i64 x1.Rule.Kind, .int .i64 x1.Rule.Columns, .int .i64 x1.Rule.Faulty]] → esref10_placed.j6 x1 x119 x120 x130 = some os123 → K128 ρ w := by
        intro x130 ρ w h129_1 h129_3 h129_5 h129_6 h129_8 h129_38 hs hf
        refine hK128 _ _ ?_
        unfold esref10_placed.j6 at hf
        rcases iteE hf with ⟨hc132, hf⟩ | ⟨hc132, hf⟩
        · refine W.cond_true (bool_tr h129_38 hc132) ?_
          refine W.seqK fun K133 hK133 => ?_
          refine W.region ?_
          refine WL.loadN (vs := [.int .i64 x1.Kind, .int .i64 x1.Server, .int .i64 x1.Weight, .int .i64 x1.Version, .int .i64 x1.Rule.Kind, .int .i64 x1.Rule.Columns, .int .i64 x1.Rule.Faulty]) hs 2 rfl TI26 h129_3 rfl rfl ?_
          refine WL.storeAll (vs := [.int .i64 x1.Kind, .int .i64 x1.Server, .int .i64 x1.Weight, .int .i64 x1.Version, .int .i64 x1.Rule.Kind, .int .i64 x1.Rule.Columns, .int .i64 x1.Rule.Faulty]) hs 0 rfl TI26 h129_6 rfl rfl rfl (ones_of rfl) hl122 (fun w hs => ?_)
          refine WL.assign (v := .int .i64 5) rfl ?_
          refine WL.nil ?_
          refine hK133 _ _ ?_
          refine W.ret ?_
          have hr := Option.some.inj hf; subst hr
          have hr := hbbs123 _ rfl; subst hr
          have hf := hfs123
          have hr := Option.some.inj hf; subst hr
          have hs := hs.add (it := vl t_api_Change (⟨x1.Kind, x1.Server, x1.Weight, x1.Version, (⟨x1.Rule.Kind, x1.Rule.Columns, x1.Rule.Faulty⟩ : api_Rule)⟩ : api_Change) (.agg [.int .i64 x1.Kind, .int .i64 x1.Server, .int .i64 x1.Weight, .int .i64 x1.Version, .int .i64 x1.Rule.Kind, .int .i64 x1.Rule.Columns, .int .i64 x1.Rule.Faulty].toArray)) fun ok hA => V_agg (show t_api_Change.R ok _ _ _ from ⟨[.int .i64 x1.Kind], [.int .i64 x1.Server, .int .i64 x1.Weight, .int .i64 x1.Version, .int .i64 x1.Rule.Kind, .int .i64 x1.Rule.Columns, .int .i64 x1.Rule.Faulty], rfl, rfl, ⟨[.int .i64 x1.Server], [.int .i64 x1.Weight, .int .i64 x1.Version, .int .i64 x1.Rule.Kind, .int .i64 x1.Rule.Columns, .int .i64 x1.Rule.Faulty], rfl, rfl, ⟨[.int .i64 x1.Weight], [.int .i64 x1.Version, .int .i64 x1.Rule.Kind, .int .i64 x1.Rule.Columns, .int .i64 x1.Rule.Faulty], rfl, rfl, ⟨[.int .i64 x1.Version], [.int .i64 x1.Rule.Kind, .int .i64 x1.Rule.Columns, .int .i64 x1.Rule.Faulty], rfl, rfl, ⟨[.int .i64 x1.Rule.Kind], [.int .i64 x1.Rule.Columns, .int .i64 x1.Rule.Faulty], rfl, rfl, ⟨[.int .i64 x1.Rule.Columns], [.int .i64 x1.Rule.Faulty], rfl, rfl, rfl⟩⟩⟩⟩⟩⟩) rfl
          exact ⟨_, resOk_two rfl (res_all hs 0 rfl TI26 h129_6 rfl) rfl, [.int .i64 x1.Kind, .int .i64 x1.Server, .int .i64 x1.Weight, .int .i64 x1.Version, .int .i64 x1.Rule.Kind, .int .i64 x1.Rule.Columns, .int .i64 x1.Rule.Faulty], rfl, (hs.mask []).pick [0]⟩
        · refine W.cond_false (bool_tr h129_38 hc132) ?_
          refine W.skip ?_
          refine hK127 _ _ ?_
          refine W.region ?_
          refine WL.move (v := .int .i64 x119) h129_8 ?_
          obtain ⟨x134, ex134, hf⟩ := letE hf
          refine WL.bin (v := .int .i64 x134) rfl rfl (ib_as ex134 (ib_add _ _ _)) ?_
          refine WL.assign (v := .int .i64 x134) rfl ?_
          refine WL.nil ?_
          exact ⟨_, (Option.some.inj hf).symm, cs121, hl122, h129_1, h129_3, h129_5, h129_6, rfl, (hs.mask [true, true, true]).pick [0, 1, 2]⟩
      obtain ⟨x135, hxx135, hf⟩ := bindE hf
      rcases iteE hf with ⟨hc139, hf⟩ | ⟨hc139, hf⟩
      · obtain ⟨x140, hxx140, hf⟩ := bindE hf
        refine W.any (by kernel_rfl) 18 0 [true, true, true, true, true, true, true, true, true, true, true, true, true, true, true, true, true, true] rfl rfl (poAt [pv (.slice a6 x5.length c7), pv (.int .i64 x119), pq (fun y : Addr => .pointer (some y)) (fun v => [pl t_api_Change x135 (adOf v)]) (fun v => []), pq (fun y : Addr => .pointer (some y)) (fun v => [pl (tInt .i64) x135.Kind (adOf v)]) (fun v => []), pv (.int .i64 x135.Kind), pv (.pointer (some ⟨g13, 0, none⟩)), pv (.int .i64 x1.Kind), pv (.bool (x135.Kind == x1.Kind)), pv (.bool (x135.Kind == x1.Kind)), pv (.slice a6 x5.length c7), pv (.int .i64 x119), pq (fun y : Addr => .pointer (some y)) (fun v => [pl t_api_Change x140 (adOf v)]) (fun v => []), pq (fun y : Addr => .pointer (some y)) (fun v => [pl (tInt .i64) x140.Server (adOf v)]) (fun v => []), pv (.int .i64 x140.Server), pv (.pointer (some ⟨g13, 1, none⟩)), pv (.int .i64 x1.Server), pv (.bool (x140.Server == x1.Server)), pv (.bool (x140.Server == x1.Server))]) (Λ := [blk g15 26 cs121, blk g14 36 cs10, blk g13 26 [.int .i64 x1.Kind, .int .i64 x1.Server, .int .i64 x1.Weight, .int .i64 x1.Version, .int .i64 x1.Rule.Kind, .int .i64 x1.Rule.Columns, .int .i64 x1.Rule.Faulty]]) hs (by kernel_rfl) (by kernel_rfl) (by kernel_rfl) ⟨⟨⟨⟨⟨⟨⟨⟨⟨⟨⟨⟨⟨⟨⟨⟨⟨⟨trivial, ?_⟩, ?_⟩, ?_⟩, ?_⟩, ?_⟩, ?_⟩, ?_⟩, ?_⟩, ?_⟩, ?_⟩, ?_⟩, ?_⟩, ?_⟩, ?_⟩, ?_⟩, ?_⟩, ?_⟩, ?_⟩ ?_
        · intro ρ w Γx Λx hs hu hp
          refine WL.move (v := .slice a6 x5.length c7) ((hu 1 rfl).trans h118_1) ?_
          exact WL.nil ⟨rfl, _, rfl, rfl, hs.cutG 0 0⟩
        · intro ρ w Γx Λx hs hu hp
          refine WL.move (v := .int .i64 x119) ((hu 8 rfl).trans h118_8) ?_
          exact WL.nil ⟨rfl, _, rfl, rfl, hs.cutG 0 0⟩
        · intro ρ w Γx Λx hs hu hp
          have e144 : ρ 21 = .slice a6 x5.length c7 := (hp 0 rfl).1
          have e145 : ρ 22 = .int .i64 x119 := (hp 1 rfl).1
          refine WL.indexAddr hs (Γx.length + 0) (getApp rfl) UN38 TI26 e144 e145 hxx135 (fun ad136 hs => ?_)
          have hs := hs.add (it := pl t_api_Change x135 ad136) fun ok hA => hA.get 0 rfl
          exact WL.nil ⟨rfl, _, rfl, ⟨ad136, rfl⟩, hs.cutG 1 1⟩
        · intro ρ w Γx Λx hs hu hp
          obtain ⟨⟨ad146, e147r⟩, hm148⟩ := hp 2 rfl
          have e147 : ρ 23 = .pointer (some ad146) := e147r
          rw [e147r] at hm148
          have hs := hs.memo1 (it := pl t_api_Change x135 ad146) (List.mem_append.2 (.inl (hm148 _ (List.mem_of_getElem? (i := 0) rfl))))
          refine WL.fieldAddrP (z := x135.Kind) F_api_Change_Kind hs 0 rfl e147 FA26_0 rfl (fun ad137 hs => ?_)
          have hs := hs.add (it := pl (tInt .i64) x135.Kind ad137) fun ok hA => hA.get 0 rfl
          exact WL.nil ⟨rfl, _, rfl, ⟨ad137, rfl⟩, hs.cutG 1 2⟩
        · intro ρ w Γx Λx hs hu hp
          obtain ⟨⟨ad149, e150r⟩, hm151⟩ := hp 3 rfl
          have e150 : ρ 24 = .pointer (some ad149) := e150r
          rw [e150r] at hm151
          have hs := hs.memo1 (it := pl (tInt .i64) x135.Kind ad149) (List.mem_append.2 (.inl (hm151 _ (List.mem_of_getElem? (i := 0) rfl))))
          refine WL.loadP hs 0 rfl TI3 (.inr rfl) e150 (fun v138 hs => ?_)
          obtain rfl := hs.int 0 rfl
          exact WL.nil ⟨rfl, _, rfl, rfl, hs.cutG 0 2⟩
        · intro ρ w Γx Λx hs hu hp
          refine WL.fieldAddr (m := 0) ((hu 3 rfl).trans h118_3) FA26_0 rfl ?_
          exact WL.nil ⟨rfl, _, rfl, rfl, hs.cutG 0 0⟩
        · intro ρ w Γx Λx hs hu hp
          have e152 : ρ 26 = .pointer (some ⟨g13, 0, none⟩) := (hp 5 rfl).1
          refine WL.load1 (v := .int .i64 x1.Kind) hs (Λx.length + 2) (getApp rfl) TI3 e152 rfl ?_
          exact WL.nil ⟨rfl, _, rfl, rfl, hs.cutG 0 0⟩
        · intro ρ w Γx Λx hs hu hp
          have e153 : ρ 25 = .int .i64 x135.Kind := (hp 4 rfl).1
          have e154 : ρ 27 = .int .i64 x1.Kind := (hp 6 rfl).1
          refine WL.bin (v := .bool (x135.Kind == x1.Kind)) e153 e154 (ib_eql _ _ _) ?_
          exact WL.nil ⟨rfl, _, rfl, rfl, hs.cutG 0 0⟩
        · intro ρ w Γx Λx hs hu hp
          have e155 : ρ 28 = .bool (x135.Kind == x1.Kind) := (hp 7 rfl).1
          refine WL.move (v := .bool (x135.Kind == x1.Kind)) e155 ?_
          exact WL.nil ⟨rfl, _, rfl, rfl, hs.cutG 0 0⟩
        · intro ρ w Γx Λx hs hu hp
          have e156 : ρ 29 = .bool (x135.Kind == x1.Kind) := (hp 8 rfl).1
          refine WL.move (v := .slice a6 x5.length c7) ((hu 1 rfl).trans h118_1) ?_ (hg := (wanted_of rfl rfl (bool_tr e156 hc139)).trans rfl)
          exact WL.nil ⟨rfl, _, rfl, rfl, hs.cutG 0 0⟩
        · intro ρ w Γx Λx hs hu hp
          have e157 : ρ 29 = .bool (x135.Kind == x1.Kind) := (hp 8 rfl).1
          refine WL.move (v := .int .i64 x119) ((hu 8 rfl).trans h118_8) ?_ (hg := (wanted_of rfl rfl (bool_tr e157 hc139)).trans rfl)
          exact WL.nil ⟨rfl, _, rfl, rfl, hs.cutG 0 0⟩
        · intro ρ w Γx Λx hs hu hp
          have e158 : ρ 30 = .slice a6 x5.length c7 := (hp 9 rfl).1
          have e159 : ρ 31 = .int .i64 x119 := (hp 10 rfl).1
          have e160 : ρ 29 = .bool (x135.Kind == x1.Kind) := (hp 8 rfl).1
          refine WL.indexAddr hs (Γx.length + 0) (getApp rfl) UN38 TI26 e158 e159 hxx140 (fun ad141 hs => ?_) (hg := (wanted_of rfl rfl (bool_tr e160 hc139)).trans rfl)
          have hs := hs.add (it := pl t_api_Change x140 ad141) fun ok hA => hA.get 0 rfl
          exact WL.nil ⟨rfl, _, rfl, ⟨ad141, rfl⟩, hs.cutG 1 1⟩
        · intro ρ w Γx Λx hs hu hp
          obtain ⟨⟨ad161, e162r⟩, hm163⟩ := hp 11 rfl
          have e162 : ρ 32 = .pointer (some ad161) := e162r
          rw [e162r] at hm163
          have hs := hs.memo1 (it := pl t_api_Change x140 ad161) (List.mem_append.2 (.inl (hm163 _ (List.mem_of_getElem? (i := 0) rfl))))
          have e164 : ρ 29 = .bool (x135.Kind == x1.Kind) := (hp 8 rfl).1
          refine WL.fieldAddrP (z := x140.Server) F_api_Change_Server hs 0 rfl e162 FA26_1 rfl (fun ad142 hs => ?_) (hg := (wanted_of rfl rfl (bool_tr e164 hc139)).trans rfl)
          have hs := hs.add (it := pl (tInt .i64) x140.Server ad142) fun ok hA => hA.get 0 rfl
          exact WL.nil ⟨rfl, _, rfl, ⟨ad142, rfl⟩, hs.cutG 1 2⟩
        · intro ρ w Γx Λx hs hu hp
          obtain ⟨⟨ad165, e166r⟩, hm167⟩ := hp 12 rfl
          have e166 : ρ 33 = .pointer (some ad165) := e166r
          rw [e166r] at hm167
          have hs := hs.memo1 (it := pl (tInt .i64) x140.Server ad165) (List.mem_append.2 (.inl (hm167 _ (List.mem_of_getElem? (i := 0) rfl))))
          have e168 : ρ 29 = .bool (x135.Kind == x1.Kind) := (hp 8 rfl).1
          refine WL.loadP hs 0 rfl TI3 (.inr rfl) e166 (fun v143 hs => ?_) (hg := (wanted_of rfl rfl (bool_tr e168 hc139)).trans rfl)
          obtain rfl := hs.int 0 rfl
          exact WL.nil ⟨rfl, _, rfl, rfl, hs.cutG 0 2⟩
        · intro ρ w Γx Λx hs hu hp
          have e169 : ρ 29 = .bool (x135.Kind == x1.Kind) := (hp 8 rfl).1
          refine WL.fieldAddr (m := 1) ((hu 3 rfl).trans h118_3) FA26_1 rfl ?_ (hg := (wanted_of rfl rfl (bool_tr e169 hc139)).trans rfl)
          exact WL.nil ⟨rfl, _, rfl, rfl, hs.cutG 0 0⟩
        · intro ρ w Γx Λx hs hu hp
          have e170 : ρ 35 = .pointer (some ⟨g13, 1, none⟩) := (hp 14 rfl).1
          have e171 : ρ 29 = .bool (x135.Kind == x1.Kind) := (hp 8 rfl).1
          refine WL.load1 (v := .int .i64 x1.Server) hs (Λx.length + 2) (getApp rfl) TI3 e170 rfl ?_ (hg := (wanted_of rfl rfl (bool_tr e171 hc139)).trans rfl)
          exact WL.nil ⟨rfl, _, rfl, rfl, hs.cutG 0 0⟩
        · intro ρ w Γx Λx hs hu hp
          have e172 : ρ 34 = .int .i64 x140.Server := (hp 13 rfl).1
          have e173 : ρ 36 = .int .i64 x1.Server := (hp 15 rfl).1
          have e174 : ρ 29 = .bool (x135.Kind == x1.Kind) := (hp 8 rfl).1
          refine WL.bin (v := .bool (x140.Server == x1.Server)) e172 e173 (ib_eql _ _ _) ?_ (hg := (wanted_of rfl rfl (bool_tr e174 hc139)).trans rfl)
          exact WL.nil ⟨rfl, _, rfl, rfl, hs.cutG 0 0⟩
        · intro ρ w Γx Λx hs hu hp
          have e175 : ρ 29 = .bool (x135.Kind == x1.Kind) := (hp 8 rfl).1
          have e176 : ρ 37 = .bool (x140.Server == x1.Server) := (hp 16 rfl).1
          refine WL.pickT (v := .bool (x140.Server == x1.Server)) (bool_tr e175 hc139) e176 ?_
          exact WL.nil ⟨rfl, _, rfl, rfl, hs.cutG 0 0⟩
        · intro ρ w hs hu177 hp
          obtain ⟨⟨⟨⟨⟨⟨⟨⟨⟨⟨⟨⟨⟨⟨⟨⟨⟨⟨_, hp0_⟩, hp1_⟩, hp2_⟩, hp3_⟩, hp4_⟩, hp5_⟩, hp6_⟩, hp7_⟩, hp8_⟩, hp9_⟩, hp10_⟩, hp11_⟩, hp12_⟩, hp13_⟩, hp14_⟩, hp15_⟩, hp16_⟩, hp17_⟩ := hp
          have hs : St ok (bz w0) w [pl (tInt .i64) x140.Server (adOf (ρ 33)), pl t_api_Change x140 (adOf (ρ 32)), pl (tInt .i64) x135.Kind (adOf (ρ 24)), pl t_api_Change x135 (adOf (ρ 23)), vl (tSlice t_api_Change) x5 (.slice a6 x5.length c7), vl t_api_Change x120 (.agg cs121.toArray), vl t_api_Summary x8 (.agg cs10.toArray)] [blk g15 26 cs121, blk g14 36 cs10, blk g13 26 [.int .i64 x1.Kind, .int .i64 x1.Server, .int .i64 x1.Weight, .int .i64 x1.Version, .int .i64 x1.Rule.Kind, .int .i64 x1.Rule.Columns, .int .i64 x1.Rule.Faulty]] := hs
          have e178 : ρ 38 = .bool (x140.Server == x1.Server) := hp17_
          have e179 : ρ 37 = .bool (x140.Server == x1.Server) := hp16_
          have e180 : ρ 36 = .int .i64 x1.Server := hp15_
          have e181 : ρ 35 = .pointer (some ⟨g13, 1, none⟩) := hp14_
          have e182 : ρ 34 = .int .i64 x140.Server := hp13_
          obtain ⟨ad183, e184⟩ := hp12_
          have e184 : ρ 33 = .pointer (some ad183) := e184
          try rw [e184] at hs
          obtain ⟨ad185, e186⟩ := hp11_
          have e186 : ρ 32 = .pointer (some ad185) := e186
          try rw [e186] at hs
          have e187 : ρ 31 = .int .i64 x119 := hp10_
          have e188 : ρ 30 = .slice a6 x5.length c7 := hp9_
          have e189 : ρ 29 = .bool (x135.Kind == x1.Kind) := hp8_
          have e190 : ρ 28 = .bool (x135.Kind == x1.Kind) := hp7_
          have e191 : ρ 27 = .int .i64 x1.Kind := hp6_
          have e192 : ρ 26 = .pointer (some ⟨g13, 0, none⟩) := hp5_
          have e193 : ρ 25 = .int .i64 x135.Kind := hp4_
          obtain ⟨ad194, e195⟩ := hp3_
          have e195 : ρ 24 = .pointer (some ad194) := e195
          try rw [e195] at hs
          obtain ⟨ad196, e197⟩ := hp2_
          have e197 : ρ 23 = .pointer (some ad196) := e197
          try rw [e197] at hs
          have e198 : ρ 22 = .int .i64 x119 := hp1_
          have e199 : ρ 21 = .slice a6 x5.length c7 := hp0_
          refine WA.done (by kernel_rfl) ?_
          exact Jk131 (x140.Server == x1.Server) _ _ ((hu177 1 rfl).trans h118_1) ((hu177 3 rfl).trans h118_3) ((hu177 5 rfl).trans h118_5) ((hu177 6 rfl).trans h118_6) ((hu177 8 rfl).trans h118_8) e178 ((hs.mask [true, true, true]).pick [4, 5, 6]) hf
      · refine W.any (by kernel_rfl) 18 0 [true, true, true, true, true, true, true, true, true, true, true, true, true, true, true, true, true, true] rfl rfl (poAt [pv (.slice a6 x5.length c7), pv (.int .i64 x119), pq (fun y : Addr => .pointer (some y)) (fun v => [pl t_api_Change x135 (adOf v)]) (fun v => []), pq (fun y : Addr => .pointer (some y)) (fun v => [pl (tInt .i64) x135.Kind (adOf v)]) (fun v => []), pv (.int .i64 x135.Kind), pv (.pointer (some ⟨g13, 0, none⟩)), pv (.int .i64 x1.Kind), pv (.bool (x135.Kind == x1.Kind)), pv (.bool (x135.Kind == x1.Kind)), pv (undef), pv (undef), pv (undef), pv (undef), pv (undef), pv (undef), pv (undef), pv (undef), pv (.bool false)]) (Λ := [blk g15 26 cs121, blk g14 36 cs10, blk g13 26 [.int .i64 x1.Kind, .int .i64 x1.Server, .int .i64 x1.Weight, .int .i64 x1.Version, .int .i64 x1.Rule.Kind, .int .i64 x1.Rule.Columns, .int .i64 x1.Rule.Faulty]]) hs (by kernel_rfl) (by kernel_rfl) (by kernel_rfl) ⟨⟨⟨⟨⟨⟨⟨⟨⟨⟨⟨⟨⟨⟨⟨⟨⟨⟨trivial, ?_⟩, ?_⟩, ?_⟩, ?_⟩, ?_⟩, ?_⟩, ?_⟩, ?_⟩, ?_⟩, ?_⟩, ?_⟩, ?_⟩, ?_⟩, ?_⟩, ?_⟩, ?_⟩, ?_⟩, ?_⟩ ?_
        · intro ρ w Γx Λx hs hu hp
          refine WL.move (v := .slice a6 x5.length c7) ((hu 1 rfl).trans h118_1) ?_
          exact WL.nil ⟨rfl, _, rfl, rfl, hs.cutG 0 0⟩
        · intro ρ w Γx Λx hs hu hp
          refine WL.move (v := .int .i64 x119) ((hu 8 rfl).trans h118_8) ?_
          exact WL.nil ⟨rfl, _, rfl, rfl, hs.cutG 0 0⟩
        · intro ρ w Γx Λx hs hu hp
          have e200 : ρ 21 = .slice a6 x5.length c7 := (hp 0 rfl).1
          have e201 : ρ 22 = .int .i64 x119 := (hp 1 rfl).1
          refine WL.indexAddr hs (Γx.length + 0) (getApp rfl) UN38 TI26 e200 e201 hxx135 (fun ad136 hs => ?_)
          have hs := hs.add (it := pl t_api_Change x135 ad136) fun ok hA => hA.get 0 rfl
          exact WL.nil ⟨rfl, _, rfl, ⟨ad136, rfl⟩, hs.cutG 1 1⟩
        · intro ρ w Γx Λx hs hu hp
          obtain ⟨⟨ad202, e203r⟩, hm204⟩ := hp 2 rfl
          have e203 : ρ 23 = .pointer (some ad202) := e203r
          rw [e203r] at hm204
          have hs := hs.memo1 (it := pl t_api_Change x135 ad202) (List.mem_append.2 (.inl (hm204 _ (List.mem_of_getElem? (i := 0) rfl))))
          refine WL.fieldAddrP (z := x135.Kind) F_api_Change_Kind hs 0 rfl e203 FA26_0 rfl (fun ad137 hs => ?_)
          have hs := hs.add (it := pl (tInt .i64) x135.Kind ad137) fun ok hA => hA.get 0 rfl
          exact WL.nil ⟨rfl, _, rfl, ⟨ad137, rfl⟩, hs.cutG 1 2⟩
        · intro ρ w Γx Λx hs hu hp
          obtain ⟨⟨ad205, e206r⟩, hm207⟩ := hp 3 rfl
          have e206 : ρ 24 = .pointer (some ad205) := e206r
          rw [e206r] at hm207
          have hs := hs.memo1 (it := pl (tInt .i64) x135.Kind ad205) (List.mem_append.2 (.inl (hm207 _ (List.mem_of_getElem? (i := 0) rfl))))
          refine WL.loadP hs 0 rfl TI3 (.inr rfl) e206 (fun v138 hs => ?_)
          obtain rfl := hs.int 0 rfl
          exact WL.nil ⟨rfl, _, rfl, rfl, hs.cutG 0 2⟩
        · intro ρ w Γx Λx hs hu hp
          refine WL.fieldAddr (m := 0) ((hu 3 rfl).trans h118_3) FA26_0 rfl ?_
          exact WL.nil ⟨rfl, _, rfl, rfl, hs.cutG 0 0⟩
        · intro ρ w Γx Λx hs hu hp
          have e208 : ρ 26 = .pointer (some ⟨g13, 0, none⟩) := (hp 5 rfl).1
          refine WL.load1 (v := .int .i64 x1.Kind) hs (Λx.length + 2) (getApp rfl) TI3 e208 rfl ?_
          exact WL.nil ⟨rfl, _, rfl, rfl, hs.cutG 0 0⟩
        · intro ρ w Γx Λx hs hu hp
          have e209 : ρ 25 = .int .i64 x135.Kind := (hp 4 rfl).1
          have e210 : ρ 27 = .int .i64 x1.Kind := (hp 6 rfl).1
          refine WL.bin (v := .bool (x135.Kind == x1.Kind)) e209 e210 (ib_eql _ _ _) ?_
          exact WL.nil ⟨rfl, _, rfl, rfl, hs.cutG 0 0⟩
        · intro ρ w Γx Λx hs hu hp
          have e211 : ρ 28 = .bool (x135.Kind == x1.Kind) := (hp 7 rfl).1
          refine WL.move (v := .bool (x135.Kind == x1.Kind)) e211 ?_
          exact WL.nil ⟨rfl, _, rfl, rfl, hs.cutG 0 0⟩
        · intro ρ w Γx Λx hs hu hp
          have e212 : ρ 29 = .bool (x135.Kind == x1.Kind) := (hp 8 rfl).1
          refine WL.pass ((wanted_of rfl rfl (bool_tr e212 hc139)).trans rfl) rfl ?_
          exact WL.nil ⟨rfl, _, rfl, rfl, hs.cutG 0 0⟩
        · intro ρ w Γx Λx hs hu hp
          have e213 : ρ 29 = .bool (x135.Kind == x1.Kind) := (hp 8 rfl).1
          refine WL.pass ((wanted_of rfl rfl (bool_tr e213 hc139)).trans rfl) rfl ?_
          exact WL.nil ⟨rfl, _, rfl, rfl, hs.cutG 0 0⟩
        · intro ρ w Γx Λx hs hu hp
          have e214 : ρ 30 = undef := (hp 9 rfl).1
          have e215 : ρ 31 = undef := (hp 10 rfl).1
          have e216 : ρ 29 = .bool (x135.Kind == x1.Kind) := (hp 8 rfl).1
          refine WL.pass ((wanted_of rfl rfl (bool_tr e216 hc139)).trans rfl) rfl ?_
          exact WL.nil ⟨rfl, _, rfl, rfl, hs.cutG 0 0⟩
        · intro ρ w Γx Λx hs hu hp
          have e217 : ρ 32 = undef := (hp 11 rfl).1
          have e218 : ρ 29 = .bool (x135.Kind == x1.Kind) := (hp 8 rfl).1
          refine WL.pass ((wanted_of rfl rfl (bool_tr e218 hc139)).trans rfl) rfl ?_
          exact WL.nil ⟨rfl, _, rfl, rfl, hs.cutG 0 0⟩
        · intro ρ w Γx Λx hs hu hp
          have e219 : ρ 33 = undef := (hp 12 rfl).1
          have e220 : ρ 29 = .bool (x135.Kind == x1.Kind) := (hp 8 rfl).1
          refine WL.pass ((wanted_of rfl rfl (bool_tr e220 hc139)).trans rfl) rfl ?_
          exact WL.nil ⟨rfl, _, rfl, rfl, hs.cutG 0 0⟩
        · intro ρ w Γx Λx hs hu hp
          have e221 : ρ 29 = .bool (x135.Kind == x1.Kind) := (hp 8 rfl).1
          refine WL.pass ((wanted_of rfl rfl (bool_tr e221 hc139)).trans rfl) rfl ?_
          exact WL.nil ⟨rfl, _, rfl, rfl, hs.cutG 0 0⟩
        · intro ρ w Γx Λx hs hu hp
          have e222 : ρ 35 = undef := (hp 14 rfl).1
          have e223 : ρ 29 = .bool (x135.Kind == x1.Kind) := (hp 8 rfl).1
          refine WL.pass ((wanted_of rfl rfl (bool_tr e223 hc139)).trans rfl) rfl ?_
          exact WL.nil ⟨rfl, _, rfl, rfl, hs.cutG 0 0⟩
        · intro ρ w Γx Λx hs hu hp
          have e224 : ρ 34 = undef := (hp 13 rfl).1
          have e225 : ρ 36 = undef := (hp 15 rfl).1
          have e226 : ρ 29 = .bool (x135.Kind == x1.Kind) := (hp 8 rfl).1
          refine WL.pass ((wanted_of rfl rfl (bool_tr e226 hc139)).trans rfl) rfl ?_
          exact WL.nil ⟨rfl, _, rfl, rfl, hs.cutG 0 0⟩
        · intro ρ w Γx Λx hs hu hp
          have e227 : ρ 29 = .bool (x135.Kind == x1.Kind) := (hp 8 rfl).1
          have e228 : ρ 37 = undef := (hp 16 rfl).1
          refine WL.pickF (v := .bool false) (bool_tr e227 hc139) rfl ?_
          exact WL.nil ⟨rfl, _, rfl, rfl, hs.cutG 0 0⟩
        · intro ρ w hs hu229 hp
          obtain ⟨⟨⟨⟨⟨⟨⟨⟨⟨⟨⟨⟨⟨⟨⟨⟨⟨⟨_, hp0_⟩, hp1_⟩, hp2_⟩, hp3_⟩, hp4_⟩, hp5_⟩, hp6_⟩, hp7_⟩, hp8_⟩, hp9_⟩, hp10_⟩, hp11_⟩, hp12_⟩, hp13_⟩, hp14_⟩, hp15_⟩, hp16_⟩, hp17_⟩ := hp
          have hs : St ok (bz w0) w [pl (tInt .i64) x135.Kind (adOf (ρ 24)), pl t_api_Change x135 (adOf (ρ 23)), vl (tSlice t_api_Change) x5 (.slice a6 x5.length c7), vl t_api_Change x120 (.agg cs121.toArray), vl t_api_Summary x8 (.agg cs10.toArray)] [blk g15 26 cs121, blk g14 36 cs10, blk g13 26 [.int .i64 x1.Kind, .int .i64 x1.Server, .int .i64 x1.Weight, .int .i64 x1.Version, .int .i64 x1.Rule.Kind, .int .i64 x1.Rule.Columns, .int .i64 x1.Rule.Faulty]] := hs
          have e230 : ρ 38 = .bool false := hp17_
          have e231 : ρ 37 = undef := hp16_
          have e232 : ρ 36 = undef := hp15_
          have e233 : ρ 35 = undef := hp14_
          have e234 : ρ 34 = undef := hp13_
          have e235 : ρ 33 = undef := hp12_
          have e236 : ρ 32 = undef := hp11_
          have e237 : ρ 31 = undef := hp10_
          have e238 : ρ 30 = undef := hp9_
          have e239 : ρ 29 = .bool (x135.Kind == x1.Kind) := hp8_
          have e240 : ρ 28 = .bool (x135.Kind == x1.Kind) := hp7_
          have e241 : ρ 27 = .int .i64 x1.Kind := hp6_
          have e242 : ρ 26 = .pointer (some ⟨g13, 0, none⟩) := hp5_
          have e243 : ρ 25 = .int .i64 x135.Kind := hp4_
          obtain ⟨ad244, e245⟩ := hp3_
          have e245 : ρ 24 = .pointer (some ad244) := e245
          try rw [e245] at hs
          obtain ⟨ad246, e247⟩ := hp2_
          have e247 : ρ 23 = .pointer (some ad246) := e247
          try rw [e247] at hs
          have e248 : ρ 22 = .int .i64 x119 := hp1_
          have e249 : ρ 21 = .slice a6 x5.length c7 := hp0_
          refine WA.done (by kernel_rfl) ?_
          exact Jk131 false _ _ ((hu229 1 rfl).trans h118_1) ((hu229 3 rfl).trans h118_3) ((hu229 5 rfl).trans h118_5) ((hu229 6 rfl).trans h118_6) ((hu229 8 rfl).trans h118_8) e230 ((hs.mask [true, true, true]).pick [2, 3, 4]) hf
    · refine W.cond_false (bool_tr rfl hc126) ?_
      refine W.exit ?_
      have hr := Option.some.inj hf; subst hr
      have hr := hbbs123 _ rfl; subst hr
      have hf := hfs123
      exact Jk25 x120 cs121 _ _ hl122 h118_1 h118_3 h118_5 h118_6 ((hs.mask [true, true, true]).pick [0, 1, 2]) hf
end Go.Proofs.YthfoljpjhegkmaaDoor
