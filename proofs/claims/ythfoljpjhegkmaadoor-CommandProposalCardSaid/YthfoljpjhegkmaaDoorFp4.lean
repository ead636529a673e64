import Derived.Test.YthfoljpjhegkmaaDoorFh
import Derived.Test.YthfoljpjhegkmaaDoorFp3
set_option linter.unusedVariables false
set_option linter.unusedSimpArgs false
namespace Go.Proofs.YthfoljpjhegkmaaDoor
open Go Go.RowKit Go.Proofs.YthfoljpjhegkmaaDoorL
set_option maxRecDepth 100000
set_option maxHeartbeats 4000000
/-! elasticstore/command.check: function 37 -/
theorem command_check.calls {ok : Nat → Prop} {w0 : World} {x1 : api_Change} {x5 : api_Summary} {x9 : List api_Change} {v2 : Value} {v6 : Value} {a10 : Option Addr} {c11 : Nat} {r : api_Change × Int} (hf : command_check x1 x5 x9 = some r) (i0 : (vl t_api_Change x1 v2).holds ok w0) (i1 : (vl t_api_Summary x5 v6).holds ok w0) (i2 : (vl (tSlice t_api_Change) x9 (.slice a10 x9.length c11)).holds ok w0) :
    Calls Tryd.prog 37 #[v2, v6, .slice a10 x9.length c11] w0 fun e w' => ∃ v, e = .returned v ∧ ∃ y : List Value, v = .tuple #[.agg y.toArray, .int .i64 r.2] ∧ St ok (bz w0) w' [vl t_api_Change r.1 (.agg y.toArray)] [] := by
  unfold command_check at hf
  refine calls_of_W (fn := Tryd.f37) (N := 77) Tryd.func37 rfl Tryd.ntmps37 rfl ?_
  have hs : St ok (bz w0) w0 [vl t_api_Change x1 v2, vl t_api_Summary x5 v6, vl (tSlice t_api_Change) x9 (.slice a10 x9.length c11)] [] := St.init (All.cons i0 (All.cons i1 (All.cons i2 All.nil)))
  clear i0 i1 i2
  obtain ⟨cs3, hl4, rfl⟩ := hs.aggv (n := 7) 0 rfl rfl rfl
  obtain ⟨cs7, hl8, rfl⟩ := hs.aggv (n := 9) 1 rfl rfl rfl
  refine W.seqK fun K12 hK12 => ?_
  refine W.region ?_
  obtain rfl := open_api_Change hs 0 rfl
  refine WL.box (vs := [.int .i64 x1.Kind, .int .i64 x1.Server, .int .i64 x1.Weight, .int .i64 x1.Version, .int .i64 x1.Rule.Kind, .int .i64 x1.Rule.Columns, .int .i64 x1.Rule.Faulty]) hs rfl rfl (fun g13 w hs => ?_)
  refine WL.box (vs := cs7) hs rfl rfl (fun g14 w hs => ?_)
  refine WL.alloc hs ZV26 (fun g15 w hs => ?_)
  refine WL.assign (v := .int .i64 0) rfl ?_
  refine WL.nil ?_
  refine hK12 _ _ ?_
  refine W.seqK fun K16 hK16 => ?_
  refine W.seqK fun K17 hK17 => ?_
  refine W.region ?_
  refine WL.move (v := .slice a10 x9.length c11) rfl ?_
  refine WL.len (v := .slice a10 x9.length c11) rfl (len_slice UN38) ?_
  refine WL.bin (v := .bool (decide (6 ≤ (x9.length : Int)))) rfl rfl (ib_geq _ _ _) ?_
  refine WL.nil ?_
  refine hK17 _ _ ?_
  rcases iteE hf with ⟨hc18, hf⟩ | ⟨hc18, hf⟩
  {
  refine W.cond_true (bool_tr rfl hc18) ?_
  refine W.seqK fun K19 hK19 => ?_
  refine W.region ?_
  refine WL.loadN (vs := [.int .i64 x1.Kind, .int .i64 x1.Server, .int .i64 x1.Weight, .int .i64 x1.Version, .int .i64 x1.Rule.Kind, .int .i64 x1.Rule.Columns, .int .i64 x1.Rule.Faulty]) hs 2 rfl TI26 rfl rfl rfl ?_
  refine WL.storeAll (vs := [.int .i64 x1.Kind, .int .i64 x1.Server, .int .i64 x1.Weight, .int .i64 x1.Version, .int .i64 x1.Rule.Kind, .int .i64 x1.Rule.Columns, .int .i64 x1.Rule.Faulty]) hs 0 rfl TI26 rfl rfl rfl rfl (ones_of rfl) rfl (fun w hs => ?_)
  refine WL.assign (v := .int .i64 3) rfl ?_
  refine WL.nil ?_
  refine hK19 _ _ ?_
  refine W.ret ?_
  have hr := Option.some.inj hf; subst hr
  have hs := hs.add (it := vl t_api_Change (⟨x1.Kind, x1.Server, x1.Weight, x1.Version, (⟨x1.Rule.Kind, x1.Rule.Columns, x1.Rule.Faulty⟩ : api_Rule)⟩ : api_Change) (.agg [.int .i64 x1.Kind, .int .i64 x1.Server, .int .i64 x1.Weight, .int .i64 x1.Version, .int .i64 x1.Rule.Kind, .int .i64 x1.Rule.Columns, .int .i64 x1.Rule.Faulty].toArray)) fun ok hA => V_agg (show t_api_Change.R ok _ _ _ from ⟨[.int .i64 x1.Kind], [.int .i64 x1.Server, .int .i64 x1.Weight, .int .i64 x1.Version, .int .i64 x1.Rule.Kind, .int .i64 x1.Rule.Columns, .int .i64 x1.Rule.Faulty], rfl, rfl, ⟨[.int .i64 x1.Server], [.int .i64 x1.Weight, .int .i64 x1.Version, .int .i64 x1.Rule.Kind, .int .i64 x1.Rule.Columns, .int .i64 x1.Rule.Faulty], rfl, rfl, ⟨[.int .i64 x1.Weight], [.int .i64 x1.Version, .int .i64 x1.Rule.Kind, .int .i64 x1.Rule.Columns, .int .i64 x1.Rule.Faulty], rfl, rfl, ⟨[.int .i64 x1.Version], [.int .i64 x1.Rule.Kind, .int .i64 x1.Rule.Columns, .int .i64 x1.Rule.Faulty], rfl, rfl, ⟨[.int .i64 x1.Rule.Kind], [.int .i64 x1.Rule.Columns, .int .i64 x1.Rule.Faulty], rfl, rfl, ⟨[.int .i64 x1.Rule.Columns], [.int .i64 x1.Rule.Faulty], rfl, rfl, rfl⟩⟩⟩⟩⟩⟩) rfl
  exact ⟨_, resOk_two rfl (res_all hs 0 rfl TI26 rfl rfl) rfl, [.int .i64 x1.Kind, .int .i64 x1.Server, .int .i64 x1.Weight, .int .i64 x1.Version, .int .i64 x1.Rule.Kind, .int .i64 x1.Rule.Columns, .int .i64 x1.Rule.Faulty], rfl, (hs.mask []).pick [0]⟩ }
  {
  refine W.cond_false (bool_tr rfl hc18) ?_
  refine W.skip ?_
  refine hK16 _ _ ?_
  refine W.seqK fun K20 hK20 => ?_
  refine W.seqK fun K21 hK21 => ?_
  refine W.region ?_
  refine WL.move (v := .slice a10 x9.length c11) rfl ?_
  refine WL.fieldAddr (m := 0) rfl FA26_0 rfl ?_
  refine WL.load1 (v := .int .i64 x1.Kind) hs 2 rfl TI3 rfl rfl ?_
  refine WL.fieldAddr (m := 1) rfl FA26_1 rfl ?_
  refine WL.load1 (v := .int .i64 x1.Server) hs 2 rfl TI3 rfl rfl ?_
  obtain ⟨x22, hxx22, hf⟩ := bindE hf
  refine WL.call (vs := [.slice a10 x9.length c11, .int .i64 x1.Kind, .int .i64 x1.Server]) hs FN56 ⟨rfl, ⟨rfl, ⟨rfl, trivial⟩⟩⟩ (fun ok hA => command_occurs.calls (x1 := x9) (x4 := x1.Kind) (x5 := x1.Server) hxx22 (hA.get 2 rfl)) ?_
  rintro _ w hs
  refine WL.nil ?_
  refine hK21 _ _ ?_
  rcases iteE hf with ⟨hc23, hf⟩ | ⟨hc23, hf⟩
  {
  refine W.cond_true (bool_tr rfl hc23) ?_
  refine W.seqK fun K24 hK24 => ?_
  refine W.region ?_
  refine WL.loadN (vs := [.int .i64 x1.Kind, .int .i64 x1.Server, .int .i64 x1.Weight, .int .i64 x1.Version, .int .i64 x1.Rule.Kind, .int .i64 x1.Rule.Columns, .int .i64 x1.Rule.Faulty]) hs 2 rfl TI26 rfl rfl rfl ?_
  refine WL.storeAll (vs := [.int .i64 x1.Kind, .int .i64 x1.Server, .int .i64 x1.Weight, .int .i64 x1.Version, .int .i64 x1.Rule.Kind, .int .i64 x1.Rule.Columns, .int .i64 x1.Rule.Faulty]) hs 0 rfl TI26 rfl rfl rfl rfl (ones_of rfl) rfl (fun w hs => ?_)
  refine WL.assign (v := .int .i64 5) rfl ?_
  refine WL.nil ?_
  refine hK24 _ _ ?_
  refine W.ret ?_
  have hr := Option.some.inj hf; subst hr
  have hs := hs.add (it := vl t_api_Change (⟨x1.Kind, x1.Server, x1.Weight, x1.Version, (⟨x1.Rule.Kind, x1.Rule.Columns, x1.Rule.Faulty⟩ : api_Rule)⟩ : api_Change) (.agg [.int .i64 x1.Kind, .int .i64 x1.Server, .int .i64 x1.Weight, .int .i64 x1.Version, .int .i64 x1.Rule.Kind, .int .i64 x1.Rule.Columns, .int .i64 x1.Rule.Faulty].toArray)) fun ok hA => V_agg (show t_api_Change.R ok _ _ _ from ⟨[.int .i64 x1.Kind], [.int .i64 x1.Server, .int .i64 x1.Weight, .int .i64 x1.Version, .int .i64 x1.Rule.Kind, .int .i64 x1.Rule.Columns, .int .i64 x1.Rule.Faulty], rfl, rfl, ⟨[.int .i64 x1.Server], [.int .i64 x1.Weight, .int .i64 x1.Version, .int .i64 x1.Rule.Kind, .int .i64 x1.Rule.Columns, .int .i64 x1.Rule.Faulty], rfl, rfl, ⟨[.int .i64 x1.Weight], [.int .i64 x1.Version, .int .i64 x1.Rule.Kind, .int .i64 x1.Rule.Columns, .int .i64 x1.Rule.Faulty], rfl, rfl, ⟨[.int .i64 x1.Version], [.int .i64 x1.Rule.Kind, .int .i64 x1.Rule.Columns, .int .i64 x1.Rule.Faulty], rfl, rfl, ⟨[.int .i64 x1.Rule.Kind], [.int .i64 x1.Rule.Columns, .int .i64 x1.Rule.Faulty], rfl, rfl, ⟨[.int .i64 x1.Rule.Columns], [.int .i64 x1.Rule.Faulty], rfl, rfl, rfl⟩⟩⟩⟩⟩⟩) rfl
  exact ⟨_, resOk_two rfl (res_all hs 0 rfl TI26 rfl rfl) rfl, [.int .i64 x1.Kind, .int .i64 x1.Server, .int .i64 x1.Weight, .int .i64 x1.Version, .int .i64 x1.Rule.Kind, .int .i64 x1.Rule.Columns, .int .i64 x1.Rule.Faulty], rfl, (hs.mask []).pick [0]⟩ }
  {
  refine W.cond_false (bool_tr rfl hc23) ?_
  refine W.skip ?_
  refine hK20 _ _ ?_
  refine W.seqK fun K25 hK25 => ?_
  obtain ⟨x29, hxx29, hf⟩ := bindE hf
  obtain ⟨x33, hxx33, hf⟩ := bindE hf
  refine W.any (by kernel_rfl) 10 2 [true, true, true, true, true, true, true, true, true, true, false, false] rfl rfl (poAt [pv (.pointer (some ⟨g14, 0, none⟩)), pq (fun y : (Option Addr × Nat) => .slice y.1 (x5.Joined).length y.2) (fun v => [vl (tSlice (tInt .i64)) x5.Joined v]) (fun v => []), pv (.pointer (some ⟨g13, 1, none⟩)), pv (.int .i64 x1.Server), pv (.bool x29), pv (.pointer (some ⟨g14, 1, none⟩)), pq (fun y : (Option Addr × Nat) => .slice y.1 (x5.Removed).length y.2) (fun v => [vl (tSlice (tInt .i64)) x5.Removed v]) (fun v => []), pv (.pointer (some ⟨g13, 1, none⟩)), pv (.int .i64 x1.Server), pv (.bool x33)]) (Λ := [blk g15 26 [.int .i64 0, .int .i64 0, .int .i64 0, .int .i64 0, .int .i64 0, .int .i64 0, .int .i64 0], blk g14 36 cs7, blk g13 26 [.int .i64 x1.Kind, .int .i64 x1.Server, .int .i64 x1.Weight, .int .i64 x1.Version, .int .i64 x1.Rule.Kind, .int .i64 x1.Rule.Columns, .int .i64 x1.Rule.Faulty]]) hs (by kernel_rfl) (by kernel_rfl) (by kernel_rfl) ⟨⟨⟨⟨⟨⟨⟨⟨⟨⟨trivial, ?_⟩, ?_⟩, ?_⟩, ?_⟩, ?_⟩, ?_⟩, ?_⟩, ?_⟩, ?_⟩, ?_⟩ ?_
  {
  intro ρ w Γx Λx hs hu hp
  refine WL.fieldAddr (m := 0) (hu 4 rfl) FA36_0 rfl ?_
  exact WL.nil ⟨rfl, _, rfl, rfl, hs.cutG 0 0⟩ }
  {
  intro ρ w Γx Λx hs hu hp
  have e34 : ρ 22 = .pointer (some ⟨g14, 0, none⟩) := (hp 0 rfl).1
  refine WL.loadF (z := x5.Joined) F_api_Summary_Joined hs (Λx.length + 1) (getApp rfl) (Γx.length + 1) (getApp rfl) rfl TI33 (.inr rfl) e34 rfl (fun v26 hs => ?_)
  obtain ⟨a27, c28, rfl⟩ := hs.slice 0 rfl
  have hs := hs.add (it := vl (tSlice (tInt .i64)) x5.Joined (.slice a27 (x5.Joined).length c28)) fun ok hA => hA.get 0 rfl
  exact WL.nil ⟨rfl, _, rfl, ⟨(a27, c28), rfl⟩, hs.cutG 1 1⟩ }
  {
  intro ρ w Γx Λx hs hu hp
  refine WL.fieldAddr (m := 1) (hu 3 rfl) FA26_1 rfl ?_
  exact WL.nil ⟨rfl, _, rfl, rfl, hs.cutG 0 0⟩ }
  {
  intro ρ w Γx Λx hs hu hp
  have e35 : ρ 24 = .pointer (some ⟨g13, 1, none⟩) := (hp 2 rfl).1
  refine WL.load1 (v := .int .i64 x1.Server) hs (Λx.length + 2) (getApp rfl) TI3 e35 rfl ?_
  exact WL.nil ⟨rfl, _, rfl, rfl, hs.cutG 0 0⟩ }
  {
  intro ρ w Γx Λx hs hu hp
  obtain ⟨⟨⟨a36, c37⟩, e38r⟩, hm39⟩ := hp 1 rfl
  have e38 : ρ 23 = .slice a36 (x5.Joined).length c37 := e38r
  rw [e38r] at hm39
  have hs := hs.memo1 (it := vl (tSlice (tInt .i64)) x5.Joined (.slice a36 (x5.Joined).length c37)) (List.mem_append.2 (.inl (hm39 _ (List.mem_of_getElem? (i := 0) rfl))))
  have e40 : ρ 25 = .int .i64 x1.Server := (hp 3 rfl).1
  refine WL.call (vs := [.slice a36 (x5.Joined).length c37, .int .i64 x1.Server]) hs FN57 ⟨e38, ⟨e40, trivial⟩⟩ (fun ok hA => slices_Contains_int.calls (x1 := x5.Joined) (x4 := x1.Server) hxx29 (hA.get 0 rfl)) ?_
  rintro _ w hs
  exact WL.nil ⟨rfl, _, rfl, rfl, hs.cutG 0 1⟩ }
  {
  intro ρ w Γx Λx hs hu hp
  refine WL.fieldAddr (m := 1) (hu 4 rfl) FA36_1 rfl ?_
  exact WL.nil ⟨rfl, _, rfl, rfl, hs.cutG 0 0⟩ }
  {
  intro ρ w Γx Λx hs hu hp
  have e41 : ρ 27 = .pointer (some ⟨g14, 1, none⟩) := (hp 5 rfl).1
  refine WL.loadF (z := x5.Removed) F_api_Summary_Removed hs (Λx.length + 1) (getApp rfl) (Γx.length + 1) (getApp rfl) rfl TI33 (.inr rfl) e41 rfl (fun v30 hs => ?_)
  obtain ⟨a31, c32, rfl⟩ := hs.slice 0 rfl
  have hs := hs.add (it := vl (tSlice (tInt .i64)) x5.Removed (.slice a31 (x5.Removed).length c32)) fun ok hA => hA.get 0 rfl
  exact WL.nil ⟨rfl, _, rfl, ⟨(a31, c32), rfl⟩, hs.cutG 1 1⟩ }
  {
  intro ρ w Γx Λx hs hu hp
  refine WL.fieldAddr (m := 1) (hu 3 rfl) FA26_1 rfl ?_
  exact WL.nil ⟨rfl, _, rfl, rfl, hs.cutG 0 0⟩ }
  {
  intro ρ w Γx Λx hs hu hp
  have e42 : ρ 29 = .pointer (some ⟨g13, 1, none⟩) := (hp 7 rfl).1
  refine WL.load1 (v := .int .i64 x1.Server) hs (Λx.length + 2) (getApp rfl) TI3 e42 rfl ?_
  exact WL.nil ⟨rfl, _, rfl, rfl, hs.cutG 0 0⟩ }
  {
  intro ρ w Γx Λx hs hu hp
  obtain ⟨⟨⟨a43, c44⟩, e45r⟩, hm46⟩ := hp 6 rfl
  have e45 : ρ 28 = .slice a43 (x5.Removed).length c44 := e45r
  rw [e45r] at hm46
  have hs := hs.memo1 (it := vl (tSlice (tInt .i64)) x5.Removed (.slice a43 (x5.Removed).length c44)) (List.mem_append.2 (.inl (hm46 _ (List.mem_of_getElem? (i := 0) rfl))))
  have e47 : ρ 30 = .int .i64 x1.Server := (hp 8 rfl).1
  refine WL.call (vs := [.slice a43 (x5.Removed).length c44, .int .i64 x1.Server]) hs FN57 ⟨e45, ⟨e47, trivial⟩⟩ (fun ok hA => slices_Contains_int.calls (x1 := x5.Removed) (x4 := x1.Server) hxx33 (hA.get 0 rfl)) ?_
  rintro _ w hs
  exact WL.nil ⟨rfl, _, rfl, rfl, hs.cutG 0 1⟩ }
  {
  intro ρ w hs hu48 hp
  obtain ⟨⟨⟨⟨⟨⟨⟨⟨⟨⟨_, hp0_⟩, hp1_⟩, hp2_⟩, hp3_⟩, hp4_⟩, hp5_⟩, hp6_⟩, hp7_⟩, hp8_⟩, hp9_⟩ := hp
  have hs : St ok (bz w0) w [vl (tSlice (tInt .i64)) x5.Removed (ρ 28), vl (tSlice (tInt .i64)) x5.Joined (ρ 23), vl t_api_Change x1 (.agg [.int .i64 x1.Kind, .int .i64 x1.Server, .int .i64 x1.Weight, .int .i64 x1.Version, .int .i64 x1.Rule.Kind, .int .i64 x1.Rule.Columns, .int .i64 x1.Rule.Faulty].toArray), vl t_api_Summary x5 (.agg cs7.toArray), vl (tSlice t_api_Change) x9 (.slice a10 x9.length c11)] [blk g15 26 [.int .i64 0, .int .i64 0, .int .i64 0, .int .i64 0, .int .i64 0, .int .i64 0, .int .i64 0], blk g14 36 cs7, blk g13 26 [.int .i64 x1.Kind, .int .i64 x1.Server, .int .i64 x1.Weight, .int .i64 x1.Version, .int .i64 x1.Rule.Kind, .int .i64 x1.Rule.Columns, .int .i64 x1.Rule.Faulty]] := hs
  have e49 : ρ 31 = .bool x33 := hp9_
  have e50 : ρ 30 = .int .i64 x1.Server := hp8_
  have e51 : ρ 29 = .pointer (some ⟨g13, 1, none⟩) := hp7_
  obtain ⟨⟨a52, c53⟩, e54⟩ := hp6_
  have e54 : ρ 28 = .slice a52 (x5.Removed).length c53 := e54
  try rw [e54] at hs
  have e55 : ρ 27 = .pointer (some ⟨g14, 1, none⟩) := hp5_
  have e56 : ρ 26 = .bool x29 := hp4_
  have e57 : ρ 25 = .int .i64 x1.Server := hp3_
  have e58 : ρ 24 = .pointer (some ⟨g13, 1, none⟩) := hp2_
  obtain ⟨⟨a59, c60⟩, e61⟩ := hp1_
  have e61 : ρ 23 = .slice a59 (x5.Joined).length c60 := e61
  try rw [e61] at hs
  have e62 : ρ 22 = .pointer (some ⟨g14, 0, none⟩) := hp0_
  refine WA.step [10] (by kernel_rfl) (by simp) ⟨?_, trivial⟩
  refine WL.assign (v := .bool x29) e56 ?_
  refine WL.nil ⟨rfl, _, rfl, ?_⟩
  refine WA.step [11] (by kernel_rfl) (by simp) ⟨?_, trivial⟩
  refine WL.assign (v := .bool x33) e49 ?_
  refine WL.nil ⟨rfl, _, rfl, ?_⟩
  refine WA.done (by kernel_rfl) ?_
  refine hK25 _ _ ?_
  refine W.seqK fun K63 hK63 => ?_
  have Jk66 : ∀ (x65 : Bool) (ρ : Env) (w : World), ρ 3 = .pointer (some ⟨g13, 0, none⟩) → ρ 4 = .pointer (some ⟨g14, 0, none⟩) → ρ 6 = .pointer (some ⟨g15, 0, none⟩) → ρ 8 = .bool x29 → ρ 9 = .bool x33 → ρ 10 = .bool x65 → St ok (bz w0) w [vl t_api_Summary x5 (.agg cs7.toArray)] [blk g15 26 [.int .i64 0, .int .i64 0, .int .i64 0, .int .i64 0, .int .i64 0, .int .i64 0, .int .i64 0], blk g14 36 cs7, blk g13 26 [.int .i64 x1.Kind, .int .i64 x1.Server, .int .i64 x1.Weight, .int .i64 x1.Version, .int .i64 x1.Rule.Kind, .int .i64 x1.Rule.Columns, .int .i64 x1.Rule.Faulty]] → command_check.j3 x1 x5 x29 x33 x65 = some r → K63 ρ w := by
    intro x65 ρ w h64_3 h64_4 h64_6 h64_8 h64_9 h64_10 hs hf
    refine hK63 _ _ ?_
    unfold command_check.j3 at hf
    refine W.seqK fun K67 hK67 => ?_
    refine W.seqK fun K68 hK68 => ?_
    refine W.region ?_
    refine WL.fieldAddr (m := 0) h64_3 FA26_0 rfl ?_
    refine WL.load1 (v := .int .i64 x1.Kind) hs 2 rfl TI3 rfl rfl ?_
    refine WL.nil ?_
    refine hK68 _ _ ?_
    refine W.block ?_
    refine W.seqK fun K69 hK69 => ?_
    have Jk74 : ∀ (x71 : api_Change) (cs72 : List Value) (ρ : Env) (w : World), cs72.length = 7 → ρ 3 = .pointer (some ⟨g13, 0, none⟩) → ρ 4 = .pointer (some ⟨g14, 0, none⟩) → ρ 6 = .pointer (some ⟨g15, 0, none⟩) → St ok (bz w0) w [vl t_api_Change x71 (.agg cs72.toArray), vl t_api_Summary x5 (.agg cs7.toArray)] [blk g15 26 cs72, blk g14 36 cs7, blk g13 26 [.int .i64 x1.Kind, .int .i64 x1.Server, .int .i64 x1.Weight, .int .i64 x1.Version, .int .i64 x1.Rule.Kind, .int .i64 x1.Rule.Columns, .int .i64 x1.Rule.Faulty]] → command_check.j1 x1 x5 x71 = some r → K69 ρ w := by
      intro x71 cs72 ρ w hl73 h70_3 h70_4 h70_6 hs hf
      refine hK69 _ _ ?_
      unfold command_check.j1 at hf
      refine W.seqK fun K75 hK75 => ?_
      refine W.region ?_
      refine WL.loadN (vs := [.int .i64 x1.Kind, .int .i64 x1.Server, .int .i64 x1.Weight, .int .i64 x1.Version, .int .i64 x1.Rule.Kind, .int .i64 x1.Rule.Columns, .int .i64 x1.Rule.Faulty]) hs 2 rfl TI26 h70_3 rfl rfl ?_
      refine WL.loadAll hs 1 rfl TI36 h70_4 hl8 ?_
      have hs := hs.add (it := vl t_api_Change (⟨x1.Kind, x1.Server, x1.Weight, x1.Version, (⟨x1.Rule.Kind, x1.Rule.Columns, x1.Rule.Faulty⟩ : api_Rule)⟩ : api_Change) (.agg [.int .i64 x1.Kind, .int .i64 x1.Server, .int .i64 x1.Weight, .int .i64 x1.Version, .int .i64 x1.Rule.Kind, .int .i64 x1.Rule.Columns, .int .i64 x1.Rule.Faulty].toArray)) fun ok hA => V_agg (show t_api_Change.R ok _ _ _ from ⟨[.int .i64 x1.Kind], [.int .i64 x1.Server, .int .i64 x1.Weight, .int .i64 x1.Version, .int .i64 x1.Rule.Kind, .int .i64 x1.Rule.Columns, .int .i64 x1.Rule.Faulty], rfl, rfl, ⟨[.int .i64 x1.Server], [.int .i64 x1.Weight, .int .i64 x1.Version, .int .i64 x1.Rule.Kind, .int .i64 x1.Rule.Columns, .int .i64 x1.Rule.Faulty], rfl, rfl, ⟨[.int .i64 x1.Weight], [.int .i64 x1.Version, .int .i64 x1.Rule.Kind, .int .i64 x1.Rule.Columns, .int .i64 x1.Rule.Faulty], rfl, rfl, ⟨[.int .i64 x1.Version], [.int .i64 x1.Rule.Kind, .int .i64 x1.Rule.Columns, .int .i64 x1.Rule.Faulty], rfl, rfl, ⟨[.int .i64 x1.Rule.Kind], [.int .i64 x1.Rule.Columns, .int .i64 x1.Rule.Faulty], rfl, rfl, ⟨[.int .i64 x1.Rule.Columns], [.int .i64 x1.Rule.Faulty], rfl, rfl, rfl⟩⟩⟩⟩⟩⟩) rfl
      obtain ⟨x76, hxx76, hf⟩ := bindE hf
      refine WL.call (vs := [.agg ([.int .i64 x1.Kind, .int .i64 x1.Server, .int .i64 x1.Weight, .int .i64 x1.Version, .int .i64 x1.Rule.Kind, .int .i64 x1.Rule.Columns, .int .i64 x1.Rule.Faulty] : List Value).toArray, .agg cs7.toArray]) hs FN58 ⟨rfl, ⟨rfl, trivial⟩⟩ (fun ok hA => command_version.calls (x1 := (⟨x1.Kind, x1.Server, x1.Weight, x1.Version, (⟨x1.Rule.Kind, x1.Rule.Columns, x1.Rule.Faulty⟩ : api_Rule)⟩ : api_Change)) (x5 := x5) hxx76 (hA.get 0 rfl) (hA.get 2 rfl)) ?_
      rintro _ w hs
      refine WL.fieldAddr (m := 3) h70_3 FA26_3 rfl ?_
      refine WL.store (vs := [.int .i64 x76]) (cs' := [.int .i64 x1.Kind, .int .i64 x1.Server, .int .i64 x1.Weight, .int .i64 x76, .int .i64 x1.Rule.Kind, .int .i64 x1.Rule.Columns, .int .i64 x1.Rule.Faulty]) hs 2 rfl TI3 rfl rfl rfl rfl (ones_of rfl) (Nat.le_of_ble_eq_true rfl) rfl (fun w hs => ?_)
      refine WL.nil ?_
      refine hK75 _ _ ?_
      refine W.exit ?_
      refine hK67 _ _ ?_
      refine W.seqK fun K77 hK77 => ?_
      refine W.seqK fun K78 hK78 => ?_
      refine W.region ?_
      refine WL.fieldAddr (m := 3) h70_3 FA26_3 rfl ?_
      refine WL.load1 (v := .int .i64 x76) hs 2 rfl TI3 rfl rfl ?_
      refine WL.bin (v := .bool (decide (1000 ≤ x76))) rfl rfl (ib_geq _ _ _) ?_
      refine WL.nil ?_
      refine hK78 _ _ ?_
      rcases iteE hf with ⟨hc79, hf⟩ | ⟨hc79, hf⟩
      {
      refine W.cond_true (bool_tr rfl hc79) ?_
      refine W.seqK fun K80 hK80 => ?_
      refine W.region ?_
      refine WL.loadN (vs := [.int .i64 x1.Kind, .int .i64 x1.Server, .int .i64 x1.Weight, .int .i64 x76, .int .i64 x1.Rule.Kind, .int .i64 x1.Rule.Columns, .int .i64 x1.Rule.Faulty]) hs 2 rfl TI26 h70_3 rfl rfl ?_
      refine WL.storeAll (vs := [.int .i64 x1.Kind, .int .i64 x1.Server, .int .i64 x1.Weight, .int .i64 x76, .int .i64 x1.Rule.Kind, .int .i64 x1.Rule.Columns, .int .i64 x1.Rule.Faulty]) hs 0 rfl TI26 h70_6 rfl rfl rfl (ones_of rfl) hl73 (fun w hs => ?_)
      refine WL.assign (v := .int .i64 9) rfl ?_
      refine WL.nil ?_
      refine hK80 _ _ ?_
      refine W.ret ?_
      have hr := Option.some.inj hf; subst hr
      have hs := hs.add (it := vl t_api_Change (⟨x1.Kind, x1.Server, x1.Weight, x76, (⟨x1.Rule.Kind, x1.Rule.Columns, x1.Rule.Faulty⟩ : api_Rule)⟩ : api_Change) (.agg [.int .i64 x1.Kind, .int .i64 x1.Server, .int .i64 x1.Weight, .int .i64 x76, .int .i64 x1.Rule.Kind, .int .i64 x1.Rule.Columns, .int .i64 x1.Rule.Faulty].toArray)) fun ok hA => V_agg (show t_api_Change.R ok _ _ _ from ⟨[.int .i64 x1.Kind], [.int .i64 x1.Server, .int .i64 x1.Weight, .int .i64 x76, .int .i64 x1.Rule.Kind, .int .i64 x1.Rule.Columns, .int .i64 x1.Rule.Faulty], rfl, rfl, ⟨[.int .i64 x1.Server], [.int .i64 x1.Weight, .int .i64 x76, .int .i64 x1.Rule.Kind, .int .i64 x1.Rule.Columns, .int .i64 x1.Rule.Faulty], rfl, rfl, ⟨[.int .i64 x1.Weight], [.int .i64 x76, .int .i64 x1.Rule.Kind, .int .i64 x1.Rule.Columns, .int .i64 x1.Rule.Faulty], rfl, rfl, ⟨[.int .i64 x76], [.int .i64 x1.Rule.Kind, .int .i64 x1.Rule.Columns, .int .i64 x1.Rule.Faulty], rfl, rfl, ⟨[.int .i64 x1.Rule.Kind], [.int .i64 x1.Rule.Columns, .int .i64 x1.Rule.Faulty], rfl, rfl, ⟨[.int .i64 x1.Rule.Columns], [.int .i64 x1.Rule.Faulty], rfl, rfl, rfl⟩⟩⟩⟩⟩⟩) rfl
      exact ⟨_, resOk_two rfl (res_all hs 0 rfl TI26 h70_6 rfl) rfl, [.int .i64 x1.Kind, .int .i64 x1.Server, .int .i64 x1.Weight, .int .i64 x76, .int .i64 x1.Rule.Kind, .int .i64 x1.Rule.Columns, .int .i64 x1.Rule.Faulty], rfl, (hs.mask []).pick [0]⟩ }
      {
      refine W.cond_false (bool_tr rfl hc79) ?_
      refine W.skip ?_
      refine hK77 _ _ ?_
      refine W.seqK fun K81 hK81 => ?_
      refine W.region ?_
      refine WL.fieldAddr (m := 3) h70_3 FA26_3 rfl ?_
      refine WL.load1 (v := .int .i64 x76) hs 2 rfl TI3 rfl rfl ?_
      obtain ⟨x82, ex82, hf⟩ := letE hf
      refine WL.bin (v := .int .i64 x82) rfl rfl (ib_as ex82 (ib_add _ _ _)) ?_
      refine WL.fieldAddr (m := 3) h70_3 FA26_3 rfl ?_
      refine WL.store (vs := [.int .i64 x82]) (cs' := [.int .i64 x1.Kind, .int .i64 x1.Server, .int .i64 x1.Weight, .int .i64 x82, .int .i64 x1.Rule.Kind, .int .i64 x1.Rule.Columns, .int .i64 x1.Rule.Faulty]) hs 2 rfl TI3 rfl rfl rfl rfl (ones_of rfl) (Nat.le_of_ble_eq_true rfl) rfl (fun w hs => ?_)
      refine WL.nil ?_
      refine hK81 _ _ ?_
      refine W.seqK fun K83 hK83 => ?_
      refine W.region ?_
      refine WL.loadN (vs := [.int .i64 x1.Kind, .int .i64 x1.Server, .int .i64 x1.Weight, .int .i64 x82, .int .i64 x1.Rule.Kind, .int .i64 x1.Rule.Columns, .int .i64 x1.Rule.Faulty]) hs 2 rfl TI26 h70_3 rfl rfl ?_
      refine WL.storeAll (vs := [.int .i64 x1.Kind, .int .i64 x1.Server, .int .i64 x1.Weight, .int .i64 x82, .int .i64 x1.Rule.Kind, .int .i64 x1.Rule.Columns, .int .i64 x1.Rule.Faulty]) hs 0 rfl TI26 h70_6 rfl rfl rfl (ones_of rfl) hl73 (fun w hs => ?_)
      refine WL.assign (v := .int .i64 0) rfl ?_
      refine WL.nil ?_
      refine hK83 _ _ ?_
      refine W.ret ?_
      have hr := Option.some.inj hf; subst hr
      have hs := hs.add (it := vl t_api_Change (⟨x1.Kind, x1.Server, x1.Weight, x82, (⟨x1.Rule.Kind, x1.Rule.Columns, x1.Rule.Faulty⟩ : api_Rule)⟩ : api_Change) (.agg [.int .i64 x1.Kind, .int .i64 x1.Server, .int .i64 x1.Weight, .int .i64 x82, .int .i64 x1.Rule.Kind, .int .i64 x1.Rule.Columns, .int .i64 x1.Rule.Faulty].toArray)) fun ok hA => V_agg (show t_api_Change.R ok _ _ _ from ⟨[.int .i64 x1.Kind], [.int .i64 x1.Server, .int .i64 x1.Weight, .int .i64 x82, .int .i64 x1.Rule.Kind, .int .i64 x1.Rule.Columns, .int .i64 x1.Rule.Faulty], rfl, rfl, ⟨[.int .i64 x1.Server], [.int .i64 x1.Weight, .int .i64 x82, .int .i64 x1.Rule.Kind, .int .i64 x1.Rule.Columns, .int .i64 x1.Rule.Faulty], rfl, rfl, ⟨[.int .i64 x1.Weight], [.int .i64 x82, .int .i64 x1.Rule.Kind, .int .i64 x1.Rule.Columns, .int .i64 x1.Rule.Faulty], rfl, rfl, ⟨[.int .i64 x82], [.int .i64 x1.Rule.Kind, .int .i64 x1.Rule.Columns, .int .i64 x1.Rule.Faulty], rfl, rfl, ⟨[.int .i64 x1.Rule.Kind], [.int .i64 x1.Rule.Columns, .int .i64 x1.Rule.Faulty], rfl, rfl, ⟨[.int .i64 x1.Rule.Columns], [.int .i64 x1.Rule.Faulty], rfl, rfl, rfl⟩⟩⟩⟩⟩⟩) rfl
      exact ⟨_, resOk_two rfl (res_all hs 0 rfl TI26 h70_6 rfl) rfl, [.int .i64 x1.Kind, .int .i64 x1.Server, .int .i64 x1.Weight, .int .i64 x82, .int .i64 x1.Rule.Kind, .int .i64 x1.Rule.Columns, .int .i64 x1.Rule.Faulty], rfl, (hs.mask []).pick [0]⟩ }
    refine W.block ?_
    refine W.seqK fun K84 hK84 => ?_
    refine W.block ?_
    refine W.seqK fun K85 hK85 => ?_
    refine W.block ?_
    refine W.seqK fun K86 hK86 => ?_
    refine W.block ?_
    refine W.seqK fun K87 hK87 => ?_
    refine W.seqK fun K88 hK88 => ?_
    refine W.seqK fun K89 hK89 => ?_
    refine W.region ?_
    refine WL.bin (v := .bool (x1.Kind == 1)) rfl rfl (ib_eql _ _ _) ?_
    refine WL.assign (v := .bool (x1.Kind == 1)) rfl ?_
    refine WL.nil ?_
    refine hK89 _ _ ?_
    rcases iteE hf with ⟨hc90, hf⟩ | ⟨hc90, hf⟩
    {
    refine W.cond_true (bool_tr rfl hc90) ?_
    refine W.exit ?_
    refine hK86 _ _ ?_
    refine W.seqK fun K91 hK91 => ?_
    refine W.seqK fun K92 hK92 => ?_
    refine W.seqK fun K93 hK93 => ?_
    have Jk96 : ∀ (x95 : Bool) (ρ : Env) (w : World), ρ 3 = .pointer (some ⟨g13, 0, none⟩) → ρ 6 = .pointer (some ⟨g15, 0, none⟩) → ρ 54 = .bool x95 → St ok (bz w0) w [] [blk g15 26 [.int .i64 0, .int .i64 0, .int .i64 0, .int .i64 0, .int .i64 0, .int .i64 0, .int .i64 0], blk g13 26 [.int .i64 x1.Kind, .int .i64 x1.Server, .int .i64 x1.Weight, .int .i64 x1.Version, .int .i64 x1.Rule.Kind, .int .i64 x1.Rule.Columns, .int .i64 x1.Rule.Faulty]] → command_check.j2 x1 x95 = some r → K93 ρ w := by
      intro x95 ρ w h94_3 h94_6 h94_54 hs hf
      refine hK93 _ _ ?_
      unfold command_check.j2 at hf
      rcases iteE hf with ⟨hc97, hf⟩ | ⟨hc97, hf⟩
      {
      refine W.cond_true (bool_tr h94_54 hc97) ?_
      refine W.seqK fun K98 hK98 => ?_
      refine W.region ?_
      refine WL.loadN (vs := [.int .i64 x1.Kind, .int .i64 x1.Server, .int .i64 x1.Weight, .int .i64 x1.Version, .int .i64 x1.Rule.Kind, .int .i64 x1.Rule.Columns, .int .i64 x1.Rule.Faulty]) hs 1 rfl TI26 h94_3 rfl rfl ?_
      refine WL.storeAll (vs := [.int .i64 x1.Kind, .int .i64 x1.Server, .int .i64 x1.Weight, .int .i64 x1.Version, .int .i64 x1.Rule.Kind, .int .i64 x1.Rule.Columns, .int .i64 x1.Rule.Faulty]) hs 0 rfl TI26 h94_6 rfl rfl rfl (ones_of rfl) rfl (fun w hs => ?_)
      refine WL.assign (v := .int .i64 5) rfl ?_
      refine WL.nil ?_
      refine hK98 _ _ ?_
      refine W.ret ?_
      have hr := Option.some.inj hf; subst hr
      have hs := hs.add (it := vl t_api_Change (⟨x1.Kind, x1.Server, x1.Weight, x1.Version, (⟨x1.Rule.Kind, x1.Rule.Columns, x1.Rule.Faulty⟩ : api_Rule)⟩ : api_Change) (.agg [.int .i64 x1.Kind, .int .i64 x1.Server, .int .i64 x1.Weight, .int .i64 x1.Version, .int .i64 x1.Rule.Kind, .int .i64 x1.Rule.Columns, .int .i64 x1.Rule.Faulty].toArray)) fun ok hA => V_agg (show t_api_Change.R ok _ _ _ from ⟨[.int .i64 x1.Kind], [.int .i64 x1.Server, .int .i64 x1.Weight, .int .i64 x1.Version, .int .i64 x1.Rule.Kind, .int .i64 x1.Rule.Columns, .int .i64 x1.Rule.Faulty], rfl, rfl, ⟨[.int .i64 x1.Server], [.int .i64 x1.Weight, .int .i64 x1.Version, .int .i64 x1.Rule.Kind, .int .i64 x1.Rule.Columns, .int .i64 x1.Rule.Faulty], rfl, rfl, ⟨[.int .i64 x1.Weight], [.int .i64 x1.Version, .int .i64 x1.Rule.Kind, .int .i64 x1.Rule.Columns, .int .i64 x1.Rule.Faulty], rfl, rfl, ⟨[.int .i64 x1.Version], [.int .i64 x1.Rule.Kind, .int .i64 x1.Rule.Columns, .int .i64 x1.Rule.Faulty], rfl, rfl, ⟨[.int .i64 x1.Rule.Kind], [.int .i64 x1.Rule.Columns, .int .i64 x1.Rule.Faulty], rfl, rfl, ⟨[.int .i64 x1.Rule.Columns], [.int .i64 x1.Rule.Faulty], rfl, rfl, rfl⟩⟩⟩⟩⟩⟩) rfl
      exact ⟨_, resOk_two rfl (res_all hs 0 rfl TI26 h94_6 rfl) rfl, [.int .i64 x1.Kind, .int .i64 x1.Server, .int .i64 x1.Weight, .int .i64 x1.Version, .int .i64 x1.Rule.Kind, .int .i64 x1.Rule.Columns, .int .i64 x1.Rule.Faulty], rfl, (hs.mask []).pick [0]⟩ }
      {
      refine W.cond_false (bool_tr h94_54 hc97) ?_
      refine W.skip ?_
      refine hK92 _ _ ?_
      refine W.seqK fun K99 hK99 => ?_
      refine W.region ?_
      refine WL.loadN (vs := [.int .i64 x1.Kind, .int .i64 x1.Server, .int .i64 x1.Weight, .int .i64 x1.Version, .int .i64 x1.Rule.Kind, .int .i64 x1.Rule.Columns, .int .i64 x1.Rule.Faulty]) hs 1 rfl TI26 h94_3 rfl rfl ?_
      refine WL.storeAll (vs := [.int .i64 x1.Kind, .int .i64 x1.Server, .int .i64 x1.Weight, .int .i64 x1.Version, .int .i64 x1.Rule.Kind, .int .i64 x1.Rule.Columns, .int .i64 x1.Rule.Faulty]) hs 0 rfl TI26 h94_6 rfl rfl rfl (ones_of rfl) rfl (fun w hs => ?_)
      refine WL.assign (v := .int .i64 0) rfl ?_
      refine WL.nil ?_
      refine hK99 _ _ ?_
      refine W.ret ?_
      have hr := Option.some.inj hf; subst hr
      have hs := hs.add (it := vl t_api_Change (⟨x1.Kind, x1.Server, x1.Weight, x1.Version, (⟨x1.Rule.Kind, x1.Rule.Columns, x1.Rule.Faulty⟩ : api_Rule)⟩ : api_Change) (.agg [.int .i64 x1.Kind, .int .i64 x1.Server, .int .i64 x1.Weight, .int .i64 x1.Version, .int .i64 x1.Rule.Kind, .int .i64 x1.Rule.Columns, .int .i64 x1.Rule.Faulty].toArray)) fun ok hA => V_agg (show t_api_Change.R ok _ _ _ from ⟨[.int .i64 x1.Kind], [.int .i64 x1.Server, .int .i64 x1.Weight, .int .i64 x1.Version, .int .i64 x1.Rule.Kind, .int .i64 x1.Rule.Columns, .int .i64 x1.Rule.Faulty], rfl, rfl, ⟨[.int .i64 x1.Server], [.int .i64 x1.Weight, .int .i64 x1.Version, .int .i64 x1.Rule.Kind, .int .i64 x1.Rule.Columns, .int .i64 x1.Rule.Faulty], rfl, rfl, ⟨[.int .i64 x1.Weight], [.int .i64 x1.Version, .int .i64 x1.Rule.Kind, .int .i64 x1.Rule.Columns, .int .i64 x1.Rule.Faulty], rfl, rfl, ⟨[.int .i64 x1.Version], [.int .i64 x1.Rule.Kind, .int .i64 x1.Rule.Columns, .int .i64 x1.Rule.Faulty], rfl, rfl, ⟨[.int .i64 x1.Rule.Kind], [.int .i64 x1.Rule.Columns, .int .i64 x1.Rule.Faulty], rfl, rfl, ⟨[.int .i64 x1.Rule.Columns], [.int .i64 x1.Rule.Faulty], rfl, rfl, rfl⟩⟩⟩⟩⟩⟩) rfl
      exact ⟨_, resOk_two rfl (res_all hs 0 rfl TI26 h94_6 rfl) rfl, [.int .i64 x1.Kind, .int .i64 x1.Server, .int .i64 x1.Weight, .int .i64 x1.Version, .int .i64 x1.Rule.Kind, .int .i64 x1.Rule.Columns, .int .i64 x1.Rule.Faulty], rfl, (hs.mask []).pick [0]⟩ }
    refine W.region ?_
    refine WL.move (v := .bool x29) h64_8 ?_
    refine WL.move (v := .bool x29) rfl ?_
    rcases iteE hf with ⟨hc100, hf⟩ | ⟨hc100, hf⟩
    {
    refine WL.pass ((wanted_of rfl rfl (bool_tr rfl hc100)).trans rfl) rfl ?_
    refine WL.pickT (v := .bool true) (bool_tr rfl hc100) rfl ?_
    refine WL.nil ?_
    exact Jk96 true _ _ h64_3 h64_6 rfl ((hs.mask [true, false, true]).pick []) hf }
    {
    refine WL.move (v := .bool x33) h64_9 ?_ (hg := (wanted_of rfl rfl (bool_tr rfl hc100)).trans rfl)
    refine WL.pickF (v := .bool x33) (bool_tr rfl hc100) rfl ?_
    refine WL.nil ?_
    exact Jk96 x33 _ _ h64_3 h64_6 rfl ((hs.mask [true, false, true]).pick []) hf } }
    {
    refine W.cond_false (bool_tr rfl hc90) ?_
    refine W.skip ?_
    refine hK88 _ _ ?_
    refine W.seqK fun K101 hK101 => ?_
    refine W.seqK fun K102 hK102 => ?_
    refine W.region ?_
    refine WL.bin (v := .bool (x1.Kind == 2)) rfl rfl (ib_eql _ _ _) ?_
    refine WL.assign (v := .bool (x1.Kind == 2)) rfl ?_
    refine WL.nil ?_
    refine hK102 _ _ ?_
    rcases iteE hf with ⟨hc103, hf⟩ | ⟨hc103, hf⟩
    {
    refine W.cond_true (bool_tr rfl hc103) ?_
    refine W.exit ?_
    refine hK85 _ _ ?_
    refine W.seqK fun K104 hK104 => ?_
    refine W.seqK fun K105 hK105 => ?_
    refine W.seqK fun K106 hK106 => ?_
    refine W.region ?_
    refine WL.move (v := .bool x65) h64_10 ?_
    refine WL.not rfl ?_
    refine WL.nil ?_
    refine hK106 _ _ ?_
    rcases iteE hf with ⟨hc107, hf⟩ | ⟨hc107, hf⟩
    {
    refine W.cond_true (bool_tr rfl hc107) ?_
    refine W.seqK fun K108 hK108 => ?_
    refine W.region ?_
    refine WL.loadN (vs := [.int .i64 x1.Kind, .int .i64 x1.Server, .int .i64 x1.Weight, .int .i64 x1.Version, .int .i64 x1.Rule.Kind, .int .i64 x1.Rule.Columns, .int .i64 x1.Rule.Faulty]) hs 2 rfl TI26 h64_3 rfl rfl ?_
    refine WL.storeAll (vs := [.int .i64 x1.Kind, .int .i64 x1.Server, .int .i64 x1.Weight, .int .i64 x1.Version, .int .i64 x1.Rule.Kind, .int .i64 x1.Rule.Columns, .int .i64 x1.Rule.Faulty]) hs 0 rfl TI26 h64_6 rfl rfl rfl (ones_of rfl) rfl (fun w hs => ?_)
    refine WL.assign (v := .int .i64 6) rfl ?_
    refine WL.nil ?_
    refine hK108 _ _ ?_
    refine W.ret ?_
    have hr := Option.some.inj hf; subst hr
    have hs := hs.add (it := vl t_api_Change (⟨x1.Kind, x1.Server, x1.Weight, x1.Version, (⟨x1.Rule.Kind, x1.Rule.Columns, x1.Rule.Faulty⟩ : api_Rule)⟩ : api_Change) (.agg [.int .i64 x1.Kind, .int .i64 x1.Server, .int .i64 x1.Weight, .int .i64 x1.Version, .int .i64 x1.Rule.Kind, .int .i64 x1.Rule.Columns, .int .i64 x1.Rule.Faulty].toArray)) fun ok hA => V_agg (show t_api_Change.R ok _ _ _ from ⟨[.int .i64 x1.Kind], [.int .i64 x1.Server, .int .i64 x1.Weight, .int .i64 x1.Version, .int .i64 x1.Rule.Kind, .int .i64 x1.Rule.Columns, .int .i64 x1.Rule.Faulty], rfl, rfl, ⟨[.int .i64 x1.Server], [.int .i64 x1.Weight, .int .i64 x1.Version, .int .i64 x1.Rule.Kind, .int .i64 x1.Rule.Columns, .int .i64 x1.Rule.Faulty], rfl, rfl, ⟨[.int .i64 x1.Weight], [.int .i64 x1.Version, .int .i64 x1.Rule.Kind, .int .i64 x1.Rule.Columns, .int .i64 x1.Rule.Faulty], rfl, rfl, ⟨[.int .i64 x1.Version], [.int .i64 x1.Rule.Kind, .int .i64 x1.Rule.Columns, .int .i64 x1.Rule.Faulty], rfl, rfl, ⟨[.int .i64 x1.Rule.Kind], [.int .i64 x1.Rule.Columns, .int .i64 x1.Rule.Faulty], rfl, rfl, ⟨[.int .i64 x1.Rule.Columns], [.int .i64 x1.Rule.Faulty], rfl, rfl, rfl⟩⟩⟩⟩⟩⟩) rfl
    exact ⟨_, resOk_two rfl (res_all hs 0 rfl TI26 h64_6 rfl) rfl, [.int .i64 x1.Kind, .int .i64 x1.Server, .int .i64 x1.Weight, .int .i64 x1.Version, .int .i64 x1.Rule.Kind, .int .i64 x1.Rule.Columns, .int .i64 x1.Rule.Faulty], rfl, (hs.mask []).pick [0]⟩ }
    {
    refine W.cond_false (bool_tr rfl hc107) ?_
    refine W.skip ?_
    refine hK105 _ _ ?_
    refine W.seqK fun K109 hK109 => ?_
    refine W.region ?_
    refine WL.loadN (vs := [.int .i64 x1.Kind, .int .i64 x1.Server, .int .i64 x1.Weight, .int .i64 x1.Version, .int .i64 x1.Rule.Kind, .int .i64 x1.Rule.Columns, .int .i64 x1.Rule.Faulty]) hs 2 rfl TI26 h64_3 rfl rfl ?_
    refine WL.storeAll (vs := [.int .i64 x1.Kind, .int .i64 x1.Server, .int .i64 x1.Weight, .int .i64 x1.Version, .int .i64 x1.Rule.Kind, .int .i64 x1.Rule.Columns, .int .i64 x1.Rule.Faulty]) hs 0 rfl TI26 h64_6 rfl rfl rfl (ones_of rfl) rfl (fun w hs => ?_)
    refine WL.assign (v := .int .i64 0) rfl ?_
    refine WL.nil ?_
    refine hK109 _ _ ?_
    refine W.ret ?_
    have hr := Option.some.inj hf; subst hr
    have hs := hs.add (it := vl t_api_Change (⟨x1.Kind, x1.Server, x1.Weight, x1.Version, (⟨x1.Rule.Kind, x1.Rule.Columns, x1.Rule.Faulty⟩ : api_Rule)⟩ : api_Change) (.agg [.int .i64 x1.Kind, .int .i64 x1.Server, .int .i64 x1.Weight, .int .i64 x1.Version, .int .i64 x1.Rule.Kind, .int .i64 x1.Rule.Columns, .int .i64 x1.Rule.Faulty].toArray)) fun ok hA => V_agg (show t_api_Change.R ok _ _ _ from ⟨[.int .i64 x1.Kind], [.int .i64 x1.Server, .int .i64 x1.Weight, .int .i64 x1.Version, .int .i64 x1.Rule.Kind, .int .i64 x1.Rule.Columns, .int .i64 x1.Rule.Faulty], rfl, rfl, ⟨[.int .i64 x1.Server], [.int .i64 x1.Weight, .int .i64 x1.Version, .int .i64 x1.Rule.Kind, .int .i64 x1.Rule.Columns, .int .i64 x1.Rule.Faulty], rfl, rfl, ⟨[.int .i64 x1.Weight], [.int .i64 x1.Version, .int .i64 x1.Rule.Kind, .int .i64 x1.Rule.Columns, .int .i64 x1.Rule.Faulty], rfl, rfl, ⟨[.int .i64 x1.Version], [.int .i64 x1.Rule.Kind, .int .i64 x1.Rule.Columns, .int .i64 x1.Rule.Faulty], rfl, rfl, ⟨[.int .i64 x1.Rule.Kind], [.int .i64 x1.Rule.Columns, .int .i64 x1.Rule.Faulty], rfl, rfl, ⟨[.int .i64 x1.Rule.Columns], [.int .i64 x1.Rule.Faulty], rfl, rfl, rfl⟩⟩⟩⟩⟩⟩) rfl
    exact ⟨_, resOk_two rfl (res_all hs 0 rfl TI26 h64_6 rfl) rfl, [.int .i64 x1.Kind, .int .i64 x1.Server, .int .i64 x1.Weight, .int .i64 x1.Version, .int .i64 x1.Rule.Kind, .int .i64 x1.Rule.Columns, .int .i64 x1.Rule.Faulty], rfl, (hs.mask []).pick [0]⟩ } }
    {
    refine W.cond_false (bool_tr rfl hc103) ?_
    refine W.skip ?_
    refine hK101 _ _ ?_
    refine W.seqK fun K110 hK110 => ?_
    refine W.region ?_
    refine WL.bin (v := .bool (x1.Kind == 3)) rfl rfl (ib_eql _ _ _) ?_
    refine WL.assign (v := .bool (x1.Kind == 3)) rfl ?_
    refine WL.nil ?_
    refine hK110 _ _ ?_
    rcases iteE hf with ⟨hc111, hf⟩ | ⟨hc111, hf⟩
    {
    refine W.cond_true (bool_tr rfl hc111) ?_
    refine W.exit ?_
    refine hK84 _ _ ?_
    refine W.seqK fun K112 hK112 => ?_
    refine W.region ?_
    refine WL.move (v := .bool x65) h64_10 ?_
    refine WL.not rfl ?_
    refine WL.nil ?_
    refine hK112 _ _ ?_
    rcases iteE hf with ⟨hc113, hf⟩ | ⟨hc113, hf⟩
    {
    refine W.cond_true (bool_tr rfl hc113) ?_
    refine W.seqK fun K114 hK114 => ?_
    refine W.region ?_
    refine WL.loadN (vs := [.int .i64 x1.Kind, .int .i64 x1.Server, .int .i64 x1.Weight, .int .i64 x1.Version, .int .i64 x1.Rule.Kind, .int .i64 x1.Rule.Columns, .int .i64 x1.Rule.Faulty]) hs 2 rfl TI26 h64_3 rfl rfl ?_
    refine WL.storeAll (vs := [.int .i64 x1.Kind, .int .i64 x1.Server, .int .i64 x1.Weight, .int .i64 x1.Version, .int .i64 x1.Rule.Kind, .int .i64 x1.Rule.Columns, .int .i64 x1.Rule.Faulty]) hs 0 rfl TI26 h64_6 rfl rfl rfl (ones_of rfl) rfl (fun w hs => ?_)
    refine WL.assign (v := .int .i64 6) rfl ?_
    refine WL.nil ?_
    refine hK114 _ _ ?_
    refine W.ret ?_
    have hr := Option.some.inj hf; subst hr
    have hs := hs.add (it := vl t_api_Change (⟨x1.Kind, x1.Server, x1.Weight, x1.Version, (⟨x1.Rule.Kind, x1.Rule.Columns, x1.Rule.Faulty⟩ : api_Rule)⟩ : api_Change) (.agg [.int .i64 x1.Kind, .int .i64 x1.Server, .int .i64 x1.Weight, .int .i64 x1.Version, .int .i64 x1.Rule.Kind, .int .i64 x1.Rule.Columns, .int .i64 x1.Rule.Faulty].toArray)) fun ok hA => V_agg (show t_api_Change.R ok _ _ _ from ⟨[.int .i64 x1.Kind], [.int .i64 x1.Server, .int .i64 x1.Weight, .int .i64 x1.Version, .int .i64 x1.Rule.Kind, .int .i64 x1.Rule.Columns, .int .i64 x1.Rule.Faulty], rfl, rfl, ⟨[.int .i64 x1.Server], [.int .i64 x1.Weight, .int .i64 x1.Version, .int .i64 x1.Rule.Kind, .int .i64 x1.Rule.Columns, .int .i64 x1.Rule.Faulty], rfl, rfl, ⟨[.int .i64 x1.Weight], [.int .i64 x1.Version, .int .i64 x1.Rule.Kind, .int .i64 x1.Rule.Columns, .int .i64 x1.Rule.Faulty], rfl, rfl, ⟨[.int .i64 x1.Version], [.int .i64 x1.Rule.Kind, .int .i64 x1.Rule.Columns, .int .i64 x1.Rule.Faulty], rfl, rfl, ⟨[.int .i64 x1.Rule.Kind], [.int .i64 x1.Rule.Columns, .int .i64 x1.Rule.Faulty], rfl, rfl, ⟨[.int .i64 x1.Rule.Columns], [.int .i64 x1.Rule.Faulty], rfl, rfl, rfl⟩⟩⟩⟩⟩⟩) rfl
    exact ⟨_, resOk_two rfl (res_all hs 0 rfl TI26 h64_6 rfl) rfl, [.int .i64 x1.Kind, .int .i64 x1.Server, .int .i64 x1.Weight, .int .i64 x1.Version, .int .i64 x1.Rule.Kind, .int .i64 x1.Rule.Columns, .int .i64 x1.Rule.Faulty], rfl, (hs.mask []).pick [0]⟩ }
    {
    refine W.cond_false (bool_tr rfl hc113) ?_
    refine W.skip ?_
    have hs := hs.add (it := vl t_api_Change (⟨0, 0, 0, 0, (⟨0, 0, 0⟩ : api_Rule)⟩ : api_Change) (.agg [.int .i64 0, .int .i64 0, .int .i64 0, .int .i64 0, .int .i64 0, .int .i64 0, .int .i64 0].toArray)) fun ok hA => V_agg (show t_api_Change.R ok _ _ _ from ⟨[.int .i64 0], [.int .i64 0, .int .i64 0, .int .i64 0, .int .i64 0, .int .i64 0, .int .i64 0], rfl, rfl, ⟨[.int .i64 0], [.int .i64 0, .int .i64 0, .int .i64 0, .int .i64 0, .int .i64 0], rfl, rfl, ⟨[.int .i64 0], [.int .i64 0, .int .i64 0, .int .i64 0, .int .i64 0], rfl, rfl, ⟨[.int .i64 0], [.int .i64 0, .int .i64 0, .int .i64 0], rfl, rfl, ⟨[.int .i64 0], [.int .i64 0, .int .i64 0], rfl, rfl, ⟨[.int .i64 0], [.int .i64 0], rfl, rfl, rfl⟩⟩⟩⟩⟩⟩) rfl
    have hs := hs.add (it := vl t_api_Change (⟨0, 0, 0, 0, (⟨0, 0, 0⟩ : api_Rule)⟩ : api_Change) (.agg [.int .i64 0, .int .i64 0, .int .i64 0, .int .i64 0, .int .i64 0, .int .i64 0, .int .i64 0].toArray)) fun ok hA => V_agg (show t_api_Change.R ok _ _ _ from ⟨[.int .i64 0], [.int .i64 0, .int .i64 0, .int .i64 0, .int .i64 0, .int .i64 0, .int .i64 0], rfl, rfl, ⟨[.int .i64 0], [.int .i64 0, .int .i64 0, .int .i64 0, .int .i64 0, .int .i64 0], rfl, rfl, ⟨[.int .i64 0], [.int .i64 0, .int .i64 0, .int .i64 0, .int .i64 0], rfl, rfl, ⟨[.int .i64 0], [.int .i64 0, .int .i64 0, .int .i64 0], rfl, rfl, ⟨[.int .i64 0], [.int .i64 0, .int .i64 0], rfl, rfl, ⟨[.int .i64 0], [.int .i64 0], rfl, rfl, rfl⟩⟩⟩⟩⟩⟩) rfl
    exact Jk74 (⟨0, 0, 0, 0, (⟨0, 0, 0⟩ : api_Rule)⟩ : api_Change) [.int .i64 0, .int .i64 0, .int .i64 0, .int .i64 0, .int .i64 0, .int .i64 0, .int .i64 0] _ _ rfl h64_3 h64_4 h64_6 ((hs.mask [true, true, true]).pick [0, 2]) hf } }
    {
    refine W.cond_false (bool_tr rfl hc111) ?_
    refine W.skip ?_
    refine hK87 _ _ ?_
    refine W.exit ?_
    have hs := hs.add (it := vl t_api_Change (⟨0, 0, 0, 0, (⟨0, 0, 0⟩ : api_Rule)⟩ : api_Change) (.agg [.int .i64 0, .int .i64 0, .int .i64 0, .int .i64 0, .int .i64 0, .int .i64 0, .int .i64 0].toArray)) fun ok hA => V_agg (show t_api_Change.R ok _ _ _ from ⟨[.int .i64 0], [.int .i64 0, .int .i64 0, .int .i64 0, .int .i64 0, .int .i64 0, .int .i64 0], rfl, rfl, ⟨[.int .i64 0], [.int .i64 0, .int .i64 0, .int .i64 0, .int .i64 0, .int .i64 0], rfl, rfl, ⟨[.int .i64 0], [.int .i64 0, .int .i64 0, .int .i64 0, .int .i64 0], rfl, rfl, ⟨[.int .i64 0], [.int .i64 0, .int .i64 0, .int .i64 0], rfl, rfl, ⟨[.int .i64 0], [.int .i64 0, .int .i64 0], rfl, rfl, ⟨[.int .i64 0], [.int .i64 0], rfl, rfl, rfl⟩⟩⟩⟩⟩⟩) rfl
    have hs := hs.add (it := vl t_api_Change (⟨0, 0, 0, 0, (⟨0, 0, 0⟩ : api_Rule)⟩ : api_Change) (.agg [.int .i64 0, .int .i64 0, .int .i64 0, .int .i64 0, .int .i64 0, .int .i64 0, .int .i64 0].toArray)) fun ok hA => V_agg (show t_api_Change.R ok _ _ _ from ⟨[.int .i64 0], [.int .i64 0, .int .i64 0, .int .i64 0, .int .i64 0, .int .i64 0, .int .i64 0], rfl, rfl, ⟨[.int .i64 0], [.int .i64 0, .int .i64 0, .int .i64 0, .int .i64 0, .int .i64 0], rfl, rfl, ⟨[.int .i64 0], [.int .i64 0, .int .i64 0, .int .i64 0, .int .i64 0], rfl, rfl, ⟨[.int .i64 0], [.int .i64 0, .int .i64 0, .int .i64 0], rfl, rfl, ⟨[.int .i64 0], [.int .i64 0, .int .i64 0], rfl, rfl, ⟨[.int .i64 0], [.int .i64 0], rfl, rfl, rfl⟩⟩⟩⟩⟩⟩) rfl
    exact Jk74 (⟨0, 0, 0, 0, (⟨0, 0, 0⟩ : api_Rule)⟩ : api_Change) [.int .i64 0, .int .i64 0, .int .i64 0, .int .i64 0, .int .i64 0, .int .i64 0, .int .i64 0] _ _ rfl h64_3 h64_4 h64_6 ((hs.mask [true, true, true]).pick [0, 2]) hf } } }
  refine W.region ?_
  refine WL.move (v := .bool x29) rfl ?_
  refine WL.move (v := .bool x29) rfl ?_
  rcases iteE hf with ⟨hc115, hf⟩ | ⟨hc115, hf⟩
  {
  refine WL.move (v := .bool x33) rfl ?_ (hg := (wanted_of rfl rfl (bool_tr rfl hc115)).trans rfl)
  refine WL.not rfl ?_ (hg := (wanted_of rfl rfl (bool_tr rfl hc115)).trans rfl)
  refine WL.pickT (v := .bool (!x33)) (bool_tr rfl hc115) rfl ?_
  refine WL.move (v := .bool (!x33)) rfl ?_
  rcases iteE hf with ⟨hc116, hf⟩ | ⟨hc116, hf⟩
  {
  refine WL.pass ((wanted_of rfl rfl (bool_tr rfl hc116)).trans rfl) rfl ?_
  refine WL.pass ((wanted_of rfl rfl (bool_tr rfl hc116)).trans rfl) rfl ?_
  refine WL.pass ((wanted_of rfl rfl (bool_tr rfl hc116)).trans rfl) rfl ?_
  refine WL.pass ((wanted_of rfl rfl (bool_tr rfl hc116)).trans rfl) rfl ?_
  refine WL.pickT (v := .bool true) (bool_tr rfl hc116) rfl ?_
  refine WL.assign (v := .bool true) rfl ?_
  refine WL.nil ?_
  exact Jk66 true _ _ (hu48 3 rfl) (hu48 4 rfl) (hu48 6 rfl) rfl rfl rfl ((hs.mask [true, true, true]).pick [3]) hf }
  {
  refine WL.move (v := .slice a10 x9.length c11) (hu48 2 rfl) ?_ (hg := (wanted_of rfl rfl (bool_tr rfl hc116)).trans rfl)
  refine WL.fieldAddr (m := 1) (hu48 3 rfl) FA26_1 rfl ?_ (hg := (wanted_of rfl rfl (bool_tr rfl hc116)).trans rfl)
  refine WL.load1 (v := .int .i64 x1.Server) hs 2 rfl TI3 rfl rfl ?_ (hg := (wanted_of rfl rfl (bool_tr rfl hc116)).trans rfl)
  obtain ⟨x117, hxx117, hf⟩ := bindE hf
  refine WL.call (vs := [.slice a10 x9.length c11, .int .i64 1, .int .i64 x1.Server]) hs FN56 ⟨rfl, ⟨rfl, ⟨rfl, trivial⟩⟩⟩ (fun ok hA => command_occurs.calls (x1 := x9) (x4 := 1) (x5 := x1.Server) hxx117 (hA.get 4 rfl)) ?_ (hg := (wanted_of rfl rfl (bool_tr rfl hc116)).trans rfl)
  rintro _ w hs
  refine WL.pickF (v := .bool x117) (bool_tr rfl hc116) rfl ?_
  refine WL.assign (v := .bool x117) rfl ?_
  refine WL.nil ?_
  exact Jk66 x117 _ _ (hu48 3 rfl) (hu48 4 rfl) (hu48 6 rfl) rfl rfl rfl ((hs.mask [true, true, true]).pick [3]) hf } }
  {
  refine WL.pass ((wanted_of rfl rfl (bool_tr rfl hc115)).trans rfl) rfl ?_
  refine WL.pass ((wanted_of rfl rfl (bool_tr rfl hc115)).trans rfl) rfl ?_
  refine WL.pickF (v := .bool false) (bool_tr rfl hc115) rfl ?_
  refine WL.move (v := .bool false) rfl ?_
  refine WL.move (v := .slice a10 x9.length c11) (hu48 2 rfl) ?_ (hg := (wanted_of rfl rfl rfl).trans rfl)
  refine WL.fieldAddr (m := 1) (hu48 3 rfl) FA26_1 rfl ?_ (hg := (wanted_of rfl rfl rfl).trans rfl)
  refine WL.load1 (v := .int .i64 x1.Server) hs 2 rfl TI3 rfl rfl ?_ (hg := (wanted_of rfl rfl rfl).trans rfl)
  obtain ⟨x118, hxx118, hf⟩ := bindE hf
  refine WL.call (vs := [.slice a10 x9.length c11, .int .i64 1, .int .i64 x1.Server]) hs FN56 ⟨rfl, ⟨rfl, ⟨rfl, trivial⟩⟩⟩ (fun ok hA => command_occurs.calls (x1 := x9) (x4 := 1) (x5 := x1.Server) hxx118 (hA.get 4 rfl)) ?_ (hg := (wanted_of rfl rfl rfl).trans rfl)
  rintro _ w hs
  refine WL.pickF (v := .bool x118) rfl rfl ?_
  refine WL.assign (v := .bool x118) rfl ?_
  refine WL.nil ?_
  exact Jk66 x118 _ _ (hu48 3 rfl) (hu48 4 rfl) (hu48 6 rfl) rfl rfl rfl ((hs.mask [true, true, true]).pick [3]) hf } } } }
end Go.Proofs.YthfoljpjhegkmaaDoor
