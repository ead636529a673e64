import Derived.Test.YthfoljpjhegkmaaDoorFh
import Derived.Test.YthfoljpjhegkmaaDoorFp5
set_option linter.unusedVariables false
set_option linter.unusedSimpArgs false
namespace Go.Proofs.YthfoljpjhegkmaaDoor
open Go Go.RowKit Go.Proofs.YthfoljpjhegkmaaDoorL
set_option maxRecDepth 100000
set_option maxHeartbeats 4000000
/-! elasticstore/elasticstorelaw00.Rule: function 39 -/
theorem eslaw00_Rule.calls {ok : Nat → Prop} {w0 : World} {x1 : Int}  {r : api_Rule} (hf : eslaw00_Rule x1 = some r)  :
    Calls Tryd.prog 39 #[.int .i64 x1] w0 fun e w' => ∃ v, e = .returned v ∧ ∃ y : List Value, v = .agg y.toArray ∧ St ok (bz w0) w' [vl t_api_Rule r (.agg y.toArray)] [] := by
  unfold eslaw00_Rule at hf
  refine calls_of_W (fn := Tryd.f39) (N := 21) Tryd.func39 rfl Tryd.ntmps39 rfl ?_
  have hs : St ok (bz w0) w0 [] [] := St.init All.nil
  refine W.seqK fun K2 hK2 => ?_
  refine W.region ?_
  refine WL.alloc hs ZV24 (fun g3 w hs => ?_)
  refine WL.nil ?_
  refine hK2 _ _ ?_
  refine W.seqK fun K4 hK4 => ?_
  refine W.seqK fun K5 hK5 => ?_
  refine W.region ?_
  refine WL.move (v := .int .i64 x1) rfl ?_
  obtain ⟨x6, hxx6, hf⟩ := bindE hf
  refine WL.call (vs := [.int .i64 x1, .int .i64 8, .int .i64 0]) hs FN40 ⟨rfl, ⟨rfl, ⟨rfl, trivial⟩⟩⟩ (fun ok hA => eslaw00_Digit.calls (x1 := x1) (x2 := 8) (x3 := 0) hxx6) ?_
  rintro _ w hs
  refine WL.nil ?_
  refine hK5 _ _ ?_
  refine W.block ?_
  refine W.seqK fun K7 hK7 => ?_
  have Jk10 : ∀ (x9 : Bool) (ρ : Env) (w : World), ρ 0 = .int .i64 x1 → ρ 2 = .pointer (some ⟨g3, 0, none⟩) → ρ 4 = .int .i64 x6 → ρ 5 = .bool x9 → St ok (bz w0) w [] [blk g3 24 [.int .i64 0, .int .i64 0, .int .i64 0]] → eslaw00_Rule.j1 x1 x6 x9 = some r → K7 ρ w := by
    intro x9 ρ w h8_0 h8_2 h8_4 h8_5 hs hf
    refine hK7 _ _ ?_
    unfold eslaw00_Rule.j1 at hf
    rcases iteE hf with ⟨hc11, hf⟩ | ⟨hc11, hf⟩
    {
    refine W.cond_true (bool_tr h8_5 hc11) ?_
    refine W.seqK fun K12 hK12 => ?_
    refine W.region ?_
    refine WL.build (vs := [(0, .int .i64 2)]) (cs := [.int .i64 2, .int .i64 0, .int .i64 0]) ⟨⟨rfl, rfl⟩, trivial⟩ (bld PL24 rfl) ?_
    refine WL.storeAll (vs := [.int .i64 2, .int .i64 0, .int .i64 0]) hs 0 rfl TI24 h8_2 rfl rfl rfl (ones_of rfl) rfl (fun w hs => ?_)
    refine WL.nil ?_
    refine hK12 _ _ ?_
    refine W.ret ?_
    have hr := Option.some.inj hf; subst hr
    have hs := hs.add (it := vl t_api_Rule (⟨2, 0, 0⟩ : api_Rule) (.agg [.int .i64 2, .int .i64 0, .int .i64 0].toArray)) fun ok hA => V_agg (show t_api_Rule.R ok _ _ _ from ⟨[.int .i64 2], [.int .i64 0, .int .i64 0], rfl, rfl, ⟨[.int .i64 0], [.int .i64 0], rfl, rfl, rfl⟩⟩) rfl
    exact ⟨_, resOk_one rfl (res_all hs 0 rfl TI24 h8_2 rfl), [.int .i64 2, .int .i64 0, .int .i64 0], rfl, (hs.mask []).pick [0]⟩ }
    {
    refine W.cond_false (bool_tr h8_5 hc11) ?_
    refine W.seqK fun K13 hK13 => ?_
    refine W.region ?_
    refine WL.bin (v := .bool (x6 == 3)) h8_4 rfl (ib_eql _ _ _) ?_
    refine WL.assign (v := .bool (x6 == 3)) rfl ?_
    refine WL.nil ?_
    refine hK13 _ _ ?_
    rcases iteE hf with ⟨hc14, hf⟩ | ⟨hc14, hf⟩
    {
    refine W.cond_true (bool_tr rfl hc14) ?_
    refine W.seqK fun K15 hK15 => ?_
    refine W.region ?_
    refine WL.move (v := .int .i64 x1) h8_0 ?_
    obtain ⟨x16, hxx16, hf⟩ := bindE hf
    refine WL.call (vs := [.int .i64 x1, .int .i64 4, .int .i64 2]) hs FN40 ⟨rfl, ⟨rfl, ⟨rfl, trivial⟩⟩⟩ (fun ok hA => eslaw00_Digit.calls (x1 := x1) (x2 := 4) (x3 := 2) hxx16) ?_
    rintro _ w hs
    obtain ⟨x17, ex17, hf⟩ := letE hf
    refine WL.bin (v := .int .i64 x17) rfl rfl (ib_as ex17 (ib_add _ _ _)) ?_
    refine WL.build (vs := [(0, .int .i64 3), (1, .int .i64 x17)]) (cs := [.int .i64 3, .int .i64 x17, .int .i64 0]) ⟨⟨rfl, rfl⟩, ⟨⟨rfl, rfl⟩, trivial⟩⟩ (bld PL24 rfl) ?_
    refine WL.storeAll (vs := [.int .i64 3, .int .i64 x17, .int .i64 0]) hs 0 rfl TI24 h8_2 rfl rfl rfl (ones_of rfl) rfl (fun w hs => ?_)
    refine WL.nil ?_
    refine hK15 _ _ ?_
    refine W.ret ?_
    have hr := Option.some.inj hf; subst hr
    have hs := hs.add (it := vl t_api_Rule (⟨3, x17, 0⟩ : api_Rule) (.agg [.int .i64 3, .int .i64 x17, .int .i64 0].toArray)) fun ok hA => V_agg (show t_api_Rule.R ok _ _ _ from ⟨[.int .i64 3], [.int .i64 x17, .int .i64 0], rfl, rfl, ⟨[.int .i64 x17], [.int .i64 0], rfl, rfl, rfl⟩⟩) rfl
    exact ⟨_, resOk_one rfl (res_all hs 0 rfl TI24 h8_2 rfl), [.int .i64 3, .int .i64 x17, .int .i64 0], rfl, (hs.mask []).pick [0]⟩ }
    {
    refine W.cond_false (bool_tr rfl hc14) ?_
    refine W.seqK fun K18 hK18 => ?_
    refine W.region ?_
    refine WL.bin (v := .bool (x6 == 4)) h8_4 rfl (ib_eql _ _ _) ?_
    refine WL.assign (v := .bool (x6 == 4)) rfl ?_
    refine WL.nil ?_
    refine hK18 _ _ ?_
    rcases iteE hf with ⟨hc19, hf⟩ | ⟨hc19, hf⟩
    {
    refine W.cond_true (bool_tr rfl hc19) ?_
    refine W.seqK fun K20 hK20 => ?_
    refine W.region ?_
    refine WL.move (v := .int .i64 x1) h8_0 ?_
    obtain ⟨x21, hxx21, hf⟩ := bindE hf
    refine WL.call (vs := [.int .i64 x1, .int .i64 2, .int .i64 3]) hs FN40 ⟨rfl, ⟨rfl, ⟨rfl, trivial⟩⟩⟩ (fun ok hA => eslaw00_Digit.calls (x1 := x1) (x2 := 2) (x3 := 3) hxx21) ?_
    rintro _ w hs
    refine WL.build (vs := [(0, .int .i64 4), (2, .int .i64 x21)]) (cs := [.int .i64 4, .int .i64 0, .int .i64 x21]) ⟨⟨rfl, rfl⟩, ⟨⟨rfl, rfl⟩, trivial⟩⟩ (bld PL24 rfl) ?_
    refine WL.storeAll (vs := [.int .i64 4, .int .i64 0, .int .i64 x21]) hs 0 rfl TI24 h8_2 rfl rfl rfl (ones_of rfl) rfl (fun w hs => ?_)
    refine WL.nil ?_
    refine hK20 _ _ ?_
    refine W.ret ?_
    have hr := Option.some.inj hf; subst hr
    have hs := hs.add (it := vl t_api_Rule (⟨4, 0, x21⟩ : api_Rule) (.agg [.int .i64 4, .int .i64 0, .int .i64 x21].toArray)) fun ok hA => V_agg (show t_api_Rule.R ok _ _ _ from ⟨[.int .i64 4], [.int .i64 0, .int .i64 x21], rfl, rfl, ⟨[.int .i64 0], [.int .i64 x21], rfl, rfl, rfl⟩⟩) rfl
    exact ⟨_, resOk_one rfl (res_all hs 0 rfl TI24 h8_2 rfl), [.int .i64 4, .int .i64 0, .int .i64 x21], rfl, (hs.mask []).pick [0]⟩ }
    {
    refine W.cond_false (bool_tr rfl hc19) ?_
    refine W.skip ?_
    refine hK4 _ _ ?_
    refine W.seqK fun K22 hK22 => ?_
    refine W.region ?_
    refine WL.build (vs := [(0, .int .i64 1)]) (cs := [.int .i64 1, .int .i64 0, .int .i64 0]) ⟨⟨rfl, rfl⟩, trivial⟩ (bld PL24 rfl) ?_
    refine WL.storeAll (vs := [.int .i64 1, .int .i64 0, .int .i64 0]) hs 0 rfl TI24 h8_2 rfl rfl rfl (ones_of rfl) rfl (fun w hs => ?_)
    refine WL.nil ?_
    refine hK22 _ _ ?_
    refine W.ret ?_
    have hr := Option.some.inj hf; subst hr
    have hs := hs.add (it := vl t_api_Rule (⟨1, 0, 0⟩ : api_Rule) (.agg [.int .i64 1, .int .i64 0, .int .i64 0].toArray)) fun ok hA => V_agg (show t_api_Rule.R ok _ _ _ from ⟨[.int .i64 1], [.int .i64 0, .int .i64 0], rfl, rfl, ⟨[.int .i64 0], [.int .i64 0], rfl, rfl, rfl⟩⟩) rfl
    exact ⟨_, resOk_one rfl (res_all hs 0 rfl TI24 h8_2 rfl), [.int .i64 1, .int .i64 0, .int .i64 0], rfl, (hs.mask []).pick [0]⟩ } } }
  refine W.seqK fun K23 hK23 => ?_
  refine W.region ?_
  refine WL.bin (v := .bool (x6 == 1)) rfl rfl (ib_eql _ _ _) ?_
  refine WL.assign (v := .bool (x6 == 1)) rfl ?_
  refine WL.nil ?_
  refine hK23 _ _ ?_
  rcases iteE hf with ⟨hc24, hf⟩ | ⟨hc24, hf⟩
  {
  refine W.cond_true (bool_tr rfl hc24) ?_
  refine W.skip ?_
  exact Jk10 true _ _ rfl rfl rfl (bool_tr rfl hc24) ((hs.mask [true]).pick []) hf }
  {
  refine W.cond_false (bool_tr rfl hc24) ?_
  refine W.region ?_
  refine WL.bin (v := .bool (x6 == 2)) rfl rfl (ib_eql _ _ _) ?_
  refine WL.assign (v := .bool (x6 == 2)) rfl ?_
  refine WL.nil ?_
  exact Jk10 (x6 == 2) _ _ rfl rfl rfl rfl ((hs.mask [true]).pick []) hf }
/-! elasticstore/elasticstorelaw00.Genesis: function 17 -/
theorem eslaw00_Genesis.calls {ok : Nat → Prop} {w0 : World} {x1 : Int}  {r : api_Genesis} (hf : eslaw00_Genesis x1 = some r)  :
    Calls Tryd.prog 17 #[.int .i64 x1] w0 fun e w' => ∃ v, e = .returned v ∧ ∃ y : (Option Addr × Nat × Nat), v = .agg ([.slice y.1 y.2.1 y.2.2, .int .i64 r.Rule.Kind, .int .i64 r.Rule.Columns, .int .i64 r.Rule.Faulty] : List Value).toArray ∧ St ok (bz w0) w' [] [own t_api_Member 64 (.slice y.1 y.2.1 y.2.2) r.Members] := by
  unfold eslaw00_Genesis at hf
  refine calls_of_W (fn := Tryd.f17) (N := 28) Tryd.func17 rfl Tryd.ntmps17 rfl ?_
  have hs : St ok (bz w0) w0 [] [] := St.init All.nil
  refine W.seqK fun K2 hK2 => ?_
  refine W.region ?_
  refine WL.alloc hs ZV47 (fun g3 w hs => ?_)
  refine WL.nil ?_
  refine hK2 _ _ ?_
  refine W.seqK fun K4 hK4 => ?_
  refine W.region ?_
  refine WL.move (v := .int .i64 x1) rfl ?_
  obtain ⟨x5, hxx5, hf⟩ := bindE hf
  refine WL.call (vs := [.int .i64 x1]) hs FN39 ⟨rfl, trivial⟩ (fun ok hA => eslaw00_Rule.calls (x1 := x1) hxx5) ?_
  rintro cs6 w hs
  have hl7 := hs.agglen (n := 3) 0 rfl rfl rfl
  refine WL.build (vs := [(1, .agg cs6.toArray)]) (cs := ([.slice none 0 0] : List Value) ++ cs6) ⟨⟨rfl, rfl⟩, trivial⟩ (bld PL47 (by simp [fillL, Value.cells, hl7])) ?_
  refine WL.alloc hs ZV47 (fun g8 w hs => ?_)
  refine WL.storeAll (vs := ([.slice none 0 0] : List Value) ++ cs6) hs 0 rfl TI47 rfl rfl rfl (by simp [hl7]) (ones_app (ones_of (l := [.slice none 0 0]) rfl) (hs.ones 0 rfl rfl)) rfl (fun w hs => ?_)
  refine WL.nil ?_
  refine hK4 _ _ ?_
  refine W.seqK fun K9 hK9 => ?_
  obtain rfl := open_api_Rule hs 0 rfl
  have hs := hs.ownNil t_api_Member 64
  have Jk15 : ∀ (x11 : List api_Member) (a12 : Option Addr) (c13 : Nat) (n14 : Nat) (ρ : Env) (w : World), ρ 2 = .pointer (some ⟨g3, 0, none⟩) → ρ 3 = .pointer (some ⟨g8, 0, none⟩) → St ok (bz w0) w [] [own t_api_Member 64 (.slice a12 n14 c13) x11, blk g8 47 [.slice a12 n14 c13, .int .i64 x5.Kind, .int .i64 x5.Columns, .int .i64 x5.Faulty], blk g3 47 [.slice none 0 0, .int .i64 0, .int .i64 0, .int .i64 0]] → eslaw00_Genesis.j1 x5 x11 = some r → K9 ρ w := by
    intro x11 a12 c13 n14 ρ w h10_2 h10_3 hs hf
    refine hK9 _ _ ?_
    unfold eslaw00_Genesis.j1 at hf
    refine W.seqK fun K16 hK16 => ?_
    refine W.region ?_
    refine WL.loadN (vs := [.slice a12 n14 c13, .int .i64 x5.Kind, .int .i64 x5.Columns, .int .i64 x5.Faulty]) hs 1 rfl TI47 h10_3 rfl rfl ?_
    refine WL.storeAll (vs := [.slice a12 n14 c13, .int .i64 x5.Kind, .int .i64 x5.Columns, .int .i64 x5.Faulty]) hs 2 rfl TI47 h10_2 rfl rfl rfl (ones_of rfl) rfl (fun w hs => ?_)
    refine WL.nil ?_
    refine hK16 _ _ ?_
    refine W.ret ?_
    have hr := Option.some.inj hf; subst hr
    exact ⟨_, resOk_one rfl (res_all hs 2 rfl TI47 h10_2 rfl), (a12, n14, c13), rfl, (hs.mask [true]).pick []⟩
  refine W.seqK fun K17 hK17 => ?_
  refine W.region ?_
  refine WL.assign (v := .int .i64 0) rfl ?_
  refine WL.nil ?_
  refine hK17 _ _ ?_
  refine W.block ?_
  obtain ⟨bs24, hbs24, hfs24⟩ := bindE hf
  refine W.loop hbs24 (fun s ρ w => match s with | (x19, x20) => ∃ (a21 : Option Addr), ∃ (c22 : Nat), ∃ (n23 : Nat), ρ 0 = .int .i64 x1 ∧ ρ 2 = .pointer (some ⟨g3, 0, none⟩) ∧ ρ 3 = .pointer (some ⟨g8, 0, none⟩) ∧ ρ 4 = .int .i64 x19 ∧ St ok (bz w0) w [] [own t_api_Member 64 (.slice a21 n23 c22) x20, blk g8 47 [.slice a21 n23 c22, .int .i64 x5.Kind, .int .i64 x5.Columns, .int .i64 x5.Faulty], blk g3 47 [.slice none 0 0, .int .i64 0, .int .i64 0, .int .i64 0]]) ⟨none, 0, 0, rfl, rfl, rfl, rfl, (hs.mask [true, true, true]).pick []⟩ ?_
  intro s ρ w os24 hI hf hbbs24
  obtain ⟨x19, x20⟩ := s
  obtain ⟨a21, c22, n23, h18_0, h18_2, h18_3, h18_4, hs⟩ := hI
  unfold eslaw00_Genesis.l1 at hf
  refine W.seqK fun K25 hK25 => ?_
  refine W.seqK fun K26 hK26 => ?_
  refine W.region ?_
  refine WL.move (v := .int .i64 x19) h18_4 ?_
  refine WL.move (v := .int .i64 x1) h18_0 ?_
  obtain ⟨x27, hxx27, hf⟩ := bindE hf
  refine WL.call (vs := [.int .i64 x1, .int .i64 5, .int .i64 4]) hs FN40 ⟨rfl, ⟨rfl, ⟨rfl, trivial⟩⟩⟩ (fun ok hA => eslaw00_Digit.calls (x1 := x1) (x2 := 5) (x3 := 4) hxx27) ?_
  rintro _ w hs
  refine WL.bin (v := .bool (decide (x19 ≤ x27))) rfl rfl (ib_leq _ _ _) ?_
  refine WL.nil ?_
  refine hK26 _ _ ?_
  rcases iteE hf with ⟨hc28, hf⟩ | ⟨hc28, hf⟩
  {
  refine W.cond_true (bool_tr rfl hc28) ?_
  refine W.skip ?_
  refine hK25 _ _ ?_
  refine W.seqK fun K29 hK29 => ?_
  refine W.block ?_
  obtain ⟨x30, ex30, hf⟩ := letE hf
  obtain ⟨x31, ex31, hf⟩ := letE hf
  obtain ⟨x32, hxx32, hf⟩ := bindE hf
  obtain ⟨x33, ex33, hf⟩ := letE hf
  refine W.any (by kernel_rfl) 11 3 [true, true, true, true, true, true, true, true, true, true, true, false, false, false] rfl rfl (poAt [pv (.pointer (some ⟨g8, 0, none⟩)), pv (.slice a21 n23 c22), pv (.int .i64 x19), pv (.int .i64 x30), pv (.int .i64 x1), pv (.int .i64 x19), pv (.int .i64 x31), pv (.int .i64 x32), pv (.int .i64 x33), pv (.agg ([.int .i64 x30, .int .i64 x33] : List Value).toArray), pq (fun y : (Option Addr × Nat) => .slice y.1 ([(⟨x30, x33⟩ : api_Member)]).length y.2) (fun v => [vl (tSlice t_api_Member) [(⟨x30, x33⟩ : api_Member)] v]) (fun v => [])]) (Λ := [own t_api_Member 64 (.slice a21 n23 c22) x20, blk g8 47 [.slice a21 n23 c22, .int .i64 x5.Kind, .int .i64 x5.Columns, .int .i64 x5.Faulty], blk g3 47 [.slice none 0 0, .int .i64 0, .int .i64 0, .int .i64 0]]) hs (by kernel_rfl) (by kernel_rfl) (by kernel_rfl) ⟨⟨⟨⟨⟨⟨⟨⟨⟨⟨⟨trivial, ?_⟩, ?_⟩, ?_⟩, ?_⟩, ?_⟩, ?_⟩, ?_⟩, ?_⟩, ?_⟩, ?_⟩, ?_⟩ ?_
  {
  intro ρ w Γx Λx hs hu hp
  refine WL.fieldAddr (m := 0) ((hu 3 rfl).trans h18_3) FA47_0 rfl ?_
  exact WL.nil ⟨rfl, _, rfl, rfl, hs.cutG 0 0⟩ }
  {
  intro ρ w Γx Λx hs hu hp
  have e36 : ρ 14 = .pointer (some ⟨g8, 0, none⟩) := (hp 0 rfl).1
  refine WL.load1 (v := .slice a21 n23 c22) hs (Λx.length + 1) (getApp rfl) TI45 e36 rfl ?_
  exact WL.nil ⟨rfl, _, rfl, rfl, hs.cutG 0 0⟩ }
  {
  intro ρ w Γx Λx hs hu hp
  refine WL.move (v := .int .i64 x19) ((hu 4 rfl).trans h18_4) ?_
  exact WL.nil ⟨rfl, _, rfl, rfl, hs.cutG 0 0⟩ }
  {
  intro ρ w Γx Λx hs hu hp
  have e37 : ρ 16 = .int .i64 x19 := (hp 2 rfl).1
  refine WL.bin (v := .int .i64 x30) e37 rfl (ib_as ex30 (ib_add _ _ _)) ?_
  exact WL.nil ⟨rfl, _, rfl, rfl, hs.cutG 0 0⟩ }
  {
  intro ρ w Γx Λx hs hu hp
  refine WL.move (v := .int .i64 x1) ((hu 0 rfl).trans h18_0) ?_
  exact WL.nil ⟨rfl, _, rfl, rfl, hs.cutG 0 0⟩ }
  {
  intro ρ w Γx Λx hs hu hp
  refine WL.move (v := .int .i64 x19) ((hu 4 rfl).trans h18_4) ?_
  exact WL.nil ⟨rfl, _, rfl, rfl, hs.cutG 0 0⟩ }
  {
  intro ρ w Γx Λx hs hu hp
  have e38 : ρ 19 = .int .i64 x19 := (hp 5 rfl).1
  refine WL.bin (v := .int .i64 x31) rfl e38 (ib_as ex31 (ib_add _ _ _)) ?_
  exact WL.nil ⟨rfl, _, rfl, rfl, hs.cutG 0 0⟩ }
  {
  intro ρ w Γx Λx hs hu hp
  have e39 : ρ 18 = .int .i64 x1 := (hp 4 rfl).1
  have e40 : ρ 20 = .int .i64 x31 := (hp 6 rfl).1
  refine WL.call (vs := [.int .i64 x1, .int .i64 3, .int .i64 x31]) hs FN40 ⟨e39, ⟨rfl, ⟨e40, trivial⟩⟩⟩ (fun ok hA => eslaw00_Digit.calls (x1 := x1) (x2 := 3) (x3 := x31) hxx32) ?_
  rintro _ w hs
  exact WL.nil ⟨rfl, _, rfl, rfl, hs.cutG 0 0⟩ }
  {
  intro ρ w Γx Λx hs hu hp
  have e41 : ρ 21 = .int .i64 x32 := (hp 7 rfl).1
  refine WL.bin (v := .int .i64 x33) rfl e41 (ib_as ex33 (ib_add _ _ _)) ?_
  exact WL.nil ⟨rfl, _, rfl, rfl, hs.cutG 0 0⟩ }
  {
  intro ρ w Γx Λx hs hu hp
  have e42 : ρ 17 = .int .i64 x30 := (hp 3 rfl).1
  have e43 : ρ 22 = .int .i64 x33 := (hp 8 rfl).1
  refine WL.build (vs := [(0, .int .i64 x30), (1, .int .i64 x33)]) (cs := [.int .i64 x30, .int .i64 x33]) ⟨⟨rfl, e42⟩, ⟨⟨rfl, e43⟩, trivial⟩⟩ (bld PL64 rfl) ?_
  exact WL.nil ⟨rfl, _, rfl, rfl, hs.cutG 0 0⟩ }
  {
  intro ρ w Γx Λx hs hu hp
  have e44 : ρ 23 = .agg ([.int .i64 x30, .int .i64 x33] : List Value).toArray := (hp 9 rfl).1
  refine WL.buildSliceB (ys := [(⟨x30, x33⟩ : api_Member)]) (n := 1) (vs := [(0, .agg ([.int .i64 x30, .int .i64 x33] : List Value).toArray)]) (cs := [.int .i64 x30, .int .i64 x33]) hs ⟨⟨rfl, e44⟩, trivial⟩ (bls PS45 (by decide) rfl) (fun ok hA => (Cells.one (T := t_api_Member) (show t_api_Member.R ok _ (⟨x30, x33⟩ : api_Member) _ from ⟨[.int .i64 x30], [.int .i64 x33], rfl, rfl, rfl⟩))) rfl (by decide) (fun a35 w hBl hs => ?_)
  have hs := hs.add (it := vl (tSlice t_api_Member) [(⟨x30, x33⟩ : api_Member)] (.slice a35 ([(⟨x30, x33⟩ : api_Member)]).length 1)) fun ok hA => hA.get 0 rfl
  exact WL.nil ⟨rfl, _, rfl, ⟨(a35, 1), rfl⟩, hs.cutG 1 1⟩ }
  {
  intro ρ w hs hu45 hp
  obtain ⟨⟨⟨⟨⟨⟨⟨⟨⟨⟨⟨_, hp0_⟩, hp1_⟩, hp2_⟩, hp3_⟩, hp4_⟩, hp5_⟩, hp6_⟩, hp7_⟩, hp8_⟩, hp9_⟩, hp10_⟩ := hp
  have hs : St ok (bz w0) w [vl (tSlice t_api_Member) [(⟨x30, x33⟩ : api_Member)] (ρ 24)] [own t_api_Member 64 (.slice a21 n23 c22) x20, blk g8 47 [.slice a21 n23 c22, .int .i64 x5.Kind, .int .i64 x5.Columns, .int .i64 x5.Faulty], blk g3 47 [.slice none 0 0, .int .i64 0, .int .i64 0, .int .i64 0]] := hs
  obtain ⟨⟨a46, c47⟩, e48⟩ := hp10_
  have e48 : ρ 24 = .slice a46 ([(⟨x30, x33⟩ : api_Member)]).length c47 := e48
  try rw [e48] at hs
  have e49 : ρ 23 = .agg ([.int .i64 x30, .int .i64 x33] : List Value).toArray := hp9_
  have e50 : ρ 22 = .int .i64 x33 := hp8_
  have e51 : ρ 21 = .int .i64 x32 := hp7_
  have e52 : ρ 20 = .int .i64 x31 := hp6_
  have e53 : ρ 19 = .int .i64 x19 := hp5_
  have e54 : ρ 18 = .int .i64 x1 := hp4_
  have e55 : ρ 17 = .int .i64 x30 := hp3_
  have e56 : ρ 16 = .int .i64 x19 := hp2_
  have e57 : ρ 15 = .slice a21 n23 c22 := hp1_
  have e58 : ρ 14 = .pointer (some ⟨g8, 0, none⟩) := hp0_
  refine WA.step [11] (by kernel_rfl) (by simp) ⟨?_, trivial⟩
  obtain ⟨x59, hxx59, hf⟩ := bindE hf
  obtain ⟨hbx59, hex59⟩ := appE hxx59
  refine WL.appendS (zs := x59) hs 0 rfl 0 rfl UN45 UN45 EI64 e57 e48 hbx59 (by omega) hex59 (fun v60 w hs => ?_)
  obtain ⟨a61, n63, c62, rfl⟩ := hs.ownv3 0 rfl
  refine WL.nil ⟨rfl, _, rfl, ?_⟩
  refine WA.step [12] (by kernel_rfl) (by simp) ⟨?_, trivial⟩
  refine WL.fieldAddr (m := 0) ((hu45 3 rfl).trans h18_3) FA47_0 rfl ?_
  refine WL.nil ⟨rfl, _, rfl, ?_⟩
  refine WA.step [13] (by kernel_rfl) (by simp) ⟨?_, trivial⟩
  refine WL.store (vs := [.slice a61 n63 c62]) (cs' := [.slice a61 n63 c62, .int .i64 x5.Kind, .int .i64 x5.Columns, .int .i64 x5.Faulty]) hs 1 rfl TI45 rfl rfl rfl rfl (ones_of rfl) (Nat.le_of_ble_eq_true rfl) rfl (fun w hs => ?_)
  refine WL.nil ⟨rfl, _, rfl, ?_⟩
  refine WA.done (by kernel_rfl) ?_
  refine hK29 _ _ ?_
  refine W.region ?_
  refine WL.move (v := .int .i64 x19) ((hu45 4 rfl).trans h18_4) ?_
  obtain ⟨x64, ex64, hf⟩ := letE hf
  refine WL.bin (v := .int .i64 x64) rfl rfl (ib_as ex64 (ib_add _ _ _)) ?_
  refine WL.assign (v := .int .i64 x64) rfl ?_
  refine WL.nil ?_
  exact ⟨_, (Option.some.inj hf).symm, a61, c62, n63, ((hu45 0 rfl).trans h18_0), ((hu45 2 rfl).trans h18_2), ((hu45 3 rfl).trans h18_3), rfl, (hs.mask [true, true, true]).pick []⟩ } }
  {
  refine W.cond_false (bool_tr rfl hc28) ?_
  refine W.exit ?_
  have hr := Option.some.inj hf; subst hr
  have hr := hbbs24 _ rfl; subst hr
  have hf := hfs24
  exact Jk15 x20 a21 c22 n23 _ _ h18_2 h18_3 ((hs.mask [true, true, true]).pick []) hf }
theorem eslaw00_Genesis.callc {ok : Nat → Prop} {w0 : World} {x1 : Int}  {r : api_Genesis} (hf : eslaw00_Genesis x1 = some r)  :
    Calls Tryd.prog 17 #[.int .i64 x1] w0 fun e w' => ∃ v, e = .returned v ∧ ∃ y : List Value, v = .agg y.toArray ∧ St ok (bz w0) w' [vl t_api_Genesis r (.agg y.toArray)] [] := by
  refine (eslaw00_Genesis.calls (ok := ok) (w0 := w0) (x1 := x1) hf).mono ?_
  rintro e w' ⟨v, rfl, ⟨a66, n67, c68⟩, rfl, hs⟩
  obtain rfl := hs.ownLen 0 rfl
  have hs := hs.freezeOwn 0 rfl
  have hs := hs.add (it := vl t_api_Genesis (⟨r.Members, (⟨r.Rule.Kind, r.Rule.Columns, r.Rule.Faulty⟩ : api_Rule)⟩ : api_Genesis) (.agg [.slice a66 (r.Members).length c68, .int .i64 r.Rule.Kind, .int .i64 r.Rule.Columns, .int .i64 r.Rule.Faulty].toArray)) fun ok hA => V_agg (show t_api_Genesis.R ok _ _ _ from ⟨[.slice a66 (r.Members).length c68], [.int .i64 r.Rule.Kind, .int .i64 r.Rule.Columns, .int .i64 r.Rule.Faulty], rfl, (R_one (hA.get 0 rfl)), ⟨[.int .i64 r.Rule.Kind], [.int .i64 r.Rule.Columns, .int .i64 r.Rule.Faulty], rfl, rfl, ⟨[.int .i64 r.Rule.Columns], [.int .i64 r.Rule.Faulty], rfl, rfl, rfl⟩⟩⟩) rfl
  exact ⟨_, rfl, [.slice a66 (r.Members).length c68, .int .i64 r.Rule.Kind, .int .i64 r.Rule.Columns, .int .i64 r.Rule.Faulty], rfl, hs.pick [0]⟩
/-! elasticstore/elasticstorelaw00.At: function 41 -/
theorem eslaw00_At.calls {ok : Nat → Prop} {w0 : World} {x1 : List Int} {x4 : Int} {a2 : Option Addr} {c3 : Nat} {r : Int} (hf : eslaw00_At x1 x4 = some r) (i0 : (vl (tSlice (tInt .i64)) x1 (.slice a2 x1.length c3)).holds ok w0) :
    Calls Tryd.prog 41 #[.slice a2 x1.length c3, .int .i64 x4] w0 fun e w' => ∃ v, e = .returned v ∧ ∃ y : Unit, v = .int .i64 r ∧ St ok (bz w0) w' [] [] := by
  unfold eslaw00_At at hf
  refine calls_of_W (fn := Tryd.f41) (N := 15) Tryd.func41 rfl Tryd.ntmps41 rfl ?_
  have hs : St ok (bz w0) w0 [vl (tSlice (tInt .i64)) x1 (.slice a2 x1.length c3)] [] := St.init (All.cons i0 All.nil)
  clear i0
  refine W.seqK fun K5 hK5 => ?_
  refine W.region ?_
  refine WL.assign (v := .int .i64 0) rfl ?_
  refine WL.nil ?_
  refine hK5 _ _ ?_
  refine W.seqK fun K6 hK6 => ?_
  refine W.seqK fun K7 hK7 => ?_
  refine W.region ?_
  refine WL.move (v := .slice a2 x1.length c3) rfl ?_
  refine WL.len (v := .slice a2 x1.length c3) rfl (len_slice UN33) ?_
  refine WL.bin (v := .bool ((x1.length : Int) == 0)) rfl rfl (ib_eql _ _ _) ?_
  refine WL.nil ?_
  refine hK7 _ _ ?_
  rcases iteE hf with ⟨hc8, hf⟩ | ⟨hc8, hf⟩
  {
  refine W.cond_true (bool_tr rfl hc8) ?_
  refine W.seqK fun K9 hK9 => ?_
  refine W.region ?_
  refine WL.assign (v := .int .i64 0) rfl ?_
  refine WL.nil ?_
  refine hK9 _ _ ?_
  refine W.ret ?_
  have hr := Option.some.inj hf; subst hr
  exact ⟨_, resOk_one rfl rfl, (), rfl, (hs.mask []).pick []⟩ }
  {
  refine W.cond_false (bool_tr rfl hc8) ?_
  refine W.skip ?_
  refine hK6 _ _ ?_
  refine W.seqK fun K10 hK10 => ?_
  refine W.region ?_
  refine WL.move (v := .slice a2 x1.length c3) rfl ?_
  refine WL.move (v := .int .i64 x4) rfl ?_
  refine WL.move (v := .slice a2 x1.length c3) rfl ?_
  refine WL.len (v := .slice a2 x1.length c3) rfl (len_slice UN33) ?_
  obtain ⟨x11, hxx11, hf⟩ := bindE hf
  refine WL.call (vs := [.int .i64 x4, .int .i64 (x1.length : Int)]) hs FN62 ⟨rfl, ⟨rfl, trivial⟩⟩ (fun ok hA => eslaw00_Index.calls (x1 := x4) (x2 := (x1.length : Int)) hxx11) ?_
  rintro _ w hs
  obtain ⟨x12, hxx12, hf⟩ := bindE hf
  refine WL.indexAddr hs 0 rfl UN33 TI3 rfl rfl hxx12 (fun ad13 hs => ?_)
  refine WL.loadP hs 0 rfl TI3 (.inr rfl) rfl (fun v14 hs => ?_)
  obtain rfl := hs.int 0 rfl
  refine WL.assign (v := .int .i64 x12) rfl ?_
  refine WL.nil ?_
  refine hK10 _ _ ?_
  refine W.ret ?_
  have hr := Option.some.inj hf; subst hr
  exact ⟨_, resOk_one rfl rfl, (), rfl, (hs.mask []).pick []⟩ }
/-! elasticstore/elasticstorelaw00.Change: function 42 -/
theorem eslaw00_Change.calls {ok : Nat → Prop} {w0 : World} {x1 : Int}  {r : api_Change} (hf : eslaw00_Change x1 = some r)  :
    Calls Tryd.prog 42 #[.int .i64 x1] w0 fun e w' => ∃ v, e = .returned v ∧ ∃ y : List Value, v = .agg y.toArray ∧ St ok (bz w0) w' [vl t_api_Change r (.agg y.toArray)] [] := by
  unfold eslaw00_Change at hf
  refine calls_of_W (fn := Tryd.f42) (N := 47) Tryd.func42 rfl Tryd.ntmps42 rfl ?_
  have hs : St ok (bz w0) w0 [] [] := St.init All.nil
  refine W.seqK fun K2 hK2 => ?_
  refine W.region ?_
  refine WL.alloc hs ZV26 (fun g3 w hs => ?_)
  refine WL.nil ?_
  refine hK2 _ _ ?_
  refine W.seqK fun K4 hK4 => ?_
  refine W.region ?_
  refine WL.move (v := .int .i64 x1) rfl ?_
  obtain ⟨x5, hxx5, hf⟩ := bindE hf
  refine WL.call (vs := [.int .i64 x1, .int .i64 8, .int .i64 1]) hs FN40 ⟨rfl, ⟨rfl, ⟨rfl, trivial⟩⟩⟩ (fun ok hA => eslaw00_Digit.calls (x1 := x1) (x2 := 8) (x3 := 1) hxx5) ?_
  rintro _ w hs
  obtain ⟨x6, ex6, hf⟩ := letE hf
  refine WL.bin (v := .int .i64 x6) rfl rfl (ib_as ex6 (ib_add _ _ _)) ?_
  refine WL.assign (v := .int .i64 x6) rfl ?_
  refine WL.nil ?_
  refine hK4 _ _ ?_
  refine W.seqK fun K7 hK7 => ?_
  refine W.seqK fun K8 hK8 => ?_
  refine W.region ?_
  refine WL.move (v := .int .i64 x1) rfl ?_
  obtain ⟨x9, hxx9, hf⟩ := bindE hf
  refine WL.call (vs := [.int .i64 x1, .int .i64 8, .int .i64 0]) hs FN40 ⟨rfl, ⟨rfl, ⟨rfl, trivial⟩⟩⟩ (fun ok hA => eslaw00_Digit.calls (x1 := x1) (x2 := 8) (x3 := 0) hxx9) ?_
  rintro _ w hs
  refine WL.nil ?_
  refine hK8 _ _ ?_
  refine W.block ?_
  refine W.seqK fun K10 hK10 => ?_
  have Jk13 : ∀ (x12 : Bool) (ρ : Env) (w : World), ρ 0 = .int .i64 x1 → ρ 2 = .pointer (some ⟨g3, 0, none⟩) → ρ 3 = .int .i64 x6 → ρ 8 = .int .i64 x9 → ρ 9 = .bool x12 → St ok (bz w0) w [] [blk g3 26 [.int .i64 0, .int .i64 0, .int .i64 0, .int .i64 0, .int .i64 0, .int .i64 0, .int .i64 0]] → eslaw00_Change.j2 x1 x6 x9 x12 = some r → K10 ρ w := by
    intro x12 ρ w h11_0 h11_2 h11_3 h11_8 h11_9 hs hf
    refine hK10 _ _ ?_
    unfold eslaw00_Change.j2 at hf
    rcases iteE hf with ⟨hc14, hf⟩ | ⟨hc14, hf⟩
    {
    refine W.cond_true (bool_tr h11_9 hc14) ?_
    refine W.seqK fun K15 hK15 => ?_
    refine W.region ?_
    refine WL.move (v := .int .i64 x6) h11_3 ?_
    refine WL.move (v := .int .i64 x1) h11_0 ?_
    obtain ⟨x16, hxx16, hf⟩ := bindE hf
    refine WL.call (vs := [.int .i64 x1, .int .i64 4, .int .i64 3]) hs FN40 ⟨rfl, ⟨rfl, ⟨rfl, trivial⟩⟩⟩ (fun ok hA => eslaw00_Digit.calls (x1 := x1) (x2 := 4) (x3 := 3) hxx16) ?_
    rintro _ w hs
    obtain ⟨x17, ex17, hf⟩ := letE hf
    refine WL.bin (v := .int .i64 x17) rfl rfl (ib_as ex17 (ib_add _ _ _)) ?_
    refine WL.build (vs := [(0, .int .i64 1), (1, .int .i64 x6), (2, .int .i64 x17)]) (cs := [.int .i64 1, .int .i64 x6, .int .i64 x17, .int .i64 0, .int .i64 0, .int .i64 0, .int .i64 0]) ⟨⟨rfl, rfl⟩, ⟨⟨rfl, rfl⟩, ⟨⟨rfl, rfl⟩, trivial⟩⟩⟩ (bld PL26 rfl) ?_
    refine WL.storeAll (vs := [.int .i64 1, .int .i64 x6, .int .i64 x17, .int .i64 0, .int .i64 0, .int .i64 0, .int .i64 0]) hs 0 rfl TI26 h11_2 rfl rfl rfl (ones_of rfl) rfl (fun w hs => ?_)
    refine WL.nil ?_
    refine hK15 _ _ ?_
    refine W.ret ?_
    have hr := Option.some.inj hf; subst hr
    have hs := hs.add (it := vl t_api_Change (⟨1, x6, x17, 0, (⟨0, 0, 0⟩ : api_Rule)⟩ : api_Change) (.agg [.int .i64 1, .int .i64 x6, .int .i64 x17, .int .i64 0, .int .i64 0, .int .i64 0, .int .i64 0].toArray)) fun ok hA => V_agg (show t_api_Change.R ok _ _ _ from ⟨[.int .i64 1], [.int .i64 x6, .int .i64 x17, .int .i64 0, .int .i64 0, .int .i64 0, .int .i64 0], rfl, rfl, ⟨[.int .i64 x6], [.int .i64 x17, .int .i64 0, .int .i64 0, .int .i64 0, .int .i64 0], rfl, rfl, ⟨[.int .i64 x17], [.int .i64 0, .int .i64 0, .int .i64 0, .int .i64 0], rfl, rfl, ⟨[.int .i64 0], [.int .i64 0, .int .i64 0, .int .i64 0], rfl, rfl, ⟨[.int .i64 0], [.int .i64 0, .int .i64 0], rfl, rfl, ⟨[.int .i64 0], [.int .i64 0], rfl, rfl, rfl⟩⟩⟩⟩⟩⟩) rfl
    exact ⟨_, resOk_one rfl (res_all hs 0 rfl TI26 h11_2 rfl), [.int .i64 1, .int .i64 x6, .int .i64 x17, .int .i64 0, .int .i64 0, .int .i64 0, .int .i64 0], rfl, (hs.mask []).pick [0]⟩ }
    {
    refine W.cond_false (bool_tr h11_9 hc14) ?_
    refine W.seqK fun K18 hK18 => ?_
    have Jk21 : ∀ (x20 : Bool) (ρ : Env) (w : World), ρ 0 = .int .i64 x1 → ρ 2 = .pointer (some ⟨g3, 0, none⟩) → ρ 3 = .int .i64 x6 → ρ 8 = .int .i64 x9 → ρ 18 = .bool x20 → St ok (bz w0) w [] [blk g3 26 [.int .i64 0, .int .i64 0, .int .i64 0, .int .i64 0, .int .i64 0, .int .i64 0, .int .i64 0]] → eslaw00_Change.j1 x1 x6 x9 x20 = some r → K18 ρ w := by
      intro x20 ρ w h19_0 h19_2 h19_3 h19_8 h19_18 hs hf
      refine hK18 _ _ ?_
      unfold eslaw00_Change.j1 at hf
      rcases iteE hf with ⟨hc22, hf⟩ | ⟨hc22, hf⟩
      {
      refine W.cond_true (bool_tr h19_18 hc22) ?_
      refine W.seqK fun K23 hK23 => ?_
      refine W.region ?_
      refine WL.move (v := .int .i64 x6) h19_3 ?_
      refine WL.build (vs := [(0, .int .i64 2), (1, .int .i64 x6)]) (cs := [.int .i64 2, .int .i64 x6, .int .i64 0, .int .i64 0, .int .i64 0, .int .i64 0, .int .i64 0]) ⟨⟨rfl, rfl⟩, ⟨⟨rfl, rfl⟩, trivial⟩⟩ (bld PL26 rfl) ?_
      refine WL.storeAll (vs := [.int .i64 2, .int .i64 x6, .int .i64 0, .int .i64 0, .int .i64 0, .int .i64 0, .int .i64 0]) hs 0 rfl TI26 h19_2 rfl rfl rfl (ones_of rfl) rfl (fun w hs => ?_)
      refine WL.nil ?_
      refine hK23 _ _ ?_
      refine W.ret ?_
      have hr := Option.some.inj hf; subst hr
      have hs := hs.add (it := vl t_api_Change (⟨2, x6, 0, 0, (⟨0, 0, 0⟩ : api_Rule)⟩ : api_Change) (.agg [.int .i64 2, .int .i64 x6, .int .i64 0, .int .i64 0, .int .i64 0, .int .i64 0, .int .i64 0].toArray)) fun ok hA => V_agg (show t_api_Change.R ok _ _ _ from ⟨[.int .i64 2], [.int .i64 x6, .int .i64 0, .int .i64 0, .int .i64 0, .int .i64 0, .int .i64 0], rfl, rfl, ⟨[.int .i64 x6], [.int .i64 0, .int .i64 0, .int .i64 0, .int .i64 0, .int .i64 0], rfl, rfl, ⟨[.int .i64 0], [.int .i64 0, .int .i64 0, .int .i64 0, .int .i64 0], rfl, rfl, ⟨[.int .i64 0], [.int .i64 0, .int .i64 0, .int .i64 0], rfl, rfl, ⟨[.int .i64 0], [.int .i64 0, .int .i64 0], rfl, rfl, ⟨[.int .i64 0], [.int .i64 0], rfl, rfl, rfl⟩⟩⟩⟩⟩⟩) rfl
      exact ⟨_, resOk_one rfl (res_all hs 0 rfl TI26 h19_2 rfl), [.int .i64 2, .int .i64 x6, .int .i64 0, .int .i64 0, .int .i64 0, .int .i64 0, .int .i64 0], rfl, (hs.mask []).pick [0]⟩ }
      {
      refine W.cond_false (bool_tr h19_18 hc22) ?_
      refine W.seqK fun K24 hK24 => ?_
      refine W.region ?_
      refine WL.bin (v := .bool (x9 == 5)) h19_8 rfl (ib_eql _ _ _) ?_
      refine WL.assign (v := .bool (x9 == 5)) rfl ?_
      refine WL.nil ?_
      refine hK24 _ _ ?_
      rcases iteE hf with ⟨hc25, hf⟩ | ⟨hc25, hf⟩
      {
      refine W.cond_true (bool_tr rfl hc25) ?_
      refine W.seqK fun K26 hK26 => ?_
      refine W.region ?_
      refine WL.move (v := .int .i64 x6) h19_3 ?_
      refine WL.move (v := .int .i64 x1) h19_0 ?_
      obtain ⟨x27, hxx27, hf⟩ := bindE hf
      refine WL.call (vs := [.int .i64 x1, .int .i64 4, .int .i64 3]) hs FN40 ⟨rfl, ⟨rfl, ⟨rfl, trivial⟩⟩⟩ (fun ok hA => eslaw00_Digit.calls (x1 := x1) (x2 := 4) (x3 := 3) hxx27) ?_
      rintro _ w hs
      obtain ⟨x28, ex28, hf⟩ := letE hf
      refine WL.bin (v := .int .i64 x28) rfl rfl (ib_as ex28 (ib_add _ _ _)) ?_
      refine WL.move (v := .int .i64 x1) h19_0 ?_
      obtain ⟨x29, hxx29, hf⟩ := bindE hf
      refine WL.call (vs := [.int .i64 x1, .int .i64 2, .int .i64 9]) hs FN40 ⟨rfl, ⟨rfl, ⟨rfl, trivial⟩⟩⟩ (fun ok hA => eslaw00_Digit.calls (x1 := x1) (x2 := 2) (x3 := 9) hxx29) ?_
      rintro _ w hs
      obtain ⟨x30, ex30, hf⟩ := letE hf
      refine WL.bin (v := .int .i64 x30) rfl rfl (ib_as ex30 (ib_add _ _ _)) ?_
      refine WL.build (vs := [(0, .int .i64 3), (1, .int .i64 x6), (2, .int .i64 x28), (3, .int .i64 x30)]) (cs := [.int .i64 3, .int .i64 x6, .int .i64 x28, .int .i64 x30, .int .i64 0, .int .i64 0, .int .i64 0]) ⟨⟨rfl, rfl⟩, ⟨⟨rfl, rfl⟩, ⟨⟨rfl, rfl⟩, ⟨⟨rfl, rfl⟩, trivial⟩⟩⟩⟩ (bld PL26 rfl) ?_
      refine WL.storeAll (vs := [.int .i64 3, .int .i64 x6, .int .i64 x28, .int .i64 x30, .int .i64 0, .int .i64 0, .int .i64 0]) hs 0 rfl TI26 h19_2 rfl rfl rfl (ones_of rfl) rfl (fun w hs => ?_)
      refine WL.nil ?_
      refine hK26 _ _ ?_
      refine W.ret ?_
      have hr := Option.some.inj hf; subst hr
      have hs := hs.add (it := vl t_api_Change (⟨3, x6, x28, x30, (⟨0, 0, 0⟩ : api_Rule)⟩ : api_Change) (.agg [.int .i64 3, .int .i64 x6, .int .i64 x28, .int .i64 x30, .int .i64 0, .int .i64 0, .int .i64 0].toArray)) fun ok hA => V_agg (show t_api_Change.R ok _ _ _ from ⟨[.int .i64 3], [.int .i64 x6, .int .i64 x28, .int .i64 x30, .int .i64 0, .int .i64 0, .int .i64 0], rfl, rfl, ⟨[.int .i64 x6], [.int .i64 x28, .int .i64 x30, .int .i64 0, .int .i64 0, .int .i64 0], rfl, rfl, ⟨[.int .i64 x28], [.int .i64 x30, .int .i64 0, .int .i64 0, .int .i64 0], rfl, rfl, ⟨[.int .i64 x30], [.int .i64 0, .int .i64 0, .int .i64 0], rfl, rfl, ⟨[.int .i64 0], [.int .i64 0, .int .i64 0], rfl, rfl, ⟨[.int .i64 0], [.int .i64 0], rfl, rfl, rfl⟩⟩⟩⟩⟩⟩) rfl
      exact ⟨_, resOk_one rfl (res_all hs 0 rfl TI26 h19_2 rfl), [.int .i64 3, .int .i64 x6, .int .i64 x28, .int .i64 x30, .int .i64 0, .int .i64 0, .int .i64 0], rfl, (hs.mask []).pick [0]⟩ }
      {
      refine W.cond_false (bool_tr rfl hc25) ?_
      refine W.seqK fun K31 hK31 => ?_
      refine W.region ?_
      refine WL.bin (v := .bool (x9 == 6)) h19_8 rfl (ib_eql _ _ _) ?_
      refine WL.assign (v := .bool (x9 == 6)) rfl ?_
      refine WL.nil ?_
      refine hK31 _ _ ?_
      rcases iteE hf with ⟨hc32, hf⟩ | ⟨hc32, hf⟩
      {
      refine W.cond_true (bool_tr rfl hc32) ?_
      refine W.seqK fun K33 hK33 => ?_
      refine W.region ?_
      refine WL.move (v := .int .i64 x1) h19_0 ?_
      obtain ⟨x34, hxx34, hf⟩ := bindE hf
      refine WL.call (vs := [.int .i64 x1, .int .i64 2, .int .i64 9]) hs FN40 ⟨rfl, ⟨rfl, ⟨rfl, trivial⟩⟩⟩ (fun ok hA => eslaw00_Digit.calls (x1 := x1) (x2 := 2) (x3 := 9) hxx34) ?_
      rintro _ w hs
      obtain ⟨x35, ex35, hf⟩ := letE hf
      refine WL.bin (v := .int .i64 x35) rfl rfl (ib_as ex35 (ib_add _ _ _)) ?_
      refine WL.move (v := .int .i64 x1) h19_0 ?_
      obtain ⟨x36, hxx36, hf⟩ := bindE hf
      refine WL.call (vs := [.int .i64 x1, .int .i64 1099511627776]) hs FN62 ⟨rfl, ⟨rfl, trivial⟩⟩ (fun ok hA => eslaw00_Index.calls (x1 := x1) (x2 := 1099511627776) hxx36) ?_
      rintro _ w hs
      obtain ⟨x37, ex37, hf⟩ := letE hf
      refine WL.bin (v := .int .i64 x37) rfl rfl (ib_as ex37 (ib_quo _ _ _ (by decide))) ?_
      obtain ⟨x38, hxx38, hf⟩ := bindE hf
      refine WL.call (vs := [.int .i64 x37]) hs FN39 ⟨rfl, trivial⟩ (fun ok hA => eslaw00_Rule.calls (x1 := x37) hxx38) ?_
      rintro cs39 w hs
      have hl40 := hs.agglen (n := 3) 0 rfl rfl rfl
      refine WL.build (vs := [(0, .int .i64 4), (3, .int .i64 x35), (4, .agg cs39.toArray)]) (cs := ([.int .i64 4, .int .i64 0, .int .i64 0, .int .i64 x35] : List Value) ++ cs39) ⟨⟨rfl, rfl⟩, ⟨⟨rfl, rfl⟩, ⟨⟨rfl, rfl⟩, trivial⟩⟩⟩ (bld PL26 (by simp [fillL, Value.cells, hl40])) ?_
      refine WL.storeAll (vs := ([.int .i64 4, .int .i64 0, .int .i64 0, .int .i64 x35] : List Value) ++ cs39) hs 0 rfl TI26 h19_2 rfl rfl (by simp [hl40]) (ones_app (ones_of (l := [.int .i64 4, .int .i64 0, .int .i64 0, .int .i64 x35]) rfl) (hs.ones 0 rfl rfl)) rfl (fun w hs => ?_)
      refine WL.nil ?_
      refine hK33 _ _ ?_
      refine W.ret ?_
      have hr := Option.some.inj hf; subst hr
      have hs := hs.add (it := vl t_api_Change (⟨4, 0, 0, x35, x38⟩ : api_Change) (.agg (([.int .i64 4, .int .i64 0, .int .i64 0, .int .i64 x35] : List Value) ++ cs39).toArray)) fun ok hA => V_agg (show t_api_Change.R ok _ _ _ from ⟨[.int .i64 4], (([.int .i64 0, .int .i64 0, .int .i64 x35] : List Value) ++ cs39), by simp, rfl, ⟨[.int .i64 0], (([.int .i64 0, .int .i64 x35] : List Value) ++ cs39), by simp, rfl, ⟨[.int .i64 0], (([.int .i64 x35] : List Value) ++ cs39), by simp, rfl, ⟨[.int .i64 x35], cs39, by simp, rfl, (R_agg (hA.get 0 rfl) rfl)⟩⟩⟩⟩) rfl
      exact ⟨_, resOk_one rfl (res_all hs 0 rfl TI26 h19_2 (by simp [hl40])), ([.int .i64 4, .int .i64 0, .int .i64 0, .int .i64 x35] : List Value) ++ cs39, rfl, (hs.mask []).pick [0]⟩ }
      {
      refine W.cond_false (bool_tr rfl hc32) ?_
      refine W.skip ?_
      refine hK7 _ _ ?_
      refine W.seqK fun K41 hK41 => ?_
      refine W.region ?_
      refine WL.move (v := .int .i64 x1) h19_0 ?_
      obtain ⟨x42, hxx42, hf⟩ := bindE hf
      refine WL.call (vs := [.int .i64 x1, .int .i64 12, .int .i64 1]) hs FN40 ⟨rfl, ⟨rfl, ⟨rfl, trivial⟩⟩⟩ (fun ok hA => eslaw00_Digit.calls (x1 := x1) (x2 := 12) (x3 := 1) hxx42) ?_
      rintro _ w hs
      obtain ⟨x43, ex43, hf⟩ := letE hf
      refine WL.bin (v := .int .i64 x43) rfl rfl (ib_as ex43 (ib_add _ _ _)) ?_
      refine WL.build (vs := [(0, .int .i64 1), (1, .int .i64 x43), (2, .int .i64 1)]) (cs := [.int .i64 1, .int .i64 x43, .int .i64 1, .int .i64 0, .int .i64 0, .int .i64 0, .int .i64 0]) ⟨⟨rfl, rfl⟩, ⟨⟨rfl, rfl⟩, ⟨⟨rfl, rfl⟩, trivial⟩⟩⟩ (bld PL26 rfl) ?_
      refine WL.storeAll (vs := [.int .i64 1, .int .i64 x43, .int .i64 1, .int .i64 0, .int .i64 0, .int .i64 0, .int .i64 0]) hs 0 rfl TI26 h19_2 rfl rfl rfl (ones_of rfl) rfl (fun w hs => ?_)
      refine WL.nil ?_
      refine hK41 _ _ ?_
      refine W.ret ?_
      have hr := Option.some.inj hf; subst hr
      have hs := hs.add (it := vl t_api_Change (⟨1, x43, 1, 0, (⟨0, 0, 0⟩ : api_Rule)⟩ : api_Change) (.agg [.int .i64 1, .int .i64 x43, .int .i64 1, .int .i64 0, .int .i64 0, .int .i64 0, .int .i64 0].toArray)) fun ok hA => V_agg (show t_api_Change.R ok _ _ _ from ⟨[.int .i64 1], [.int .i64 x43, .int .i64 1, .int .i64 0, .int .i64 0, .int .i64 0, .int .i64 0], rfl, rfl, ⟨[.int .i64 x43], [.int .i64 1, .int .i64 0, .int .i64 0, .int .i64 0, .int .i64 0], rfl, rfl, ⟨[.int .i64 1], [.int .i64 0, .int .i64 0, .int .i64 0, .int .i64 0], rfl, rfl, ⟨[.int .i64 0], [.int .i64 0, .int .i64 0, .int .i64 0], rfl, rfl, ⟨[.int .i64 0], [.int .i64 0, .int .i64 0], rfl, rfl, ⟨[.int .i64 0], [.int .i64 0], rfl, rfl, rfl⟩⟩⟩⟩⟩⟩) rfl
      exact ⟨_, resOk_one rfl (res_all hs 0 rfl TI26 h19_2 rfl), [.int .i64 1, .int .i64 x43, .int .i64 1, .int .i64 0, .int .i64 0, .int .i64 0, .int .i64 0], rfl, (hs.mask []).pick [0]⟩ } } }
    refine W.seqK fun K44 hK44 => ?_
    refine W.region ?_
    refine WL.bin (v := .bool (x9 == 3)) h11_8 rfl (ib_eql _ _ _) ?_
    refine WL.assign (v := .bool (x9 == 3)) rfl ?_
    refine WL.nil ?_
    refine hK44 _ _ ?_
    rcases iteE hf with ⟨hc45, hf⟩ | ⟨hc45, hf⟩
    {
    refine W.cond_true (bool_tr rfl hc45) ?_
    refine W.skip ?_
    exact Jk21 true _ _ h11_0 h11_2 h11_3 h11_8 (bool_tr rfl hc45) ((hs.mask [true]).pick []) hf }
    {
    refine W.cond_false (bool_tr rfl hc45) ?_
    refine W.region ?_
    refine WL.bin (v := .bool (x9 == 4)) h11_8 rfl (ib_eql _ _ _) ?_
    refine WL.assign (v := .bool (x9 == 4)) rfl ?_
    refine WL.nil ?_
    exact Jk21 (x9 == 4) _ _ h11_0 h11_2 h11_3 h11_8 rfl ((hs.mask [true]).pick []) hf } }
  refine W.seqK fun K46 hK46 => ?_
  refine W.region ?_
  refine WL.bin (v := .bool (x9 == 0)) rfl rfl (ib_eql _ _ _) ?_
  refine WL.assign (v := .bool (x9 == 0)) rfl ?_
  refine WL.nil ?_
  refine hK46 _ _ ?_
  rcases iteE hf with ⟨hc47, hf⟩ | ⟨hc47, hf⟩
  {
  refine W.cond_true (bool_tr rfl hc47) ?_
  refine W.skip ?_
  exact Jk13 true _ _ rfl rfl rfl rfl (bool_tr rfl hc47) ((hs.mask [true]).pick []) hf }
  {
  refine W.cond_false (bool_tr rfl hc47) ?_
  refine W.seqK fun K48 hK48 => ?_
  refine W.region ?_
  refine WL.bin (v := .bool (x9 == 1)) rfl rfl (ib_eql _ _ _) ?_
  refine WL.assign (v := .bool (x9 == 1)) rfl ?_
  refine WL.nil ?_
  refine hK48 _ _ ?_
  rcases iteE hf with ⟨hc49, hf⟩ | ⟨hc49, hf⟩
  {
  refine W.cond_true (bool_tr rfl hc49) ?_
  refine W.skip ?_
  exact Jk13 true _ _ rfl rfl rfl rfl (bool_tr rfl hc49) ((hs.mask [true]).pick []) hf }
  {
  refine W.cond_false (bool_tr rfl hc49) ?_
  refine W.region ?_
  refine WL.bin (v := .bool (x9 == 2)) rfl rfl (ib_eql _ _ _) ?_
  refine WL.assign (v := .bool (x9 == 2)) rfl ?_
  refine WL.nil ?_
  exact Jk13 (x9 == 2) _ _ rfl rfl rfl rfl rfl ((hs.mask [true]).pick []) hf } }
end Go.Proofs.YthfoljpjhegkmaaDoor
