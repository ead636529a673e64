import Derived.Test.YthfoljpjhegkmaaDoorFh
import Derived.Test.YthfoljpjhegkmaaDoorFp2
set_option linter.unusedVariables false
set_option linter.unusedSimpArgs false
namespace Go.Proofs.YthfoljpjhegkmaaDoor
open Go Go.RowKit Go.Proofs.YthfoljpjhegkmaaDoorL
set_option maxRecDepth 100000
set_option maxHeartbeats 4000000
/-! slices.IndexFunc[[]elasticstore/api.Change,elasticstore/api.Change]: function 80 -/
theorem slices_IndexFunc_Change.calls {ok : Nat → Prop} {w0 : World} {x1 : List api_Change} {x4 : api_Change → Option Bool} {a2 : Option Addr} {c3 : Nat} {v5 : Value} {r : Int} (hf : slices_IndexFunc_Change x1 x4 = some r) (i0 : (vl (tSlice t_api_Change) x1 (.slice a2 x1.length c3)).holds ok w0) (i1 : (vl (tFun Tryd.prog (argK1 t_api_Change) (fun r : Bool => .bool r)) x4 v5).holds ok w0) :
    Calls Tryd.prog 80 #[.slice a2 x1.length c3, v5] w0 fun e w' => ∃ v, e = .returned v ∧ ∃ y : Unit, v = .int .i64 r ∧ St ok (bz w0) w' [] [] := by
  unfold slices_IndexFunc_Change at hf
  refine calls_of_W (fn := Tryd.f80) (N := 19) Tryd.func80 rfl Tryd.ntmps80 rfl ?_
  have hs : St ok (bz w0) w0 [vl (tSlice t_api_Change) x1 (.slice a2 x1.length c3), vl (tFun Tryd.prog (argK1 t_api_Change) (fun r : Bool => .bool r)) x4 v5] [] := St.init (All.cons i0 (All.cons i1 All.nil))
  clear i0 i1
  refine W.seqK fun K6 hK6 => ?_
  refine W.region ?_
  refine WL.assign (v := .int .i64 0) rfl ?_
  refine WL.nil ?_
  refine hK6 _ _ ?_
  refine W.seqK fun K7 hK7 => ?_
  have Jk9 : ∀  (ρ : Env) (w : World), St ok (bz w0) w [] [] → slices_IndexFunc_Change.j1 = some r → K7 ρ w := by
    intro  ρ w  hs hf
    refine hK7 _ _ ?_
    unfold slices_IndexFunc_Change.j1 at hf
    refine W.seqK fun K10 hK10 => ?_
    refine W.region ?_
    refine WL.assign (v := .int .i64 (-1)) rfl ?_
    refine WL.nil ?_
    refine hK10 _ _ ?_
    refine W.ret ?_
    have hr := Option.some.inj hf; subst hr
    exact ⟨_, resOk_one rfl rfl, (), rfl, (hs.mask []).pick []⟩
  refine W.seqK fun K11 hK11 => ?_
  refine W.region ?_
  refine WL.move (v := .slice a2 x1.length c3) rfl ?_
  refine WL.len (v := .slice a2 x1.length c3) rfl (len_slice UN38) ?_
  refine WL.move (v := .int .i64 0) rfl ?_
  refine WL.nil ?_
  refine hK11 _ _ ?_
  refine W.block ?_
  obtain ⟨bs14, hbs14, hfs14⟩ := bindE hf
  refine W.loop hbs14 (fun s ρ w => match s with | x13 => ρ 0 = .slice a2 x1.length c3 ∧ ρ 1 = v5 ∧ ρ 7 = .int .i64 (x1.length : Int) ∧ ρ 8 = .int .i64 x13 ∧ St ok (bz w0) w [vl (tSlice t_api_Change) x1 (.slice a2 x1.length c3), vl (tFun Tryd.prog (argK1 t_api_Change) (fun r : Bool => .bool r)) x4 v5] []) ⟨rfl, rfl, rfl, rfl, (hs.mask []).pick [0, 1]⟩ ?_
  intro x13 ρ w os14 hI hf hbbs14
  obtain ⟨h12_0, h12_1, h12_7, h12_8, hs⟩ := hI
  unfold slices_IndexFunc_Change.l1 at hf
  refine W.seqK fun K15 hK15 => ?_
  refine W.region ?_
  refine WL.bin (v := .bool (decide (x13 < (x1.length : Int)))) h12_8 h12_7 (ib_lss _ _ _) ?_
  refine WL.nil ?_
  refine hK15 _ _ ?_
  refine W.seqK fun K16 hK16 => ?_
  rcases iteE hf with ⟨hc17, hf⟩ | ⟨hc17, hf⟩
  {
  refine W.cond_true (bool_tr rfl hc17) ?_
  refine W.skip ?_
  refine hK16 _ _ ?_
  refine W.seqK fun K18 hK18 => ?_
  refine W.block ?_
  refine W.seqK fun K19 hK19 => ?_
  refine W.region ?_
  refine WL.move (v := .int .i64 x13) h12_8 ?_
  refine WL.assign (v := .int .i64 x13) rfl ?_
  refine WL.nil ?_
  refine hK19 _ _ ?_
  refine W.seqK fun K20 hK20 => ?_
  refine W.region ?_
  refine WL.move (v := v5) h12_1 ?_
  refine WL.move (v := .slice a2 x1.length c3) h12_0 ?_
  refine WL.move (v := .int .i64 x13) rfl ?_
  obtain ⟨x21, hxx21, hf⟩ := bindE hf
  refine WL.indexAddr hs 0 rfl UN38 TI26 rfl rfl hxx21 (fun ad22 hs => ?_)
  refine WL.loadP hs 0 rfl TI26 (.inl rfl) rfl (fun v23 hs => ?_)
  obtain ⟨cs24, hl25, rfl⟩ := hs.aggv (n := 7) 0 rfl rfl rfl
  obtain ⟨x26, hxx26, hf⟩ := bindE hf
  refine WL.callF (x := x21) (vs := [.agg cs24.toArray]) hs 3 rfl rfl ⟨rfl, trivial⟩ (fun ok hA => ⟨_, rfl, hA.get 0 rfl⟩) hxx26 (fun w hs => ?_)
  refine WL.nil ?_
  refine hK20 _ _ ?_
  rcases iteE hf with ⟨hc27, hf⟩ | ⟨hc27, hf⟩
  {
  refine W.cond_true (bool_tr rfl hc27) ?_
  refine W.seqK fun K28 hK28 => ?_
  refine W.region ?_
  refine WL.move (v := .int .i64 x13) rfl ?_
  refine WL.assign (v := .int .i64 x13) rfl ?_
  refine WL.nil ?_
  refine hK28 _ _ ?_
  refine W.ret ?_
  have hr := Option.some.inj hf; subst hr
  have hr := hbbs14 _ rfl; subst hr
  have hf := hfs14
  have hr := Option.some.inj hf; subst hr
  exact ⟨_, resOk_one rfl rfl, (), rfl, (hs.mask []).pick []⟩ }
  {
  refine W.cond_false (bool_tr rfl hc27) ?_
  refine W.skip ?_
  refine hK18 _ _ ?_
  refine W.region ?_
  obtain ⟨x29, ex29, hf⟩ := letE hf
  refine WL.bin (v := .int .i64 x29) h12_8 rfl (ib_as ex29 (ib_add _ _ _)) ?_
  refine WL.move (v := .int .i64 x29) rfl ?_
  refine WL.nil ?_
  exact ⟨_, (Option.some.inj hf).symm, h12_0, h12_1, h12_7, rfl, (hs.mask []).pick [2, 3]⟩ } }
  {
  refine W.cond_false (bool_tr rfl hc17) ?_
  refine W.exit ?_
  have hr := Option.some.inj hf; subst hr
  have hr := hbbs14 _ rfl; subst hr
  have hf := hfs14
  exact Jk9  _ _  ((hs.mask []).pick []) hf }
/-! slices.ContainsFunc[[]elasticstore/api.Change,elasticstore/api.Change]: function 69 -/
theorem slices_ContainsFunc_Change.calls {ok : Nat → Prop} {w0 : World} {x1 : List api_Change} {x4 : api_Change → Option Bool} {a2 : Option Addr} {c3 : Nat} {v5 : Value} {r : Bool} (hf : slices_ContainsFunc_Change x1 x4 = some r) (i0 : (vl (tSlice t_api_Change) x1 (.slice a2 x1.length c3)).holds ok w0) (i1 : (vl (tFun Tryd.prog (argK1 t_api_Change) (fun r : Bool => .bool r)) x4 v5).holds ok w0) :
    Calls Tryd.prog 69 #[.slice a2 x1.length c3, v5] w0 fun e w' => ∃ v, e = .returned v ∧ ∃ y : Unit, v = .bool r ∧ St ok (bz w0) w' [] [] := by
  unfold slices_ContainsFunc_Change at hf
  refine calls_of_W (fn := Tryd.f69) (N := 9) Tryd.func69 rfl Tryd.ntmps69 rfl ?_
  have hs : St ok (bz w0) w0 [vl (tSlice t_api_Change) x1 (.slice a2 x1.length c3), vl (tFun Tryd.prog (argK1 t_api_Change) (fun r : Bool => .bool r)) x4 v5] [] := St.init (All.cons i0 (All.cons i1 All.nil))
  clear i0 i1
  refine W.seqK fun K6 hK6 => ?_
  refine W.region ?_
  refine WL.assign (v := .bool false) rfl ?_
  refine WL.nil ?_
  refine hK6 _ _ ?_
  refine W.seqK fun K7 hK7 => ?_
  refine W.region ?_
  refine WL.move (v := .slice a2 x1.length c3) rfl ?_
  refine WL.move (v := v5) rfl ?_
  obtain ⟨x8, hxx8, hf⟩ := bindE hf
  refine WL.call (vs := [.slice a2 x1.length c3, v5]) hs FN80 ⟨rfl, ⟨rfl, trivial⟩⟩ (fun ok hA => slices_IndexFunc_Change.calls (x1 := x1) (x4 := x4) hxx8 (hA.get 0 rfl) (hA.get 1 rfl)) ?_
  rintro _ w hs
  refine WL.bin (v := .bool (decide (0 ≤ x8))) rfl rfl (ib_geq _ _ _) ?_
  refine WL.assign (v := .bool (decide (0 ≤ x8))) rfl ?_
  refine WL.nil ?_
  refine hK7 _ _ ?_
  refine W.ret ?_
  have hr := Option.some.inj hf; subst hr
  exact ⟨_, resOk_one rfl rfl, (), rfl, (hs.mask []).pick []⟩
/-! elasticstore/command.occurs: function 56 -/
theorem command_occurs.calls {ok : Nat → Prop} {w0 : World} {x1 : List api_Change} {x4 : Int} {x5 : Int} {a2 : Option Addr} {c3 : Nat} {r : Bool} (hf : command_occurs x1 x4 x5 = some r) (i0 : (vl (tSlice t_api_Change) x1 (.slice a2 x1.length c3)).holds ok w0) :
    Calls Tryd.prog 56 #[.slice a2 x1.length c3, .int .i64 x4, .int .i64 x5] w0 fun e w' => ∃ v, e = .returned v ∧ ∃ y : Unit, v = .bool r ∧ St ok (bz w0) w' [] [] := by
  unfold command_occurs at hf
  refine calls_of_W (fn := Tryd.f56) (N := 10) Tryd.func56 rfl Tryd.ntmps56 rfl ?_
  have hs : St ok (bz w0) w0 [vl (tSlice t_api_Change) x1 (.slice a2 x1.length c3)] [] := St.init (All.cons i0 All.nil)
  clear i0
  refine W.seqK fun K6 hK6 => ?_
  refine W.region ?_
  refine WL.box (vs := [.int .i64 x4]) hs rfl rfl (fun g7 w hs => ?_)
  refine WL.box (vs := [.int .i64 x5]) hs rfl rfl (fun g8 w hs => ?_)
  refine WL.assign (v := .bool false) rfl ?_
  refine WL.nil ?_
  refine hK6 _ _ ?_
  refine W.seqK fun K9 hK9 => ?_
  refine W.region ?_
  refine WL.move (v := .slice a2 x1.length c3) rfl ?_
  refine WL.makeFunc (vs := [.pointer (some ⟨g7, 0, none⟩), .pointer (some ⟨g8, 0, none⟩)]) ⟨rfl, ⟨rfl, trivial⟩⟩ ?_
  have hs := hs.freezeB (A := tInt .i64) (x := x4) 1 rfl fun ok hA => rfl
  have hs := hs.freezeB (A := tInt .i64) (x := x5) 0 rfl fun ok hA => rfl
  have hs := hs.add (it := vl (tFun Tryd.prog (argK1 t_api_Change) (fun r : Bool => .bool r)) (fun p : api_Change => command_occurs_1 p x4 x5) (.func (.func 70) #[] #[.pointer (some ⟨g7, 0, none⟩), .pointer (some ⟨g8, 0, none⟩)])) fun ok hA => tFun_V.2 ⟨70, _, rfl, FN70, fun ok' w' hm p r vs hF har => by
    obtain ⟨u1, rfl, h1⟩ := har
    exact (command_occurs_1.calls (x1 := p) (x5 := x4) (x7 := x5) hF h1 ((hA.get 1 rfl).move hm) ((hA.get 0 rfl).move hm)).mono (by rintro e w2 ⟨v, h1, y, h2, h3⟩; exact ⟨v, h1, h2, h3⟩)⟩
  obtain ⟨x10, hxx10, hf⟩ := bindE hf
  refine WL.call (vs := [.slice a2 x1.length c3, (.func (.func 70) #[] #[.pointer (some ⟨g7, 0, none⟩), .pointer (some ⟨g8, 0, none⟩)])]) hs FN69 ⟨rfl, ⟨rfl, trivial⟩⟩ (fun ok hA => slices_ContainsFunc_Change.calls (x1 := x1) (x4 := (fun p : api_Change => command_occurs_1 p x4 x5)) hxx10 (hA.get 3 rfl) (hA.get 0 rfl)) ?_
  rintro _ w hs
  refine WL.assign (v := .bool x10) rfl ?_
  refine WL.nil ?_
  refine hK9 _ _ ?_
  refine W.ret ?_
  have hr := Option.some.inj hf; subst hr
  exact ⟨_, resOk_one rfl rfl, (), rfl, (hs.mask []).pick []⟩
/-! slices.Index[[]int,int]: function 71 -/
theorem slices_Index_int.calls {ok : Nat → Prop} {w0 : World} {x1 : List Int} {x4 : Int} {a2 : Option Addr} {c3 : Nat} {r : Int} (hf : slices_Index_int x1 x4 = some r) (i0 : (vl (tSlice (tInt .i64)) x1 (.slice a2 x1.length c3)).holds ok w0) :
    Calls Tryd.prog 71 #[.slice a2 x1.length c3, .int .i64 x4] w0 fun e w' => ∃ v, e = .returned v ∧ ∃ y : Unit, v = .int .i64 r ∧ St ok (bz w0) w' [] [] := by
  unfold slices_Index_int at hf
  refine calls_of_W (fn := Tryd.f71) (N := 19) Tryd.func71 rfl Tryd.ntmps71 rfl ?_
  have hs : St ok (bz w0) w0 [vl (tSlice (tInt .i64)) x1 (.slice a2 x1.length c3)] [] := St.init (All.cons i0 All.nil)
  clear i0
  refine W.seqK fun K5 hK5 => ?_
  refine W.region ?_
  refine WL.assign (v := .int .i64 0) rfl ?_
  refine WL.nil ?_
  refine hK5 _ _ ?_
  refine W.seqK fun K6 hK6 => ?_
  have Jk8 : ∀  (ρ : Env) (w : World), St ok (bz w0) w [] [] → slices_Index_int.j1 = some r → K6 ρ w := by
    intro  ρ w  hs hf
    refine hK6 _ _ ?_
    unfold slices_Index_int.j1 at hf
    refine W.seqK fun K9 hK9 => ?_
    refine W.region ?_
    refine WL.assign (v := .int .i64 (-1)) rfl ?_
    refine WL.nil ?_
    refine hK9 _ _ ?_
    refine W.ret ?_
    have hr := Option.some.inj hf; subst hr
    exact ⟨_, resOk_one rfl rfl, (), rfl, (hs.mask []).pick []⟩
  refine W.seqK fun K10 hK10 => ?_
  refine W.region ?_
  refine WL.move (v := .slice a2 x1.length c3) rfl ?_
  refine WL.len (v := .slice a2 x1.length c3) rfl (len_slice UN33) ?_
  refine WL.move (v := .int .i64 0) rfl ?_
  refine WL.nil ?_
  refine hK10 _ _ ?_
  refine W.block ?_
  obtain ⟨bs13, hbs13, hfs13⟩ := bindE hf
  refine W.loop hbs13 (fun s ρ w => match s with | x12 => ρ 0 = .slice a2 x1.length c3 ∧ ρ 1 = .int .i64 x4 ∧ ρ 7 = .int .i64 (x1.length : Int) ∧ ρ 8 = .int .i64 x12 ∧ St ok (bz w0) w [vl (tSlice (tInt .i64)) x1 (.slice a2 x1.length c3)] []) ⟨rfl, rfl, rfl, rfl, (hs.mask []).pick [0]⟩ ?_
  intro x12 ρ w os13 hI hf hbbs13
  obtain ⟨h11_0, h11_1, h11_7, h11_8, hs⟩ := hI
  unfold slices_Index_int.l1 at hf
  refine W.seqK fun K14 hK14 => ?_
  refine W.region ?_
  refine WL.bin (v := .bool (decide (x12 < (x1.length : Int)))) h11_8 h11_7 (ib_lss _ _ _) ?_
  refine WL.nil ?_
  refine hK14 _ _ ?_
  refine W.seqK fun K15 hK15 => ?_
  rcases iteE hf with ⟨hc16, hf⟩ | ⟨hc16, hf⟩
  {
  refine W.cond_true (bool_tr rfl hc16) ?_
  refine W.skip ?_
  refine hK15 _ _ ?_
  refine W.seqK fun K17 hK17 => ?_
  refine W.block ?_
  refine W.seqK fun K18 hK18 => ?_
  refine W.region ?_
  refine WL.move (v := .int .i64 x12) h11_8 ?_
  refine WL.assign (v := .int .i64 x12) rfl ?_
  refine WL.nil ?_
  refine hK18 _ _ ?_
  refine W.seqK fun K19 hK19 => ?_
  refine W.region ?_
  refine WL.move (v := .int .i64 x4) h11_1 ?_
  refine WL.move (v := .slice a2 x1.length c3) h11_0 ?_
  refine WL.move (v := .int .i64 x12) rfl ?_
  obtain ⟨x20, hxx20, hf⟩ := bindE hf
  refine WL.indexAddr hs 0 rfl UN33 TI3 rfl rfl hxx20 (fun ad21 hs => ?_)
  refine WL.loadP hs 0 rfl TI3 (.inr rfl) rfl (fun v22 hs => ?_)
  obtain rfl := hs.int 0 rfl
  refine WL.bin (v := .bool (x4 == x20)) rfl rfl (ib_eql _ _ _) ?_
  refine WL.nil ?_
  refine hK19 _ _ ?_
  rcases iteE hf with ⟨hc23, hf⟩ | ⟨hc23, hf⟩
  {
  refine W.cond_true (bool_tr rfl hc23) ?_
  refine W.seqK fun K24 hK24 => ?_
  refine W.region ?_
  refine WL.move (v := .int .i64 x12) rfl ?_
  refine WL.assign (v := .int .i64 x12) rfl ?_
  refine WL.nil ?_
  refine hK24 _ _ ?_
  refine W.ret ?_
  have hr := Option.some.inj hf; subst hr
  have hr := hbbs13 _ rfl; subst hr
  have hf := hfs13
  have hr := Option.some.inj hf; subst hr
  exact ⟨_, resOk_one rfl rfl, (), rfl, (hs.mask []).pick []⟩ }
  {
  refine W.cond_false (bool_tr rfl hc23) ?_
  refine W.skip ?_
  refine hK17 _ _ ?_
  refine W.region ?_
  obtain ⟨x25, ex25, hf⟩ := letE hf
  refine WL.bin (v := .int .i64 x25) h11_8 rfl (ib_as ex25 (ib_add _ _ _)) ?_
  refine WL.move (v := .int .i64 x25) rfl ?_
  refine WL.nil ?_
  exact ⟨_, (Option.some.inj hf).symm, h11_0, h11_1, h11_7, rfl, (hs.mask []).pick [2]⟩ } }
  {
  refine W.cond_false (bool_tr rfl hc16) ?_
  refine W.exit ?_
  have hr := Option.some.inj hf; subst hr
  have hr := hbbs13 _ rfl; subst hr
  have hf := hfs13
  exact Jk8  _ _  ((hs.mask []).pick []) hf }
/-! slices.Contains[[]int,int]: function 57 -/
theorem slices_Contains_int.calls {ok : Nat → Prop} {w0 : World} {x1 : List Int} {x4 : Int} {a2 : Option Addr} {c3 : Nat} {r : Bool} (hf : slices_Contains_int x1 x4 = some r) (i0 : (vl (tSlice (tInt .i64)) x1 (.slice a2 x1.length c3)).holds ok w0) :
    Calls Tryd.prog 57 #[.slice a2 x1.length c3, .int .i64 x4] w0 fun e w' => ∃ v, e = .returned v ∧ ∃ y : Unit, v = .bool r ∧ St ok (bz w0) w' [] [] := by
  unfold slices_Contains_int at hf
  refine calls_of_W (fn := Tryd.f57) (N := 9) Tryd.func57 rfl Tryd.ntmps57 rfl ?_
  have hs : St ok (bz w0) w0 [vl (tSlice (tInt .i64)) x1 (.slice a2 x1.length c3)] [] := St.init (All.cons i0 All.nil)
  clear i0
  refine W.seqK fun K5 hK5 => ?_
  refine W.region ?_
  refine WL.assign (v := .bool false) rfl ?_
  refine WL.nil ?_
  refine hK5 _ _ ?_
  refine W.seqK fun K6 hK6 => ?_
  refine W.region ?_
  refine WL.move (v := .slice a2 x1.length c3) rfl ?_
  refine WL.move (v := .int .i64 x4) rfl ?_
  obtain ⟨x7, hxx7, hf⟩ := bindE hf
  refine WL.call (vs := [.slice a2 x1.length c3, .int .i64 x4]) hs FN71 ⟨rfl, ⟨rfl, trivial⟩⟩ (fun ok hA => slices_Index_int.calls (x1 := x1) (x4 := x4) hxx7 (hA.get 0 rfl)) ?_
  rintro _ w hs
  refine WL.bin (v := .bool (decide (0 ≤ x7))) rfl rfl (ib_geq _ _ _) ?_
  refine WL.assign (v := .bool (decide (0 ≤ x7))) rfl ?_
  refine WL.nil ?_
  refine hK6 _ _ ?_
  refine W.ret ?_
  have hr := Option.some.inj hf; subst hr
  exact ⟨_, resOk_one rfl rfl, (), rfl, (hs.mask []).pick []⟩
/-! elasticstore/command.version: function 58 -/
theorem command_version.calls {ok : Nat → Prop} {w0 : World} {x1 : api_Change} {x5 : api_Summary} {v2 : Value} {v6 : Value} {r : Int} (hf : command_version x1 x5 = some r) (i0 : (vl t_api_Change x1 v2).holds ok w0) (i1 : (vl t_api_Summary x5 v6).holds ok w0) :
    Calls Tryd.prog 58 #[v2, v6] w0 fun e w' => ∃ v, e = .returned v ∧ ∃ y : Unit, v = .int .i64 r ∧ St ok (bz w0) w' [] [] := by
  unfold command_version at hf
  refine calls_of_W (fn := Tryd.f58) (N := 27) Tryd.func58 rfl Tryd.ntmps58 rfl ?_
  have hs : St ok (bz w0) w0 [vl t_api_Change x1 v2, vl t_api_Summary x5 v6] [] := St.init (All.cons i0 (All.cons i1 All.nil))
  clear i0 i1
  obtain ⟨cs3, hl4, rfl⟩ := hs.aggv (n := 7) 0 rfl rfl rfl
  obtain ⟨cs7, hl8, rfl⟩ := hs.aggv (n := 9) 1 rfl rfl rfl
  refine W.seqK fun K9 hK9 => ?_
  refine W.region ?_
  refine WL.box (vs := cs3) hs rfl rfl (fun g10 w hs => ?_)
  refine WL.box (vs := cs7) hs rfl rfl (fun g11 w hs => ?_)
  refine WL.assign (v := .int .i64 0) rfl ?_
  refine WL.nil ?_
  refine hK9 _ _ ?_
  refine W.seqK fun K12 hK12 => ?_
  refine W.seqK fun K13 hK13 => ?_
  refine W.region ?_
  refine WL.fieldAddr (m := 0) rfl FA26_0 rfl ?_
  refine WL.loadF (z := x1.Kind) F_api_Change_Kind hs 1 rfl 0 rfl rfl TI3 (.inr rfl) rfl rfl (fun v14 hs => ?_)
  obtain rfl := hs.int 0 rfl
  refine WL.bin (v := .bool (x1.Kind == 4)) rfl rfl (ib_eql _ _ _) ?_
  refine WL.nil ?_
  refine hK13 _ _ ?_
  rcases iteE hf with ⟨hc15, hf⟩ | ⟨hc15, hf⟩
  {
  refine W.cond_true (bool_tr rfl hc15) ?_
  refine W.seqK fun K16 hK16 => ?_
  refine W.region ?_
  refine WL.fieldAddr (m := 6) rfl FA36_4 rfl ?_
  refine WL.loadF (z := x5.Version) F_api_Summary_Version hs 0 rfl 2 rfl rfl TI3 (.inr rfl) rfl rfl (fun v17 hs => ?_)
  obtain rfl := hs.int 0 rfl
  refine WL.assign (v := .int .i64 x5.Version) rfl ?_
  refine WL.nil ?_
  refine hK16 _ _ ?_
  refine W.ret ?_
  have hr := Option.some.inj hf; subst hr
  exact ⟨_, resOk_one rfl rfl, (), rfl, (hs.mask []).pick []⟩ }
  {
  refine W.cond_false (bool_tr rfl hc15) ?_
  refine W.skip ?_
  refine hK12 _ _ ?_
  refine W.seqK fun K18 hK18 => ?_
  have Jk20 : ∀  (ρ : Env) (w : World), St ok (bz w0) w [] [] → command_version.j1 = some r → K18 ρ w := by
    intro  ρ w  hs hf
    refine hK18 _ _ ?_
    unfold command_version.j1 at hf
    refine W.seqK fun K21 hK21 => ?_
    refine W.region ?_
    refine WL.assign (v := .int .i64 0) rfl ?_
    refine WL.nil ?_
    refine hK21 _ _ ?_
    refine W.ret ?_
    have hr := Option.some.inj hf; subst hr
    exact ⟨_, resOk_one rfl rfl, (), rfl, (hs.mask []).pick []⟩
  refine W.seqK fun K22 hK22 => ?_
  refine W.region ?_
  refine WL.fieldAddr (m := 2) rfl FA36_2 rfl ?_
  refine WL.loadF (z := x5.Weights) F_api_Summary_Weights hs 0 rfl 2 rfl rfl TI34 (.inr rfl) rfl rfl (fun v23 hs => ?_)
  obtain ⟨a24, c25, rfl⟩ := hs.slice 0 rfl
  refine WL.len (v := .slice a24 (x5.Weights).length c25) rfl (len_slice UN34) ?_
  refine WL.move (v := .int .i64 0) rfl ?_
  refine WL.nil ?_
  refine hK22 _ _ ?_
  refine W.block ?_
  obtain ⟨bs28, hbs28, hfs28⟩ := bindE hf
  refine W.loop hbs28 (fun s ρ w => match s with | x27 => ρ 2 = .pointer (some ⟨g10, 0, none⟩) ∧ ρ 13 = .slice a24 (x5.Weights).length c25 ∧ ρ 14 = .int .i64 ((x5.Weights).length : Int) ∧ ρ 15 = .int .i64 x27 ∧ St ok (bz w0) w [vl (tSlice t_api_WeightEntry) x5.Weights (.slice a24 (x5.Weights).length c25), vl t_api_Change x1 (.agg cs3.toArray)] [blk g10 26 cs3]) ⟨rfl, rfl, rfl, rfl, (hs.mask [false, true]).pick [0, 2]⟩ ?_
  intro x27 ρ w os28 hI hf hbbs28
  obtain ⟨h26_2, h26_13, h26_14, h26_15, hs⟩ := hI
  unfold command_version.l1 at hf
  refine W.seqK fun K29 hK29 => ?_
  refine W.region ?_
  refine WL.bin (v := .bool (decide (x27 < ((x5.Weights).length : Int)))) h26_15 h26_14 (ib_lss _ _ _) ?_
  refine WL.nil ?_
  refine hK29 _ _ ?_
  refine W.seqK fun K30 hK30 => ?_
  rcases iteE hf with ⟨hc31, hf⟩ | ⟨hc31, hf⟩
  {
  refine W.cond_true (bool_tr rfl hc31) ?_
  refine W.skip ?_
  refine hK30 _ _ ?_
  refine W.seqK fun K32 hK32 => ?_
  refine W.block ?_
  refine W.seqK fun K33 hK33 => ?_
  refine W.region ?_
  obtain ⟨x34, hxx34, hf⟩ := bindE hf
  refine WL.indexAddr hs 0 rfl UN34 TI59 h26_13 h26_15 hxx34 (fun ad35 hs => ?_)
  refine WL.loadP hs 0 rfl TI59 (.inl rfl) rfl (fun v36 hs => ?_)
  obtain ⟨cs37, hl38, rfl⟩ := hs.aggv (n := 5) 0 rfl rfl rfl
  refine WL.alloc hs ZV59 (fun g39 w hs => ?_)
  refine WL.storeAll (vs := cs37) hs 0 rfl TI59 rfl rfl rfl hl38 (hs.ones 0 rfl rfl) rfl (fun w hs => ?_)
  refine WL.nil ?_
  refine hK33 _ _ ?_
  refine W.seqK fun K40 hK40 => ?_
  refine W.region ?_
  refine WL.fieldAddr (m := 0) rfl FA59_0 rfl ?_
  refine WL.loadF (z := x34.Server) F_api_WeightEntry_Server hs 0 rfl 0 rfl rfl TI3 (.inr rfl) rfl rfl (fun v41 hs => ?_)
  obtain rfl := hs.int 0 rfl
  refine WL.fieldAddr (m := 1) h26_2 FA26_1 rfl ?_
  refine WL.loadF (z := x1.Server) F_api_Change_Server hs 1 rfl 4 rfl rfl TI3 (.inr rfl) rfl rfl (fun v42 hs => ?_)
  obtain rfl := hs.int 0 rfl
  refine WL.bin (v := .bool (x34.Server == x1.Server)) rfl rfl (ib_eql _ _ _) ?_
  refine WL.nil ?_
  refine hK40 _ _ ?_
  rcases iteE hf with ⟨hc43, hf⟩ | ⟨hc43, hf⟩
  {
  refine W.cond_true (bool_tr rfl hc43) ?_
  refine W.seqK fun K44 hK44 => ?_
  refine W.region ?_
  refine WL.fieldAddr (m := 2) rfl FA59_2 rfl ?_
  refine WL.loadF (z := x34.Version) F_api_WeightEntry_Version hs 0 rfl 2 rfl rfl TI3 (.inr rfl) rfl rfl (fun v45 hs => ?_)
  obtain rfl := hs.int 0 rfl
  refine WL.assign (v := .int .i64 x34.Version) rfl ?_
  refine WL.nil ?_
  refine hK44 _ _ ?_
  refine W.ret ?_
  have hr := Option.some.inj hf; subst hr
  have hr := hbbs28 _ rfl; subst hr
  have hf := hfs28
  have hr := Option.some.inj hf; subst hr
  exact ⟨_, resOk_one rfl rfl, (), rfl, (hs.mask []).pick []⟩ }
  {
  refine W.cond_false (bool_tr rfl hc43) ?_
  refine W.skip ?_
  refine hK32 _ _ ?_
  refine W.region ?_
  obtain ⟨x46, ex46, hf⟩ := letE hf
  refine WL.bin (v := .int .i64 x46) h26_15 rfl (ib_as ex46 (ib_add _ _ _)) ?_
  refine WL.move (v := .int .i64 x46) rfl ?_
  refine WL.nil ?_
  exact ⟨_, (Option.some.inj hf).symm, h26_2, h26_13, h26_14, rfl, (hs.mask [false, true]).pick [4, 5]⟩ } }
  {
  refine W.cond_false (bool_tr rfl hc31) ?_
  refine W.exit ?_
  have hr := Option.some.inj hf; subst hr
  have hr := hbbs28 _ rfl; subst hr
  have hf := hfs28
  exact Jk20  _ _  ((hs.mask []).pick []) hf } }
end Go.Proofs.YthfoljpjhegkmaaDoor
