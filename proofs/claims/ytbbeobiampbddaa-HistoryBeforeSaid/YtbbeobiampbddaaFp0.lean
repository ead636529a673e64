import Derived.Test.YtbbeobiampbddaaFk
import Derived.Test.YtbbeobiampbddaaLz
set_option linter.unusedVariables false
set_option linter.unusedSimpArgs false
namespace Go.Proofs.Ytbbeobiampbddaa
open Go Go.RowKit Go.Proofs.YtbbeobiampbddaaL
set_option maxRecDepth 100000
set_option maxHeartbeats 4000000
/-! cmp.isNaN[int]: function 78 -/
theorem cmp_isNaN_int.calls {ok : Nat → Prop} {w0 : World} {x1 : Int}  {r : Bool} (hf : cmp_isNaN_int x1 = some r)  :
    Calls Try.prog 78 #[.int .i64 x1] w0 fun e w' => ∃ v, e = .returned v ∧ ∃ y : Unit, v = .bool r ∧ St ok (bz w0) w' [] [] := by
  unfold cmp_isNaN_int at hf
  refine calls_of_W (fn := Try.f78) (N := 6) Try.func78 rfl Try.ntmps78 rfl ?_
  have hs : St ok (bz w0) w0 [] [] := St.init All.nil
  refine W.seqK fun K2 hK2 => ?_
  refine W.region ?_
  refine WL.assign (v := .bool false) rfl ?_
  refine WL.nil ?_
  refine hK2 _ _ ?_
  refine W.seqK fun K3 hK3 => ?_
  refine W.region ?_
  refine WL.move (v := .int .i64 x1) rfl ?_
  refine WL.move (v := .int .i64 x1) rfl ?_
  refine WL.bin (v := .bool (x1 != x1)) rfl rfl (ib_neq _ _ _) ?_
  refine WL.assign (v := .bool (x1 != x1)) rfl ?_
  refine WL.nil ?_
  refine hK3 _ _ ?_
  refine W.ret ?_
  have hr := Option.some.inj hf; subst hr
  exact ⟨_, resOk_one rfl rfl, (), rfl, (hs.mask []).pick []⟩
/-! cmp.Compare[int]: function 67 -/
theorem cmp_Compare_int.calls {ok : Nat → Prop} {w0 : World} {x1 : Int} {x2 : Int}  {r : Int} (hf : cmp_Compare_int x1 x2 = some r)  :
    Calls Try.prog 67 #[.int .i64 x1, .int .i64 x2] w0 fun e w' => ∃ v, e = .returned v ∧ ∃ y : Unit, v = .int .i64 r ∧ St ok (bz w0) w' [] [] := by
  unfold cmp_Compare_int at hf
  refine calls_of_W (fn := Try.f67) (N := 20) Try.func67 rfl Try.ntmps67 rfl ?_
  have hs : St ok (bz w0) w0 [] [] := St.init All.nil
  refine W.seqK fun K3 hK3 => ?_
  refine W.region ?_
  refine WL.assign (v := .int .i64 0) rfl ?_
  refine WL.nil ?_
  refine hK3 _ _ ?_
  refine W.seqK fun K4 hK4 => ?_
  refine W.region ?_
  refine WL.move (v := .int .i64 x1) rfl ?_
  obtain ⟨x5, hxx5, hf⟩ := bindE hf
  refine WL.call (vs := [.int .i64 x1]) hs FN78 ⟨rfl, trivial⟩ (fun ok hA => cmp_isNaN_int.calls (x1 := x1) hxx5) ?_
  rintro _ w hs
  refine WL.assign (v := .bool x5) rfl ?_
  refine WL.nil ?_
  refine hK4 _ _ ?_
  refine W.seqK fun K6 hK6 => ?_
  refine W.region ?_
  refine WL.move (v := .int .i64 x2) rfl ?_
  obtain ⟨x7, hxx7, hf⟩ := bindE hf
  refine WL.call (vs := [.int .i64 x2]) hs FN78 ⟨rfl, trivial⟩ (fun ok hA => cmp_isNaN_int.calls (x1 := x2) hxx7) ?_
  rintro _ w hs
  refine WL.assign (v := .bool x7) rfl ?_
  refine WL.nil ?_
  refine hK6 _ _ ?_
  refine W.seqK fun K8 hK8 => ?_
  refine W.seqK fun K9 hK9 => ?_
  refine W.region ?_
  refine WL.move (v := .bool x5) rfl ?_
  refine WL.nil ?_
  refine hK9 _ _ ?_
  rcases iteE hf with ⟨hc10, hf⟩ | ⟨hc10, hf⟩
  {
  refine W.cond_true (bool_tr rfl hc10) ?_
  refine W.seqK fun K11 hK11 => ?_
  refine W.seqK fun K12 hK12 => ?_
  refine W.region ?_
  refine WL.move (v := .bool x7) rfl ?_
  refine WL.nil ?_
  refine hK12 _ _ ?_
  rcases iteE hf with ⟨hc13, hf⟩ | ⟨hc13, hf⟩
  {
  refine W.cond_true (bool_tr rfl hc13) ?_
  refine W.seqK fun K14 hK14 => ?_
  refine W.region ?_
  refine WL.assign (v := .int .i64 0) rfl ?_
  refine WL.nil ?_
  refine hK14 _ _ ?_
  refine W.ret ?_
  have hr := Option.some.inj hf; subst hr
  exact ⟨_, resOk_one rfl rfl, (), rfl, (hs.mask []).pick []⟩ }
  {
  refine W.cond_false (bool_tr rfl hc13) ?_
  refine W.skip ?_
  refine hK11 _ _ ?_
  refine W.seqK fun K15 hK15 => ?_
  refine W.region ?_
  refine WL.assign (v := .int .i64 (-1)) rfl ?_
  refine WL.nil ?_
  refine hK15 _ _ ?_
  refine W.ret ?_
  have hr := Option.some.inj hf; subst hr
  exact ⟨_, resOk_one rfl rfl, (), rfl, (hs.mask []).pick []⟩ } }
  {
  refine W.cond_false (bool_tr rfl hc10) ?_
  refine W.skip ?_
  refine hK8 _ _ ?_
  refine W.seqK fun K16 hK16 => ?_
  refine W.seqK fun K17 hK17 => ?_
  refine W.region ?_
  refine WL.move (v := .bool x7) rfl ?_
  refine WL.nil ?_
  refine hK17 _ _ ?_
  rcases iteE hf with ⟨hc18, hf⟩ | ⟨hc18, hf⟩
  {
  refine W.cond_true (bool_tr rfl hc18) ?_
  refine W.seqK fun K19 hK19 => ?_
  refine W.region ?_
  refine WL.assign (v := .int .i64 1) rfl ?_
  refine WL.nil ?_
  refine hK19 _ _ ?_
  refine W.ret ?_
  have hr := Option.some.inj hf; subst hr
  exact ⟨_, resOk_one rfl rfl, (), rfl, (hs.mask []).pick []⟩ }
  {
  refine W.cond_false (bool_tr rfl hc18) ?_
  refine W.skip ?_
  refine hK16 _ _ ?_
  refine W.seqK fun K20 hK20 => ?_
  refine W.seqK fun K21 hK21 => ?_
  refine W.region ?_
  refine WL.move (v := .int .i64 x1) rfl ?_
  refine WL.move (v := .int .i64 x2) rfl ?_
  refine WL.bin (v := .bool (decide (x1 < x2))) rfl rfl (ib_lss _ _ _) ?_
  refine WL.nil ?_
  refine hK21 _ _ ?_
  rcases iteE hf with ⟨hc22, hf⟩ | ⟨hc22, hf⟩
  {
  refine W.cond_true (bool_tr rfl hc22) ?_
  refine W.seqK fun K23 hK23 => ?_
  refine W.region ?_
  refine WL.assign (v := .int .i64 (-1)) rfl ?_
  refine WL.nil ?_
  refine hK23 _ _ ?_
  refine W.ret ?_
  have hr := Option.some.inj hf; subst hr
  exact ⟨_, resOk_one rfl rfl, (), rfl, (hs.mask []).pick []⟩ }
  {
  refine W.cond_false (bool_tr rfl hc22) ?_
  refine W.skip ?_
  refine hK20 _ _ ?_
  refine W.seqK fun K24 hK24 => ?_
  refine W.seqK fun K25 hK25 => ?_
  refine W.region ?_
  refine WL.move (v := .int .i64 x1) rfl ?_
  refine WL.move (v := .int .i64 x2) rfl ?_
  refine WL.bin (v := .bool (decide (x2 < x1))) rfl rfl (ib_gtr _ _ _) ?_
  refine WL.nil ?_
  refine hK25 _ _ ?_
  rcases iteE hf with ⟨hc26, hf⟩ | ⟨hc26, hf⟩
  {
  refine W.cond_true (bool_tr rfl hc26) ?_
  refine W.seqK fun K27 hK27 => ?_
  refine W.region ?_
  refine WL.assign (v := .int .i64 1) rfl ?_
  refine WL.nil ?_
  refine hK27 _ _ ?_
  refine W.ret ?_
  have hr := Option.some.inj hf; subst hr
  exact ⟨_, resOk_one rfl rfl, (), rfl, (hs.mask []).pick []⟩ }
  {
  refine W.cond_false (bool_tr rfl hc26) ?_
  refine W.skip ?_
  refine hK24 _ _ ?_
  refine W.seqK fun K28 hK28 => ?_
  refine W.region ?_
  refine WL.assign (v := .int .i64 0) rfl ?_
  refine WL.nil ?_
  refine hK28 _ _ ?_
  refine W.ret ?_
  have hr := Option.some.inj hf; subst hr
  exact ⟨_, resOk_one rfl rfl, (), rfl, (hs.mask []).pick []⟩ } } } }
/-! cmp.Or[int]: function 66 -/
theorem cmp_Or_int.calls {ok : Nat → Prop} {w0 : World} {x1 : List Int} {a2 : Option Addr} {c3 : Nat} {r : Int} (hf : cmp_Or_int x1 = some r) (i0 : (vl (tSlice (tInt .i64)) x1 (.slice a2 x1.length c3)).holds ok w0) :
    Calls Try.prog 66 #[.slice a2 x1.length c3] w0 fun e w' => ∃ v, e = .returned v ∧ ∃ y : Unit, v = .int .i64 r ∧ St ok (bz w0) w' [] [] := by
  unfold cmp_Or_int at hf
  refine calls_of_W (fn := Try.f66) (N := 18) Try.func66 rfl Try.ntmps66 rfl ?_
  have hs : St ok (bz w0) w0 [vl (tSlice (tInt .i64)) x1 (.slice a2 x1.length c3)] [] := St.init (All.cons i0 All.nil)
  clear i0
  refine W.seqK fun K4 hK4 => ?_
  refine W.region ?_
  refine WL.assign (v := .int .i64 0) rfl ?_
  refine WL.nil ?_
  refine hK4 _ _ ?_
  refine W.seqK fun K5 hK5 => ?_
  refine W.region ?_
  refine WL.assign (v := .int .i64 0) rfl ?_
  refine WL.nil ?_
  refine hK5 _ _ ?_
  refine W.seqK fun K6 hK6 => ?_
  have Jk8 : ∀  (ρ : Env) (w : World), ρ 3 = .int .i64 0 → St ok (bz w0) w [] [] → cmp_Or_int.j1 = some r → K6 ρ w := by
    intro  ρ w h7_3 hs hf
    refine hK6 _ _ ?_
    unfold cmp_Or_int.j1 at hf
    refine W.seqK fun K9 hK9 => ?_
    refine W.region ?_
    refine WL.move (v := .int .i64 0) h7_3 ?_
    refine WL.assign (v := .int .i64 0) rfl ?_
    refine WL.nil ?_
    refine hK9 _ _ ?_
    refine W.ret ?_
    have hr := Option.some.inj hf; subst hr
    exact ⟨_, resOk_one rfl rfl, (), rfl, (hs.mask []).pick []⟩
  refine W.seqK fun K10 hK10 => ?_
  refine W.region ?_
  refine WL.move (v := .slice a2 x1.length c3) rfl ?_
  refine WL.len (v := .slice a2 x1.length c3) rfl (len_slice UN29) ?_
  refine WL.move (v := .int .i64 0) rfl ?_
  refine WL.nil ?_
  refine hK10 _ _ ?_
  refine W.block ?_
  obtain ⟨bs13, hbs13, hfs13⟩ := bindE hf
  refine W.loop hbs13 (fun s ρ w => match s with | x12 => ρ 3 = .int .i64 0 ∧ ρ 6 = .slice a2 x1.length c3 ∧ ρ 7 = .int .i64 (x1.length : Int) ∧ ρ 8 = .int .i64 x12 ∧ St ok (bz w0) w [vl (tSlice (tInt .i64)) x1 (.slice a2 x1.length c3)] []) ⟨rfl, rfl, rfl, rfl, (hs.mask []).pick [0]⟩ ?_
  intro x12 ρ w os13 hI hf hbbs13
  obtain ⟨h11_3, h11_6, h11_7, h11_8, hs⟩ := hI
  unfold cmp_Or_int.l1 at hf
  refine W.seqK fun K14 hK14 => ?_
  refine W.region ?_
  refine WL.bin (v := .bool (decide (x12 < (x1.length : Int)))) h11_8 h11_7 (ib_lss _ _ _) ?_
  refine WL.nil ?_
  refine hK14 _ _ ?_
  refine W.seqK fun K15 hK15 => ?_
  rcases iteE hf with ⟨hc16, hf⟩ | ⟨hc16, hf⟩
  {
  refine W.cond_true (bool_tr rfl hc16) ?_
  refine W.skip ?_
  refine hK15 _ _ ?_
  refine W.seqK fun K17 hK17 => ?_
  refine W.block ?_
  refine W.seqK fun K18 hK18 => ?_
  refine W.region ?_
  obtain ⟨x19, hxx19, hf⟩ := bindE hf
  refine WL.indexAddr hs 0 rfl UN29 TI3 h11_6 h11_8 hxx19 (fun ad20 hs => ?_)
  refine WL.loadP hs 0 rfl TI3 (.inr rfl) rfl (fun v21 hs => ?_)
  obtain rfl := hs.int 0 rfl
  refine WL.assign (v := .int .i64 x19) rfl ?_
  refine WL.nil ?_
  refine hK18 _ _ ?_
  refine W.seqK fun K22 hK22 => ?_
  refine W.region ?_
  refine WL.move (v := .int .i64 x19) rfl ?_
  refine WL.move (v := .int .i64 0) h11_3 ?_
  refine WL.bin (v := .bool (x19 != 0)) rfl rfl (ib_neq _ _ _) ?_
  refine WL.nil ?_
  refine hK22 _ _ ?_
  rcases iteE hf with ⟨hc23, hf⟩ | ⟨hc23, hf⟩
  {
  refine W.cond_true (bool_tr rfl hc23) ?_
  refine W.seqK fun K24 hK24 => ?_
  refine W.region ?_
  refine WL.move (v := .int .i64 x19) rfl ?_
  refine WL.assign (v := .int .i64 x19) rfl ?_
  refine WL.nil ?_
  refine hK24 _ _ ?_
  refine W.ret ?_
  have hr := Option.some.inj hf; subst hr
  have hr := hbbs13 _ rfl; subst hr
  have hf := hfs13
  have hr := Option.some.inj hf; subst hr
  exact ⟨_, resOk_one rfl rfl, (), rfl, (hs.mask []).pick []⟩ }
  {
  refine W.cond_false (bool_tr rfl hc23) ?_
  refine W.skip ?_
  refine hK17 _ _ ?_
  refine W.region ?_
  obtain ⟨x25, ex25, hf⟩ := letE hf
  refine WL.bin (v := .int .i64 x25) h11_8 rfl (ib_as ex25 (ib_add _ _ _)) ?_
  refine WL.move (v := .int .i64 x25) rfl ?_
  refine WL.nil ?_
  exact ⟨_, (Option.some.inj hf).symm, h11_3, h11_6, h11_7, rfl, (hs.mask []).pick [2]⟩ } }
  {
  refine W.cond_false (bool_tr rfl hc16) ?_
  refine W.exit ?_
  have hr := Option.some.inj hf; subst hr
  have hr := hbbs13 _ rfl; subst hr
  have hf := hfs13
  exact Jk8  _ _ h11_3 ((hs.mask []).pick []) hf }
/-! elasticstore/fold.newer: function 57 -/
theorem fold_newer.calls {ok : Nat → Prop} {w0 : World} {x1 : api_Update} {x5 : fold_Register} {v2 : Value} {v6 : Value} {r : Bool} (hf : fold_newer x1 x5 = some r) (i0 : (vl t_api_Update x1 v2).holds ok w0) (i1 : (vl t_fold_Register x5 v6).holds ok w0) :
    Calls Try.prog 57 #[v2, v6] w0 fun e w' => ∃ v, e = .returned v ∧ ∃ y : Unit, v = .bool r ∧ St ok (bz w0) w' [] [] := by
  unfold fold_newer at hf
  refine calls_of_W (fn := Try.f57) (N := 28) Try.func57 rfl Try.ntmps57 rfl ?_
  have hs : St ok (bz w0) w0 [vl t_api_Update x1 v2, vl t_fold_Register x5 v6] [] := St.init (All.cons i0 (All.cons i1 All.nil))
  clear i0 i1
  obtain ⟨cs3, hl4, rfl⟩ := hs.aggv (n := 4) 0 rfl rfl rfl
  obtain ⟨cs7, hl8, rfl⟩ := hs.aggv (n := 6) 1 rfl rfl rfl
  refine W.seqK fun K9 hK9 => ?_
  refine W.region ?_
  refine WL.box (vs := cs3) hs rfl rfl (fun g10 w hs => ?_)
  refine WL.box (vs := cs7) hs rfl rfl (fun g11 w hs => ?_)
  refine WL.assign (v := .bool false) rfl ?_
  refine WL.nil ?_
  refine hK9 _ _ ?_
  refine W.seqK fun K12 hK12 => ?_
  have Jk15 : ∀ (x14 : Bool) (ρ : Env) (w : World), ρ 4 = .bool x14 → St ok (bz w0) w [] [] → fold_newer.j1 x14 = some r → K12 ρ w := by
    intro x14 ρ w h13_4 hs hf
    refine hK12 _ _ ?_
    unfold fold_newer.j1 at hf
    refine W.ret ?_
    have hr := Option.some.inj hf; subst hr
    exact ⟨_, resOk_one rfl h13_4, (), rfl, (hs.mask []).pick []⟩
  rcases iteE hf with ⟨hc17, hf⟩ | ⟨hc17, hf⟩
  {
  refine W.any (by kernel_rfl) 23 1 [true, true, true, true, true, true, true, true, true, true, true, true, true, true, true, true, true, true, true, true, true, true, true, false] rfl rfl (poAt [pv (.pointer (some ⟨g11, 0, none⟩)), pv (.bool x5.Set), pv (.bool (!x5.Set)), pv (.bool (!x5.Set)), pv (undef), pv (undef), pv (undef), pv (undef), pv (undef), pv (undef), pv (undef), pv (undef), pv (undef), pv (undef), pv (undef), pv (undef), pv (undef), pv (undef), pv (undef), pv (undef), pv (undef), pv (undef), pv (.bool true)]) (Λ := [blk g11 58 cs7, blk g10 75 cs3]) hs (by kernel_rfl) (by kernel_rfl) (by kernel_rfl) ⟨⟨⟨⟨⟨⟨⟨⟨⟨⟨⟨⟨⟨⟨⟨⟨⟨⟨⟨⟨⟨⟨⟨trivial, ?_⟩, ?_⟩, ?_⟩, ?_⟩, ?_⟩, ?_⟩, ?_⟩, ?_⟩, ?_⟩, ?_⟩, ?_⟩, ?_⟩, ?_⟩, ?_⟩, ?_⟩, ?_⟩, ?_⟩, ?_⟩, ?_⟩, ?_⟩, ?_⟩, ?_⟩, ?_⟩ ?_
  {
  intro ρ w Γx Λx hs hu hp
  refine WL.fieldAddr (m := 0) (hu 3 rfl) FA58_0 rfl ?_
  exact WL.nil ⟨rfl, _, rfl, rfl, hs.cutG 0 0⟩ }
  {
  intro ρ w Γx Λx hs hu hp
  have e18 : ρ 5 = .pointer (some ⟨g11, 0, none⟩) := (hp 0 rfl).1
  refine WL.loadF (z := x5.Set) F_fold_Register_Set hs (Λx.length + 0) (getApp rfl) (Γx.length + 1) (getApp rfl) rfl TI4 (.inr rfl) e18 rfl (fun v16 hs => ?_)
  obtain rfl := hs.bool 0 rfl
  exact WL.nil ⟨rfl, _, rfl, rfl, hs.cutG 0 1⟩ }
  {
  intro ρ w Γx Λx hs hu hp
  have e19 : ρ 6 = .bool x5.Set := (hp 1 rfl).1
  refine WL.not e19 ?_
  exact WL.nil ⟨rfl, _, rfl, rfl, hs.cutG 0 0⟩ }
  {
  intro ρ w Γx Λx hs hu hp
  have e20 : ρ 7 = .bool (!x5.Set) := (hp 2 rfl).1
  refine WL.move (v := .bool (!x5.Set)) e20 ?_
  exact WL.nil ⟨rfl, _, rfl, rfl, hs.cutG 0 0⟩ }
  {
  intro ρ w Γx Λx hs hu hp
  have e21 : ρ 8 = .bool (!x5.Set) := (hp 3 rfl).1
  refine WL.pass ((wanted_of rfl rfl (bool_tr e21 hc17)).trans rfl) rfl ?_
  exact WL.nil ⟨rfl, _, rfl, rfl, hs.cutG 0 0⟩ }
  {
  intro ρ w Γx Λx hs hu hp
  have e22 : ρ 9 = undef := (hp 4 rfl).1
  have e23 : ρ 8 = .bool (!x5.Set) := (hp 3 rfl).1
  refine WL.pass ((wanted_of rfl rfl (bool_tr e23 hc17)).trans rfl) rfl ?_
  exact WL.nil ⟨rfl, _, rfl, rfl, hs.cutG 0 0⟩ }
  {
  intro ρ w Γx Λx hs hu hp
  have e24 : ρ 8 = .bool (!x5.Set) := (hp 3 rfl).1
  refine WL.pass ((wanted_of rfl rfl (bool_tr e24 hc17)).trans rfl) rfl ?_
  exact WL.nil ⟨rfl, _, rfl, rfl, hs.cutG 0 0⟩ }
  {
  intro ρ w Γx Λx hs hu hp
  have e25 : ρ 11 = undef := (hp 6 rfl).1
  have e26 : ρ 8 = .bool (!x5.Set) := (hp 3 rfl).1
  refine WL.pass ((wanted_of rfl rfl (bool_tr e26 hc17)).trans rfl) rfl ?_
  exact WL.nil ⟨rfl, _, rfl, rfl, hs.cutG 0 0⟩ }
  {
  intro ρ w Γx Λx hs hu hp
  have e27 : ρ 10 = undef := (hp 5 rfl).1
  have e28 : ρ 12 = undef := (hp 7 rfl).1
  have e29 : ρ 8 = .bool (!x5.Set) := (hp 3 rfl).1
  refine WL.pass ((wanted_of rfl rfl (bool_tr e29 hc17)).trans rfl) rfl ?_
  exact WL.nil ⟨rfl, _, rfl, rfl, hs.cutG 0 0⟩ }
  {
  intro ρ w Γx Λx hs hu hp
  have e30 : ρ 8 = .bool (!x5.Set) := (hp 3 rfl).1
  refine WL.pass ((wanted_of rfl rfl (bool_tr e30 hc17)).trans rfl) rfl ?_
  exact WL.nil ⟨rfl, _, rfl, rfl, hs.cutG 0 0⟩ }
  {
  intro ρ w Γx Λx hs hu hp
  have e31 : ρ 14 = undef := (hp 9 rfl).1
  have e32 : ρ 8 = .bool (!x5.Set) := (hp 3 rfl).1
  refine WL.pass ((wanted_of rfl rfl (bool_tr e32 hc17)).trans rfl) rfl ?_
  exact WL.nil ⟨rfl, _, rfl, rfl, hs.cutG 0 0⟩ }
  {
  intro ρ w Γx Λx hs hu hp
  have e33 : ρ 8 = .bool (!x5.Set) := (hp 3 rfl).1
  refine WL.pass ((wanted_of rfl rfl (bool_tr e33 hc17)).trans rfl) rfl ?_
  exact WL.nil ⟨rfl, _, rfl, rfl, hs.cutG 0 0⟩ }
  {
  intro ρ w Γx Λx hs hu hp
  have e34 : ρ 16 = undef := (hp 11 rfl).1
  have e35 : ρ 8 = .bool (!x5.Set) := (hp 3 rfl).1
  refine WL.pass ((wanted_of rfl rfl (bool_tr e35 hc17)).trans rfl) rfl ?_
  exact WL.nil ⟨rfl, _, rfl, rfl, hs.cutG 0 0⟩ }
  {
  intro ρ w Γx Λx hs hu hp
  have e36 : ρ 15 = undef := (hp 10 rfl).1
  have e37 : ρ 17 = undef := (hp 12 rfl).1
  have e38 : ρ 8 = .bool (!x5.Set) := (hp 3 rfl).1
  refine WL.pass ((wanted_of rfl rfl (bool_tr e38 hc17)).trans rfl) rfl ?_
  exact WL.nil ⟨rfl, _, rfl, rfl, hs.cutG 0 0⟩ }
  {
  intro ρ w Γx Λx hs hu hp
  have e39 : ρ 8 = .bool (!x5.Set) := (hp 3 rfl).1
  refine WL.pass ((wanted_of rfl rfl (bool_tr e39 hc17)).trans rfl) rfl ?_
  exact WL.nil ⟨rfl, _, rfl, rfl, hs.cutG 0 0⟩ }
  {
  intro ρ w Γx Λx hs hu hp
  have e40 : ρ 19 = undef := (hp 14 rfl).1
  have e41 : ρ 8 = .bool (!x5.Set) := (hp 3 rfl).1
  refine WL.pass ((wanted_of rfl rfl (bool_tr e41 hc17)).trans rfl) rfl ?_
  exact WL.nil ⟨rfl, _, rfl, rfl, hs.cutG 0 0⟩ }
  {
  intro ρ w Γx Λx hs hu hp
  have e42 : ρ 8 = .bool (!x5.Set) := (hp 3 rfl).1
  refine WL.pass ((wanted_of rfl rfl (bool_tr e42 hc17)).trans rfl) rfl ?_
  exact WL.nil ⟨rfl, _, rfl, rfl, hs.cutG 0 0⟩ }
  {
  intro ρ w Γx Λx hs hu hp
  have e43 : ρ 21 = undef := (hp 16 rfl).1
  have e44 : ρ 8 = .bool (!x5.Set) := (hp 3 rfl).1
  refine WL.pass ((wanted_of rfl rfl (bool_tr e44 hc17)).trans rfl) rfl ?_
  exact WL.nil ⟨rfl, _, rfl, rfl, hs.cutG 0 0⟩ }
  {
  intro ρ w Γx Λx hs hu hp
  have e45 : ρ 20 = undef := (hp 15 rfl).1
  have e46 : ρ 22 = undef := (hp 17 rfl).1
  have e47 : ρ 8 = .bool (!x5.Set) := (hp 3 rfl).1
  refine WL.pass ((wanted_of rfl rfl (bool_tr e47 hc17)).trans rfl) rfl ?_
  exact WL.nil ⟨rfl, _, rfl, rfl, hs.cutG 0 0⟩ }
  {
  intro ρ w Γx Λx hs hu hp
  have e48 : ρ 13 = undef := (hp 8 rfl).1
  have e49 : ρ 18 = undef := (hp 13 rfl).1
  have e50 : ρ 23 = undef := (hp 18 rfl).1
  have e51 : ρ 8 = .bool (!x5.Set) := (hp 3 rfl).1
  refine WL.pass ((wanted_of rfl rfl (bool_tr e51 hc17)).trans rfl) rfl ?_
  exact WL.nil ⟨rfl, _, rfl, rfl, hs.cutG 0 0⟩ }
  {
  intro ρ w Γx Λx hs hu hp
  have e52 : ρ 24 = undef := (hp 19 rfl).1
  have e53 : ρ 8 = .bool (!x5.Set) := (hp 3 rfl).1
  refine WL.pass ((wanted_of rfl rfl (bool_tr e53 hc17)).trans rfl) rfl ?_
  exact WL.nil ⟨rfl, _, rfl, rfl, hs.cutG 0 0⟩ }
  {
  intro ρ w Γx Λx hs hu hp
  have e54 : ρ 25 = undef := (hp 20 rfl).1
  have e55 : ρ 8 = .bool (!x5.Set) := (hp 3 rfl).1
  refine WL.pass ((wanted_of rfl rfl (bool_tr e55 hc17)).trans rfl) rfl ?_
  exact WL.nil ⟨rfl, _, rfl, rfl, hs.cutG 0 0⟩ }
  {
  intro ρ w Γx Λx hs hu hp
  have e56 : ρ 8 = .bool (!x5.Set) := (hp 3 rfl).1
  have e57 : ρ 26 = undef := (hp 21 rfl).1
  refine WL.pickT (v := .bool true) (bool_tr e56 hc17) rfl ?_
  exact WL.nil ⟨rfl, _, rfl, rfl, hs.cutG 0 0⟩ }
  {
  intro ρ w hs hu58 hp
  obtain ⟨⟨⟨⟨⟨⟨⟨⟨⟨⟨⟨⟨⟨⟨⟨⟨⟨⟨⟨⟨⟨⟨⟨_, hp0_⟩, hp1_⟩, hp2_⟩, hp3_⟩, hp4_⟩, hp5_⟩, hp6_⟩, hp7_⟩, hp8_⟩, hp9_⟩, hp10_⟩, hp11_⟩, hp12_⟩, hp13_⟩, hp14_⟩, hp15_⟩, hp16_⟩, hp17_⟩, hp18_⟩, hp19_⟩, hp20_⟩, hp21_⟩, hp22_⟩ := hp
  have hs : St ok (bz w0) w [vl t_api_Update x1 (.agg cs3.toArray), vl t_fold_Register x5 (.agg cs7.toArray)] [blk g11 58 cs7, blk g10 75 cs3] := hs
  have e59 : ρ 27 = .bool true := hp22_
  have e60 : ρ 26 = undef := hp21_
  have e61 : ρ 25 = undef := hp20_
  have e62 : ρ 24 = undef := hp19_
  have e63 : ρ 23 = undef := hp18_
  have e64 : ρ 22 = undef := hp17_
  have e65 : ρ 21 = undef := hp16_
  have e66 : ρ 20 = undef := hp15_
  have e67 : ρ 19 = undef := hp14_
  have e68 : ρ 18 = undef := hp13_
  have e69 : ρ 17 = undef := hp12_
  have e70 : ρ 16 = undef := hp11_
  have e71 : ρ 15 = undef := hp10_
  have e72 : ρ 14 = undef := hp9_
  have e73 : ρ 13 = undef := hp8_
  have e74 : ρ 12 = undef := hp7_
  have e75 : ρ 11 = undef := hp6_
  have e76 : ρ 10 = undef := hp5_
  have e77 : ρ 9 = undef := hp4_
  have e78 : ρ 8 = .bool (!x5.Set) := hp3_
  have e79 : ρ 7 = .bool (!x5.Set) := hp2_
  have e80 : ρ 6 = .bool x5.Set := hp1_
  have e81 : ρ 5 = .pointer (some ⟨g11, 0, none⟩) := hp0_
  refine WA.step [23] (by kernel_rfl) (by simp) ⟨?_, trivial⟩
  refine WL.assign (v := .bool true) e59 ?_
  refine WL.nil ⟨rfl, _, rfl, ?_⟩
  refine WA.done (by kernel_rfl) ?_
  exact Jk15 true _ _ rfl ((hs.mask []).pick []) hf } }
  {
  obtain ⟨x84, hxx84, hf⟩ := bindE hf
  obtain ⟨x87, hxx87, hf⟩ := bindE hf
  obtain ⟨x90, hxx90, hf⟩ := bindE hf
  obtain ⟨x93, hxx93, hf⟩ := bindE hf
  refine W.any (by kernel_rfl) 23 1 [true, true, true, true, true, true, true, true, true, true, true, true, true, true, true, true, true, true, true, true, true, true, true, false] rfl rfl (poAt [pv (.pointer (some ⟨g11, 0, none⟩)), pv (.bool x5.Set), pv (.bool (!x5.Set)), pv (.bool (!x5.Set)), pv (.pointer (some ⟨g10, 2, none⟩)), pv (.int .i64 x1.Tag), pv (.pointer (some ⟨g11, 1, none⟩)), pv (.int .i64 x5.Tag), pv (.int .i64 x84), pv (.pointer (some ⟨g10, 0, none⟩)), pv (.int .i64 x1.Client), pv (.pointer (some ⟨g11, 2, none⟩)), pv (.int .i64 x5.Client), pv (.int .i64 x87), pv (.pointer (some ⟨g10, 1, none⟩)), pv (.int .i64 x1.Seq), pv (.pointer (some ⟨g11, 3, none⟩)), pv (.int .i64 x5.Seq), pv (.int .i64 x90), pq (fun y : (Option Addr × Nat) => .slice y.1 ([x84, x87, x90]).length y.2) (fun v => [vl (tSlice (tInt .i64)) [x84, x87, x90] v]) (fun v => []), pv (.int .i64 x93), pv (.bool (decide (0 < x93))), pv (.bool (decide (0 < x93)))]) (Λ := [blk g11 58 cs7, blk g10 75 cs3]) hs (by kernel_rfl) (by kernel_rfl) (by kernel_rfl) ⟨⟨⟨⟨⟨⟨⟨⟨⟨⟨⟨⟨⟨⟨⟨⟨⟨⟨⟨⟨⟨⟨⟨trivial, ?_⟩, ?_⟩, ?_⟩, ?_⟩, ?_⟩, ?_⟩, ?_⟩, ?_⟩, ?_⟩, ?_⟩, ?_⟩, ?_⟩, ?_⟩, ?_⟩, ?_⟩, ?_⟩, ?_⟩, ?_⟩, ?_⟩, ?_⟩, ?_⟩, ?_⟩, ?_⟩ ?_
  {
  intro ρ w Γx Λx hs hu hp
  refine WL.fieldAddr (m := 0) (hu 3 rfl) FA58_0 rfl ?_
  exact WL.nil ⟨rfl, _, rfl, rfl, hs.cutG 0 0⟩ }
  {
  intro ρ w Γx Λx hs hu hp
  have e94 : ρ 5 = .pointer (some ⟨g11, 0, none⟩) := (hp 0 rfl).1
  refine WL.loadF (z := x5.Set) F_fold_Register_Set hs (Λx.length + 0) (getApp rfl) (Γx.length + 1) (getApp rfl) rfl TI4 (.inr rfl) e94 rfl (fun v16 hs => ?_)
  obtain rfl := hs.bool 0 rfl
  exact WL.nil ⟨rfl, _, rfl, rfl, hs.cutG 0 1⟩ }
  {
  intro ρ w Γx Λx hs hu hp
  have e95 : ρ 6 = .bool x5.Set := (hp 1 rfl).1
  refine WL.not e95 ?_
  exact WL.nil ⟨rfl, _, rfl, rfl, hs.cutG 0 0⟩ }
  {
  intro ρ w Γx Λx hs hu hp
  have e96 : ρ 7 = .bool (!x5.Set) := (hp 2 rfl).1
  refine WL.move (v := .bool (!x5.Set)) e96 ?_
  exact WL.nil ⟨rfl, _, rfl, rfl, hs.cutG 0 0⟩ }
  {
  intro ρ w Γx Λx hs hu hp
  have e97 : ρ 8 = .bool (!x5.Set) := (hp 3 rfl).1
  refine WL.fieldAddr (m := 2) (hu 2 rfl) FA75_2 rfl ?_ (hg := (wanted_of rfl rfl (bool_tr e97 hc17)).trans rfl)
  exact WL.nil ⟨rfl, _, rfl, rfl, hs.cutG 0 0⟩ }
  {
  intro ρ w Γx Λx hs hu hp
  have e98 : ρ 9 = .pointer (some ⟨g10, 2, none⟩) := (hp 4 rfl).1
  have e99 : ρ 8 = .bool (!x5.Set) := (hp 3 rfl).1
  refine WL.loadF (z := x1.Tag) F_api_Update_Tag hs (Λx.length + 1) (getApp rfl) (Γx.length + 0) (getApp rfl) rfl TI3 (.inr rfl) e98 rfl (fun v82 hs => ?_) (hg := (wanted_of rfl rfl (bool_tr e99 hc17)).trans rfl)
  obtain rfl := hs.int 0 rfl
  exact WL.nil ⟨rfl, _, rfl, rfl, hs.cutG 0 1⟩ }
  {
  intro ρ w Γx Λx hs hu hp
  have e100 : ρ 8 = .bool (!x5.Set) := (hp 3 rfl).1
  refine WL.fieldAddr (m := 1) (hu 3 rfl) FA58_1 rfl ?_ (hg := (wanted_of rfl rfl (bool_tr e100 hc17)).trans rfl)
  exact WL.nil ⟨rfl, _, rfl, rfl, hs.cutG 0 0⟩ }
  {
  intro ρ w Γx Λx hs hu hp
  have e101 : ρ 11 = .pointer (some ⟨g11, 1, none⟩) := (hp 6 rfl).1
  have e102 : ρ 8 = .bool (!x5.Set) := (hp 3 rfl).1
  refine WL.loadF (z := x5.Tag) F_fold_Register_Tag hs (Λx.length + 0) (getApp rfl) (Γx.length + 1) (getApp rfl) rfl TI3 (.inr rfl) e101 rfl (fun v83 hs => ?_) (hg := (wanted_of rfl rfl (bool_tr e102 hc17)).trans rfl)
  obtain rfl := hs.int 0 rfl
  exact WL.nil ⟨rfl, _, rfl, rfl, hs.cutG 0 1⟩ }
  {
  intro ρ w Γx Λx hs hu hp
  have e103 : ρ 10 = .int .i64 x1.Tag := (hp 5 rfl).1
  have e104 : ρ 12 = .int .i64 x5.Tag := (hp 7 rfl).1
  have e105 : ρ 8 = .bool (!x5.Set) := (hp 3 rfl).1
  refine WL.call (vs := [.int .i64 x1.Tag, .int .i64 x5.Tag]) hs FN67 ⟨e103, ⟨e104, trivial⟩⟩ (fun ok hA => cmp_Compare_int.calls (x1 := x1.Tag) (x2 := x5.Tag) hxx84) ?_ (hg := (wanted_of rfl rfl (bool_tr e105 hc17)).trans rfl)
  rintro _ w hs
  exact WL.nil ⟨rfl, _, rfl, rfl, hs.cutG 0 0⟩ }
  {
  intro ρ w Γx Λx hs hu hp
  have e106 : ρ 8 = .bool (!x5.Set) := (hp 3 rfl).1
  refine WL.fieldAddr (m := 0) (hu 2 rfl) FA75_0 rfl ?_ (hg := (wanted_of rfl rfl (bool_tr e106 hc17)).trans rfl)
  exact WL.nil ⟨rfl, _, rfl, rfl, hs.cutG 0 0⟩ }
  {
  intro ρ w Γx Λx hs hu hp
  have e107 : ρ 14 = .pointer (some ⟨g10, 0, none⟩) := (hp 9 rfl).1
  have e108 : ρ 8 = .bool (!x5.Set) := (hp 3 rfl).1
  refine WL.loadF (z := x1.Client) F_api_Update_Client hs (Λx.length + 1) (getApp rfl) (Γx.length + 0) (getApp rfl) rfl TI3 (.inr rfl) e107 rfl (fun v85 hs => ?_) (hg := (wanted_of rfl rfl (bool_tr e108 hc17)).trans rfl)
  obtain rfl := hs.int 0 rfl
  exact WL.nil ⟨rfl, _, rfl, rfl, hs.cutG 0 1⟩ }
  {
  intro ρ w Γx Λx hs hu hp
  have e109 : ρ 8 = .bool (!x5.Set) := (hp 3 rfl).1
  refine WL.fieldAddr (m := 2) (hu 3 rfl) FA58_2 rfl ?_ (hg := (wanted_of rfl rfl (bool_tr e109 hc17)).trans rfl)
  exact WL.nil ⟨rfl, _, rfl, rfl, hs.cutG 0 0⟩ }
  {
  intro ρ w Γx Λx hs hu hp
  have e110 : ρ 16 = .pointer (some ⟨g11, 2, none⟩) := (hp 11 rfl).1
  have e111 : ρ 8 = .bool (!x5.Set) := (hp 3 rfl).1
  refine WL.loadF (z := x5.Client) F_fold_Register_Client hs (Λx.length + 0) (getApp rfl) (Γx.length + 1) (getApp rfl) rfl TI3 (.inr rfl) e110 rfl (fun v86 hs => ?_) (hg := (wanted_of rfl rfl (bool_tr e111 hc17)).trans rfl)
  obtain rfl := hs.int 0 rfl
  exact WL.nil ⟨rfl, _, rfl, rfl, hs.cutG 0 1⟩ }
  {
  intro ρ w Γx Λx hs hu hp
  have e112 : ρ 15 = .int .i64 x1.Client := (hp 10 rfl).1
  have e113 : ρ 17 = .int .i64 x5.Client := (hp 12 rfl).1
  have e114 : ρ 8 = .bool (!x5.Set) := (hp 3 rfl).1
  refine WL.call (vs := [.int .i64 x1.Client, .int .i64 x5.Client]) hs FN67 ⟨e112, ⟨e113, trivial⟩⟩ (fun ok hA => cmp_Compare_int.calls (x1 := x1.Client) (x2 := x5.Client) hxx87) ?_ (hg := (wanted_of rfl rfl (bool_tr e114 hc17)).trans rfl)
  rintro _ w hs
  exact WL.nil ⟨rfl, _, rfl, rfl, hs.cutG 0 0⟩ }
  {
  intro ρ w Γx Λx hs hu hp
  have e115 : ρ 8 = .bool (!x5.Set) := (hp 3 rfl).1
  refine WL.fieldAddr (m := 1) (hu 2 rfl) FA75_1 rfl ?_ (hg := (wanted_of rfl rfl (bool_tr e115 hc17)).trans rfl)
  exact WL.nil ⟨rfl, _, rfl, rfl, hs.cutG 0 0⟩ }
  {
  intro ρ w Γx Λx hs hu hp
  have e116 : ρ 19 = .pointer (some ⟨g10, 1, none⟩) := (hp 14 rfl).1
  have e117 : ρ 8 = .bool (!x5.Set) := (hp 3 rfl).1
  refine WL.loadF (z := x1.Seq) F_api_Update_Seq hs (Λx.length + 1) (getApp rfl) (Γx.length + 0) (getApp rfl) rfl TI3 (.inr rfl) e116 rfl (fun v88 hs => ?_) (hg := (wanted_of rfl rfl (bool_tr e117 hc17)).trans rfl)
  obtain rfl := hs.int 0 rfl
  exact WL.nil ⟨rfl, _, rfl, rfl, hs.cutG 0 1⟩ }
  {
  intro ρ w Γx Λx hs hu hp
  have e118 : ρ 8 = .bool (!x5.Set) := (hp 3 rfl).1
  refine WL.fieldAddr (m := 3) (hu 3 rfl) FA58_3 rfl ?_ (hg := (wanted_of rfl rfl (bool_tr e118 hc17)).trans rfl)
  exact WL.nil ⟨rfl, _, rfl, rfl, hs.cutG 0 0⟩ }
  {
  intro ρ w Γx Λx hs hu hp
  have e119 : ρ 21 = .pointer (some ⟨g11, 3, none⟩) := (hp 16 rfl).1
  have e120 : ρ 8 = .bool (!x5.Set) := (hp 3 rfl).1
  refine WL.loadF (z := x5.Seq) F_fold_Register_Seq hs (Λx.length + 0) (getApp rfl) (Γx.length + 1) (getApp rfl) rfl TI3 (.inr rfl) e119 rfl (fun v89 hs => ?_) (hg := (wanted_of rfl rfl (bool_tr e120 hc17)).trans rfl)
  obtain rfl := hs.int 0 rfl
  exact WL.nil ⟨rfl, _, rfl, rfl, hs.cutG 0 1⟩ }
  {
  intro ρ w Γx Λx hs hu hp
  have e121 : ρ 20 = .int .i64 x1.Seq := (hp 15 rfl).1
  have e122 : ρ 22 = .int .i64 x5.Seq := (hp 17 rfl).1
  have e123 : ρ 8 = .bool (!x5.Set) := (hp 3 rfl).1
  refine WL.call (vs := [.int .i64 x1.Seq, .int .i64 x5.Seq]) hs FN67 ⟨e121, ⟨e122, trivial⟩⟩ (fun ok hA => cmp_Compare_int.calls (x1 := x1.Seq) (x2 := x5.Seq) hxx90) ?_ (hg := (wanted_of rfl rfl (bool_tr e123 hc17)).trans rfl)
  rintro _ w hs
  exact WL.nil ⟨rfl, _, rfl, rfl, hs.cutG 0 0⟩ }
  {
  intro ρ w Γx Λx hs hu hp
  have e124 : ρ 13 = .int .i64 x84 := (hp 8 rfl).1
  have e125 : ρ 18 = .int .i64 x87 := (hp 13 rfl).1
  have e126 : ρ 23 = .int .i64 x90 := (hp 18 rfl).1
  have e127 : ρ 8 = .bool (!x5.Set) := (hp 3 rfl).1
  refine WL.buildSliceB (ys := [x84, x87, x90]) (n := 3) (vs := [(0, .int .i64 x84), (1, .int .i64 x87), (2, .int .i64 x90)]) (cs := [.int .i64 x84, .int .i64 x87, .int .i64 x90]) hs ⟨⟨rfl, e124⟩, ⟨⟨rfl, e125⟩, ⟨⟨rfl, e126⟩, trivial⟩⟩⟩ (bls PS29 (by decide) rfl) (fun ok hA => (Cells.app (Cells.one (T := tInt .i64) rfl) (Cells.app (Cells.one (T := tInt .i64) rfl) (Cells.one (T := tInt .i64) rfl)))) rfl (by decide) (fun a92 w hBl hs => ?_) (hg := (wanted_of rfl rfl (bool_tr e127 hc17)).trans rfl)
  have hs := hs.add (it := vl (tSlice (tInt .i64)) [x84, x87, x90] (.slice a92 ([x84, x87, x90]).length 3)) fun ok hA => hA.get 0 rfl
  exact WL.nil ⟨rfl, _, rfl, ⟨(a92, 3), rfl⟩, hs.cutG 1 1⟩ }
  {
  intro ρ w Γx Λx hs hu hp
  obtain ⟨⟨⟨a128, c129⟩, e130r⟩, hm131⟩ := hp 19 rfl
  have e130 : ρ 24 = .slice a128 ([x84, x87, x90]).length c129 := e130r
  rw [e130r] at hm131
  have hs := hs.memo1 (it := vl (tSlice (tInt .i64)) [x84, x87, x90] (.slice a128 ([x84, x87, x90]).length c129)) (List.mem_append.2 (.inl (hm131 _ (List.mem_of_getElem? (i := 0) rfl))))
  have e132 : ρ 8 = .bool (!x5.Set) := (hp 3 rfl).1
  refine WL.call (vs := [.slice a128 ([x84, x87, x90]).length c129]) hs FN66 ⟨e130, trivial⟩ (fun ok hA => cmp_Or_int.calls (x1 := [x84, x87, x90]) hxx93 (hA.get 0 rfl)) ?_ (hg := (wanted_of rfl rfl (bool_tr e132 hc17)).trans rfl)
  rintro _ w hs
  exact WL.nil ⟨rfl, _, rfl, rfl, hs.cutG 0 1⟩ }
  {
  intro ρ w Γx Λx hs hu hp
  have e133 : ρ 25 = .int .i64 x93 := (hp 20 rfl).1
  have e134 : ρ 8 = .bool (!x5.Set) := (hp 3 rfl).1
  refine WL.bin (v := .bool (decide (0 < x93))) e133 rfl (ib_gtr _ _ _) ?_ (hg := (wanted_of rfl rfl (bool_tr e134 hc17)).trans rfl)
  exact WL.nil ⟨rfl, _, rfl, rfl, hs.cutG 0 0⟩ }
  {
  intro ρ w Γx Λx hs hu hp
  have e135 : ρ 8 = .bool (!x5.Set) := (hp 3 rfl).1
  have e136 : ρ 26 = .bool (decide (0 < x93)) := (hp 21 rfl).1
  refine WL.pickF (v := .bool (decide (0 < x93))) (bool_tr e135 hc17) e136 ?_
  exact WL.nil ⟨rfl, _, rfl, rfl, hs.cutG 0 0⟩ }
  {
  intro ρ w hs hu137 hp
  obtain ⟨⟨⟨⟨⟨⟨⟨⟨⟨⟨⟨⟨⟨⟨⟨⟨⟨⟨⟨⟨⟨⟨⟨_, hp0_⟩, hp1_⟩, hp2_⟩, hp3_⟩, hp4_⟩, hp5_⟩, hp6_⟩, hp7_⟩, hp8_⟩, hp9_⟩, hp10_⟩, hp11_⟩, hp12_⟩, hp13_⟩, hp14_⟩, hp15_⟩, hp16_⟩, hp17_⟩, hp18_⟩, hp19_⟩, hp20_⟩, hp21_⟩, hp22_⟩ := hp
  have hs : St ok (bz w0) w [vl (tSlice (tInt .i64)) [x84, x87, x90] (ρ 24), vl t_api_Update x1 (.agg cs3.toArray), vl t_fold_Register x5 (.agg cs7.toArray)] [blk g11 58 cs7, blk g10 75 cs3] := hs
  have e138 : ρ 27 = .bool (decide (0 < x93)) := hp22_
  have e139 : ρ 26 = .bool (decide (0 < x93)) := hp21_
  have e140 : ρ 25 = .int .i64 x93 := hp20_
  obtain ⟨⟨a141, c142⟩, e143⟩ := hp19_
  have e143 : ρ 24 = .slice a141 ([x84, x87, x90]).length c142 := e143
  try rw [e143] at hs
  have e144 : ρ 23 = .int .i64 x90 := hp18_
  have e145 : ρ 22 = .int .i64 x5.Seq := hp17_
  have e146 : ρ 21 = .pointer (some ⟨g11, 3, none⟩) := hp16_
  have e147 : ρ 20 = .int .i64 x1.Seq := hp15_
  have e148 : ρ 19 = .pointer (some ⟨g10, 1, none⟩) := hp14_
  have e149 : ρ 18 = .int .i64 x87 := hp13_
  have e150 : ρ 17 = .int .i64 x5.Client := hp12_
  have e151 : ρ 16 = .pointer (some ⟨g11, 2, none⟩) := hp11_
  have e152 : ρ 15 = .int .i64 x1.Client := hp10_
  have e153 : ρ 14 = .pointer (some ⟨g10, 0, none⟩) := hp9_
  have e154 : ρ 13 = .int .i64 x84 := hp8_
  have e155 : ρ 12 = .int .i64 x5.Tag := hp7_
  have e156 : ρ 11 = .pointer (some ⟨g11, 1, none⟩) := hp6_
  have e157 : ρ 10 = .int .i64 x1.Tag := hp5_
  have e158 : ρ 9 = .pointer (some ⟨g10, 2, none⟩) := hp4_
  have e159 : ρ 8 = .bool (!x5.Set) := hp3_
  have e160 : ρ 7 = .bool (!x5.Set) := hp2_
  have e161 : ρ 6 = .bool x5.Set := hp1_
  have e162 : ρ 5 = .pointer (some ⟨g11, 0, none⟩) := hp0_
  refine WA.step [23] (by kernel_rfl) (by simp) ⟨?_, trivial⟩
  refine WL.assign (v := .bool (decide (0 < x93))) e138 ?_
  refine WL.nil ⟨rfl, _, rfl, ?_⟩
  refine WA.done (by kernel_rfl) ?_
  exact Jk15 (decide (0 < x93)) _ _ rfl ((hs.mask []).pick []) hf } }
/-! slices.Clone[[]string,string]: function 50 -/
theorem slices_Clone_string.calls {ok : Nat → Prop} {w0 : World} {x1 : List (List UInt8)} {a2 : Option Addr} {c3 : Nat} {r : List (List UInt8)} (hf : slices_Clone_string x1 = some r) (i0 : (vl (tSlice tStr) x1 (.slice a2 x1.length c3)).holds ok w0) :
    Calls Try.prog 50 #[.slice a2 x1.length c3] w0 fun e w' => ∃ v, e = .returned v ∧ ∃ y : (Option Addr × Nat × Nat), v = .slice y.1 y.2.1 y.2.2 ∧ St ok (bz w0) w' [] [own tStr 9 (.slice y.1 y.2.1 y.2.2) r] := by
  unfold slices_Clone_string at hf
  refine calls_of_W (fn := Try.f50) (N := 8) Try.func50 rfl Try.ntmps50 rfl ?_
  have hs : St ok (bz w0) w0 [vl (tSlice tStr) x1 (.slice a2 x1.length c3)] [] := St.init (All.cons i0 All.nil)
  clear i0
  refine W.seqK fun K4 hK4 => ?_
  refine W.region ?_
  refine WL.assign (v := .slice none 0 0) rfl ?_
  refine WL.nil ?_
  refine hK4 _ _ ?_
  refine W.seqK fun K5 hK5 => ?_
  refine W.seqK fun K6 hK6 => ?_
  refine W.region ?_
  refine WL.move (v := .slice a2 x1.length c3) rfl ?_
  refine WL.nilEq UN59 rfl ?_
  rcases a2 with _ | ad7
  {
  obtain rfl := hs.nilx 0 rfl
  have hf : some [] = some r := by simpa [app, idx, cut] using hf
  refine WL.nil ?_
  refine hK6 _ _ ?_
  refine W.cond_true rfl ?_
  refine W.seqK fun K8 hK8 => ?_
  refine W.region ?_
  refine WL.assign (v := .slice none 0 0) rfl ?_
  refine WL.nil ?_
  refine hK8 _ _ ?_
  refine W.ret ?_
  have hr := Option.some.inj hf; subst hr
  have hs := hs.ownNil tStr 9
  exact ⟨_, resOk_one rfl rfl, (none, 0, 0), rfl, (hs.mask [true]).pick []⟩ }
  {
  refine WL.nil ?_
  refine hK6 _ _ ?_
  refine W.cond_false rfl ?_
  refine W.skip ?_
  refine hK5 _ _ ?_
  refine W.seqK fun K9 hK9 => ?_
  refine W.region ?_
  refine WL.buildSlice0 hs UN59 TI9 (fun a10 w hs => ?_)
  refine WL.move (v := .slice (some ad7) x1.length c3) rfl ?_
  have hs := hs.ownEmpty tStr 9 a10
  obtain ⟨x11, hxx11, hf⟩ := bindE hf
  obtain ⟨hbx11, hex11⟩ := appE hxx11
  refine WL.appendS (zs := x11) hs 0 rfl 0 rfl UN59 UN59 EI9 rfl rfl hbx11 (by omega) hex11 (fun v12 w hs => ?_)
  obtain ⟨a13, n15, c14, rfl⟩ := hs.ownv3 0 rfl
  refine WL.assign (v := .slice a13 n15 c14) rfl ?_
  refine WL.nil ?_
  refine hK9 _ _ ?_
  refine W.ret ?_
  have hr := Option.some.inj hf; subst hr
  exact ⟨_, resOk_one rfl rfl, (a13, n15, c14), rfl, (hs.mask [true]).pick []⟩ }
theorem slices_Clone_string.callc {ok : Nat → Prop} {w0 : World} {x1 : List (List UInt8)} {a2 : Option Addr} {c3 : Nat} {r : List (List UInt8)} (hf : slices_Clone_string x1 = some r) (i0 : (vl (tSlice tStr) x1 (.slice a2 x1.length c3)).holds ok w0) :
    Calls Try.prog 50 #[.slice a2 x1.length c3] w0 fun e w' => ∃ v, e = .returned v ∧ ∃ y : (Option Addr × Nat), v = .slice y.1 r.length y.2 ∧ St ok (bz w0) w' [vl (tSlice tStr) r (.slice y.1 r.length y.2)] [] := by
  refine (slices_Clone_string.calls (ok := ok) (w0 := w0) (x1 := x1) hf i0).mono ?_
  rintro e w' ⟨v, rfl, ⟨a16, n17, c18⟩, rfl, hs⟩
  obtain rfl := hs.ownLen 0 rfl
  have hs := hs.freezeOwn 0 rfl
  exact ⟨_, rfl, (a16, c18), rfl, hs.pick [0]⟩
end Go.Proofs.Ytbbeobiampbddaa
