/- What the row leans on, as few texts. -/
import Derived.Test.YtpfgdjfiimknlaaGreatQIR2
import Derived.Test.YtpfgdjfiimknlaaGreatQIR3
import Derived.Test.YtpfgdjfiimknlaaGreatQIR1
import Derived.Test.YtpfgdjfiimknlaaGreatQIR4
import Derived.Test.YtpfgdjfiimknlaaGreatQIR5
set_option linter.unusedVariables false
set_option linter.unusedSimpArgs false
namespace Go.Proofs.YtpfgdjfiimknlaaGreat
section
open Go Go.RowKit Go.Proofs.YtpfgdjfiimknlaaGreatL
set_option maxRecDepth 100000
set_option maxHeartbeats 4000000
theorem Y0G.calls {ok : Nat → Prop} {w0 : World} {x1 : List Y06} {x4 : List Y06} {x7 : Y06 × Y06 → Option Bool} {a2 : Option Addr} {c3 : Nat} {a5 : Option Addr} {c6 : Nat} {v8 : Value} {r : Bool} (hf : Y0G x1 x4 x7 = some r) (i0 : (vl (Y0a Y08) x1 (.slice a2 x1.length c3)).holds ok w0) (i1 : (vl (Y0a Y08) x4 (.slice a5 x4.length c6)).holds ok w0) (i2 : (vl (tFun Tryz.prog (Y5t Y08 Y08) (fun r : Bool => .bool r)) x7 v8).holds ok w0) :
  Calls Tryz.prog 95 #[.slice a2 x1.length c3, .slice a5 x4.length c6, v8] w0 fun e w' => ∃ v, e = .returned v ∧ ∃ y : Unit, v = .bool r ∧ St ok (bz w0) w' [] [] := by
 unfold Y0G at hf
 refine Y0w (fn := Tryz.f95) (N := 32) Tryz.func95 rfl Tryz.ntmps95 rfl ?_
 have hs : St ok (bz w0) w0 [vl (Y0a Y08) x1 (.slice a2 x1.length c3), vl (Y0a Y08) x4 (.slice a5 x4.length c6), vl (tFun Tryz.prog (Y5t Y08 Y08) (fun r : Bool => .bool r)) x7 v8] [] := St.init (All.cons i0 (All.cons i1 (All.cons i2 All.nil)))
 clear i0 i1 i2
 refine W.seqK fun K9 hK9 => ?_
 refine W.region ?_
 refine WL.assign (v := .bool false) rfl ?_
 refine WL.nil ?_
 refine hK9 _ _ ?_
 refine W.seqK fun K10 hK10 => ?_
 refine W.seqK fun K11 hK11 => ?_
 refine W.region ?_
 refine WL.move (v := .slice a2 x1.length c3) rfl ?_
 refine WL.len (v := .slice a2 x1.length c3) rfl (Y0V UN23) ?_
 refine WL.move (v := .slice a5 x4.length c6) rfl ?_
 refine WL.len (v := .slice a5 x4.length c6) rfl (Y0V UN23) ?_
 refine WL.bin (v := .bool ((x1.length : Int) != (x4.length : Int))) rfl rfl (Y42 _ _ _) ?_
 refine WL.nil ?_
 refine hK11 _ _ ?_
 rcases iteE hf with ⟨hc12, hf⟩ | ⟨hc12, hf⟩
 {
 refine W.cond_true (Y01 rfl hc12) ?_
 refine W.seqK fun K13 hK13 => ?_
 refine W.region ?_
 refine WL.assign (v := .bool false) rfl ?_
 refine WL.nil ?_
 refine hK13 _ _ ?_
 refine W.ret ?_
 have hr := Option.some.inj hf; subst hr
 exact ⟨_, Y0i rfl rfl, (), rfl, (hs.mask []).pick []⟩ }
 {
 refine W.cond_false (Y01 rfl hc12) ?_
 refine W.skip ?_
 refine hK10 _ _ ?_
 refine W.seqK fun K14 hK14 => ?_
 have Jk16 : ∀  (ρ : Env) (w : World), St ok (bz w0) w [] [] → Y0G.j1 = some r → K14 ρ w := by
  intro  ρ w  hs hf
  refine hK14 _ _ ?_
  unfold Y0G.j1 at hf
  refine W.seqK fun K17 hK17 => ?_
  refine W.region ?_
  refine WL.assign (v := .bool true) rfl ?_
  refine WL.nil ?_
  refine hK17 _ _ ?_
  refine W.ret ?_
  have hr := Option.some.inj hf; subst hr
  exact ⟨_, Y0i rfl rfl, (), rfl, (hs.mask []).pick []⟩
 refine W.seqK fun K18 hK18 => ?_
 refine W.region ?_
 refine WL.move (v := .slice a2 x1.length c3) rfl ?_
 refine WL.len (v := .slice a2 x1.length c3) rfl (Y0V UN23) ?_
 refine WL.move (v := .int .i64 0) rfl ?_
 refine WL.nil ?_
 refine hK18 _ _ ?_
 refine W.block ?_
 obtain ⟨bs21, hbs21, hfs21⟩ := Y0v hf
 refine W.loop hbs21 (fun s ρ w => match s with | x20 => ρ 1 = .slice a5 x4.length c6 ∧ ρ 2 = v8 ∧ ρ 15 = .slice a2 x1.length c3 ∧ ρ 16 = .int .i64 (x1.length : Int) ∧ ρ 17 = .int .i64 x20 ∧ St ok (bz w0) w [vl (Y0a Y08) x4 (.slice a5 x4.length c6), vl (tFun Tryz.prog (Y5t Y08 Y08) (fun r : Bool => .bool r)) x7 v8, vl (Y0a Y08) x1 (.slice a2 x1.length c3)] []) ⟨rfl, rfl, rfl, rfl, rfl, (hs.mask []).pick [1, 2, 0]⟩ ?_
 intro x20 ρ w os21 hI hf hbbs21
 obtain ⟨h19_1, h19_2, h19_15, h19_16, h19_17, hs⟩ := hI
 unfold Y0G.l1 at hf
 refine W.seqK fun K22 hK22 => ?_
 refine W.region ?_
 refine WL.bin (v := .bool (decide (x20 < (x1.length : Int)))) h19_17 h19_16 (Y1s _ _ _) ?_
 refine WL.nil ?_
 refine hK22 _ _ ?_
 refine W.seqK fun K23 hK23 => ?_
 rcases iteE hf with ⟨hc24, hf⟩ | ⟨hc24, hf⟩
 {
 refine W.cond_true (Y01 rfl hc24) ?_
 refine W.skip ?_
 refine hK23 _ _ ?_
 refine W.seqK fun K25 hK25 => ?_
 refine W.block ?_
 refine W.seqK fun K26 hK26 => ?_
 refine W.region ?_
 refine WL.move (v := .int .i64 x20) h19_17 ?_
 obtain ⟨x27, hxx27, hf⟩ := Y0v hf
 refine WL.indexAddr hs 2 rfl UN23 TI41 h19_15 h19_17 hxx27 (fun ad28 hs => ?_)
 refine WL.loadP hs 0 rfl TI41 (.inl rfl) rfl (fun v29 hs => ?_)
 obtain ⟨cs30, hl31, rfl⟩ := hs.aggv (n := 2) 0 rfl rfl rfl
 refine WL.alloc hs ZV41 (fun g32 w hs => ?_)
 refine WL.assign (v := .int .i64 x20) rfl ?_
 refine WL.storeAll (vs := cs30) hs 0 rfl TI41 rfl rfl rfl hl31 (hs.ones 0 rfl rfl) rfl (fun w hs => ?_)
 refine WL.nil ?_
 refine hK26 _ _ ?_
 refine W.seqK fun K33 hK33 => ?_
 refine W.region ?_
 refine WL.move (v := .slice a5 x4.length c6) h19_1 ?_
 refine WL.move (v := .int .i64 x20) rfl ?_
 obtain ⟨x34, hxx34, hf⟩ := Y0v hf
 refine WL.indexAddr hs 2 rfl UN23 TI41 rfl rfl hxx34 (fun ad35 hs => ?_)
 refine WL.loadP hs 0 rfl TI41 (.inl rfl) rfl (fun v36 hs => ?_)
 obtain ⟨cs37, hl38, rfl⟩ := hs.aggv (n := 2) 0 rfl rfl rfl
 refine WL.alloc hs ZV41 (fun g39 w hs => ?_)
 refine WL.storeAll (vs := cs37) hs 0 rfl TI41 rfl rfl rfl hl38 (hs.ones 0 rfl rfl) rfl (fun w hs => ?_)
 refine WL.nil ?_
 refine hK33 _ _ ?_
 refine W.seqK fun K40 hK40 => ?_
 refine W.region ?_
 refine WL.move (v := v8) h19_2 ?_
 refine WL.loadAll hs 1 rfl TI41 rfl hl31 ?_
 refine WL.loadAll hs 0 rfl TI41 rfl hl38 ?_
 obtain ⟨x41, hxx41, hf⟩ := Y0v hf
 refine WL.callF (x := (x27, x34)) (vs := [.agg cs30.toArray, .agg cs37.toArray]) hs 5 rfl rfl ⟨rfl, ⟨rfl, trivial⟩⟩ (fun ok hA => ⟨_, _, rfl, hA.get 2 rfl, hA.get 0 rfl⟩) hxx41 (fun w hs => ?_)
 refine WL.not rfl ?_
 refine WL.nil ?_
 refine hK40 _ _ ?_
 rcases iteE hf with ⟨hc42, hf⟩ | ⟨hc42, hf⟩
 {
 refine W.cond_true (Y01 rfl hc42) ?_
 refine W.seqK fun K43 hK43 => ?_
 refine W.region ?_
 refine WL.assign (v := .bool false) rfl ?_
 refine WL.nil ?_
 refine hK43 _ _ ?_
 refine W.ret ?_
 have hr := Option.some.inj hf; subst hr
 have hr := hbbs21 _ rfl; subst hr
 have hf := hfs21
 have hr := Option.some.inj hf; subst hr
 exact ⟨_, Y0i rfl rfl, (), rfl, (hs.mask []).pick []⟩ }
 {
 refine W.cond_false (Y01 rfl hc42) ?_
 refine W.skip ?_
 refine hK25 _ _ ?_
 refine W.region ?_
 obtain ⟨x44, ex44, hf⟩ := letE hf
 refine WL.bin (v := .int .i64 x44) h19_17 rfl (Y1T ex44 (Y1w _ _ _)) ?_
 refine WL.move (v := .int .i64 x44) rfl ?_
 refine WL.nil ?_
 exact ⟨_, (Option.some.inj hf).symm, h19_1, h19_2, h19_15, h19_16, rfl, (hs.mask []).pick [4, 5, 6]⟩ } }
 {
 refine W.cond_false (Y01 rfl hc24) ?_
 refine W.exit ?_
 have hr := Option.some.inj hf; subst hr
 have hr := hbbs21 _ rfl; subst hr
 have hf := hfs21
 exact Jk16  _ _  ((hs.mask []).pick []) hf } }
theorem Y0E.calls {ok : Nat → Prop} {w0 : World} {x1 : List Y07} {x4 : List Y07} {x7 : Y07 × Y07 → Option Bool} {a2 : Option Addr} {c3 : Nat} {a5 : Option Addr} {c6 : Nat} {v8 : Value} {r : Bool} (hf : Y0E x1 x4 x7 = some r) (i0 : (vl (Y0a Y0q) x1 (.slice a2 x1.length c3)).holds ok w0) (i1 : (vl (Y0a Y0q) x4 (.slice a5 x4.length c6)).holds ok w0) (i2 : (vl (tFun Tryz.prog (Y5t Y0q Y0q) (fun r : Bool => .bool r)) x7 v8).holds ok w0) :
  Calls Tryz.prog 113 #[.slice a2 x1.length c3, .slice a5 x4.length c6, v8] w0 fun e w' => ∃ v, e = .returned v ∧ ∃ y : Unit, v = .bool r ∧ St ok (bz w0) w' [] [] := by
 unfold Y0E at hf
 refine Y0w (fn := Tryz.f113) (N := 32) Tryz.func113 rfl Tryz.ntmps113 rfl ?_
 have hs : St ok (bz w0) w0 [vl (Y0a Y0q) x1 (.slice a2 x1.length c3), vl (Y0a Y0q) x4 (.slice a5 x4.length c6), vl (tFun Tryz.prog (Y5t Y0q Y0q) (fun r : Bool => .bool r)) x7 v8] [] := St.init (All.cons i0 (All.cons i1 (All.cons i2 All.nil)))
 clear i0 i1 i2
 refine W.seqK fun K9 hK9 => ?_
 refine W.region ?_
 refine WL.assign (v := .bool false) rfl ?_
 refine WL.nil ?_
 refine hK9 _ _ ?_
 refine W.seqK fun K10 hK10 => ?_
 refine W.seqK fun K11 hK11 => ?_
 refine W.region ?_
 refine WL.move (v := .slice a2 x1.length c3) rfl ?_
 refine WL.len (v := .slice a2 x1.length c3) rfl (Y0V UN39) ?_
 refine WL.move (v := .slice a5 x4.length c6) rfl ?_
 refine WL.len (v := .slice a5 x4.length c6) rfl (Y0V UN39) ?_
 refine WL.bin (v := .bool ((x1.length : Int) != (x4.length : Int))) rfl rfl (Y42 _ _ _) ?_
 refine WL.nil ?_
 refine hK11 _ _ ?_
 rcases iteE hf with ⟨hc12, hf⟩ | ⟨hc12, hf⟩
 {
 refine W.cond_true (Y01 rfl hc12) ?_
 refine W.seqK fun K13 hK13 => ?_
 refine W.region ?_
 refine WL.assign (v := .bool false) rfl ?_
 refine WL.nil ?_
 refine hK13 _ _ ?_
 refine W.ret ?_
 have hr := Option.some.inj hf; subst hr
 exact ⟨_, Y0i rfl rfl, (), rfl, (hs.mask []).pick []⟩ }
 {
 refine W.cond_false (Y01 rfl hc12) ?_
 refine W.skip ?_
 refine hK10 _ _ ?_
 refine W.seqK fun K14 hK14 => ?_
 have Jk16 : ∀  (ρ : Env) (w : World), St ok (bz w0) w [] [] → Y0E.j1 = some r → K14 ρ w := by
  intro  ρ w  hs hf
  refine hK14 _ _ ?_
  unfold Y0E.j1 at hf
  refine W.seqK fun K17 hK17 => ?_
  refine W.region ?_
  refine WL.assign (v := .bool true) rfl ?_
  refine WL.nil ?_
  refine hK17 _ _ ?_
  refine W.ret ?_
  have hr := Option.some.inj hf; subst hr
  exact ⟨_, Y0i rfl rfl, (), rfl, (hs.mask []).pick []⟩
 refine W.seqK fun K18 hK18 => ?_
 refine W.region ?_
 refine WL.move (v := .slice a2 x1.length c3) rfl ?_
 refine WL.len (v := .slice a2 x1.length c3) rfl (Y0V UN39) ?_
 refine WL.move (v := .int .i64 0) rfl ?_
 refine WL.nil ?_
 refine hK18 _ _ ?_
 refine W.block ?_
 obtain ⟨bs21, hbs21, hfs21⟩ := Y0v hf
 refine W.loop hbs21 (fun s ρ w => match s with | x20 => ρ 1 = .slice a5 x4.length c6 ∧ ρ 2 = v8 ∧ ρ 15 = .slice a2 x1.length c3 ∧ ρ 16 = .int .i64 (x1.length : Int) ∧ ρ 17 = .int .i64 x20 ∧ St ok (bz w0) w [vl (Y0a Y0q) x4 (.slice a5 x4.length c6), vl (tFun Tryz.prog (Y5t Y0q Y0q) (fun r : Bool => .bool r)) x7 v8, vl (Y0a Y0q) x1 (.slice a2 x1.length c3)] []) ⟨rfl, rfl, rfl, rfl, rfl, (hs.mask []).pick [1, 2, 0]⟩ ?_
 intro x20 ρ w os21 hI hf hbbs21
 obtain ⟨h19_1, h19_2, h19_15, h19_16, h19_17, hs⟩ := hI
 unfold Y0E.l1 at hf
 refine W.seqK fun K22 hK22 => ?_
 refine W.region ?_
 refine WL.bin (v := .bool (decide (x20 < (x1.length : Int)))) h19_17 h19_16 (Y1s _ _ _) ?_
 refine WL.nil ?_
 refine hK22 _ _ ?_
 refine W.seqK fun K23 hK23 => ?_
 rcases iteE hf with ⟨hc24, hf⟩ | ⟨hc24, hf⟩
 {
 refine W.cond_true (Y01 rfl hc24) ?_
 refine W.skip ?_
 refine hK23 _ _ ?_
 refine W.seqK fun K25 hK25 => ?_
 refine W.block ?_
 refine W.seqK fun K26 hK26 => ?_
 refine W.region ?_
 refine WL.move (v := .int .i64 x20) h19_17 ?_
 obtain ⟨x27, hxx27, hf⟩ := Y0v hf
 refine WL.indexAddr hs 2 rfl UN39 TI86 h19_15 h19_17 hxx27 (fun ad28 hs => ?_)
 refine WL.loadP hs 0 rfl TI86 (.inl rfl) rfl (fun v29 hs => ?_)
 obtain ⟨cs30, hl31, rfl⟩ := hs.aggv (n := 12) 0 rfl rfl rfl
 refine WL.alloc hs ZV86 (fun g32 w hs => ?_)
 refine WL.assign (v := .int .i64 x20) rfl ?_
 refine WL.storeAll (vs := cs30) hs 0 rfl TI86 rfl rfl rfl hl31 (hs.ones 0 rfl rfl) rfl (fun w hs => ?_)
 refine WL.nil ?_
 refine hK26 _ _ ?_
 refine W.seqK fun K33 hK33 => ?_
 refine W.region ?_
 refine WL.move (v := .slice a5 x4.length c6) h19_1 ?_
 refine WL.move (v := .int .i64 x20) rfl ?_
 obtain ⟨x34, hxx34, hf⟩ := Y0v hf
 refine WL.indexAddr hs 2 rfl UN39 TI86 rfl rfl hxx34 (fun ad35 hs => ?_)
 refine WL.loadP hs 0 rfl TI86 (.inl rfl) rfl (fun v36 hs => ?_)
 obtain ⟨cs37, hl38, rfl⟩ := hs.aggv (n := 12) 0 rfl rfl rfl
 refine WL.alloc hs ZV86 (fun g39 w hs => ?_)
 refine WL.storeAll (vs := cs37) hs 0 rfl TI86 rfl rfl rfl hl38 (hs.ones 0 rfl rfl) rfl (fun w hs => ?_)
 refine WL.nil ?_
 refine hK33 _ _ ?_
 refine W.seqK fun K40 hK40 => ?_
 refine W.region ?_
 refine WL.move (v := v8) h19_2 ?_
 refine WL.loadAll hs 1 rfl TI86 rfl hl31 ?_
 refine WL.loadAll hs 0 rfl TI86 rfl hl38 ?_
 obtain ⟨x41, hxx41, hf⟩ := Y0v hf
 refine WL.callF (x := (x27, x34)) (vs := [.agg cs30.toArray, .agg cs37.toArray]) hs 5 rfl rfl ⟨rfl, ⟨rfl, trivial⟩⟩ (fun ok hA => ⟨_, _, rfl, hA.get 2 rfl, hA.get 0 rfl⟩) hxx41 (fun w hs => ?_)
 refine WL.not rfl ?_
 refine WL.nil ?_
 refine hK40 _ _ ?_
 rcases iteE hf with ⟨hc42, hf⟩ | ⟨hc42, hf⟩
 {
 refine W.cond_true (Y01 rfl hc42) ?_
 refine W.seqK fun K43 hK43 => ?_
 refine W.region ?_
 refine WL.assign (v := .bool false) rfl ?_
 refine WL.nil ?_
 refine hK43 _ _ ?_
 refine W.ret ?_
 have hr := Option.some.inj hf; subst hr
 have hr := hbbs21 _ rfl; subst hr
 have hf := hfs21
 have hr := Option.some.inj hf; subst hr
 exact ⟨_, Y0i rfl rfl, (), rfl, (hs.mask []).pick []⟩ }
 {
 refine W.cond_false (Y01 rfl hc42) ?_
 refine W.skip ?_
 refine hK25 _ _ ?_
 refine W.region ?_
 obtain ⟨x44, ex44, hf⟩ := letE hf
 refine WL.bin (v := .int .i64 x44) h19_17 rfl (Y1T ex44 (Y1w _ _ _)) ?_
 refine WL.move (v := .int .i64 x44) rfl ?_
 refine WL.nil ?_
 exact ⟨_, (Option.some.inj hf).symm, h19_1, h19_2, h19_15, h19_16, rfl, (hs.mask []).pick [4, 5, 6]⟩ } }
 {
 refine W.cond_false (Y01 rfl hc24) ?_
 refine W.exit ?_
 have hr := Option.some.inj hf; subst hr
 have hr := hbbs21 _ rfl; subst hr
 have hf := hfs21
 exact Jk16  _ _  ((hs.mask []).pick []) hf } }
theorem Y0Q.calls {ok : Nat → Prop} {w0 : World} {x1 : Y07} {x5 : Y07} {v2 : Value} {v6 : Value} {r : Bool} (hf : Y0Q x1 x5 = some r) (i0 : (vl Y0q x1 v2).holds ok w0) (i1 : (vl Y0q x5 v6).holds ok w0) :
  Calls Tryz.prog 114 #[v2, v6] w0 fun e w' => ∃ v, e = .returned v ∧ ∃ y : Unit, v = .bool r ∧ St ok (bz w0) w' [] [] := by
 unfold Y0Q at hf
 refine Y0w (fn := Tryz.f114) (N := 52) Tryz.func114 rfl Tryz.ntmps114 rfl ?_
 have hs : St ok (bz w0) w0 [vl Y0q x1 v2, vl Y0q x5 v6] [] := St.init (All.cons i0 (All.cons i1 All.nil))
 clear i0 i1
 obtain ⟨cs3, hl4, rfl⟩ := hs.aggv (n := 12) 0 rfl rfl rfl
 obtain ⟨cs7, hl8, rfl⟩ := hs.aggv (n := 12) 1 rfl rfl rfl
 refine W.seqK fun K9 hK9 => ?_
 refine W.region ?_
 refine WL.box (vs := cs3) hs rfl rfl (fun g10 w hs => ?_)
 refine WL.box (vs := cs7) hs rfl rfl (fun g11 w hs => ?_)
 refine WL.assign (v := .bool false) rfl ?_
 refine WL.nil ?_
 refine hK9 _ _ ?_
 refine W.seqK fun K12 hK12 => ?_
 have Jk15 : ∀ (x14 : Bool) (ρ : Env) (w : World), ρ 4 = .bool x14 → St ok (bz w0) w [] [] → Y0Q.j1 x14 = some r → K12 ρ w := by
  intro x14 ρ w h13_4 hs hf
  refine hK12 _ _ ?_
  unfold Y0Q.j1 at hf
  refine W.ret ?_
  have hr := Option.some.inj hf; subst hr
  exact ⟨_, Y0i rfl h13_4, (), rfl, (hs.mask []).pick []⟩
 refine W.region ?_
 refine WL.fieldAddr (m := 0) rfl Y6u rfl ?_
 refine WL.loadF (z := x1.Name) Y38 hs 1 rfl 0 rfl rfl TI9 (.inr rfl) rfl rfl (fun v16 hs => ?_)
 obtain rfl := hs.str 0 rfl
 refine WL.fieldAddr (m := 0) rfl Y6u rfl ?_
 refine WL.loadF (z := x5.Name) Y38 hs 0 rfl 2 rfl rfl TI9 (.inr rfl) rfl rfl (fun v17 hs => ?_)
 obtain rfl := hs.str 0 rfl
 refine WL.binS (v := .bool (x1.Name == x5.Name)) rfl rfl (Y4N _ _) ?_
 refine WL.move (v := .bool (x1.Name == x5.Name)) rfl ?_
 rcases iteE hf with ⟨hc18, hf⟩ | ⟨hc18, hf⟩
 {
 refine WL.fieldAddr (m := 1) rfl Y48 rfl ?_ (hg := (Y00 rfl rfl (Y01 rfl hc18)).trans rfl)
 refine WL.loadF (z := x1.Register) Y1P hs 1 rfl 2 rfl rfl TI84 (.inl rfl) rfl rfl (fun v19 hs => ?_) (hg := (Y00 rfl rfl (Y01 rfl hc18)).trans rfl)
 obtain ⟨cs20, hl21, rfl⟩ := hs.aggv (n := 6) 0 rfl rfl rfl
 refine WL.fieldAddr (m := 1) rfl Y48 rfl ?_ (hg := (Y00 rfl rfl (Y01 rfl hc18)).trans rfl)
 refine WL.loadF (z := x5.Register) Y1P hs 0 rfl 4 rfl rfl TI84 (.inl rfl) rfl rfl (fun v22 hs => ?_) (hg := (Y00 rfl rfl (Y01 rfl hc18)).trans rfl)
 obtain ⟨cs23, hl24, rfl⟩ := hs.aggv (n := 6) 0 rfl rfl rfl
 obtain rfl := Y3x hs 1 rfl
 obtain rfl := Y3x hs 0 rfl
 refine WL.eqA rfl rfl EG84 (EQ84 (⟨x1.Register.Set, x1.Register.Tag, x1.Register.Client, x1.Register.Seq, x1.Register.N, x1.Register.S⟩ : Y0B) (⟨x5.Register.Set, x5.Register.Tag, x5.Register.Client, x5.Register.Seq, x5.Register.N, x5.Register.S⟩ : Y0B)) ?_ (hg := (Y00 rfl rfl (Y01 rfl hc18)).trans rfl)
 refine WL.pickT (v := .bool (decide ((⟨x1.Register.Set, x1.Register.Tag, x1.Register.Client, x1.Register.Seq, x1.Register.N, x1.Register.S⟩ : Y0B) = (⟨x5.Register.Set, x5.Register.Tag, x5.Register.Client, x5.Register.Seq, x5.Register.N, x5.Register.S⟩ : Y0B)))) (Y01 rfl hc18) rfl ?_
 refine WL.move (v := .bool (decide ((⟨x1.Register.Set, x1.Register.Tag, x1.Register.Client, x1.Register.Seq, x1.Register.N, x1.Register.S⟩ : Y0B) = (⟨x5.Register.Set, x5.Register.Tag, x5.Register.Client, x5.Register.Seq, x5.Register.N, x5.Register.S⟩ : Y0B)))) rfl ?_
 rcases iteE hf with ⟨hc25, hf⟩ | ⟨hc25, hf⟩
 {
 refine WL.fieldAddr (m := 7) rfl Y8B rfl ?_ (hg := (Y00 rfl rfl (Y01 rfl hc25)).trans rfl)
 refine WL.loadF (z := x1.HasMax) Y3s hs 1 rfl 4 rfl rfl TI4 (.inr rfl) rfl rfl (fun v26 hs => ?_) (hg := (Y00 rfl rfl (Y01 rfl hc25)).trans rfl)
 obtain rfl := hs.bool 0 rfl
 refine WL.fieldAddr (m := 7) rfl Y8B rfl ?_ (hg := (Y00 rfl rfl (Y01 rfl hc25)).trans rfl)
 refine WL.loadF (z := x5.HasMax) Y3s hs 0 rfl 6 rfl rfl TI4 (.inr rfl) rfl rfl (fun v27 hs => ?_) (hg := (Y00 rfl rfl (Y01 rfl hc25)).trans rfl)
 obtain rfl := hs.bool 0 rfl
 refine WL.eqB UN4 rfl rfl ?_ (hg := (Y00 rfl rfl (Y01 rfl hc25)).trans rfl)
 refine WL.pickT (v := .bool (x1.HasMax == x5.HasMax)) (Y01 rfl hc25) rfl ?_
 refine WL.move (v := .bool (x1.HasMax == x5.HasMax)) rfl ?_
 rcases iteE hf with ⟨hc28, hf⟩ | ⟨hc28, hf⟩
 {
 refine WL.fieldAddr (m := 8) rfl Y8A rfl ?_ (hg := (Y00 rfl rfl (Y01 rfl hc28)).trans rfl)
 refine WL.loadF (z := x1.Max) Y45 hs 1 rfl 6 rfl rfl TI2 (.inr rfl) rfl rfl (fun v29 hs => ?_) (hg := (Y00 rfl rfl (Y01 rfl hc28)).trans rfl)
 obtain rfl := hs.int 0 rfl
 refine WL.fieldAddr (m := 8) rfl Y8A rfl ?_ (hg := (Y00 rfl rfl (Y01 rfl hc28)).trans rfl)
 refine WL.loadF (z := x5.Max) Y45 hs 0 rfl 8 rfl rfl TI2 (.inr rfl) rfl rfl (fun v30 hs => ?_) (hg := (Y00 rfl rfl (Y01 rfl hc28)).trans rfl)
 obtain rfl := hs.int 0 rfl
 refine WL.bin (v := .bool (x1.Max == x5.Max)) rfl rfl (Y29 _ _ _) ?_ (hg := (Y00 rfl rfl (Y01 rfl hc28)).trans rfl)
 refine WL.pickT (v := .bool (x1.Max == x5.Max)) (Y01 rfl hc28) rfl ?_
 refine WL.move (v := .bool (x1.Max == x5.Max)) rfl ?_
 rcases iteE hf with ⟨hc31, hf⟩ | ⟨hc31, hf⟩
 {
 refine WL.fieldAddr (m := 9) rfl Y8z rfl ?_ (hg := (Y00 rfl rfl (Y01 rfl hc31)).trans rfl)
 refine WL.loadF (z := x1.Sum) Y44 hs 1 rfl 8 rfl rfl TI2 (.inr rfl) rfl rfl (fun v32 hs => ?_) (hg := (Y00 rfl rfl (Y01 rfl hc31)).trans rfl)
 obtain rfl := hs.int 0 rfl
 refine WL.fieldAddr (m := 9) rfl Y8z rfl ?_ (hg := (Y00 rfl rfl (Y01 rfl hc31)).trans rfl)
 refine WL.loadF (z := x5.Sum) Y44 hs 0 rfl 10 rfl rfl TI2 (.inr rfl) rfl rfl (fun v33 hs => ?_) (hg := (Y00 rfl rfl (Y01 rfl hc31)).trans rfl)
 obtain rfl := hs.int 0 rfl
 refine WL.bin (v := .bool (x1.Sum == x5.Sum)) rfl rfl (Y29 _ _ _) ?_ (hg := (Y00 rfl rfl (Y01 rfl hc31)).trans rfl)
 refine WL.pickT (v := .bool (x1.Sum == x5.Sum)) (Y01 rfl hc31) rfl ?_
 refine WL.move (v := .bool (x1.Sum == x5.Sum)) rfl ?_
 rcases iteE hf with ⟨hc34, hf⟩ | ⟨hc34, hf⟩
 {
 refine WL.fieldAddr (m := 10) rfl Y47 rfl ?_ (hg := (Y00 rfl rfl (Y01 rfl hc34)).trans rfl)
 refine WL.loadF (z := x1.Elems) Y26 hs 1 rfl 10 rfl rfl TI56 (.inr rfl) rfl rfl (fun v35 hs => ?_) (hg := (Y00 rfl rfl (Y01 rfl hc34)).trans rfl)
 obtain ⟨a36, c37, rfl⟩ := hs.slice 0 rfl
 refine WL.fieldAddr (m := 10) rfl Y47 rfl ?_ (hg := (Y00 rfl rfl (Y01 rfl hc34)).trans rfl)
 refine WL.loadF (z := x5.Elems) Y26 hs 0 rfl 12 rfl rfl TI56 (.inr rfl) rfl rfl (fun v38 hs => ?_) (hg := (Y00 rfl rfl (Y01 rfl hc34)).trans rfl)
 obtain ⟨a39, c40, rfl⟩ := hs.slice 0 rfl
 obtain ⟨x41, hxx41, hf⟩ := Y0v hf
 refine WL.call (vs := [.slice a36 (x1.Elems).length c37, .slice a39 (x5.Elems).length c40]) hs FN47 ⟨rfl, ⟨rfl, trivial⟩⟩ (fun ok hA => Y0J.calls (x1 := x1.Elems) (x4 := x5.Elems) hxx41 (hA.get 1 rfl) (hA.get 0 rfl)) ?_ (hg := (Y00 rfl rfl (Y01 rfl hc34)).trans rfl)
 rintro _ w hs
 refine WL.pickT (v := .bool x41) (Y01 rfl hc34) rfl ?_
 refine WL.move (v := .bool x41) rfl ?_
 rcases iteE hf with ⟨hc42, hf⟩ | ⟨hc42, hf⟩
 {
 refine WL.fieldAddr (m := 11) rfl Y9Q rfl ?_ (hg := (Y00 rfl rfl (Y01 rfl hc42)).trans rfl)
 refine WL.loadF (z := x1.Flag) Y3J hs 1 rfl 12 rfl rfl TI4 (.inr rfl) rfl rfl (fun v43 hs => ?_) (hg := (Y00 rfl rfl (Y01 rfl hc42)).trans rfl)
 obtain rfl := hs.bool 0 rfl
 refine WL.fieldAddr (m := 11) rfl Y9Q rfl ?_ (hg := (Y00 rfl rfl (Y01 rfl hc42)).trans rfl)
 refine WL.loadF (z := x5.Flag) Y3J hs 0 rfl 14 rfl rfl TI4 (.inr rfl) rfl rfl (fun v44 hs => ?_) (hg := (Y00 rfl rfl (Y01 rfl hc42)).trans rfl)
 obtain rfl := hs.bool 0 rfl
 refine WL.eqB UN4 rfl rfl ?_ (hg := (Y00 rfl rfl (Y01 rfl hc42)).trans rfl)
 refine WL.pickT (v := .bool (x1.Flag == x5.Flag)) (Y01 rfl hc42) rfl ?_
 refine WL.assign (v := .bool (x1.Flag == x5.Flag)) rfl ?_
 refine WL.nil ?_
 exact Jk15 (x1.Flag == x5.Flag) _ _ rfl ((hs.mask []).pick []) hf }
 {
 refine WL.pass ((Y00 rfl rfl (Y01 rfl hc42)).trans rfl) rfl ?_
 refine WL.pass ((Y00 rfl rfl (Y01 rfl hc42)).trans rfl) rfl ?_
 refine WL.pass ((Y00 rfl rfl (Y01 rfl hc42)).trans rfl) rfl ?_
 refine WL.pass ((Y00 rfl rfl (Y01 rfl hc42)).trans rfl) rfl ?_
 refine WL.pass ((Y00 rfl rfl (Y01 rfl hc42)).trans rfl) rfl ?_
 refine WL.pickF (v := .bool false) (Y01 rfl hc42) rfl ?_
 refine WL.assign (v := .bool false) rfl ?_
 refine WL.nil ?_
 exact Jk15 false _ _ rfl ((hs.mask []).pick []) hf } }
 {
 refine WL.pass ((Y00 rfl rfl (Y01 rfl hc34)).trans rfl) rfl ?_
 refine WL.pass ((Y00 rfl rfl (Y01 rfl hc34)).trans rfl) rfl ?_
 refine WL.pass ((Y00 rfl rfl (Y01 rfl hc34)).trans rfl) rfl ?_
 refine WL.pass ((Y00 rfl rfl (Y01 rfl hc34)).trans rfl) rfl ?_
 refine WL.pass ((Y00 rfl rfl (Y01 rfl hc34)).trans rfl) rfl ?_
 refine WL.pickF (v := .bool false) (Y01 rfl hc34) rfl ?_
 refine WL.move (v := .bool false) rfl ?_
 refine WL.pass ((Y00 rfl rfl rfl).trans rfl) rfl ?_
 refine WL.pass ((Y00 rfl rfl rfl).trans rfl) rfl ?_
 refine WL.pass ((Y00 rfl rfl rfl).trans rfl) rfl ?_
 refine WL.pass ((Y00 rfl rfl rfl).trans rfl) rfl ?_
 refine WL.pass ((Y00 rfl rfl rfl).trans rfl) rfl ?_
 refine WL.pickF (v := .bool false) rfl rfl ?_
 refine WL.assign (v := .bool false) rfl ?_
 refine WL.nil ?_
 exact Jk15 false _ _ rfl ((hs.mask []).pick []) hf } }
 {
 refine WL.pass ((Y00 rfl rfl (Y01 rfl hc31)).trans rfl) rfl ?_
 refine WL.pass ((Y00 rfl rfl (Y01 rfl hc31)).trans rfl) rfl ?_
 refine WL.pass ((Y00 rfl rfl (Y01 rfl hc31)).trans rfl) rfl ?_
 refine WL.pass ((Y00 rfl rfl (Y01 rfl hc31)).trans rfl) rfl ?_
 refine WL.pass ((Y00 rfl rfl (Y01 rfl hc31)).trans rfl) rfl ?_
 refine WL.pickF (v := .bool false) (Y01 rfl hc31) rfl ?_
 refine WL.move (v := .bool false) rfl ?_
 refine WL.pass ((Y00 rfl rfl rfl).trans rfl) rfl ?_
 refine WL.pass ((Y00 rfl rfl rfl).trans rfl) rfl ?_
 refine WL.pass ((Y00 rfl rfl rfl).trans rfl) rfl ?_
 refine WL.pass ((Y00 rfl rfl rfl).trans rfl) rfl ?_
 refine WL.pass ((Y00 rfl rfl rfl).trans rfl) rfl ?_
 refine WL.pickF (v := .bool false) rfl rfl ?_
 refine WL.move (v := .bool false) rfl ?_
 refine WL.pass ((Y00 rfl rfl rfl).trans rfl) rfl ?_
 refine WL.pass ((Y00 rfl rfl rfl).trans rfl) rfl ?_
 refine WL.pass ((Y00 rfl rfl rfl).trans rfl) rfl ?_
 refine WL.pass ((Y00 rfl rfl rfl).trans rfl) rfl ?_
 refine WL.pass ((Y00 rfl rfl rfl).trans rfl) rfl ?_
 refine WL.pickF (v := .bool false) rfl rfl ?_
 refine WL.assign (v := .bool false) rfl ?_
 refine WL.nil ?_
 exact Jk15 false _ _ rfl ((hs.mask []).pick []) hf } }
 {
 refine WL.pass ((Y00 rfl rfl (Y01 rfl hc28)).trans rfl) rfl ?_
 refine WL.pass ((Y00 rfl rfl (Y01 rfl hc28)).trans rfl) rfl ?_
 refine WL.pass ((Y00 rfl rfl (Y01 rfl hc28)).trans rfl) rfl ?_
 refine WL.pass ((Y00 rfl rfl (Y01 rfl hc28)).trans rfl) rfl ?_
 refine WL.pass ((Y00 rfl rfl (Y01 rfl hc28)).trans rfl) rfl ?_
 refine WL.pickF (v := .bool false) (Y01 rfl hc28) rfl ?_
 refine WL.move (v := .bool false) rfl ?_
 refine WL.pass ((Y00 rfl rfl rfl).trans rfl) rfl ?_
 refine WL.pass ((Y00 rfl rfl rfl).trans rfl) rfl ?_
 refine WL.pass ((Y00 rfl rfl rfl).trans rfl) rfl ?_
 refine WL.pass ((Y00 rfl rfl rfl).trans rfl) rfl ?_
 refine WL.pass ((Y00 rfl rfl rfl).trans rfl) rfl ?_
 refine WL.pickF (v := .bool false) rfl rfl ?_
 refine WL.move (v := .bool false) rfl ?_
 refine WL.pass ((Y00 rfl rfl rfl).trans rfl) rfl ?_
 refine WL.pass ((Y00 rfl rfl rfl).trans rfl) rfl ?_
 refine WL.pass ((Y00 rfl rfl rfl).trans rfl) rfl ?_
 refine WL.pass ((Y00 rfl rfl rfl).trans rfl) rfl ?_
 refine WL.pass ((Y00 rfl rfl rfl).trans rfl) rfl ?_
 refine WL.pickF (v := .bool false) rfl rfl ?_
 refine WL.move (v := .bool false) rfl ?_
 refine WL.pass ((Y00 rfl rfl rfl).trans rfl) rfl ?_
 refine WL.pass ((Y00 rfl rfl rfl).trans rfl) rfl ?_
 refine WL.pass ((Y00 rfl rfl rfl).trans rfl) rfl ?_
 refine WL.pass ((Y00 rfl rfl rfl).trans rfl) rfl ?_
 refine WL.pass ((Y00 rfl rfl rfl).trans rfl) rfl ?_
 refine WL.pickF (v := .bool false) rfl rfl ?_
 refine WL.assign (v := .bool false) rfl ?_
 refine WL.nil ?_
 exact Jk15 false _ _ rfl ((hs.mask []).pick []) hf } }
 {
 refine WL.pass ((Y00 rfl rfl (Y01 rfl hc25)).trans rfl) rfl ?_
 refine WL.pass ((Y00 rfl rfl (Y01 rfl hc25)).trans rfl) rfl ?_
 refine WL.pass ((Y00 rfl rfl (Y01 rfl hc25)).trans rfl) rfl ?_
 refine WL.pass ((Y00 rfl rfl (Y01 rfl hc25)).trans rfl) rfl ?_
 refine WL.pass ((Y00 rfl rfl (Y01 rfl hc25)).trans rfl) rfl ?_
 refine WL.pickF (v := .bool false) (Y01 rfl hc25) rfl ?_
 refine WL.move (v := .bool false) rfl ?_
 refine WL.pass ((Y00 rfl rfl rfl).trans rfl) rfl ?_
 refine WL.pass ((Y00 rfl rfl rfl).trans rfl) rfl ?_
 refine WL.pass ((Y00 rfl rfl rfl).trans rfl) rfl ?_
 refine WL.pass ((Y00 rfl rfl rfl).trans rfl) rfl ?_
 refine WL.pass ((Y00 rfl rfl rfl).trans rfl) rfl ?_
 refine WL.pickF (v := .bool false) rfl rfl ?_
 refine WL.move (v := .bool false) rfl ?_
 refine WL.pass ((Y00 rfl rfl rfl).trans rfl) rfl ?_
 refine WL.pass ((Y00 rfl rfl rfl).trans rfl) rfl ?_
 refine WL.pass ((Y00 rfl rfl rfl).trans rfl) rfl ?_
 refine WL.pass ((Y00 rfl rfl rfl).trans rfl) rfl ?_
 refine WL.pass ((Y00 rfl rfl rfl).trans rfl) rfl ?_
 refine WL.pickF (v := .bool false) rfl rfl ?_
 refine WL.move (v := .bool false) rfl ?_
 refine WL.pass ((Y00 rfl rfl rfl).trans rfl) rfl ?_
 refine WL.pass ((Y00 rfl rfl rfl).trans rfl) rfl ?_
 refine WL.pass ((Y00 rfl rfl rfl).trans rfl) rfl ?_
 refine WL.pass ((Y00 rfl rfl rfl).trans rfl) rfl ?_
 refine WL.pass ((Y00 rfl rfl rfl).trans rfl) rfl ?_
 refine WL.pickF (v := .bool false) rfl rfl ?_
 refine WL.move (v := .bool false) rfl ?_
 refine WL.pass ((Y00 rfl rfl rfl).trans rfl) rfl ?_
 refine WL.pass ((Y00 rfl rfl rfl).trans rfl) rfl ?_
 refine WL.pass ((Y00 rfl rfl rfl).trans rfl) rfl ?_
 refine WL.pass ((Y00 rfl rfl rfl).trans rfl) rfl ?_
 refine WL.pass ((Y00 rfl rfl rfl).trans rfl) rfl ?_
 refine WL.pickF (v := .bool false) rfl rfl ?_
 refine WL.assign (v := .bool false) rfl ?_
 refine WL.nil ?_
 exact Jk15 false _ _ rfl ((hs.mask []).pick []) hf } }
 {
 refine WL.pass ((Y00 rfl rfl (Y01 rfl hc18)).trans rfl) rfl ?_
 refine WL.pass ((Y00 rfl rfl (Y01 rfl hc18)).trans rfl) rfl ?_
 refine WL.pass ((Y00 rfl rfl (Y01 rfl hc18)).trans rfl) rfl ?_
 refine WL.pass ((Y00 rfl rfl (Y01 rfl hc18)).trans rfl) rfl ?_
 refine WL.pass ((Y00 rfl rfl (Y01 rfl hc18)).trans rfl) rfl ?_
 refine WL.pickF (v := .bool false) (Y01 rfl hc18) rfl ?_
 refine WL.move (v := .bool false) rfl ?_
 refine WL.pass ((Y00 rfl rfl rfl).trans rfl) rfl ?_
 refine WL.pass ((Y00 rfl rfl rfl).trans rfl) rfl ?_
 refine WL.pass ((Y00 rfl rfl rfl).trans rfl) rfl ?_
 refine WL.pass ((Y00 rfl rfl rfl).trans rfl) rfl ?_
 refine WL.pass ((Y00 rfl rfl rfl).trans rfl) rfl ?_
 refine WL.pickF (v := .bool false) rfl rfl ?_
 refine WL.move (v := .bool false) rfl ?_
 refine WL.pass ((Y00 rfl rfl rfl).trans rfl) rfl ?_
 refine WL.pass ((Y00 rfl rfl rfl).trans rfl) rfl ?_
 refine WL.pass ((Y00 rfl rfl rfl).trans rfl) rfl ?_
 refine WL.pass ((Y00 rfl rfl rfl).trans rfl) rfl ?_
 refine WL.pass ((Y00 rfl rfl rfl).trans rfl) rfl ?_
 refine WL.pickF (v := .bool false) rfl rfl ?_
 refine WL.move (v := .bool false) rfl ?_
 refine WL.pass ((Y00 rfl rfl rfl).trans rfl) rfl ?_
 refine WL.pass ((Y00 rfl rfl rfl).trans rfl) rfl ?_
 refine WL.pass ((Y00 rfl rfl rfl).trans rfl) rfl ?_
 refine WL.pass ((Y00 rfl rfl rfl).trans rfl) rfl ?_
 refine WL.pass ((Y00 rfl rfl rfl).trans rfl) rfl ?_
 refine WL.pickF (v := .bool false) rfl rfl ?_
 refine WL.move (v := .bool false) rfl ?_
 refine WL.pass ((Y00 rfl rfl rfl).trans rfl) rfl ?_
 refine WL.pass ((Y00 rfl rfl rfl).trans rfl) rfl ?_
 refine WL.pass ((Y00 rfl rfl rfl).trans rfl) rfl ?_
 refine WL.pass ((Y00 rfl rfl rfl).trans rfl) rfl ?_
 refine WL.pass ((Y00 rfl rfl rfl).trans rfl) rfl ?_
 refine WL.pickF (v := .bool false) rfl rfl ?_
 refine WL.move (v := .bool false) rfl ?_
 refine WL.pass ((Y00 rfl rfl rfl).trans rfl) rfl ?_
 refine WL.pass ((Y00 rfl rfl rfl).trans rfl) rfl ?_
 refine WL.pass ((Y00 rfl rfl rfl).trans rfl) rfl ?_
 refine WL.pass ((Y00 rfl rfl rfl).trans rfl) rfl ?_
 refine WL.pass ((Y00 rfl rfl rfl).trans rfl) rfl ?_
 refine WL.pickF (v := .bool false) rfl rfl ?_
 refine WL.assign (v := .bool false) rfl ?_
 refine WL.nil ?_
 exact Jk15 false _ _ rfl ((hs.mask []).pick []) hf }
theorem Y0Y.calls {ok : Nat → Prop} {w0 : World} {x1 : Y06} {x5 : Y06} {v2 : Value} {v6 : Value} {r : Bool} (hf : Y0Y x1 x5 = some r) (i0 : (vl Y08 x1 v2).holds ok w0) (i1 : (vl Y08 x5 v6).holds ok w0) :
  Calls Tryz.prog 96 #[v2, v6] w0 fun e w' => ∃ v, e = .returned v ∧ ∃ y : Unit, v = .bool r ∧ St ok (bz w0) w' [] [] := by
 unfold Y0Y at hf
 refine Y0w (fn := Tryz.f96) (N := 17) Tryz.func96 rfl Tryz.ntmps96 rfl ?_
 have hs : St ok (bz w0) w0 [vl Y08 x1 v2, vl Y08 x5 v6] [] := St.init (All.cons i0 (All.cons i1 All.nil))
 clear i0 i1
 obtain ⟨cs3, hl4, rfl⟩ := hs.aggv (n := 2) 0 rfl rfl rfl
 obtain ⟨cs7, hl8, rfl⟩ := hs.aggv (n := 2) 1 rfl rfl rfl
 refine W.seqK fun K9 hK9 => ?_
 refine W.region ?_
 refine WL.box (vs := cs3) hs rfl rfl (fun g10 w hs => ?_)
 refine WL.box (vs := cs7) hs rfl rfl (fun g11 w hs => ?_)
 refine WL.assign (v := .bool false) rfl ?_
 refine WL.nil ?_
 refine hK9 _ _ ?_
 refine W.seqK fun K12 hK12 => ?_
 have Jk15 : ∀ (x14 : Bool) (ρ : Env) (w : World), ρ 4 = .bool x14 → St ok (bz w0) w [] [] → Y0Y.j1 x14 = some r → K12 ρ w := by
  intro x14 ρ w h13_4 hs hf
  refine hK12 _ _ ?_
  unfold Y0Y.j1 at hf
  refine W.ret ?_
  have hr := Option.some.inj hf; subst hr
  exact ⟨_, Y0i rfl h13_4, (), rfl, (hs.mask []).pick []⟩
 refine W.region ?_
 refine WL.fieldAddr (m := 0) rfl Y56 rfl ?_
 refine WL.loadF (z := x1.Name) Y1F hs 1 rfl 0 rfl rfl TI9 (.inr rfl) rfl rfl (fun v16 hs => ?_)
 obtain rfl := hs.str 0 rfl
 refine WL.fieldAddr (m := 0) rfl Y56 rfl ?_
 refine WL.loadF (z := x5.Name) Y1F hs 0 rfl 2 rfl rfl TI9 (.inr rfl) rfl rfl (fun v17 hs => ?_)
 obtain rfl := hs.str 0 rfl
 refine WL.binS (v := .bool (x1.Name == x5.Name)) rfl rfl (Y4N _ _) ?_
 refine WL.move (v := .bool (x1.Name == x5.Name)) rfl ?_
 rcases iteE hf with ⟨hc18, hf⟩ | ⟨hc18, hf⟩
 {
 refine WL.fieldAddr (m := 1) rfl Y55 rfl ?_ (hg := (Y00 rfl rfl (Y01 rfl hc18)).trans rfl)
 refine WL.loadF (z := x1.Fields) Y1D hs 1 rfl 2 rfl rfl TI39 (.inr rfl) rfl rfl (fun v19 hs => ?_) (hg := (Y00 rfl rfl (Y01 rfl hc18)).trans rfl)
 obtain ⟨a20, c21, rfl⟩ := hs.slice 0 rfl
 refine WL.fieldAddr (m := 1) rfl Y55 rfl ?_ (hg := (Y00 rfl rfl (Y01 rfl hc18)).trans rfl)
 refine WL.loadF (z := x5.Fields) Y1D hs 0 rfl 4 rfl rfl TI39 (.inr rfl) rfl rfl (fun v22 hs => ?_) (hg := (Y00 rfl rfl (Y01 rfl hc18)).trans rfl)
 obtain ⟨a23, c24, rfl⟩ := hs.slice 0 rfl
 have hs := hs.add (it := vl (tFun Tryz.prog (Y5t Y0q Y0q) (fun r : Bool => .bool r)) (fun p : Y07 × Y07 => Y0Q p.1 p.2) (.func (.func 114) #[] #[])) fun ok hA => Y82.2 ⟨114, _, rfl, FN114, fun ok' w' hm p r vs hF har => by
  obtain ⟨u1, u2, rfl, h1, h2⟩ := har
  exact (Y0Q.calls (x1 := p.1) (x5 := p.2) hF h1 h2).mono (by rintro e w2 ⟨v, h1, y, h2, h3⟩; exact ⟨v, h1, h2, h3⟩)⟩
 obtain ⟨x25, hxx25, hf⟩ := Y0v hf
 refine WL.call (vs := [.slice a20 (x1.Fields).length c21, .slice a23 (x5.Fields).length c24, (.func (.func 114) #[] #[])]) hs FN113 ⟨rfl, ⟨rfl, ⟨rfl, trivial⟩⟩⟩ (fun ok hA => Y0E.calls (x1 := x1.Fields) (x4 := x5.Fields) (x7 := (fun p : Y07 × Y07 => Y0Q p.1 p.2)) hxx25 (hA.get 2 rfl) (hA.get 1 rfl) (hA.get 0 rfl)) ?_ (hg := (Y00 rfl rfl (Y01 rfl hc18)).trans rfl)
 rintro _ w hs
 refine WL.pickT (v := .bool x25) (Y01 rfl hc18) rfl ?_
 refine WL.assign (v := .bool x25) rfl ?_
 refine WL.nil ?_
 exact Jk15 x25 _ _ rfl ((hs.mask []).pick []) hf }
 {
 refine WL.pass ((Y00 rfl rfl (Y01 rfl hc18)).trans rfl) rfl ?_
 refine WL.pass ((Y00 rfl rfl (Y01 rfl hc18)).trans rfl) rfl ?_
 refine WL.pass ((Y00 rfl rfl (Y01 rfl hc18)).trans rfl) rfl ?_
 refine WL.pass ((Y00 rfl rfl (Y01 rfl hc18)).trans rfl) rfl ?_
 refine WL.pass ((Y00 rfl rfl (Y01 rfl hc18)).trans rfl) rfl ?_
 refine WL.pickF (v := .bool false) (Y01 rfl hc18) rfl ?_
 refine WL.assign (v := .bool false) rfl ?_
 refine WL.nil ?_
 exact Jk15 false _ _ rfl ((hs.mask []).pick []) hf }
theorem Y37.calls {ok : Nat → Prop} {w0 : World} {x1 : Y0y} {x5 : Y0y} {v2 : Value} {v6 : Value} {r : Bool} (hf : Y37 x1 x5 = some r) (i0 : (vl Y0m x1 v2).holds ok w0) (i1 : (vl Y0m x5 v6).holds ok w0) :
  Calls Tryz.prog 70 #[v2, v6] w0 fun e w' => ∃ v, e = .returned v ∧ ∃ y : Unit, v = .bool r ∧ St ok (bz w0) w' [] [] := by
 unfold Y37 at hf
 refine Y0w (fn := Tryz.f70) (N := 10) Tryz.func70 rfl Tryz.ntmps70 rfl ?_
 have hs : St ok (bz w0) w0 [vl Y0m x1 v2, vl Y0m x5 v6] [] := St.init (All.cons i0 (All.cons i1 All.nil))
 clear i0 i1
 obtain ⟨cs3, hl4, rfl⟩ := hs.aggv (n := 1) 0 rfl rfl rfl
 obtain ⟨cs7, hl8, rfl⟩ := hs.aggv (n := 1) 1 rfl rfl rfl
 refine W.seqK fun K9 hK9 => ?_
 refine W.region ?_
 refine WL.box (vs := cs3) hs rfl rfl (fun g10 w hs => ?_)
 refine WL.box (vs := cs7) hs rfl rfl (fun g11 w hs => ?_)
 refine WL.assign (v := .bool false) rfl ?_
 refine WL.nil ?_
 refine hK9 _ _ ?_
 refine W.seqK fun K12 hK12 => ?_
 refine W.region ?_
 refine WL.fieldAddr (m := 0) rfl Y4l rfl ?_
 refine WL.loadF (z := x1.Objects) Y1g hs 1 rfl 0 rfl rfl TI23 (.inr rfl) rfl rfl (fun v13 hs => ?_)
 obtain ⟨a14, c15, rfl⟩ := hs.slice 0 rfl
 refine WL.fieldAddr (m := 0) rfl Y4l rfl ?_
 refine WL.loadF (z := x5.Objects) Y1g hs 0 rfl 2 rfl rfl TI23 (.inr rfl) rfl rfl (fun v16 hs => ?_)
 obtain ⟨a17, c18, rfl⟩ := hs.slice 0 rfl
 have hs := hs.add (it := vl (tFun Tryz.prog (Y5t Y08 Y08) (fun r : Bool => .bool r)) (fun p : Y06 × Y06 => Y0Y p.1 p.2) (.func (.func 96) #[] #[])) fun ok hA => Y82.2 ⟨96, _, rfl, FN96, fun ok' w' hm p r vs hF har => by
  obtain ⟨u1, u2, rfl, h1, h2⟩ := har
  exact (Y0Y.calls (x1 := p.1) (x5 := p.2) hF h1 h2).mono (by rintro e w2 ⟨v, h1, y, h2, h3⟩; exact ⟨v, h1, h2, h3⟩)⟩
 obtain ⟨x19, hxx19, hf⟩ := Y0v hf
 refine WL.call (vs := [.slice a14 (x1.Objects).length c15, .slice a17 (x5.Objects).length c18, (.func (.func 96) #[] #[])]) hs FN95 ⟨rfl, ⟨rfl, ⟨rfl, trivial⟩⟩⟩ (fun ok hA => Y0G.calls (x1 := x1.Objects) (x4 := x5.Objects) (x7 := (fun p : Y06 × Y06 => Y0Y p.1 p.2)) hxx19 (hA.get 2 rfl) (hA.get 1 rfl) (hA.get 0 rfl)) ?_
 rintro _ w hs
 refine WL.assign (v := .bool x19) rfl ?_
 refine WL.nil ?_
 refine hK12 _ _ ?_
 refine W.ret ?_
 have hr := Option.some.inj hf; subst hr
 exact ⟨_, Y0i rfl rfl, (), rfl, (hs.mask []).pick []⟩
theorem Y0s.calls {ok : Nat → Prop} {w0 : World} {x1 : Y0y} {x5 : Y0y} {v2 : Value} {v6 : Value} {r : (List UInt8 → Option Bool) × (List Y06)} (hf : Y0s x1 x5 = some r) (i0 : (vl Y0m x1 v2).holds ok w0) (i1 : (vl Y0m x5 v6).holds ok w0) :
  Calls Tryz.prog 48 #[v2, v6] w0 fun e w' => ∃ v, e = .returned v ∧ ∃ y : Nat × (Option Addr × Nat × Nat), v = .tuple #[.map (some y.1), .slice y.2.1 y.2.2.1 y.2.2.2] ∧ St ok (bz w0) w' [] [mapq bstr Y3C y.1 r.1, own Y08 41 (.slice y.2.1 y.2.2.1 y.2.2.2) r.2] := by
 unfold Y0s at hf
 refine Y0w (fn := Tryz.f48) (N := 77) Tryz.func48 rfl Tryz.ntmps48 rfl ?_
 have hs : St ok (bz w0) w0 [vl Y0m x1 v2, vl Y0m x5 v6] [] := St.init (All.cons i0 (All.cons i1 All.nil))
 clear i0 i1
 obtain ⟨cs3, hl4, rfl⟩ := hs.aggv (n := 1) 0 rfl rfl rfl
 obtain ⟨cs7, hl8, rfl⟩ := hs.aggv (n := 1) 1 rfl rfl rfl
 refine W.seqK fun K9 hK9 => ?_
 refine W.region ?_
 refine WL.box (vs := cs3) hs rfl rfl (fun g10 w hs => ?_)
 refine WL.box (vs := cs7) hs rfl rfl (fun g11 w hs => ?_)
 refine WL.assign (v := .map none) rfl ?_
 refine WL.assign (v := .slice none 0 0) rfl ?_
 refine WL.nil ?_
 refine hK9 _ _ ?_
 refine W.seqK fun K12 hK12 => ?_
 refine W.region ?_
 refine WL.makeMap bstr Y08 hs (fun g13 w hs => ?_)
 refine WL.assign (v := .map (some g13)) rfl ?_
 refine WL.nil ?_
 refine hK12 _ _ ?_
 refine W.seqK fun K14 hK14 => ?_
 have Jk17 : ∀ (x15 : List ((List UInt8) × Y06)) (ρ : Env) (w : World), ρ 3 = .pointer (some ⟨g11, 0, none⟩) → ρ 6 = .map (some g13) → St ok (bz w0) w [vl Y0m x5 (.agg cs7.toArray)] [mapo bstr Y08 g13 x15, blk g11 25 cs7] → Y0s.j5 x5 x15 = some r → K14 ρ w := by
  intro x15 ρ w h16_3 h16_6 hs hf
  refine hK14 _ _ ?_
  unfold Y0s.j5 at hf
  refine W.seqK fun K18 hK18 => ?_
  refine W.region ?_
  refine WL.makeMap bstr Y3C hs (fun g19 w hs => ?_)
  refine WL.assign (v := .map (some g19)) rfl ?_
  refine WL.nil ?_
  refine hK18 _ _ ?_
  refine W.seqK fun K20 hK20 => ?_
  refine W.region ?_
  refine WL.assign (v := .slice none 0 0) rfl ?_
  refine WL.nil ?_
  refine hK20 _ _ ?_
  refine W.seqK fun K21 hK21 => ?_
  have hs := hs.ownNil Y08 41
  have Jk29 : ∀ (x22 : List ((List UInt8) × Bool)) (x23 : List ((List UInt8) × Y06)) (x25 : List Y06) (a26 : Option Addr) (c27 : Nat) (n28 : Nat) (ρ : Env) (w : World), ρ 6 = .map (some g13) → ρ 9 = .map (some g19) → ρ 10 = .slice a26 n28 c27 → St ok (bz w0) w [] [own Y08 41 (.slice a26 n28 c27) x25, mapo bstr Y3C g19 x22, mapo bstr Y08 g13 x23] → Y0s.j2 x22 x23 x25 = some r → K21 ρ w := by
   intro x22 x23 x25 a26 c27 n28 ρ w h24_6 h24_9 h24_10 hs hf
   refine hK21 _ _ ?_
   unfold Y0s.j2 at hf
   refine W.seqK fun K30 hK30 => ?_
   have Jk33 : ∀ (x31 : List ((List UInt8) × Bool)) (ρ : Env) (w : World), ρ 9 = .map (some g19) → ρ 10 = .slice a26 n28 c27 → St ok (bz w0) w [] [own Y08 41 (.slice a26 n28 c27) x25, mapo bstr Y3C g19 x31] → Y0s.j1 x25 x31 = some r → K30 ρ w := by
    intro x31 ρ w h32_9 h32_10 hs hf
    refine hK30 _ _ ?_
    unfold Y0s.j1 at hf
    refine W.seqK fun K34 hK34 => ?_
    refine W.region ?_
    refine WL.move (v := .map (some g19)) h32_9 ?_
    refine WL.move (v := .slice a26 n28 c27) h32_10 ?_
    refine WL.assign (v := .map (some g19)) rfl ?_
    refine WL.assign (v := .slice a26 n28 c27) rfl ?_
    refine WL.nil ?_
    refine hK34 _ _ ?_
    refine W.ret ?_
    have hr := Option.some.inj hf; subst hr
    have hs := hs.toQ 1 rfl
    have hs := hs.front 0 rfl
    have hs := hs.front 1 rfl
    exact ⟨_, Y9c rfl rfl rfl, (g19, (a26, n28, c27)), rfl, (hs.mask [true, true]).pick []⟩
   refine W.seqK fun K35 hK35 => ?_
   refine W.region ?_
   refine WL.move (v := .map (some g13)) h24_6 ?_
   have hf := permE hf
   refine WL.range hs 2 rfl UN131 rfl (fun r36 w hs => ?_)
   refine WL.nil ?_
   refine hK35 _ _ ?_
   refine W.block ?_
   refine W.loopR hf (fun lf s ρ w => match s with | x38 => ρ 9 = .map (some g19) ∧ ρ 10 = .slice a26 n28 c27 ∧ ρ 68 = .pointer (some ⟨r36, 0, none⟩) ∧ St ok (bz w0) w [] [own Y08 41 (.slice a26 n28 c27) x25, mapo bstr Y3C g19 x38, rng bstr Y08 g13 r36 x23 lf none]) ⟨h24_9, h24_10, rfl, (hs.mask [true, true, true]).pick []⟩ ?_
   intro lf x38 ρ w hI hNs40 hCs40
   obtain ⟨h39_9, h39_10, h39_68, hs⟩ := hI
   refine W.seqK fun K43 hK43 => ?_
   refine W.region ?_
   refine WL.next hs 2 rfl h39_68 (fun hL => ?_) (fun x41 x42 lf2s40 v45 w hPs40 hs => ?_)
   {
   have hf : Y0s.j1 x25 x38 = some r := hNs40 hL
   have hs := hs.unrng 2 rfl
   refine WL.extract (v := .bool false) rfl rfl ?_
   refine WL.nil ?_
   refine hK43 _ _ ?_
   refine W.seqK fun K44 hK44 => ?_
   refine W.cond_false rfl ?_
   refine W.exit ?_
   exact Jk33 x38 _ _ h39_9 h39_10 ((hs.mask [true, true]).pick []) hf }
   {
   obtain ⟨os40, hSs40, hBs40⟩ := hCs40 _ _ hPs40
   have hf : Y0s.l1 x41 x42 x38 = some os40 := hSs40
   unfold Y0s.l1 at hf
   refine WL.extract (v := .bool true) rfl rfl ?_
   refine WL.nil ?_
   refine hK43 _ _ ?_
   refine W.seqK fun K46 hK46 => ?_
   refine W.cond_true rfl ?_
   refine W.skip ?_
   refine hK46 _ _ ?_
   refine W.block ?_
   refine W.seqK fun K47 hK47 => ?_
   refine W.region ?_
   refine WL.entry hs 2 rfl h39_68 (fun v48 hs => ?_)
   obtain ⟨cs49, hl50, rfl⟩ := hs.aggv (n := 2) 0 rfl rfl rfl
   refine WL.extract (v := bstr x41) rfl rfl ?_
   refine WL.assign (v := bstr x41) rfl ?_
   refine WL.nil ?_
   refine hK47 _ _ ?_
   refine W.region ?_
   refine WL.move (v := .map (some g19)) h39_9 ?_
   refine WL.move (v := bstr x41) rfl ?_
   obtain ⟨x51, exx51, hf⟩ := letE hf
   refine WL.mapUpdate (a := x41) (y := true) (v := .bool true) hs 1 rfl (Y3R UN9) UN101 rfl rfl rfl (fun ok hA => Y7A.2 rfl) exx51 (fun w hs => ?_)
   refine WL.nil ?_
   have hr := Option.some.inj hf; subst hr
   have hs := hs.rngF 2 rfl
   exact ⟨_, _, _, hPs40, hSs40, h39_9, h39_10, h39_68, (hs.mask [true, true, true]).pick []⟩ }
  refine W.seqK fun K52 hK52 => ?_
  refine W.region ?_
  refine WL.fieldAddr (m := 0) h16_3 Y4l rfl ?_
  refine WL.loadF (z := x5.Objects) Y1g hs 3 rfl 0 rfl rfl TI23 (.inr rfl) rfl rfl (fun v53 hs => ?_)
  obtain ⟨a54, c55, rfl⟩ := hs.slice 0 rfl
  refine WL.len (v := .slice a54 (x5.Objects).length c55) rfl (Y0V UN23) ?_
  refine WL.move (v := .int .i64 0) rfl ?_
  refine WL.nil ?_
  refine hK52 _ _ ?_
  refine W.block ?_
  obtain ⟨bs64, hbs64, hfs64⟩ := Y0v hf
  refine W.loop hbs64 (fun s ρ w => match s with | (x56, x57, x59, x63) => ∃ (a60 : Option Addr), ∃ (c61 : Nat), ∃ (n62 : Nat), ρ 6 = .map (some g13) ∧ ρ 9 = .map (some g19) ∧ ρ 10 = .slice a60 n62 c61 ∧ ρ 31 = .slice a54 (x5.Objects).length c55 ∧ ρ 32 = .int .i64 ((x5.Objects).length : Int) ∧ ρ 33 = .int .i64 x63 ∧ St ok (bz w0) w [vl (Y0a Y08) x5.Objects (.slice a54 (x5.Objects).length c55)] [own Y08 41 (.slice a60 n62 c61) x59, mapo bstr Y3C g19 x56, mapo bstr Y08 g13 x57]) ⟨none, 0, 0, h16_6, rfl, rfl, rfl, rfl, rfl, (hs.mask [true, true, true]).pick [0]⟩ ?_
  intro s ρ w os64 hI hf hbbs64
  obtain ⟨x56, x57, x59, x63⟩ := s
  obtain ⟨a60, c61, n62, h58_6, h58_9, h58_10, h58_31, h58_32, h58_33, hs⟩ := hI
  unfold Y0s.l2 at hf
  refine W.seqK fun K65 hK65 => ?_
  refine W.region ?_
  refine WL.bin (v := .bool (decide (x63 < ((x5.Objects).length : Int)))) h58_33 h58_32 (Y1s _ _ _) ?_
  refine WL.nil ?_
  refine hK65 _ _ ?_
  refine W.seqK fun K66 hK66 => ?_
  rcases iteE hf with ⟨hc67, hf⟩ | ⟨hc67, hf⟩
  {
  refine W.cond_true (Y01 rfl hc67) ?_
  refine W.skip ?_
  refine hK66 _ _ ?_
  refine W.seqK fun K68 hK68 => ?_
  refine W.block ?_
  refine W.seqK fun K69 hK69 => ?_
  refine W.region ?_
  obtain ⟨x70, hxx70, hf⟩ := Y0v hf
  refine WL.indexAddr hs 0 rfl UN23 TI41 h58_31 h58_33 hxx70 (fun ad71 hs => ?_)
  refine WL.loadP hs 0 rfl TI41 (.inl rfl) rfl (fun v72 hs => ?_)
  obtain ⟨cs73, hl74, rfl⟩ := hs.aggv (n := 2) 0 rfl rfl rfl
  refine WL.alloc hs ZV41 (fun g75 w hs => ?_)
  refine WL.storeAll (vs := cs73) hs 0 rfl TI41 rfl rfl rfl hl74 (hs.ones 0 rfl rfl) rfl (fun w hs => ?_)
  refine WL.nil ?_
  refine hK69 _ _ ?_
  refine W.seqK fun K76 hK76 => ?_
  refine W.region ?_
  refine WL.move (v := .map (some g13)) h58_6 ?_
  refine WL.fieldAddr (m := 0) rfl Y56 rfl ?_
  refine WL.loadF (z := x70.Name) Y1F hs 0 rfl 0 rfl rfl TI9 (.inr rfl) rfl rfl (fun v77 hs => ?_)
  obtain rfl := hs.str 0 rfl
  obtain ⟨x78, exx78, hf⟩ := letE hf
  refine WL.lookup2 (a := x70.Name) (z0 := (⟨[], []⟩ : Y06)) hs 3 rfl (Y3R UN9) UN131 rfl rfl ZR41 (fun _ _ => ⟨[.string ⟨#[]⟩, .slice none 0 0], (show Y08.R _ _ (⟨[], []⟩ : Y06) _ from ⟨([bstr []]), [.slice none 0 0], rfl, rfl, Y7s⟩), rfl⟩) exx78 (fun v79 hs => ?_)
  obtain ⟨cs80, hl81, rfl⟩ := hs.aggv (n := 2) 0 rfl rfl rfl
  refine WL.move (v := .tuple #[.agg cs80.toArray, .bool ((List.lookup x70.Name x57).isSome)]) rfl ?_
  refine WL.extract (v := .agg cs80.toArray) rfl rfl ?_
  refine WL.extract (v := .bool ((List.lookup x70.Name x57).isSome)) rfl rfl ?_
  refine WL.alloc hs ZV41 (fun g82 w hs => ?_)
  refine WL.storeAll (vs := cs80) hs 0 rfl TI41 rfl rfl rfl hl81 (hs.ones 0 rfl rfl) rfl (fun w hs => ?_)
  refine WL.assign (v := .bool ((List.lookup x70.Name x57).isSome)) rfl ?_
  refine WL.nil ?_
  refine hK76 _ _ ?_
  refine W.seqK fun K83 hK83 => ?_
  have Jk90 : ∀ (x84 : List ((List UInt8) × Bool)) (x86 : List Y06) (a87 : Option Addr) (c88 : Nat) (n89 : Nat) (ρ : Env) (w : World), ρ 6 = .map (some g13) → ρ 9 = .map (some g19) → ρ 10 = .slice a87 n89 c88 → ρ 12 = .pointer (some ⟨g75, 0, none⟩) → ρ 31 = .slice a54 (x5.Objects).length c55 → ρ 32 = .int .i64 ((x5.Objects).length : Int) → ρ 33 = .int .i64 x63 → St ok (bz w0) w [vl (Y0a Y08) x5.Objects (.slice a54 (x5.Objects).length c55), vl Y08 x70 (.agg cs73.toArray)] [blk g75 41 cs73, own Y08 41 (.slice a87 n89 c88) x86, mapo bstr Y3C g19 x84, mapo bstr Y08 g13 x57] → Y0s.j3 x57 x63 x70 x84 x86 = some os64 → K83 ρ w := by
   intro x84 x86 a87 c88 n89 ρ w h85_6 h85_9 h85_10 h85_12 h85_31 h85_32 h85_33 hs hf
   refine hK83 _ _ ?_
   unfold Y0s.j3 at hf
   refine W.region ?_
   refine WL.move (v := .map (some g13)) h85_6 ?_
   refine WL.fieldAddr (m := 0) h85_12 Y56 rfl ?_
   refine WL.loadF (z := x70.Name) Y1F hs 0 rfl 1 rfl rfl TI9 (.inr rfl) rfl rfl (fun v91 hs => ?_)
   obtain rfl := hs.str 0 rfl
   obtain ⟨x92, exx92, hf⟩ := letE hf
   refine WL.deleteM (a := x70.Name) hs 3 rfl (Y3R UN9) UN131 rfl rfl exx92 (fun w hs => ?_)
   refine WL.nil ?_
   refine hK68 _ _ ?_
   refine W.region ?_
   obtain ⟨x93, ex93, hf⟩ := letE hf
   refine WL.bin (v := .int .i64 x93) h85_33 rfl (Y1T ex93 (Y1w _ _ _)) ?_
   refine WL.move (v := .int .i64 x93) rfl ?_
   refine WL.nil ?_
   exact ⟨_, (Option.some.inj hf).symm, a87, c88, n89, h85_6, h85_9, h85_10, h85_31, h85_32, rfl, (hs.mask [false, true, true, true]).pick [1]⟩
  refine W.seqK fun K94 hK94 => ?_
  have Jk97 : ∀ (x96 : Bool) (ρ : Env) (w : World), ρ 6 = .map (some g13) → ρ 9 = .map (some g19) → ρ 10 = .slice a60 n62 c61 → ρ 12 = .pointer (some ⟨g75, 0, none⟩) → ρ 31 = .slice a54 (x5.Objects).length c55 → ρ 32 = .int .i64 ((x5.Objects).length : Int) → ρ 33 = .int .i64 x63 → ρ 55 = .bool x96 → St ok (bz w0) w [vl (Y0a Y08) x5.Objects (.slice a54 (x5.Objects).length c55), vl Y08 x70 (.agg cs73.toArray)] [blk g75 41 cs73, own Y08 41 (.slice a60 n62 c61) x59, mapo bstr Y3C g19 x56, mapo bstr Y08 g13 x57] → Y0s.j4 x56 x57 x59 x63 x70 x96 = some os64 → K94 ρ w := by
   intro x96 ρ w h95_6 h95_9 h95_10 h95_12 h95_31 h95_32 h95_33 h95_55 hs hf
   refine hK94 _ _ ?_
   unfold Y0s.j4 at hf
   rcases iteE hf with ⟨hc98, hf⟩ | ⟨hc98, hf⟩
   {
   refine W.cond_true (Y01 h95_55 hc98) ?_
   refine W.seqK fun K99 hK99 => ?_
   refine W.region ?_
   refine WL.move (v := .map (some g19)) h95_9 ?_
   refine WL.fieldAddr (m := 0) h95_12 Y56 rfl ?_
   refine WL.loadF (z := x70.Name) Y1F hs 0 rfl 1 rfl rfl TI9 (.inr rfl) rfl rfl (fun v100 hs => ?_)
   obtain rfl := hs.str 0 rfl
   obtain ⟨x101, exx101, hf⟩ := letE hf
   refine WL.mapUpdate (a := x70.Name) (y := true) (v := .bool true) hs 2 rfl (Y3R UN9) UN101 rfl rfl rfl (fun ok hA => Y7A.2 rfl) exx101 (fun w hs => ?_)
   refine WL.nil ?_
   refine hK99 _ _ ?_
   refine W.region ?_
   refine WL.move (v := .slice a60 n62 c61) h95_10 ?_
   refine WL.loadAll hs 0 rfl TI41 h95_12 hl74 ?_
   refine WL.buildSlice (n := 1) (vs := [(0, .agg cs73.toArray)]) (cs := cs73) hs ⟨⟨rfl, rfl⟩, trivial⟩ (bls PS23 (by decide) (by simp [Y6b, Y3T, Value.cells, hl74])) (fun g102 w hs => ?_)
   obtain ⟨x103, hxx103, hf⟩ := Y0v hf
   obtain ⟨hbx103, hex103⟩ := appE hxx103
   refine WL.append (ys := [x70]) (zs := x103) hs 2 rfl 0 rfl UN23 EI41 rfl rfl (fun ok hA => (Y11.one (T := Y08) (Y3d (hA.get 2 rfl) rfl))) hbx103 (by omega) hex103 (fun v104 w hs => ?_)
   obtain ⟨a105, n107, c106, rfl⟩ := hs.ownv3 2 rfl
   refine WL.assign (v := .slice a105 n107 c106) rfl ?_
   refine WL.nil ?_
   exact Jk90 x101 x103 a105 c106 n107 _ _ h95_6 h95_9 rfl h95_12 h95_31 h95_32 h95_33 ((hs.mask [false, true, true, true, true]).pick [1, 2]) hf }
   {
   refine W.cond_false (Y01 h95_55 hc98) ?_
   refine W.skip ?_
   exact Jk90 x56 x59 a60 c61 n62 _ _ h95_6 h95_9 h95_10 h95_12 h95_31 h95_32 h95_33 ((hs.mask [true, true, true, true]).pick [0, 1]) hf }
  refine W.region ?_
  refine WL.move (v := .bool ((List.lookup x70.Name x57).isSome)) rfl ?_
  refine WL.not rfl ?_
  refine WL.move (v := .bool (!((List.lookup x70.Name x57).isSome))) rfl ?_
  rcases iteE hf with ⟨hc108, hf⟩ | ⟨hc108, hf⟩
  {
  refine WL.pass ((Y00 rfl rfl (Y01 rfl hc108)).trans rfl) rfl ?_
  refine WL.pass ((Y00 rfl rfl (Y01 rfl hc108)).trans rfl) rfl ?_
  refine WL.pass ((Y00 rfl rfl (Y01 rfl hc108)).trans rfl) rfl ?_
  refine WL.pass ((Y00 rfl rfl (Y01 rfl hc108)).trans rfl) rfl ?_
  refine WL.pass ((Y00 rfl rfl (Y01 rfl hc108)).trans rfl) rfl ?_
  refine WL.pass ((Y00 rfl rfl (Y01 rfl hc108)).trans rfl) rfl ?_
  refine WL.pass ((Y00 rfl rfl (Y01 rfl hc108)).trans rfl) rfl ?_
  refine WL.pass ((Y00 rfl rfl (Y01 rfl hc108)).trans rfl) rfl ?_
  refine WL.pickT (v := .bool true) (Y01 rfl hc108) rfl ?_
  refine WL.nil ?_
  exact Jk97 true _ _ h58_6 h58_9 h58_10 rfl h58_31 h58_32 h58_33 rfl ((hs.mask [false, true, true, true, true]).pick [4, 2]) hf }
  {
  refine WL.loadAll hs 0 rfl TI41 rfl hl81 ?_ (hg := (Y00 rfl rfl (Y01 rfl hc108)).trans rfl)
  refine WL.buildSlice (n := 1) (vs := [(0, .agg cs80.toArray)]) (cs := cs80) hs ⟨⟨rfl, rfl⟩, trivial⟩ (bls PS23 (by decide) (by simp [Y6b, Y3T, Value.cells, hl81])) (fun g109 w hs => ?_) (hg := (Y00 rfl rfl (Y01 rfl hc108)).trans rfl)
  refine WL.build (vs := [(0, .slice (some ⟨g109, 0, none⟩) ([x78]).length 1)]) (cs := [.slice (some ⟨g109, 0, none⟩) ([x78]).length 1]) ⟨⟨rfl, rfl⟩, trivial⟩ (bld PL25 rfl) ?_ (hg := (Y00 rfl rfl (Y01 rfl hc108)).trans rfl)
  refine WL.loadAll hs 2 rfl TI41 rfl hl74 ?_ (hg := (Y00 rfl rfl (Y01 rfl hc108)).trans rfl)
  refine WL.buildSlice (n := 1) (vs := [(0, .agg cs73.toArray)]) (cs := cs73) hs ⟨⟨rfl, rfl⟩, trivial⟩ (bls PS23 (by decide) (by simp [Y6b, Y3T, Value.cells, hl74])) (fun g110 w hs => ?_) (hg := (Y00 rfl rfl (Y01 rfl hc108)).trans rfl)
  refine WL.build (vs := [(0, .slice (some ⟨g110, 0, none⟩) ([x70]).length 1)]) (cs := [.slice (some ⟨g110, 0, none⟩) ([x70]).length 1]) ⟨⟨rfl, rfl⟩, trivial⟩ (bld PL25 rfl) ?_ (hg := (Y00 rfl rfl (Y01 rfl hc108)).trans rfl)
  have hs := hs.ownLit (A := Y08) (xs := [x78]) 1 rfl (fun ok hA => (Y11.one (T := Y08) (Y3d (hA.get 0 rfl) rfl))) (Nat.le_of_ble_eq_true rfl)
  have hs := hs.freezeOwn 1 rfl
  have hs := hs.add (it := vl Y0m (⟨[x78]⟩ : Y0y) (.agg ([.slice (some ⟨g109, 0, none⟩) ([x78]).length 1]).toArray)) fun ok hA => Y3c ((Y4I (hA.get 0 rfl))) rfl
  have hs := hs.ownLit (A := Y08) (xs := [x70]) 0 rfl (fun ok hA => (Y11.one (T := Y08) (Y3d (hA.get 4 rfl) rfl))) (Nat.le_of_ble_eq_true rfl)
  have hs := hs.freezeOwn 0 rfl
  have hs := hs.add (it := vl Y0m (⟨[x70]⟩ : Y0y) (.agg ([.slice (some ⟨g110, 0, none⟩) ([x70]).length 1]).toArray)) fun ok hA => Y3c ((Y4I (hA.get 0 rfl))) rfl
  obtain ⟨x111, hxx111, hf⟩ := Y0v hf
  refine WL.call (vs := [.agg ([.slice (some ⟨g109, 0, none⟩) ([x78]).length 1] : List Value).toArray, .agg ([.slice (some ⟨g110, 0, none⟩) ([x70]).length 1] : List Value).toArray]) hs FN70 ⟨rfl, ⟨rfl, trivial⟩⟩ (fun ok hA => Y37.calls (x1 := (⟨[x78]⟩ : Y0y)) (x5 := (⟨[x70]⟩ : Y0y)) hxx111 (hA.get 2 rfl) (hA.get 0 rfl)) ?_ (hg := (Y00 rfl rfl (Y01 rfl hc108)).trans rfl)
  rintro _ w hs
  refine WL.not rfl ?_ (hg := (Y00 rfl rfl (Y01 rfl hc108)).trans rfl)
  refine WL.pickF (v := .bool (!x111)) (Y01 rfl hc108) rfl ?_
  refine WL.nil ?_
  exact Jk97 (!x111) _ _ h58_6 h58_9 h58_10 rfl h58_31 h58_32 h58_33 rfl ((hs.mask [false, true, true, true, true]).pick [8, 6]) hf } }
  {
  refine W.cond_false (Y01 rfl hc67) ?_
  refine W.exit ?_
  have hr := Option.some.inj hf; subst hr
  have hr := hbbs64 _ rfl; subst hr
  have hf := hfs64
  exact Jk29 x56 x57 x59 a60 c61 n62 _ _ h58_6 h58_9 h58_10 ((hs.mask [true, true, true]).pick []) hf }
 refine W.seqK fun K115 hK115 => ?_
 refine W.region ?_
 refine WL.fieldAddr (m := 0) rfl Y4l rfl ?_
 refine WL.loadF (z := x1.Objects) Y1g hs 2 rfl 0 rfl rfl TI23 (.inr rfl) rfl rfl (fun v116 hs => ?_)
 obtain ⟨a117, c118, rfl⟩ := hs.slice 0 rfl
 refine WL.len (v := .slice a117 (x1.Objects).length c118) rfl (Y0V UN23) ?_
 refine WL.move (v := .int .i64 0) rfl ?_
 refine WL.nil ?_
 refine hK115 _ _ ?_
 refine W.block ?_
 obtain ⟨bs122, hbs122, hfs122⟩ := Y0v hf
 refine W.loop hbs122 (fun s ρ w => match s with | (x119, x121) => ρ 3 = .pointer (some ⟨g11, 0, none⟩) ∧ ρ 6 = .map (some g13) ∧ ρ 18 = .slice a117 (x1.Objects).length c118 ∧ ρ 19 = .int .i64 ((x1.Objects).length : Int) ∧ ρ 20 = .int .i64 x121 ∧ St ok (bz w0) w [vl (Y0a Y08) x1.Objects (.slice a117 (x1.Objects).length c118), vl Y0m x5 (.agg cs7.toArray)] [mapo bstr Y08 g13 x119, blk g11 25 cs7]) ⟨rfl, rfl, rfl, rfl, rfl, (hs.mask [true, true]).pick [0, 2]⟩ ?_
 intro s ρ w os122 hI hf hbbs122
 obtain ⟨x119, x121⟩ := s
 obtain ⟨h120_3, h120_6, h120_18, h120_19, h120_20, hs⟩ := hI
 unfold Y0s.l3 at hf
 refine W.seqK fun K123 hK123 => ?_
 refine W.region ?_
 refine WL.bin (v := .bool (decide (x121 < ((x1.Objects).length : Int)))) h120_20 h120_19 (Y1s _ _ _) ?_
 refine WL.nil ?_
 refine hK123 _ _ ?_
 refine W.seqK fun K124 hK124 => ?_
 rcases iteE hf with ⟨hc125, hf⟩ | ⟨hc125, hf⟩
 {
 refine W.cond_true (Y01 rfl hc125) ?_
 refine W.skip ?_
 refine hK124 _ _ ?_
 refine W.seqK fun K126 hK126 => ?_
 refine W.block ?_
 refine W.seqK fun K127 hK127 => ?_
 refine W.region ?_
 obtain ⟨x128, hxx128, hf⟩ := Y0v hf
 refine WL.indexAddr hs 0 rfl UN23 TI41 h120_18 h120_20 hxx128 (fun ad129 hs => ?_)
 refine WL.loadP hs 0 rfl TI41 (.inl rfl) rfl (fun v130 hs => ?_)
 obtain ⟨cs131, hl132, rfl⟩ := hs.aggv (n := 2) 0 rfl rfl rfl
 refine WL.alloc hs ZV41 (fun g133 w hs => ?_)
 refine WL.storeAll (vs := cs131) hs 0 rfl TI41 rfl rfl rfl hl132 (hs.ones 0 rfl rfl) rfl (fun w hs => ?_)
 refine WL.nil ?_
 refine hK127 _ _ ?_
 refine W.region ?_
 refine WL.move (v := .map (some g13)) h120_6 ?_
 refine WL.fieldAddr (m := 0) rfl Y56 rfl ?_
 refine WL.loadF (z := x128.Name) Y1F hs 0 rfl 0 rfl rfl TI9 (.inr rfl) rfl rfl (fun v134 hs => ?_)
 obtain rfl := hs.str 0 rfl
 refine WL.loadAll hs 0 rfl TI41 rfl hl132 ?_
 obtain ⟨x135, exx135, hf⟩ := letE hf
 refine WL.mapUpdate (a := x128.Name) (y := x128) (v := .agg cs131.toArray) hs 1 rfl (Y3R UN9) UN131 rfl rfl rfl (fun ok hA => hA.get 1 rfl) exx135 (fun w hs => ?_)
 refine WL.nil ?_
 refine hK126 _ _ ?_
 refine W.region ?_
 obtain ⟨x136, ex136, hf⟩ := letE hf
 refine WL.bin (v := .int .i64 x136) h120_20 rfl (Y1T ex136 (Y1w _ _ _)) ?_
 refine WL.move (v := .int .i64 x136) rfl ?_
 refine WL.nil ?_
 exact ⟨_, (Option.some.inj hf).symm, h120_3, h120_6, h120_18, h120_19, rfl, (hs.mask [false, true, true]).pick [3, 4]⟩ }
 {
 refine W.cond_false (Y01 rfl hc125) ?_
 refine W.exit ?_
 have hr := Option.some.inj hf; subst hr
 have hr := hbbs122 _ rfl; subst hr
 have hf := hfs122
 exact Jk17 x119 _ _ h120_3 h120_6 ((hs.mask [true, true]).pick [1]) hf }
theorem Y0z.calls {ok : Nat → Prop} {w0 : World} {x1 : Y0N} {x5 : Y0y} {x9 : Y0y} {v2 : Value} {v6 : Value} {v10 : Value} {r : Y0N} (hf : Y0z x1 x5 x9 = some r) (i0 : (vl Y0e x1 v2).holds ok w0) (i1 : (vl Y0m x5 v6).holds ok w0) (i2 : (vl Y0m x9 v10).holds ok w0) :
  Calls Tryz.prog 28 #[v2, v6, v10] w0 fun e w' => ∃ v, e = .returned v ∧ ∃ y : (Option Addr × Nat × Nat), v = .agg ([bstr r.Field.Name, .int .i64 r.Field.Kind, .int .i64 r.Field.f_Type, .int .i64 r.Field.At, .slice y.1 y.2.1 y.2.2] : List Value).toArray ∧ St ok (bz w0) w' [] [own Y0b 65 (.slice y.1 y.2.1 y.2.2) r.Entries] := by
 unfold Y0z at hf
 refine Y0w (fn := Tryz.f28) (N := 55) Tryz.func28 rfl Tryz.ntmps28 rfl ?_
 have hs : St ok (bz w0) w0 [vl Y0e x1 v2, vl Y0m x5 v6, vl Y0m x9 v10] [] := St.init (All.cons i0 (All.cons i1 (All.cons i2 All.nil)))
 clear i0 i1 i2
 obtain ⟨cs3, hl4, rfl⟩ := hs.aggv (n := 5) 0 rfl rfl rfl
 obtain ⟨cs7, hl8, rfl⟩ := hs.aggv (n := 1) 1 rfl rfl rfl
 obtain ⟨cs11, hl12, rfl⟩ := hs.aggv (n := 1) 2 rfl rfl rfl
 refine W.seqK fun K13 hK13 => ?_
 refine W.region ?_
 refine WL.box (vs := cs3) hs rfl rfl (fun g14 w hs => ?_)
 refine WL.box (vs := cs7) hs rfl rfl (fun g15 w hs => ?_)
 refine WL.box (vs := cs11) hs rfl rfl (fun g16 w hs => ?_)
 refine WL.alloc hs ZV35 (fun g17 w hs => ?_)
 refine WL.nil ?_
 refine hK13 _ _ ?_
 refine W.seqK fun K18 hK18 => ?_
 refine W.region ?_
 refine WL.loadAll hs 2 rfl TI25 rfl hl8 ?_
 refine WL.loadAll hs 1 rfl TI25 rfl hl12 ?_
 obtain ⟨⟨x19, x20⟩, hxx19, hf⟩ := Y0v hf
 refine WL.call (vs := [.agg cs7.toArray, .agg cs11.toArray]) hs FN48 ⟨rfl, ⟨rfl, trivial⟩⟩ (fun ok hA => Y0s.calls (x1 := x5) (x5 := x9) hxx19 (hA.get 1 rfl) (hA.get 2 rfl)) ?_
 rintro ⟨g21, ⟨a22, n23, c24⟩⟩ w hs
 refine WL.move (v := .tuple #[.map (some g21), .slice a22 n23 c24]) rfl ?_
 refine WL.extract (v := .map (some g21)) rfl rfl ?_
 refine WL.extract (v := .slice a22 n23 c24) rfl rfl ?_
 refine WL.assign (v := .map (some g21)) rfl ?_
 refine WL.assign (v := .slice a22 n23 c24) rfl ?_
 refine WL.nil ?_
 refine hK18 _ _ ?_
 refine W.seqK fun K25 hK25 => ?_
 refine W.region ?_
 refine WL.fieldAddr (m := 0) rfl Y8F rfl ?_
 refine WL.loadF (z := x1.Field) Y2u hs 5 rfl 0 rfl rfl TI31 (.inl rfl) rfl rfl (fun v26 hs => ?_)
 obtain ⟨cs27, hl28, rfl⟩ := hs.aggv (n := 4) 0 rfl rfl rfl
 refine WL.move (v := .slice a22 n23 c24) rfl ?_
 obtain rfl := hs.ownLen 1 rfl
 have hs := hs.freezeOwn 1 rfl
 obtain ⟨x29, hxx29, hf⟩ := Y0v hf
 refine WL.call (vs := [.agg cs27.toArray, .slice a22 x20.length c24]) hs FN35 ⟨rfl, ⟨rfl, trivial⟩⟩ (fun ok hA => Y0R.calls (x1 := x1.Field) (x5 := x20) hxx29 (hA.get 1 rfl) (hA.get 0 rfl)) ?_
 rintro ⟨a30, n31, c32⟩ w hs
 refine WL.assign (v := .slice a30 n31 c32) rfl ?_
 refine WL.nil ?_
 refine hK25 _ _ ?_
 refine W.seqK fun K33 hK33 => ?_
 have Jk39 : ∀ (x35 : List Y0r) (a36 : Option Addr) (c37 : Nat) (n38 : Nat) (ρ : Env) (w : World), ρ 3 = .pointer (some ⟨g14, 0, none⟩) → ρ 6 = .pointer (some ⟨g17, 0, none⟩) → ρ 9 = .slice a36 n38 c37 → St ok (bz w0) w [vl Y0e x1 (.agg cs3.toArray)] [own Y0x 105 (.slice a36 n38 c37) x35, blk g17 35 ([bstr [], .int .i64 0, .int .i64 0, .int .i64 0, .slice none 0 0]), blk g14 35 cs3] → Y0z.j1 x1 x35 = some r → K33 ρ w := by
  intro x35 a36 c37 n38 ρ w h34_3 h34_6 h34_9 hs hf
  refine hK33 _ _ ?_
  unfold Y0z.j1 at hf
  refine W.seqK fun K40 hK40 => ?_
  refine W.region ?_
  refine WL.fieldAddr (m := 0) h34_3 Y8F rfl ?_
  refine WL.loadF (z := x1.Field) Y2u hs 2 rfl 0 rfl rfl TI31 (.inl rfl) rfl rfl (fun v41 hs => ?_)
  obtain ⟨cs42, hl43, rfl⟩ := hs.aggv (n := 4) 0 rfl rfl rfl
  refine WL.move (v := .slice a36 n38 c37) h34_9 ?_
  obtain rfl := hs.ownLen 0 rfl
  have hs := hs.freezeOwn 0 rfl
  obtain ⟨x44, hxx44, hf⟩ := Y0v hf
  refine WL.call (vs := [.agg cs42.toArray, .slice a36 x35.length c37]) hs FN34 ⟨rfl, ⟨rfl, trivial⟩⟩ (fun ok hA => Y0A.calls (x1 := x1.Field) (x5 := x35) hxx44 (hA.get 1 rfl) (hA.get 0 rfl)) ?_
  rintro ⟨a45, n46, c47⟩ w hs
  refine WL.storeAll (vs := [bstr x44.Field.Name, .int .i64 x44.Field.Kind, .int .i64 x44.Field.f_Type, .int .i64 x44.Field.At, .slice a45 n46 c47]) hs 1 rfl TI35 h34_6 rfl rfl rfl (Y10 rfl) rfl (fun w hs => ?_)
  refine WL.nil ?_
  refine hK40 _ _ ?_
  refine W.ret ?_
  have hr := Option.some.inj hf; subst hr
  exact ⟨_, Y0i rfl (Y2H hs 1 rfl TI35 h34_6 rfl), (a45, n46, c47), rfl, (hs.mask [true]).pick []⟩
 refine W.seqK fun K48 hK48 => ?_
 refine W.region ?_
 refine WL.fieldAddr (m := 4) rfl Y3e rfl ?_
 refine WL.loadF (z := x1.Entries) Y1c hs 5 rfl 2 rfl rfl TI33 (.inr rfl) rfl rfl (fun v49 hs => ?_)
 obtain ⟨a50, c51, rfl⟩ := hs.slice 0 rfl
 refine WL.len (v := .slice a50 (x1.Entries).length c51) rfl (Y0V UN33) ?_
 refine WL.move (v := .int .i64 0) rfl ?_
 refine WL.nil ?_
 refine hK48 _ _ ?_
 refine W.block ?_
 obtain ⟨bs58, hbs58, hfs58⟩ := Y0v hf
 refine W.loop hbs58 (fun s ρ w => match s with | (x53, x57) => ∃ (a54 : Option Addr), ∃ (c55 : Nat), ∃ (n56 : Nat), ρ 3 = .pointer (some ⟨g14, 0, none⟩) ∧ ρ 6 = .pointer (some ⟨g17, 0, none⟩) ∧ ρ 7 = .map (some g21) ∧ ρ 9 = .slice a54 n56 c55 ∧ ρ 25 = .slice a50 (x1.Entries).length c51 ∧ ρ 26 = .int .i64 ((x1.Entries).length : Int) ∧ ρ 27 = .int .i64 x57 ∧ St ok (bz w0) w [vl (Y0a Y0b) x1.Entries (.slice a50 (x1.Entries).length c51), vl Y0e x1 (.agg cs3.toArray)] [own Y0x 105 (.slice a54 n56 c55) x53, mapq bstr Y3C g21 x19, blk g17 35 ([bstr [], .int .i64 0, .int .i64 0, .int .i64 0, .slice none 0 0]), blk g14 35 cs3]) ⟨a30, c32, n31, rfl, rfl, rfl, rfl, rfl, rfl, rfl, (hs.mask [true, true, true, false, false, true]).pick [0, 3]⟩ ?_
 intro s ρ w os58 hI hf hbbs58
 obtain ⟨x53, x57⟩ := s
 obtain ⟨a54, c55, n56, h52_3, h52_6, h52_7, h52_9, h52_25, h52_26, h52_27, hs⟩ := hI
 unfold Y0z.l2 at hf
 refine W.seqK fun K59 hK59 => ?_
 refine W.region ?_
 refine WL.bin (v := .bool (decide (x57 < ((x1.Entries).length : Int)))) h52_27 h52_26 (Y1s _ _ _) ?_
 refine WL.nil ?_
 refine hK59 _ _ ?_
 refine W.seqK fun K60 hK60 => ?_
 rcases iteE hf with ⟨hc61, hf⟩ | ⟨hc61, hf⟩
 {
 refine W.cond_true (Y01 rfl hc61) ?_
 refine W.skip ?_
 refine hK60 _ _ ?_
 refine W.seqK fun K62 hK62 => ?_
 have Jk68 : ∀ (x64 : List Y0r) (a65 : Option Addr) (c66 : Nat) (n67 : Nat) (ρ : Env) (w : World), ρ 3 = .pointer (some ⟨g14, 0, none⟩) → ρ 6 = .pointer (some ⟨g17, 0, none⟩) → ρ 7 = .map (some g21) → ρ 9 = .slice a65 n67 c66 → ρ 25 = .slice a50 (x1.Entries).length c51 → ρ 26 = .int .i64 ((x1.Entries).length : Int) → ρ 27 = .int .i64 x57 → St ok (bz w0) w [vl (Y0a Y0b) x1.Entries (.slice a50 (x1.Entries).length c51), vl Y0e x1 (.agg cs3.toArray)] [own Y0x 105 (.slice a65 n67 c66) x64, mapq bstr Y3C g21 x19, blk g17 35 ([bstr [], .int .i64 0, .int .i64 0, .int .i64 0, .slice none 0 0]), blk g14 35 cs3] → Y0z.j2 x57 x64 = some os58 → K62 ρ w := by
  intro x64 a65 c66 n67 ρ w h63_3 h63_6 h63_7 h63_9 h63_25 h63_26 h63_27 hs hf
  refine hK62 _ _ ?_
  unfold Y0z.j2 at hf
  refine W.region ?_
  obtain ⟨x69, ex69, hf⟩ := letE hf
  refine WL.bin (v := .int .i64 x69) h63_27 rfl (Y1T ex69 (Y1w _ _ _)) ?_
  refine WL.move (v := .int .i64 x69) rfl ?_
  refine WL.nil ?_
  exact ⟨_, (Option.some.inj hf).symm, a65, c66, n67, h63_3, h63_6, h63_7, h63_9, h63_25, h63_26, rfl, (hs.mask [true, true, true, true]).pick [0, 1]⟩
 refine W.block ?_
 refine W.seqK fun K70 hK70 => ?_
 refine W.region ?_
 obtain ⟨x71, hxx71, hf⟩ := Y0v hf
 refine WL.indexAddr hs 0 rfl UN33 TI65 h52_25 h52_27 hxx71 (fun ad72 hs => ?_)
 refine WL.loadP hs 0 rfl TI65 (.inl rfl) rfl (fun v73 hs => ?_)
 obtain ⟨cs74, hl75, rfl⟩ := hs.aggv (n := 4) 0 rfl rfl rfl
 refine WL.alloc hs ZV65 (fun g76 w hs => ?_)
 refine WL.storeAll (vs := cs74) hs 0 rfl TI65 rfl rfl rfl hl75 (hs.ones 0 rfl rfl) rfl (fun w hs => ?_)
 refine WL.nil ?_
 refine hK70 _ _ ?_
 refine W.seqK fun K77 hK77 => ?_
 refine W.region ?_
 refine WL.fieldAddr (m := 3) rfl Y53 rfl ?_
 refine WL.loadF (z := x71.Objects) Y24 hs 0 rfl 0 rfl rfl TI56 (.inr rfl) rfl rfl (fun v78 hs => ?_)
 obtain ⟨a79, c80, rfl⟩ := hs.slice 0 rfl
 refine WL.len (v := .slice a79 (x71.Objects).length c80) rfl (Y0V UN56) ?_
 refine WL.move (v := .int .i64 0) rfl ?_
 refine WL.nil ?_
 refine hK77 _ _ ?_
 refine W.block ?_
 obtain ⟨bs87, hbs87, hfs87⟩ := Y0v hf
 refine W.loop hbs87 (fun s ρ w => match s with | (x82, x86) => ∃ (a83 : Option Addr), ∃ (c84 : Nat), ∃ (n85 : Nat), ρ 3 = .pointer (some ⟨g14, 0, none⟩) ∧ ρ 6 = .pointer (some ⟨g17, 0, none⟩) ∧ ρ 7 = .map (some g21) ∧ ρ 9 = .slice a83 n85 c84 ∧ ρ 11 = .pointer (some ⟨g76, 0, none⟩) ∧ ρ 25 = .slice a50 (x1.Entries).length c51 ∧ ρ 26 = .int .i64 ((x1.Entries).length : Int) ∧ ρ 27 = .int .i64 x57 ∧ ρ 32 = .slice a79 (x71.Objects).length c80 ∧ ρ 33 = .int .i64 ((x71.Objects).length : Int) ∧ ρ 34 = .int .i64 x86 ∧ St ok (bz w0) w [vl (Y0a Y0b) x1.Entries (.slice a50 (x1.Entries).length c51), vl (Y0a tStr) x71.Objects (.slice a79 (x71.Objects).length c80), vl Y0b x71 (.agg cs74.toArray), vl Y0e x1 (.agg cs3.toArray)] [blk g76 65 cs74, own Y0x 105 (.slice a83 n85 c84) x82, mapq bstr Y3C g21 x19, blk g17 35 ([bstr [], .int .i64 0, .int .i64 0, .int .i64 0, .slice none 0 0]), blk g14 35 cs3]) ⟨a54, c55, n56, h52_3, h52_6, h52_7, h52_9, rfl, h52_25, h52_26, h52_27, rfl, rfl, rfl, (hs.mask [true, true, true, true, true]).pick [3, 0, 1, 4]⟩ ?_
 intro s ρ w os87 hI hf hbbs87
 obtain ⟨x82, x86⟩ := s
 obtain ⟨a83, c84, n85, h81_3, h81_6, h81_7, h81_9, h81_11, h81_25, h81_26, h81_27, h81_32, h81_33, h81_34, hs⟩ := hI
 unfold Y0z.l1 at hf
 refine W.seqK fun K88 hK88 => ?_
 refine W.region ?_
 refine WL.bin (v := .bool (decide (x86 < ((x71.Objects).length : Int)))) h81_34 h81_33 (Y1s _ _ _) ?_
 refine WL.nil ?_
 refine hK88 _ _ ?_
 refine W.seqK fun K89 hK89 => ?_
 rcases iteE hf with ⟨hc90, hf⟩ | ⟨hc90, hf⟩
 {
 refine W.cond_true (Y01 rfl hc90) ?_
 refine W.skip ?_
 refine hK89 _ _ ?_
 refine W.seqK fun K91 hK91 => ?_
 have Jk97 : ∀ (x93 : List Y0r) (a94 : Option Addr) (c95 : Nat) (n96 : Nat) (ρ : Env) (w : World), ρ 3 = .pointer (some ⟨g14, 0, none⟩) → ρ 6 = .pointer (some ⟨g17, 0, none⟩) → ρ 7 = .map (some g21) → ρ 9 = .slice a94 n96 c95 → ρ 11 = .pointer (some ⟨g76, 0, none⟩) → ρ 25 = .slice a50 (x1.Entries).length c51 → ρ 26 = .int .i64 ((x1.Entries).length : Int) → ρ 27 = .int .i64 x57 → ρ 32 = .slice a79 (x71.Objects).length c80 → ρ 33 = .int .i64 ((x71.Objects).length : Int) → ρ 34 = .int .i64 x86 → St ok (bz w0) w [vl (Y0a Y0b) x1.Entries (.slice a50 (x1.Entries).length c51), vl (Y0a tStr) x71.Objects (.slice a79 (x71.Objects).length c80), vl Y0b x71 (.agg cs74.toArray), vl Y0e x1 (.agg cs3.toArray)] [blk g76 65 cs74, own Y0x 105 (.slice a94 n96 c95) x93, mapq bstr Y3C g21 x19, blk g17 35 ([bstr [], .int .i64 0, .int .i64 0, .int .i64 0, .slice none 0 0]), blk g14 35 cs3] → Y0z.j3 x86 x93 = some os87 → K91 ρ w := by
  intro x93 a94 c95 n96 ρ w h92_3 h92_6 h92_7 h92_9 h92_11 h92_25 h92_26 h92_27 h92_32 h92_33 h92_34 hs hf
  refine hK91 _ _ ?_
  unfold Y0z.j3 at hf
  refine W.region ?_
  obtain ⟨x98, ex98, hf⟩ := letE hf
  refine WL.bin (v := .int .i64 x98) h92_34 rfl (Y1T ex98 (Y1w _ _ _)) ?_
  refine WL.move (v := .int .i64 x98) rfl ?_
  refine WL.nil ?_
  exact ⟨_, (Option.some.inj hf).symm, a94, c95, n96, h92_3, h92_6, h92_7, h92_9, h92_11, h92_25, h92_26, h92_27, h92_32, h92_33, rfl, (hs.mask [true, true, true, true, true]).pick [0, 1, 2, 3]⟩
 refine W.block ?_
 refine W.seqK fun K99 hK99 => ?_
 refine W.region ?_
 obtain ⟨x100, hxx100, hf⟩ := Y0v hf
 refine WL.indexAddr hs 1 rfl UN56 TI9 h81_32 h81_34 hxx100 (fun ad101 hs => ?_)
 refine WL.loadP hs 0 rfl TI9 (.inr rfl) rfl (fun v102 hs => ?_)
 obtain rfl := hs.str 0 rfl
 refine WL.assign (v := bstr x100) rfl ?_
 refine WL.nil ?_
 refine hK99 _ _ ?_
 refine W.seqK fun K103 hK103 => ?_
 refine W.region ?_
 refine WL.move (v := .map (some g21)) h81_7 ?_
 refine WL.move (v := bstr x100) rfl ?_
 obtain ⟨x104, exx104, hf⟩ := letE hf
 refine WL.lookupQ (a := x100) (z0 := (false : Bool)) hs 2 rfl (Y3R UN9) UN101 rfl rfl ZR4 (fun _ _ => ⟨[.bool false], rfl, rfl⟩) exx104 (fun v105 hs => ?_)
 obtain rfl := hs.bool 0 rfl
 refine WL.not rfl ?_
 refine WL.nil ?_
 refine hK103 _ _ ?_
 rcases iteE hf with ⟨hc106, hf⟩ | ⟨hc106, hf⟩
 {
 refine W.cond_true (Y01 rfl hc106) ?_
 refine W.region ?_
 refine WL.move (v := .slice a83 n85 c84) h81_9 ?_
 refine WL.fieldAddr (m := 0) h81_11 Y54 rfl ?_
 refine WL.loadF (z := x71.Key) Y21 hs 0 rfl 5 rfl rfl TI47 (.inl rfl) rfl rfl (fun v107 hs => ?_)
 obtain ⟨cs108, hl109, rfl⟩ := hs.aggv (n := 3) 0 rfl rfl rfl
 refine WL.move (v := bstr x100) rfl ?_
 refine WL.build (vs := [(0, .agg cs108.toArray), (1, bstr x100)]) (cs := cs108 ++ ([bstr x100] : List Value)) ⟨⟨rfl, rfl⟩, ⟨⟨rfl, rfl⟩, trivial⟩⟩ (bld PL105 (by simp [Y3T, Value.cells, bstr, List.drop_append, hl109])) ?_
 refine WL.buildSlice (n := 1) (vs := [(0, .agg (cs108 ++ ([bstr x100] : List Value) : List Value).toArray)]) (cs := cs108 ++ ([bstr x100] : List Value)) hs ⟨⟨rfl, rfl⟩, trivial⟩ (bls PS81 (by decide) (by simp [Y6b, Y3T, Value.cells, hl109])) (fun g110 w hs => ?_)
 obtain ⟨x111, hxx111, hf⟩ := Y0v hf
 obtain ⟨hbx111, hex111⟩ := appE hxx111
 refine WL.append (ys := [(⟨x71.Key, x100⟩ : Y0r)]) (zs := x111) hs 2 rfl 0 rfl UN81 EI105 rfl rfl (fun ok hA => (Y11.one (T := Y0x) (show Y0x.R ok _ (⟨x71.Key, x100⟩ : Y0r) _ from ⟨cs108, [bstr x100], by simp, (Y3d (hA.get 0 rfl) rfl), rfl⟩))) hbx111 (by omega) hex111 (fun v112 w hs => ?_)
 obtain ⟨a113, n115, c114, rfl⟩ := hs.ownv3 2 rfl
 refine WL.assign (v := .slice a113 n115 c114) rfl ?_
 refine WL.nil ?_
 exact Jk97 x111 a113 c114 n115 _ _ h81_3 h81_6 h81_7 rfl h81_11 h81_25 h81_26 h81_27 h81_32 h81_33 h81_34 ((hs.mask [false, true, true, true, true, true]).pick [4, 5, 6, 7]) hf }
 {
 refine W.cond_false (Y01 rfl hc106) ?_
 refine W.skip ?_
 exact Jk97 x82 a83 c84 n85 _ _ h81_3 h81_6 h81_7 h81_9 h81_11 h81_25 h81_26 h81_27 h81_32 h81_33 h81_34 ((hs.mask [true, true, true, true, true]).pick [3, 4, 5, 6]) hf } }
 {
 refine W.cond_false (Y01 rfl hc90) ?_
 refine W.exit ?_
 have hr := Option.some.inj hf; subst hr
 have hr := hbbs87 _ rfl; subst hr
 have hf := hfs87
 exact Jk68 x82 a83 c84 n85 _ _ h81_3 h81_6 h81_7 h81_9 h81_25 h81_26 h81_27 ((hs.mask [false, true, true, true, true]).pick [0, 3]) hf } }
 {
 refine W.cond_false (Y01 rfl hc61) ?_
 refine W.exit ?_
 have hr := Option.some.inj hf; subst hr
 have hr := hbbs58 _ rfl; subst hr
 have hf := hfs58
 exact Jk39 x53 a54 c55 n56 _ _ h52_3 h52_6 h52_9 ((hs.mask [true, false, true, true]).pick [1]) hf }
theorem Y0z.callc {ok : Nat → Prop} {w0 : World} {x1 : Y0N} {x5 : Y0y} {x9 : Y0y} {v2 : Value} {v6 : Value} {v10 : Value} {r : Y0N} (hf : Y0z x1 x5 x9 = some r) (i0 : (vl Y0e x1 v2).holds ok w0) (i1 : (vl Y0m x5 v6).holds ok w0) (i2 : (vl Y0m x9 v10).holds ok w0) :
  Calls Tryz.prog 28 #[v2, v6, v10] w0 fun e w' => ∃ v, e = .returned v ∧ ∃ y : List Value, v = .agg y.toArray ∧ St ok (bz w0) w' [vl Y0e r (.agg y.toArray)] [] := by
 refine (Y0z.calls (ok := ok) (w0 := w0) (x1 := x1) (x5 := x5) (x9 := x9) hf i0 i1 i2).mono ?_
 rintro e w' ⟨v, rfl, ⟨a118, n119, c120⟩, rfl, hs⟩
 obtain rfl := hs.ownLen 0 rfl
 have hs := hs.freezeOwn 0 rfl
 have hs := hs.add (it := vl Y0e (⟨(⟨r.Field.Name, r.Field.Kind, r.Field.f_Type, r.Field.At⟩ : Y0l), r.Entries⟩ : Y0N) (.agg [bstr r.Field.Name, .int .i64 r.Field.Kind, .int .i64 r.Field.f_Type, .int .i64 r.Field.At, .slice a118 (r.Entries).length c120].toArray)) fun ok hA => Y3c (show Y0e.R ok _ _ _ from ⟨[bstr r.Field.Name, .int .i64 r.Field.Kind, .int .i64 r.Field.f_Type, .int .i64 r.Field.At], [.slice a118 (r.Entries).length c120], rfl, ⟨[bstr r.Field.Name], [.int .i64 r.Field.Kind, .int .i64 r.Field.f_Type, .int .i64 r.Field.At], rfl, rfl, ⟨[.int .i64 r.Field.Kind], [.int .i64 r.Field.f_Type, .int .i64 r.Field.At], rfl, rfl, ⟨[.int .i64 r.Field.f_Type], [.int .i64 r.Field.At], rfl, rfl, rfl⟩⟩⟩, (Y4I (hA.get 0 rfl))⟩) rfl
 exact ⟨_, rfl, [bstr r.Field.Name, .int .i64 r.Field.Kind, .int .i64 r.Field.f_Type, .int .i64 r.Field.At, .slice a118 (r.Entries).length c120], rfl, hs.pick [0]⟩
end
section
open Go Go.RowKit Go.Proofs.YtpfgdjfiimknlaaGreatL
set_option maxRecDepth 100000
set_option maxHeartbeats 4000000
theorem Y0X.calls {ok : Nat → Prop} {w0 : World} {x1 : List Int} {x4 : List Int} {x7 : Int} {x8 : Int} {x9 : Int} {a2 : Option Addr} {c3 : Nat} {a5 : Option Addr} {c6 : Nat} {r : Bool} (hf : Y0X x1 x4 x7 x8 x9 = some r) (i0 : (vl (Y0a (tInt .i64)) x1 (.slice a2 x1.length c3)).holds ok w0) (i1 : (vl (Y0a (tInt .i64)) x4 (.slice a5 x4.length c6)).holds ok w0) :
  Calls Tryz.prog 8 #[.slice a2 x1.length c3, .slice a5 x4.length c6, .int .i64 x7, .int .i64 x8, .int .i64 x9] w0 fun e w' => ∃ v, e = .returned v ∧ ∃ y : Unit, v = .bool r ∧ St ok (bz w0) w' [] [] := by
 unfold Y0X at hf
 refine Y0w (fn := Tryz.f8) (N := 74) Tryz.func8 rfl Tryz.ntmps8 rfl ?_
 have hs : St ok (bz w0) w0 [vl (Y0a (tInt .i64)) x1 (.slice a2 x1.length c3), vl (Y0a (tInt .i64)) x4 (.slice a5 x4.length c6)] [] := St.init (All.cons i0 (All.cons i1 All.nil))
 clear i0 i1
 refine W.seqK fun K10 hK10 => ?_
 refine W.region ?_
 refine WL.assign (v := .bool false) rfl ?_
 refine WL.nil ?_
 refine hK10 _ _ ?_
 refine W.seqK fun K11 hK11 => ?_
 refine W.region ?_
 refine WL.move (v := .slice a2 x1.length c3) rfl ?_
 obtain ⟨x12, hxx12, hf⟩ := Y0v hf
 refine WL.call (vs := [.slice a2 x1.length c3]) hs FN10 ⟨rfl, trivial⟩ (fun ok hA => Y0o.calls (x1 := x1) hxx12 (hA.get 0 rfl)) ?_
 rintro ⟨a13, n14, c15⟩ w hs
 refine WL.assign (v := .slice a13 n14 c15) rfl ?_
 refine WL.nil ?_
 refine hK11 _ _ ?_
 refine W.seqK fun K16 hK16 => ?_
 refine W.region ?_
 refine WL.move (v := .slice a13 n14 c15) rfl ?_
 refine WL.move (v := .int .i64 x8) rfl ?_
 obtain rfl := hs.ownLen 0 rfl
 have hs := hs.freezeOwn 0 rfl
 obtain ⟨x17, hxx17, hf⟩ := Y0v hf
 refine WL.call (vs := [.slice a13 x12.length c15, .int .i64 x8]) hs FN26 ⟨rfl, ⟨rfl, trivial⟩⟩ (fun ok hA => Y0Z.calls (x1 := x12) (x4 := x8) hxx17 (hA.get 0 rfl)) ?_
 rintro ⟨a18, n19, c20⟩ w hs
 obtain rfl := hs.ownLen 0 rfl
 have hs := hs.freezeOwn 0 rfl
 obtain ⟨x21, hxx21, hf⟩ := Y0v hf
 refine WL.call (vs := [.slice a18 x17.length c20]) hs FN9 ⟨rfl, trivial⟩ (fun ok hA => Y1X.calls (x1 := x17) hxx21 (hA.get 0 rfl)) ?_
 rintro cs22 w hs
 have hl23 := hs.agglen (n := 1) 0 rfl rfl rfl
 refine WL.move (v := .slice a13 x12.length c15) rfl ?_
 refine WL.move (v := .int .i64 x9) rfl ?_
 obtain ⟨x24, hxx24, hf⟩ := Y0v hf
 refine WL.call (vs := [.slice a13 x12.length c15, .int .i64 x9]) hs FN26 ⟨rfl, ⟨rfl, trivial⟩⟩ (fun ok hA => Y0Z.calls (x1 := x12) (x4 := x9) hxx24 (hA.get 2 rfl)) ?_
 rintro ⟨a25, n26, c27⟩ w hs
 obtain rfl := hs.ownLen 0 rfl
 have hs := hs.freezeOwn 0 rfl
 obtain ⟨x28, hxx28, hf⟩ := Y0v hf
 refine WL.call (vs := [.slice a25 x24.length c27]) hs FN9 ⟨rfl, trivial⟩ (fun ok hA => Y1X.calls (x1 := x24) hxx28 (hA.get 0 rfl)) ?_
 rintro cs29 w hs
 have hl30 := hs.agglen (n := 1) 0 rfl rfl rfl
 refine WL.alloc hs ZV25 (fun g31 w hs => ?_)
 refine WL.alloc hs ZV25 (fun g32 w hs => ?_)
 refine WL.storeAll (vs := cs22) hs 1 rfl TI25 rfl rfl rfl hl23 (hs.ones 2 rfl rfl) rfl (fun w hs => ?_)
 refine WL.storeAll (vs := cs29) hs 0 rfl TI25 rfl rfl rfl hl30 (hs.ones 0 rfl rfl) rfl (fun w hs => ?_)
 refine WL.nil ?_
 refine hK16 _ _ ?_
 refine W.seqK fun K33 hK33 => ?_
 refine W.region ?_
 refine WL.move (v := .slice a5 x4.length c6) rfl ?_
 obtain ⟨x34, hxx34, hf⟩ := Y0v hf
 refine WL.call (vs := [.slice a5 x4.length c6]) hs FN10 ⟨rfl, trivial⟩ (fun ok hA => Y0o.calls (x1 := x4) hxx34 (hA.get 6 rfl)) ?_
 rintro ⟨a35, n36, c37⟩ w hs
 obtain rfl := hs.ownLen 0 rfl
 have hs := hs.freezeOwn 0 rfl
 obtain ⟨x38, hxx38, hf⟩ := Y0v hf
 refine WL.call (vs := [.slice a35 x34.length c37]) hs FN9 ⟨rfl, trivial⟩ (fun ok hA => Y1X.calls (x1 := x34) hxx38 (hA.get 0 rfl)) ?_
 rintro cs39 w hs
 have hl40 := hs.agglen (n := 1) 0 rfl rfl rfl
 refine WL.alloc hs ZV25 (fun g41 w hs => ?_)
 refine WL.storeAll (vs := cs39) hs 0 rfl TI25 rfl rfl rfl hl40 (hs.ones 0 rfl rfl) rfl (fun w hs => ?_)
 refine WL.nil ?_
 refine hK33 _ _ ?_
 refine W.seqK fun K42 hK42 => ?_
 refine W.region ?_
 refine WL.move (v := .int .i64 x7) rfl ?_
 obtain ⟨x43, hxx43, hf⟩ := Y0v hf
 refine WL.call (vs := [.int .i64 x7]) hs FN11 ⟨rfl, trivial⟩ (fun ok hA => Y1b.calls (x1 := x7) hxx43) ?_
 rintro cs44 w hs
 have hl45 := hs.agglen (n := 4) 0 rfl rfl rfl
 refine WL.alloc hs ZV31 (fun g46 w hs => ?_)
 refine WL.storeAll (vs := cs44) hs 0 rfl TI31 rfl rfl rfl hl45 (hs.ones 0 rfl rfl) rfl (fun w hs => ?_)
 refine WL.nil ?_
 refine hK42 _ _ ?_
 refine W.seqK fun K47 hK47 => ?_
 obtain ⟨x48, hxx48, hf⟩ := Y0v hf
 obtain ⟨x51, hxx51, hf⟩ := Y0v hf
 refine W.any (by kernel_rfl) 7 1 [true, true, true, true, true, true, true, false] rfl rfl (poAt [pv (.agg cs44.toArray), pv (.agg cs22.toArray), pq (fun y : List Value => .agg y.toArray) (fun v => [vl Y0e x48 v]) (fun v => []), pv (.agg cs22.toArray), pv (.agg cs29.toArray), pq (fun y : List Value => .agg y.toArray) (fun v => [vl Y0e x51 v]) (fun v => []), pq (fun y : Nat => .pointer (some ⟨y, 0, none⟩)) (fun v => []) (fun v => [blk (gOf v) 35 ([bstr [], .int .i64 0, .int .i64 0, .int .i64 0, .slice none 0 0])])]) (Λ := [blk g46 31 cs44, blk g41 25 cs39, blk g32 25 cs29, blk g31 25 cs22]) hs (by kernel_rfl) (by kernel_rfl) (by kernel_rfl) ⟨⟨⟨⟨⟨⟨⟨trivial, ?_⟩, ?_⟩, ?_⟩, ?_⟩, ?_⟩, ?_⟩, ?_⟩ ?_
 {
 intro ρ w Γx Λx hs hu hp
 refine WL.loadAll hs (Λx.length + 0) (Y0t rfl) TI31 (hu 15 rfl) hl45 ?_
 exact WL.nil ⟨rfl, _, rfl, rfl, hs.cutG 0 0⟩ }
 {
 intro ρ w Γx Λx hs hu hp
 refine WL.loadAll hs (Λx.length + 3) (Y0t rfl) TI25 (hu 12 rfl) hl23 ?_
 exact WL.nil ⟨rfl, _, rfl, rfl, hs.cutG 0 0⟩ }
 {
 intro ρ w Γx Λx hs hu hp
 have e55 : ρ 33 = .agg cs44.toArray := (hp 0 rfl).1
 have e56 : ρ 34 = .agg cs22.toArray := (hp 1 rfl).1
 refine WL.call (vs := [.agg cs44.toArray, .agg cs22.toArray]) hs FN12 ⟨e55, ⟨e56, trivial⟩⟩ (fun ok hA => Y1x.calls (x1 := x43) (x5 := x21) hxx48 (hA.get (Γx.length + 0) (Y0t rfl)) (hA.get (Γx.length + 5) (Y0t rfl))) ?_
 rintro cs49 w hs
 have hl50 := hs.agglen (n := 5) 0 rfl rfl rfl
 have hs := hs.add (it := vl Y0e x48 (.agg cs49.toArray)) fun ok hA => hA.get 0 rfl
 exact WL.nil ⟨rfl, _, rfl, ⟨cs49, rfl⟩, hs.cutG 1 1⟩ }
 {
 intro ρ w Γx Λx hs hu hp
 refine WL.loadAll hs (Λx.length + 3) (Y0t rfl) TI25 (hu 12 rfl) hl23 ?_
 exact WL.nil ⟨rfl, _, rfl, rfl, hs.cutG 0 0⟩ }
 {
 intro ρ w Γx Λx hs hu hp
 refine WL.loadAll hs (Λx.length + 2) (Y0t rfl) TI25 (hu 13 rfl) hl30 ?_
 exact WL.nil ⟨rfl, _, rfl, rfl, hs.cutG 0 0⟩ }
 {
 intro ρ w Γx Λx hs hu hp
 obtain ⟨⟨cs57, e59r⟩, hm60⟩ := hp 2 rfl
 have e59 : ρ 35 = .agg cs57.toArray := e59r
 rw [e59r] at hm60
 have hs := hs.memo1 (it := vl Y0e x48 (.agg cs57.toArray)) (List.mem_append.2 (.inl (hm60 _ (List.mem_of_getElem? (i := 0) rfl))))
 have hl58 := hs.agglen (n := 5) 0 rfl rfl rfl
 have e61 : ρ 36 = .agg cs22.toArray := (hp 3 rfl).1
 have e62 : ρ 37 = .agg cs29.toArray := (hp 4 rfl).1
 refine WL.call (vs := [.agg cs57.toArray, .agg cs22.toArray, .agg cs29.toArray]) hs FN28 ⟨e59, ⟨e61, ⟨e62, trivial⟩⟩⟩ (fun ok hA => Y0z.callc (x1 := x48) (x5 := x21) (x9 := x28) hxx51 (hA.get 0 rfl) (hA.get (Γx.length + 5 + 1) (Y2Q rfl)) (hA.get (Γx.length + 3 + 1) (Y2Q rfl))) ?_
 rintro cs52 w hs
 have hl53 := hs.agglen (n := 5) 0 rfl rfl rfl
 have hs := hs.add (it := vl Y0e x51 (.agg cs52.toArray)) fun ok hA => hA.get 0 rfl
 exact WL.nil ⟨rfl, _, rfl, ⟨cs52, rfl⟩, hs.cutG 1 2⟩ }
 {
 intro ρ w Γx Λx hs hu hp
 refine WL.alloc hs ZV35 (fun g54 w hs => ?_)
 exact WL.nil ⟨rfl, _, rfl, ⟨g54, rfl⟩, hs.cutG 0 0⟩ }
 {
 intro ρ w hs hu63 hp
 obtain ⟨⟨⟨⟨⟨⟨⟨_, hp0_⟩, hp1_⟩, hp2_⟩, hp3_⟩, hp4_⟩, hp5_⟩, hp6_⟩ := hp
 have hs : St ok (bz w0) w [vl Y0e x51 (ρ 38), vl Y0e x48 (ρ 35), vl Y0g x43 (.agg cs44.toArray), vl Y0m x38 (.agg cs39.toArray), vl (Y0a Y0h) x34 (.slice a35 x34.length c37), vl Y0m x28 (.agg cs29.toArray), vl (Y0a Y0h) x24 (.slice a25 x24.length c27), vl Y0m x21 (.agg cs22.toArray), vl (Y0a Y0h) x17 (.slice a18 x17.length c20), vl (Y0a Y0h) x12 (.slice a13 x12.length c15), vl (Y0a (tInt .i64)) x1 (.slice a2 x1.length c3), vl (Y0a (tInt .i64)) x4 (.slice a5 x4.length c6)] [blk (gOf ((ρ 16))) 35 ([bstr [], .int .i64 0, .int .i64 0, .int .i64 0, .slice none 0 0]), blk g46 31 cs44, blk g41 25 cs39, blk g32 25 cs29, blk g31 25 cs22] := hs
 obtain ⟨g64, e65⟩ := hp6_
 have e65 : ρ 16 = .pointer (some ⟨g64, 0, none⟩) := e65
 try rw [e65] at hs
 obtain ⟨cs66, e68⟩ := hp5_
 have e68 : ρ 38 = .agg cs66.toArray := e68
 try rw [e68] at hs
 have e69 : ρ 37 = .agg cs29.toArray := hp4_
 have e70 : ρ 36 = .agg cs22.toArray := hp3_
 obtain ⟨cs71, e73⟩ := hp2_
 have e73 : ρ 35 = .agg cs71.toArray := e73
 try rw [e73] at hs
 have e74 : ρ 34 = .agg cs22.toArray := hp1_
 have e75 : ρ 33 = .agg cs44.toArray := hp0_
 have hl72 := hs.agglen (n := 5) 1 rfl rfl rfl
 have hl67 := hs.agglen (n := 5) 0 rfl rfl rfl
 refine WA.step [7] (by kernel_rfl) (by simp) ⟨?_, trivial⟩
 refine WL.storeAll (vs := cs66) hs 0 rfl TI35 e65 e68 rfl hl67 (hs.ones 0 rfl rfl) rfl (fun w hs => ?_)
 refine WL.nil ⟨rfl, _, rfl, ?_⟩
 refine WA.done (by kernel_rfl) ?_
 refine hK47 _ _ ?_
 refine W.seqK fun K76 hK76 => ?_
 refine W.region ?_
 refine WL.loadAll hs 0 rfl TI35 e65 hl67 ?_
 refine WL.loadAll hs 3 rfl TI25 (hu63 13 rfl) hl30 ?_
 refine WL.loadAll hs 2 rfl TI25 (hu63 14 rfl) hl40 ?_
 obtain ⟨x77, hxx77, hf⟩ := Y0v hf
 refine WL.call (vs := [.agg cs66.toArray, .agg cs29.toArray, .agg cs39.toArray]) hs FN28 ⟨rfl, ⟨rfl, ⟨rfl, trivial⟩⟩⟩ (fun ok hA => Y0z.calls (x1 := x51) (x5 := x28) (x9 := x38) hxx77 (hA.get 0 rfl) (hA.get 5 rfl) (hA.get 3 rfl)) ?_
 rintro ⟨a78, n79, c80⟩ w hs
 refine WL.alloc hs ZV35 (fun g81 w hs => ?_)
 refine WL.storeAll (vs := [bstr x77.Field.Name, .int .i64 x77.Field.Kind, .int .i64 x77.Field.f_Type, .int .i64 x77.Field.At, .slice a78 n79 c80]) hs 0 rfl TI35 rfl rfl rfl rfl (Y10 rfl) rfl (fun w hs => ?_)
 refine WL.nil ?_
 refine hK76 _ _ ?_
 refine W.seqK fun K82 hK82 => ?_
 have Jk85 : ∀ (x84 : Bool) (ρ : Env) (w : World), ρ 10 = .bool x84 → St ok (bz w0) w [] [] → Y0X.j1 x84 = some r → K82 ρ w := by
  intro x84 ρ w h83_10 hs hf
  refine hK82 _ _ ?_
  unfold Y0X.j1 at hf
  refine W.ret ?_
  have hr := Option.some.inj hf; subst hr
  exact ⟨_, Y0i rfl h83_10, (), rfl, (hs.mask []).pick []⟩
 obtain rfl := hs.ownLen 1 rfl
 have hs := hs.freezeOwn 1 rfl
 obtain ⟨x105, hxx105, hf⟩ := Y0v hf
 obtain ⟨x108, hxx108, hf⟩ := Y0v hf
 rcases iteE hf with ⟨hc109, hf⟩ | ⟨hc109, hf⟩
 {
 obtain ⟨x110, hxx110, hf⟩ := Y0v hf
 obtain ⟨x113, hxx113, hf⟩ := Y0v hf
 rcases iteE hf with ⟨hc114, hf⟩ | ⟨hc114, hf⟩
 {
 obtain ⟨x115, hxx115, hf⟩ := Y0v hf
 obtain ⟨x118, hxx118, hf⟩ := Y0v hf
 rcases iteE hf with ⟨hc119, hf⟩ | ⟨hc119, hf⟩
 {
 obtain ⟨x120, hxx120, hf⟩ := Y0v hf
 obtain ⟨x123, hxx123, hf⟩ := Y0v hf
 rcases iteE hf with ⟨hc124, hf⟩ | ⟨hc124, hf⟩
 {
 obtain ⟨x125, hxx125, hf⟩ := Y0v hf
 refine W.any (by kernel_rfl) 31 1 [true, true, true, true, true, true, true, true, true, true, true, true, true, true, true, true, true, true, true, true, true, true, true, true, true, true, true, true, true, true, true, false] rfl rfl (poAt [pv (.pointer (some ⟨g64, 4, none⟩)), pq (fun y : (Option Addr × Nat) => .slice y.1 (x51.Entries).length y.2) (fun v => [vl (Y0a Y0b) x51.Entries v]) (fun v => []), pv (.agg cs44.toArray), pv (.agg cs29.toArray), pq (fun y : (Option Addr × Nat) => .slice y.1 x105.length y.2) (fun v => [vl (Y0a Y03) x105 v]) (fun v => []), pv (.bool x108), pv (.bool x108), pv (.agg cs66.toArray), pv (.agg cs44.toArray), pv (.agg cs29.toArray), pq (fun y : List Value => .agg y.toArray) (fun v => [vl Y0e x110 v]) (fun v => []), pv (.bool x113), pv (.bool x113), pv (.bool x113), pv (.pointer (some ⟨g81, 4, none⟩)), pv (.slice a78 (x77.Entries).length c80), pv (.agg cs44.toArray), pv (.agg cs39.toArray), pq (fun y : (Option Addr × Nat) => .slice y.1 x115.length y.2) (fun v => [vl (Y0a Y03) x115 v]) (fun v => []), pv (.bool x118), pv (.bool x118), pv (.bool x118), pv (.agg ([bstr x77.Field.Name, .int .i64 x77.Field.Kind, .int .i64 x77.Field.f_Type, .int .i64 x77.Field.At, .slice a78 (x77.Entries).length c80] : List Value).toArray), pv (.agg cs44.toArray), pv (.agg cs39.toArray), pq (fun y : List Value => .agg y.toArray) (fun v => [vl Y0e x120 v]) (fun v => []), pv (.bool x123), pv (.bool x123), pv (.bool x123), pv (.bool x125), pv (.bool x125)]) (Λ := [blk g81 35 [bstr x77.Field.Name, .int .i64 x77.Field.Kind, .int .i64 x77.Field.f_Type, .int .i64 x77.Field.At, .slice a78 (x77.Entries).length c80], blk g64 35 cs66, blk g46 31 cs44, blk g41 25 cs39, blk g32 25 cs29, blk g31 25 cs22]) hs (by kernel_rfl) (by kernel_rfl) (by kernel_rfl) ⟨⟨⟨⟨⟨⟨⟨⟨⟨⟨⟨⟨⟨⟨⟨⟨⟨⟨⟨⟨⟨⟨⟨⟨⟨⟨⟨⟨⟨⟨⟨trivial, ?_⟩, ?_⟩, ?_⟩, ?_⟩, ?_⟩, ?_⟩, ?_⟩, ?_⟩, ?_⟩, ?_⟩, ?_⟩, ?_⟩, ?_⟩, ?_⟩, ?_⟩, ?_⟩, ?_⟩, ?_⟩, ?_⟩, ?_⟩, ?_⟩, ?_⟩, ?_⟩, ?_⟩, ?_⟩, ?_⟩, ?_⟩, ?_⟩, ?_⟩, ?_⟩, ?_⟩ ?_
 {
 intro ρ w Γx Λx hs hu hp
 refine WL.fieldAddr (m := 4) ((hu 16 rfl).trans e65) Y3e rfl ?_
 exact WL.nil ⟨rfl, _, rfl, rfl, hs.cutG 0 0⟩ }
 {
 intro ρ w Γx Λx hs hu hp
 have e126 : ρ 43 = .pointer (some ⟨g64, 4, none⟩) := (hp 0 rfl).1
 refine WL.loadF (z := x51.Entries) Y1c hs (Λx.length + 1) (Y0t rfl) (Γx.length + 1) (Y0t rfl) rfl TI33 (.inr rfl) e126 rfl (fun v102 hs => ?_)
 obtain ⟨a103, c104, rfl⟩ := hs.slice 0 rfl
 have hs := hs.add (it := vl (Y0a Y0b) x51.Entries (.slice a103 (x51.Entries).length c104)) fun ok hA => hA.get 0 rfl
 exact WL.nil ⟨rfl, _, rfl, ⟨(a103, c104), rfl⟩, hs.cutG 1 1⟩ }
 {
 intro ρ w Γx Λx hs hu hp
 refine WL.loadAll hs (Λx.length + 2) (Y0t rfl) TI31 ((hu 15 rfl).trans (hu63 15 rfl)) hl45 ?_
 exact WL.nil ⟨rfl, _, rfl, rfl, hs.cutG 0 0⟩ }
 {
 intro ρ w Γx Λx hs hu hp
 refine WL.loadAll hs (Λx.length + 4) (Y0t rfl) TI25 ((hu 13 rfl).trans (hu63 13 rfl)) hl30 ?_
 exact WL.nil ⟨rfl, _, rfl, rfl, hs.cutG 0 0⟩ }
 {
 intro ρ w Γx Λx hs hu hp
 have e127 : ρ 45 = .agg cs44.toArray := (hp 2 rfl).1
 have e128 : ρ 46 = .agg cs29.toArray := (hp 3 rfl).1
 refine WL.call (vs := [.agg cs44.toArray, .agg cs29.toArray]) hs FN17 ⟨e127, ⟨e128, trivial⟩⟩ (fun ok hA => Y0f.callc (x1 := x43) (x5 := x28) hxx105 (hA.get (Γx.length + 3) (Y0t rfl)) (hA.get (Γx.length + 6) (Y0t rfl))) ?_
 rintro ⟨a106, c107⟩ w hs
 have hs := hs.add (it := vl (Y0a Y03) x105 (.slice a106 x105.length c107)) fun ok hA => hA.get 0 rfl
 exact WL.nil ⟨rfl, _, rfl, ⟨(a106, c107), rfl⟩, hs.cutG 1 1⟩ }
 {
 intro ρ w Γx Λx hs hu hp
 obtain ⟨⟨⟨a129, c130⟩, e131r⟩, hm132⟩ := hp 1 rfl
 have e131 : ρ 44 = .slice a129 (x51.Entries).length c130 := e131r
 rw [e131r] at hm132
 have hs := hs.memo1 (it := vl (Y0a Y0b) x51.Entries (.slice a129 (x51.Entries).length c130)) (List.mem_append.2 (.inl (hm132 _ (List.mem_of_getElem? (i := 0) rfl))))
 obtain ⟨⟨⟨a133, c134⟩, e135r⟩, hm136⟩ := hp 4 rfl
 have e135 : ρ 47 = .slice a133 x105.length c134 := e135r
 rw [e135r] at hm136
 have hs := hs.memo1 (it := vl (Y0a Y03) x105 (.slice a133 x105.length c134)) (List.mem_cons_of_mem _ (List.mem_append.2 (.inl (hm136 _ (List.mem_of_getElem? (i := 0) rfl)))))
 refine WL.call (vs := [.slice a129 (x51.Entries).length c130, .slice a133 x105.length c134]) hs FN16 ⟨e131, ⟨e135, trivial⟩⟩ (fun ok hA => Y0L.calls (x1 := x51.Entries) (x4 := x105) hxx108 (hA.get 1 rfl) (hA.get 0 rfl)) ?_
 rintro _ w hs
 exact WL.nil ⟨rfl, _, rfl, rfl, hs.cutG 0 2⟩ }
 {
 intro ρ w Γx Λx hs hu hp
 have e137 : ρ 48 = .bool x108 := (hp 5 rfl).1
 refine WL.move (v := .bool x108) e137 ?_
 exact WL.nil ⟨rfl, _, rfl, rfl, hs.cutG 0 0⟩ }
 {
 intro ρ w Γx Λx hs hu hp
 have e138 : ρ 49 = .bool x108 := (hp 6 rfl).1
 refine WL.loadAll hs (Λx.length + 1) (Y0t rfl) TI35 ((hu 16 rfl).trans e65) hl67 ?_ (hg := (Y00 rfl rfl (Y01 e138 hc109)).trans rfl)
 exact WL.nil ⟨rfl, _, rfl, rfl, hs.cutG 0 0⟩ }
 {
 intro ρ w Γx Λx hs hu hp
 have e139 : ρ 49 = .bool x108 := (hp 6 rfl).1
 refine WL.loadAll hs (Λx.length + 2) (Y0t rfl) TI31 ((hu 15 rfl).trans (hu63 15 rfl)) hl45 ?_ (hg := (Y00 rfl rfl (Y01 e139 hc109)).trans rfl)
 exact WL.nil ⟨rfl, _, rfl, rfl, hs.cutG 0 0⟩ }
 {
 intro ρ w Γx Λx hs hu hp
 have e140 : ρ 49 = .bool x108 := (hp 6 rfl).1
 refine WL.loadAll hs (Λx.length + 4) (Y0t rfl) TI25 ((hu 13 rfl).trans (hu63 13 rfl)) hl30 ?_ (hg := (Y00 rfl rfl (Y01 e140 hc109)).trans rfl)
 exact WL.nil ⟨rfl, _, rfl, rfl, hs.cutG 0 0⟩ }
 {
 intro ρ w Γx Λx hs hu hp
 have e141 : ρ 51 = .agg cs44.toArray := (hp 8 rfl).1
 have e142 : ρ 52 = .agg cs29.toArray := (hp 9 rfl).1
 have e143 : ρ 49 = .bool x108 := (hp 6 rfl).1
 refine WL.call (vs := [.agg cs44.toArray, .agg cs29.toArray]) hs FN12 ⟨e141, ⟨e142, trivial⟩⟩ (fun ok hA => Y1x.calls (x1 := x43) (x5 := x28) hxx110 (hA.get (Γx.length + 3) (Y0t rfl)) (hA.get (Γx.length + 6) (Y0t rfl))) ?_ (hg := (Y00 rfl rfl (Y01 e143 hc109)).trans rfl)
 rintro cs111 w hs
 have hl112 := hs.agglen (n := 5) 0 rfl rfl rfl
 have hs := hs.add (it := vl Y0e x110 (.agg cs111.toArray)) fun ok hA => hA.get 0 rfl
 exact WL.nil ⟨rfl, _, rfl, ⟨cs111, rfl⟩, hs.cutG 1 1⟩ }
 {
 intro ρ w Γx Λx hs hu hp
 have e144 : ρ 50 = .agg cs66.toArray := (hp 7 rfl).1
 obtain ⟨⟨cs145, e147r⟩, hm148⟩ := hp 10 rfl
 have e147 : ρ 53 = .agg cs145.toArray := e147r
 rw [e147r] at hm148
 have hs := hs.memo1 (it := vl Y0e x110 (.agg cs145.toArray)) (List.mem_append.2 (.inl (hm148 _ (List.mem_of_getElem? (i := 0) rfl))))
 have hl146 := hs.agglen (n := 5) 0 rfl rfl rfl
 have e149 : ρ 49 = .bool x108 := (hp 6 rfl).1
 refine WL.call (vs := [.agg cs66.toArray, .agg cs145.toArray]) hs FN27 ⟨e144, ⟨e147, trivial⟩⟩ (fun ok hA => Y0W.calls (x1 := x51) (x5 := x110) hxx113 (hA.get (Γx.length + 1 + 1) (Y2Q rfl)) (hA.get 0 rfl)) ?_ (hg := (Y00 rfl rfl (Y01 e149 hc109)).trans rfl)
 rintro _ w hs
 exact WL.nil ⟨rfl, _, rfl, rfl, hs.cutG 0 1⟩ }
 {
 intro ρ w Γx Λx hs hu hp
 have e150 : ρ 49 = .bool x108 := (hp 6 rfl).1
 have e151 : ρ 54 = .bool x113 := (hp 11 rfl).1
 refine WL.pickT (v := .bool x113) (Y01 e150 hc109) e151 ?_
 exact WL.nil ⟨rfl, _, rfl, rfl, hs.cutG 0 0⟩ }
 {
 intro ρ w Γx Λx hs hu hp
 have e152 : ρ 55 = .bool x113 := (hp 12 rfl).1
 refine WL.move (v := .bool x113) e152 ?_
 exact WL.nil ⟨rfl, _, rfl, rfl, hs.cutG 0 0⟩ }
 {
 intro ρ w Γx Λx hs hu hp
 have e153 : ρ 56 = .bool x113 := (hp 13 rfl).1
 refine WL.fieldAddr (m := 4) (hu 17 rfl) Y3e rfl ?_ (hg := (Y00 rfl rfl (Y01 e153 hc114)).trans rfl)
 exact WL.nil ⟨rfl, _, rfl, rfl, hs.cutG 0 0⟩ }
 {
 intro ρ w Γx Λx hs hu hp
 have e154 : ρ 57 = .pointer (some ⟨g81, 4, none⟩) := (hp 14 rfl).1
 have e155 : ρ 56 = .bool x113 := (hp 13 rfl).1
 refine WL.load1 (v := .slice a78 (x77.Entries).length c80) hs (Λx.length + 0) (Y0t rfl) TI33 e154 rfl ?_ (hg := (Y00 rfl rfl (Y01 e155 hc114)).trans rfl)
 exact WL.nil ⟨rfl, _, rfl, rfl, hs.cutG 0 0⟩ }
 {
 intro ρ w Γx Λx hs hu hp
 have e156 : ρ 56 = .bool x113 := (hp 13 rfl).1
 refine WL.loadAll hs (Λx.length + 2) (Y0t rfl) TI31 ((hu 15 rfl).trans (hu63 15 rfl)) hl45 ?_ (hg := (Y00 rfl rfl (Y01 e156 hc114)).trans rfl)
 exact WL.nil ⟨rfl, _, rfl, rfl, hs.cutG 0 0⟩ }
 {
 intro ρ w Γx Λx hs hu hp
 have e157 : ρ 56 = .bool x113 := (hp 13 rfl).1
 refine WL.loadAll hs (Λx.length + 3) (Y0t rfl) TI25 ((hu 14 rfl).trans (hu63 14 rfl)) hl40 ?_ (hg := (Y00 rfl rfl (Y01 e157 hc114)).trans rfl)
 exact WL.nil ⟨rfl, _, rfl, rfl, hs.cutG 0 0⟩ }
 {
 intro ρ w Γx Λx hs hu hp
 have e158 : ρ 59 = .agg cs44.toArray := (hp 16 rfl).1
 have e159 : ρ 60 = .agg cs39.toArray := (hp 17 rfl).1
 have e160 : ρ 56 = .bool x113 := (hp 13 rfl).1
 refine WL.call (vs := [.agg cs44.toArray, .agg cs39.toArray]) hs FN17 ⟨e158, ⟨e159, trivial⟩⟩ (fun ok hA => Y0f.callc (x1 := x43) (x5 := x38) hxx115 (hA.get (Γx.length + 3) (Y0t rfl)) (hA.get (Γx.length + 4) (Y0t rfl))) ?_ (hg := (Y00 rfl rfl (Y01 e160 hc114)).trans rfl)
 rintro ⟨a116, c117⟩ w hs
 have hs := hs.add (it := vl (Y0a Y03) x115 (.slice a116 x115.length c117)) fun ok hA => hA.get 0 rfl
 exact WL.nil ⟨rfl, _, rfl, ⟨(a116, c117), rfl⟩, hs.cutG 1 1⟩ }
 {
 intro ρ w Γx Λx hs hu hp
 have e161 : ρ 58 = .slice a78 (x77.Entries).length c80 := (hp 15 rfl).1
 obtain ⟨⟨⟨a162, c163⟩, e164r⟩, hm165⟩ := hp 18 rfl
 have e164 : ρ 61 = .slice a162 x115.length c163 := e164r
 rw [e164r] at hm165
 have hs := hs.memo1 (it := vl (Y0a Y03) x115 (.slice a162 x115.length c163)) (List.mem_append.2 (.inl (hm165 _ (List.mem_of_getElem? (i := 0) rfl))))
 have e166 : ρ 56 = .bool x113 := (hp 13 rfl).1
 refine WL.call (vs := [.slice a78 (x77.Entries).length c80, .slice a162 x115.length c163]) hs FN16 ⟨e161, ⟨e164, trivial⟩⟩ (fun ok hA => Y0L.calls (x1 := x77.Entries) (x4 := x115) hxx118 (hA.get (Γx.length + 0 + 1) (Y2Q rfl)) (hA.get 0 rfl)) ?_ (hg := (Y00 rfl rfl (Y01 e166 hc114)).trans rfl)
 rintro _ w hs
 exact WL.nil ⟨rfl, _, rfl, rfl, hs.cutG 0 1⟩ }
 {
 intro ρ w Γx Λx hs hu hp
 have e167 : ρ 56 = .bool x113 := (hp 13 rfl).1
 have e168 : ρ 62 = .bool x118 := (hp 19 rfl).1
 refine WL.pickT (v := .bool x118) (Y01 e167 hc114) e168 ?_
 exact WL.nil ⟨rfl, _, rfl, rfl, hs.cutG 0 0⟩ }
 {
 intro ρ w Γx Λx hs hu hp
 have e169 : ρ 63 = .bool x118 := (hp 20 rfl).1
 refine WL.move (v := .bool x118) e169 ?_
 exact WL.nil ⟨rfl, _, rfl, rfl, hs.cutG 0 0⟩ }
 {
 intro ρ w Γx Λx hs hu hp
 have e170 : ρ 64 = .bool x118 := (hp 21 rfl).1
 refine WL.loadN (vs := [bstr x77.Field.Name, .int .i64 x77.Field.Kind, .int .i64 x77.Field.f_Type, .int .i64 x77.Field.At, .slice a78 (x77.Entries).length c80]) hs (Λx.length + 0) (Y0t rfl) TI35 (hu 17 rfl) rfl rfl ?_ (hg := (Y00 rfl rfl (Y01 e170 hc119)).trans rfl)
 exact WL.nil ⟨rfl, _, rfl, rfl, hs.cutG 0 0⟩ }
 {
 intro ρ w Γx Λx hs hu hp
 have e171 : ρ 64 = .bool x118 := (hp 21 rfl).1
 refine WL.loadAll hs (Λx.length + 2) (Y0t rfl) TI31 ((hu 15 rfl).trans (hu63 15 rfl)) hl45 ?_ (hg := (Y00 rfl rfl (Y01 e171 hc119)).trans rfl)
 exact WL.nil ⟨rfl, _, rfl, rfl, hs.cutG 0 0⟩ }
 {
 intro ρ w Γx Λx hs hu hp
 have e172 : ρ 64 = .bool x118 := (hp 21 rfl).1
 refine WL.loadAll hs (Λx.length + 3) (Y0t rfl) TI25 ((hu 14 rfl).trans (hu63 14 rfl)) hl40 ?_ (hg := (Y00 rfl rfl (Y01 e172 hc119)).trans rfl)
 exact WL.nil ⟨rfl, _, rfl, rfl, hs.cutG 0 0⟩ }
 {
 intro ρ w Γx Λx hs hu hp
 have e173 : ρ 66 = .agg cs44.toArray := (hp 23 rfl).1
 have e174 : ρ 67 = .agg cs39.toArray := (hp 24 rfl).1
 have e175 : ρ 64 = .bool x118 := (hp 21 rfl).1
 refine WL.call (vs := [.agg cs44.toArray, .agg cs39.toArray]) hs FN12 ⟨e173, ⟨e174, trivial⟩⟩ (fun ok hA => Y1x.calls (x1 := x43) (x5 := x38) hxx120 (hA.get (Γx.length + 3) (Y0t rfl)) (hA.get (Γx.length + 4) (Y0t rfl))) ?_ (hg := (Y00 rfl rfl (Y01 e175 hc119)).trans rfl)
 rintro cs121 w hs
 have hl122 := hs.agglen (n := 5) 0 rfl rfl rfl
 have hs := hs.add (it := vl Y0e x120 (.agg cs121.toArray)) fun ok hA => hA.get 0 rfl
 exact WL.nil ⟨rfl, _, rfl, ⟨cs121, rfl⟩, hs.cutG 1 1⟩ }
 {
 intro ρ w Γx Λx hs hu hp
 have e176 : ρ 65 = .agg ([bstr x77.Field.Name, .int .i64 x77.Field.Kind, .int .i64 x77.Field.f_Type, .int .i64 x77.Field.At, .slice a78 (x77.Entries).length c80] : List Value).toArray := (hp 22 rfl).1
 obtain ⟨⟨cs177, e179r⟩, hm180⟩ := hp 25 rfl
 have e179 : ρ 68 = .agg cs177.toArray := e179r
 rw [e179r] at hm180
 have hs := hs.memo1 (it := vl Y0e x120 (.agg cs177.toArray)) (List.mem_append.2 (.inl (hm180 _ (List.mem_of_getElem? (i := 0) rfl))))
 have hl178 := hs.agglen (n := 5) 0 rfl rfl rfl
 have e181 : ρ 64 = .bool x118 := (hp 21 rfl).1
 have hs := hs.add (it := vl Y0e (⟨(⟨x77.Field.Name, x77.Field.Kind, x77.Field.f_Type, x77.Field.At⟩ : Y0l), x77.Entries⟩ : Y0N) (.agg [bstr x77.Field.Name, .int .i64 x77.Field.Kind, .int .i64 x77.Field.f_Type, .int .i64 x77.Field.At, .slice a78 (x77.Entries).length c80].toArray)) fun ok hA => Y3c (show Y0e.R ok _ _ _ from ⟨[bstr x77.Field.Name, .int .i64 x77.Field.Kind, .int .i64 x77.Field.f_Type, .int .i64 x77.Field.At], [.slice a78 (x77.Entries).length c80], rfl, ⟨[bstr x77.Field.Name], [.int .i64 x77.Field.Kind, .int .i64 x77.Field.f_Type, .int .i64 x77.Field.At], rfl, rfl, ⟨[.int .i64 x77.Field.Kind], [.int .i64 x77.Field.f_Type, .int .i64 x77.Field.At], rfl, rfl, ⟨[.int .i64 x77.Field.f_Type], [.int .i64 x77.Field.At], rfl, rfl, rfl⟩⟩⟩, (Y4I (hA.get (Γx.length + 0 + 1) (Y2Q rfl)))⟩) rfl
 refine WL.call (vs := [.agg ([bstr x77.Field.Name, .int .i64 x77.Field.Kind, .int .i64 x77.Field.f_Type, .int .i64 x77.Field.At, .slice a78 (x77.Entries).length c80] : List Value).toArray, .agg cs177.toArray]) hs FN27 ⟨e176, ⟨e179, trivial⟩⟩ (fun ok hA => Y0W.calls (x1 := (⟨(⟨x77.Field.Name, x77.Field.Kind, x77.Field.f_Type, x77.Field.At⟩ : Y0l), x77.Entries⟩ : Y0N)) (x5 := x120) hxx123 (hA.get 0 rfl) (hA.get 1 rfl)) ?_ (hg := (Y00 rfl rfl (Y01 e181 hc119)).trans rfl)
 rintro _ w hs
 exact WL.nil ⟨rfl, _, rfl, rfl, hs.cutG 0 2⟩ }
 {
 intro ρ w Γx Λx hs hu hp
 have e182 : ρ 64 = .bool x118 := (hp 21 rfl).1
 have e183 : ρ 69 = .bool x123 := (hp 26 rfl).1
 refine WL.pickT (v := .bool x123) (Y01 e182 hc119) e183 ?_
 exact WL.nil ⟨rfl, _, rfl, rfl, hs.cutG 0 0⟩ }
 {
 intro ρ w Γx Λx hs hu hp
 have e184 : ρ 70 = .bool x123 := (hp 27 rfl).1
 refine WL.move (v := .bool x123) e184 ?_
 exact WL.nil ⟨rfl, _, rfl, rfl, hs.cutG 0 0⟩ }
 {
 intro ρ w Γx Λx hs hu hp
 have e185 : ρ 71 = .bool x123 := (hp 28 rfl).1
 refine WL.call (vs := []) hs FN18 trivial (fun ok hA => Y0P.calls hxx125) ?_ (hg := (Y00 rfl rfl (Y01 e185 hc124)).trans rfl)
 rintro _ w hs
 exact WL.nil ⟨rfl, _, rfl, rfl, hs.cutG 0 0⟩ }
 {
 intro ρ w Γx Λx hs hu hp
 have e186 : ρ 71 = .bool x123 := (hp 28 rfl).1
 have e187 : ρ 72 = .bool x125 := (hp 29 rfl).1
 refine WL.pickT (v := .bool x125) (Y01 e186 hc124) e187 ?_
 exact WL.nil ⟨rfl, _, rfl, rfl, hs.cutG 0 0⟩ }
 {
 intro ρ w hs hu188 hp
 obtain ⟨⟨⟨⟨⟨⟨⟨⟨⟨⟨⟨⟨⟨⟨⟨⟨⟨⟨⟨⟨⟨⟨⟨⟨⟨⟨⟨⟨⟨⟨⟨_, hp0_⟩, hp1_⟩, hp2_⟩, hp3_⟩, hp4_⟩, hp5_⟩, hp6_⟩, hp7_⟩, hp8_⟩, hp9_⟩, hp10_⟩, hp11_⟩, hp12_⟩, hp13_⟩, hp14_⟩, hp15_⟩, hp16_⟩, hp17_⟩, hp18_⟩, hp19_⟩, hp20_⟩, hp21_⟩, hp22_⟩, hp23_⟩, hp24_⟩, hp25_⟩, hp26_⟩, hp27_⟩, hp28_⟩, hp29_⟩, hp30_⟩ := hp
 have hs : St ok (bz w0) w [vl Y0e x120 (ρ 68), vl (Y0a Y03) x115 (ρ 61), vl Y0e x110 (ρ 53), vl (Y0a Y03) x105 (ρ 47), vl (Y0a Y0b) x51.Entries (ρ 44), vl (Y0a Y0b) x77.Entries (.slice a78 (x77.Entries).length c80), vl Y0e x51 (.agg cs66.toArray), vl Y0e x48 (.agg cs71.toArray), vl Y0g x43 (.agg cs44.toArray), vl Y0m x38 (.agg cs39.toArray), vl (Y0a Y0h) x34 (.slice a35 x34.length c37), vl Y0m x28 (.agg cs29.toArray), vl (Y0a Y0h) x24 (.slice a25 x24.length c27), vl Y0m x21 (.agg cs22.toArray), vl (Y0a Y0h) x17 (.slice a18 x17.length c20), vl (Y0a Y0h) x12 (.slice a13 x12.length c15), vl (Y0a (tInt .i64)) x1 (.slice a2 x1.length c3), vl (Y0a (tInt .i64)) x4 (.slice a5 x4.length c6)] [blk g81 35 [bstr x77.Field.Name, .int .i64 x77.Field.Kind, .int .i64 x77.Field.f_Type, .int .i64 x77.Field.At, .slice a78 (x77.Entries).length c80], blk g64 35 cs66, blk g46 31 cs44, blk g41 25 cs39, blk g32 25 cs29, blk g31 25 cs22] := hs
 have e189 : ρ 73 = .bool x125 := hp30_
 have e190 : ρ 72 = .bool x125 := hp29_
 have e191 : ρ 71 = .bool x123 := hp28_
 have e192 : ρ 70 = .bool x123 := hp27_
 have e193 : ρ 69 = .bool x123 := hp26_
 obtain ⟨cs194, e196⟩ := hp25_
 have e196 : ρ 68 = .agg cs194.toArray := e196
 try rw [e196] at hs
 have e197 : ρ 67 = .agg cs39.toArray := hp24_
 have e198 : ρ 66 = .agg cs44.toArray := hp23_
 have e199 : ρ 65 = .agg ([bstr x77.Field.Name, .int .i64 x77.Field.Kind, .int .i64 x77.Field.f_Type, .int .i64 x77.Field.At, .slice a78 (x77.Entries).length c80] : List Value).toArray := hp22_
 have e200 : ρ 64 = .bool x118 := hp21_
 have e201 : ρ 63 = .bool x118 := hp20_
 have e202 : ρ 62 = .bool x118 := hp19_
 obtain ⟨⟨a203, c204⟩, e205⟩ := hp18_
 have e205 : ρ 61 = .slice a203 x115.length c204 := e205
 try rw [e205] at hs
 have e206 : ρ 60 = .agg cs39.toArray := hp17_
 have e207 : ρ 59 = .agg cs44.toArray := hp16_
 have e208 : ρ 58 = .slice a78 (x77.Entries).length c80 := hp15_
 have e209 : ρ 57 = .pointer (some ⟨g81, 4, none⟩) := hp14_
 have e210 : ρ 56 = .bool x113 := hp13_
 have e211 : ρ 55 = .bool x113 := hp12_
 have e212 : ρ 54 = .bool x113 := hp11_
 obtain ⟨cs213, e215⟩ := hp10_
 have e215 : ρ 53 = .agg cs213.toArray := e215
 try rw [e215] at hs
 have e216 : ρ 52 = .agg cs29.toArray := hp9_
 have e217 : ρ 51 = .agg cs44.toArray := hp8_
 have e218 : ρ 50 = .agg cs66.toArray := hp7_
 have e219 : ρ 49 = .bool x108 := hp6_
 have e220 : ρ 48 = .bool x108 := hp5_
 obtain ⟨⟨a221, c222⟩, e223⟩ := hp4_
 have e223 : ρ 47 = .slice a221 x105.length c222 := e223
 try rw [e223] at hs
 have e224 : ρ 46 = .agg cs29.toArray := hp3_
 have e225 : ρ 45 = .agg cs44.toArray := hp2_
 obtain ⟨⟨a226, c227⟩, e228⟩ := hp1_
 have e228 : ρ 44 = .slice a226 (x51.Entries).length c227 := e228
 try rw [e228] at hs
 have e229 : ρ 43 = .pointer (some ⟨g64, 4, none⟩) := hp0_
 have hl214 := hs.agglen (n := 5) 2 rfl rfl rfl
 have hl195 := hs.agglen (n := 5) 0 rfl rfl rfl
 refine WA.step [31] (by kernel_rfl) (by simp) ⟨?_, trivial⟩
 refine WL.assign (v := .bool x125) e189 ?_
 refine WL.nil ⟨rfl, _, rfl, ?_⟩
 refine WA.done (by kernel_rfl) ?_
 exact Jk85 x125 _ _ rfl ((hs.mask []).pick []) hf } }
 {
 refine W.any (by kernel_rfl) 31 1 [true, true, true, true, true, true, true, true, true, true, true, true, true, true, true, true, true, true, true, true, true, true, true, true, true, true, true, true, true, true, true, false] rfl rfl (poAt [pv (.pointer (some ⟨g64, 4, none⟩)), pq (fun y : (Option Addr × Nat) => .slice y.1 (x51.Entries).length y.2) (fun v => [vl (Y0a Y0b) x51.Entries v]) (fun v => []), pv (.agg cs44.toArray), pv (.agg cs29.toArray), pq (fun y : (Option Addr × Nat) => .slice y.1 x105.length y.2) (fun v => [vl (Y0a Y03) x105 v]) (fun v => []), pv (.bool x108), pv (.bool x108), pv (.agg cs66.toArray), pv (.agg cs44.toArray), pv (.agg cs29.toArray), pq (fun y : List Value => .agg y.toArray) (fun v => [vl Y0e x110 v]) (fun v => []), pv (.bool x113), pv (.bool x113), pv (.bool x113), pv (.pointer (some ⟨g81, 4, none⟩)), pv (.slice a78 (x77.Entries).length c80), pv (.agg cs44.toArray), pv (.agg cs39.toArray), pq (fun y : (Option Addr × Nat) => .slice y.1 x115.length y.2) (fun v => [vl (Y0a Y03) x115 v]) (fun v => []), pv (.bool x118), pv (.bool x118), pv (.bool x118), pv (.agg ([bstr x77.Field.Name, .int .i64 x77.Field.Kind, .int .i64 x77.Field.f_Type, .int .i64 x77.Field.At, .slice a78 (x77.Entries).length c80] : List Value).toArray), pv (.agg cs44.toArray), pv (.agg cs39.toArray), pq (fun y : List Value => .agg y.toArray) (fun v => [vl Y0e x120 v]) (fun v => []), pv (.bool x123), pv (.bool x123), pv (.bool x123), pv (undef), pv (.bool false)]) (Λ := [blk g81 35 [bstr x77.Field.Name, .int .i64 x77.Field.Kind, .int .i64 x77.Field.f_Type, .int .i64 x77.Field.At, .slice a78 (x77.Entries).length c80], blk g64 35 cs66, blk g46 31 cs44, blk g41 25 cs39, blk g32 25 cs29, blk g31 25 cs22]) hs (by kernel_rfl) (by kernel_rfl) (by kernel_rfl) ⟨⟨⟨⟨⟨⟨⟨⟨⟨⟨⟨⟨⟨⟨⟨⟨⟨⟨⟨⟨⟨⟨⟨⟨⟨⟨⟨⟨⟨⟨⟨trivial, ?_⟩, ?_⟩, ?_⟩, ?_⟩, ?_⟩, ?_⟩, ?_⟩, ?_⟩, ?_⟩, ?_⟩, ?_⟩, ?_⟩, ?_⟩, ?_⟩, ?_⟩, ?_⟩, ?_⟩, ?_⟩, ?_⟩, ?_⟩, ?_⟩, ?_⟩, ?_⟩, ?_⟩, ?_⟩, ?_⟩, ?_⟩, ?_⟩, ?_⟩, ?_⟩, ?_⟩ ?_
 {
 intro ρ w Γx Λx hs hu hp
 refine WL.fieldAddr (m := 4) ((hu 16 rfl).trans e65) Y3e rfl ?_
 exact WL.nil ⟨rfl, _, rfl, rfl, hs.cutG 0 0⟩ }
 {
 intro ρ w Γx Λx hs hu hp
 have e230 : ρ 43 = .pointer (some ⟨g64, 4, none⟩) := (hp 0 rfl).1
 refine WL.loadF (z := x51.Entries) Y1c hs (Λx.length + 1) (Y0t rfl) (Γx.length + 1) (Y0t rfl) rfl TI33 (.inr rfl) e230 rfl (fun v102 hs => ?_)
 obtain ⟨a103, c104, rfl⟩ := hs.slice 0 rfl
 have hs := hs.add (it := vl (Y0a Y0b) x51.Entries (.slice a103 (x51.Entries).length c104)) fun ok hA => hA.get 0 rfl
 exact WL.nil ⟨rfl, _, rfl, ⟨(a103, c104), rfl⟩, hs.cutG 1 1⟩ }
 {
 intro ρ w Γx Λx hs hu hp
 refine WL.loadAll hs (Λx.length + 2) (Y0t rfl) TI31 ((hu 15 rfl).trans (hu63 15 rfl)) hl45 ?_
 exact WL.nil ⟨rfl, _, rfl, rfl, hs.cutG 0 0⟩ }
 {
 intro ρ w Γx Λx hs hu hp
 refine WL.loadAll hs (Λx.length + 4) (Y0t rfl) TI25 ((hu 13 rfl).trans (hu63 13 rfl)) hl30 ?_
 exact WL.nil ⟨rfl, _, rfl, rfl, hs.cutG 0 0⟩ }
 {
 intro ρ w Γx Λx hs hu hp
 have e231 : ρ 45 = .agg cs44.toArray := (hp 2 rfl).1
 have e232 : ρ 46 = .agg cs29.toArray := (hp 3 rfl).1
 refine WL.call (vs := [.agg cs44.toArray, .agg cs29.toArray]) hs FN17 ⟨e231, ⟨e232, trivial⟩⟩ (fun ok hA => Y0f.callc (x1 := x43) (x5 := x28) hxx105 (hA.get (Γx.length + 3) (Y0t rfl)) (hA.get (Γx.length + 6) (Y0t rfl))) ?_
 rintro ⟨a106, c107⟩ w hs
 have hs := hs.add (it := vl (Y0a Y03) x105 (.slice a106 x105.length c107)) fun ok hA => hA.get 0 rfl
 exact WL.nil ⟨rfl, _, rfl, ⟨(a106, c107), rfl⟩, hs.cutG 1 1⟩ }
 {
 intro ρ w Γx Λx hs hu hp
 obtain ⟨⟨⟨a233, c234⟩, e235r⟩, hm236⟩ := hp 1 rfl
 have e235 : ρ 44 = .slice a233 (x51.Entries).length c234 := e235r
 rw [e235r] at hm236
 have hs := hs.memo1 (it := vl (Y0a Y0b) x51.Entries (.slice a233 (x51.Entries).length c234)) (List.mem_append.2 (.inl (hm236 _ (List.mem_of_getElem? (i := 0) rfl))))
 obtain ⟨⟨⟨a237, c238⟩, e239r⟩, hm240⟩ := hp 4 rfl
 have e239 : ρ 47 = .slice a237 x105.length c238 := e239r
 rw [e239r] at hm240
 have hs := hs.memo1 (it := vl (Y0a Y03) x105 (.slice a237 x105.length c238)) (List.mem_cons_of_mem _ (List.mem_append.2 (.inl (hm240 _ (List.mem_of_getElem? (i := 0) rfl)))))
 refine WL.call (vs := [.slice a233 (x51.Entries).length c234, .slice a237 x105.length c238]) hs FN16 ⟨e235, ⟨e239, trivial⟩⟩ (fun ok hA => Y0L.calls (x1 := x51.Entries) (x4 := x105) hxx108 (hA.get 1 rfl) (hA.get 0 rfl)) ?_
 rintro _ w hs
 exact WL.nil ⟨rfl, _, rfl, rfl, hs.cutG 0 2⟩ }
 {
 intro ρ w Γx Λx hs hu hp
 have e241 : ρ 48 = .bool x108 := (hp 5 rfl).1
 refine WL.move (v := .bool x108) e241 ?_
 exact WL.nil ⟨rfl, _, rfl, rfl, hs.cutG 0 0⟩ }
 {
 intro ρ w Γx Λx hs hu hp
 have e242 : ρ 49 = .bool x108 := (hp 6 rfl).1
 refine WL.loadAll hs (Λx.length + 1) (Y0t rfl) TI35 ((hu 16 rfl).trans e65) hl67 ?_ (hg := (Y00 rfl rfl (Y01 e242 hc109)).trans rfl)
 exact WL.nil ⟨rfl, _, rfl, rfl, hs.cutG 0 0⟩ }
 {
 intro ρ w Γx Λx hs hu hp
 have e243 : ρ 49 = .bool x108 := (hp 6 rfl).1
 refine WL.loadAll hs (Λx.length + 2) (Y0t rfl) TI31 ((hu 15 rfl).trans (hu63 15 rfl)) hl45 ?_ (hg := (Y00 rfl rfl (Y01 e243 hc109)).trans rfl)
 exact WL.nil ⟨rfl, _, rfl, rfl, hs.cutG 0 0⟩ }
 {
 intro ρ w Γx Λx hs hu hp
 have e244 : ρ 49 = .bool x108 := (hp 6 rfl).1
 refine WL.loadAll hs (Λx.length + 4) (Y0t rfl) TI25 ((hu 13 rfl).trans (hu63 13 rfl)) hl30 ?_ (hg := (Y00 rfl rfl (Y01 e244 hc109)).trans rfl)
 exact WL.nil ⟨rfl, _, rfl, rfl, hs.cutG 0 0⟩ }
 {
 intro ρ w Γx Λx hs hu hp
 have e245 : ρ 51 = .agg cs44.toArray := (hp 8 rfl).1
 have e246 : ρ 52 = .agg cs29.toArray := (hp 9 rfl).1
 have e247 : ρ 49 = .bool x108 := (hp 6 rfl).1
 refine WL.call (vs := [.agg cs44.toArray, .agg cs29.toArray]) hs FN12 ⟨e245, ⟨e246, trivial⟩⟩ (fun ok hA => Y1x.calls (x1 := x43) (x5 := x28) hxx110 (hA.get (Γx.length + 3) (Y0t rfl)) (hA.get (Γx.length + 6) (Y0t rfl))) ?_ (hg := (Y00 rfl rfl (Y01 e247 hc109)).trans rfl)
 rintro cs111 w hs
 have hl112 := hs.agglen (n := 5) 0 rfl rfl rfl
 have hs := hs.add (it := vl Y0e x110 (.agg cs111.toArray)) fun ok hA => hA.get 0 rfl
 exact WL.nil ⟨rfl, _, rfl, ⟨cs111, rfl⟩, hs.cutG 1 1⟩ }
 {
 intro ρ w Γx Λx hs hu hp
 have e248 : ρ 50 = .agg cs66.toArray := (hp 7 rfl).1
 obtain ⟨⟨cs249, e251r⟩, hm252⟩ := hp 10 rfl
 have e251 : ρ 53 = .agg cs249.toArray := e251r
 rw [e251r] at hm252
 have hs := hs.memo1 (it := vl Y0e x110 (.agg cs249.toArray)) (List.mem_append.2 (.inl (hm252 _ (List.mem_of_getElem? (i := 0) rfl))))
 have hl250 := hs.agglen (n := 5) 0 rfl rfl rfl
 have e253 : ρ 49 = .bool x108 := (hp 6 rfl).1
 refine WL.call (vs := [.agg cs66.toArray, .agg cs249.toArray]) hs FN27 ⟨e248, ⟨e251, trivial⟩⟩ (fun ok hA => Y0W.calls (x1 := x51) (x5 := x110) hxx113 (hA.get (Γx.length + 1 + 1) (Y2Q rfl)) (hA.get 0 rfl)) ?_ (hg := (Y00 rfl rfl (Y01 e253 hc109)).trans rfl)
 rintro _ w hs
 exact WL.nil ⟨rfl, _, rfl, rfl, hs.cutG 0 1⟩ }
 {
 intro ρ w Γx Λx hs hu hp
 have e254 : ρ 49 = .bool x108 := (hp 6 rfl).1
 have e255 : ρ 54 = .bool x113 := (hp 11 rfl).1
 refine WL.pickT (v := .bool x113) (Y01 e254 hc109) e255 ?_
 exact WL.nil ⟨rfl, _, rfl, rfl, hs.cutG 0 0⟩ }
 {
 intro ρ w Γx Λx hs hu hp
 have e256 : ρ 55 = .bool x113 := (hp 12 rfl).1
 refine WL.move (v := .bool x113) e256 ?_
 exact WL.nil ⟨rfl, _, rfl, rfl, hs.cutG 0 0⟩ }
 {
 intro ρ w Γx Λx hs hu hp
 have e257 : ρ 56 = .bool x113 := (hp 13 rfl).1
 refine WL.fieldAddr (m := 4) (hu 17 rfl) Y3e rfl ?_ (hg := (Y00 rfl rfl (Y01 e257 hc114)).trans rfl)
 exact WL.nil ⟨rfl, _, rfl, rfl, hs.cutG 0 0⟩ }
 {
 intro ρ w Γx Λx hs hu hp
 have e258 : ρ 57 = .pointer (some ⟨g81, 4, none⟩) := (hp 14 rfl).1
 have e259 : ρ 56 = .bool x113 := (hp 13 rfl).1
 refine WL.load1 (v := .slice a78 (x77.Entries).length c80) hs (Λx.length + 0) (Y0t rfl) TI33 e258 rfl ?_ (hg := (Y00 rfl rfl (Y01 e259 hc114)).trans rfl)
 exact WL.nil ⟨rfl, _, rfl, rfl, hs.cutG 0 0⟩ }
 {
 intro ρ w Γx Λx hs hu hp
 have e260 : ρ 56 = .bool x113 := (hp 13 rfl).1
 refine WL.loadAll hs (Λx.length + 2) (Y0t rfl) TI31 ((hu 15 rfl).trans (hu63 15 rfl)) hl45 ?_ (hg := (Y00 rfl rfl (Y01 e260 hc114)).trans rfl)
 exact WL.nil ⟨rfl, _, rfl, rfl, hs.cutG 0 0⟩ }
 {
 intro ρ w Γx Λx hs hu hp
 have e261 : ρ 56 = .bool x113 := (hp 13 rfl).1
 refine WL.loadAll hs (Λx.length + 3) (Y0t rfl) TI25 ((hu 14 rfl).trans (hu63 14 rfl)) hl40 ?_ (hg := (Y00 rfl rfl (Y01 e261 hc114)).trans rfl)
 exact WL.nil ⟨rfl, _, rfl, rfl, hs.cutG 0 0⟩ }
 {
 intro ρ w Γx Λx hs hu hp
 have e262 : ρ 59 = .agg cs44.toArray := (hp 16 rfl).1
 have e263 : ρ 60 = .agg cs39.toArray := (hp 17 rfl).1
 have e264 : ρ 56 = .bool x113 := (hp 13 rfl).1
 refine WL.call (vs := [.agg cs44.toArray, .agg cs39.toArray]) hs FN17 ⟨e262, ⟨e263, trivial⟩⟩ (fun ok hA => Y0f.callc (x1 := x43) (x5 := x38) hxx115 (hA.get (Γx.length + 3) (Y0t rfl)) (hA.get (Γx.length + 4) (Y0t rfl))) ?_ (hg := (Y00 rfl rfl (Y01 e264 hc114)).trans rfl)
 rintro ⟨a116, c117⟩ w hs
 have hs := hs.add (it := vl (Y0a Y03) x115 (.slice a116 x115.length c117)) fun ok hA => hA.get 0 rfl
 exact WL.nil ⟨rfl, _, rfl, ⟨(a116, c117), rfl⟩, hs.cutG 1 1⟩ }
 {
 intro ρ w Γx Λx hs hu hp
 have e265 : ρ 58 = .slice a78 (x77.Entries).length c80 := (hp 15 rfl).1
 obtain ⟨⟨⟨a266, c267⟩, e268r⟩, hm269⟩ := hp 18 rfl
 have e268 : ρ 61 = .slice a266 x115.length c267 := e268r
 rw [e268r] at hm269
 have hs := hs.memo1 (it := vl (Y0a Y03) x115 (.slice a266 x115.length c267)) (List.mem_append.2 (.inl (hm269 _ (List.mem_of_getElem? (i := 0) rfl))))
 have e270 : ρ 56 = .bool x113 := (hp 13 rfl).1
 refine WL.call (vs := [.slice a78 (x77.Entries).length c80, .slice a266 x115.length c267]) hs FN16 ⟨e265, ⟨e268, trivial⟩⟩ (fun ok hA => Y0L.calls (x1 := x77.Entries) (x4 := x115) hxx118 (hA.get (Γx.length + 0 + 1) (Y2Q rfl)) (hA.get 0 rfl)) ?_ (hg := (Y00 rfl rfl (Y01 e270 hc114)).trans rfl)
 rintro _ w hs
 exact WL.nil ⟨rfl, _, rfl, rfl, hs.cutG 0 1⟩ }
 {
 intro ρ w Γx Λx hs hu hp
 have e271 : ρ 56 = .bool x113 := (hp 13 rfl).1
 have e272 : ρ 62 = .bool x118 := (hp 19 rfl).1
 refine WL.pickT (v := .bool x118) (Y01 e271 hc114) e272 ?_
 exact WL.nil ⟨rfl, _, rfl, rfl, hs.cutG 0 0⟩ }
 {
 intro ρ w Γx Λx hs hu hp
 have e273 : ρ 63 = .bool x118 := (hp 20 rfl).1
 refine WL.move (v := .bool x118) e273 ?_
 exact WL.nil ⟨rfl, _, rfl, rfl, hs.cutG 0 0⟩ }
 {
 intro ρ w Γx Λx hs hu hp
 have e274 : ρ 64 = .bool x118 := (hp 21 rfl).1
 refine WL.loadN (vs := [bstr x77.Field.Name, .int .i64 x77.Field.Kind, .int .i64 x77.Field.f_Type, .int .i64 x77.Field.At, .slice a78 (x77.Entries).length c80]) hs (Λx.length + 0) (Y0t rfl) TI35 (hu 17 rfl) rfl rfl ?_ (hg := (Y00 rfl rfl (Y01 e274 hc119)).trans rfl)
 exact WL.nil ⟨rfl, _, rfl, rfl, hs.cutG 0 0⟩ }
 {
 intro ρ w Γx Λx hs hu hp
 have e275 : ρ 64 = .bool x118 := (hp 21 rfl).1
 refine WL.loadAll hs (Λx.length + 2) (Y0t rfl) TI31 ((hu 15 rfl).trans (hu63 15 rfl)) hl45 ?_ (hg := (Y00 rfl rfl (Y01 e275 hc119)).trans rfl)
 exact WL.nil ⟨rfl, _, rfl, rfl, hs.cutG 0 0⟩ }
 {
 intro ρ w Γx Λx hs hu hp
 have e276 : ρ 64 = .bool x118 := (hp 21 rfl).1
 refine WL.loadAll hs (Λx.length + 3) (Y0t rfl) TI25 ((hu 14 rfl).trans (hu63 14 rfl)) hl40 ?_ (hg := (Y00 rfl rfl (Y01 e276 hc119)).trans rfl)
 exact WL.nil ⟨rfl, _, rfl, rfl, hs.cutG 0 0⟩ }
 {
 intro ρ w Γx Λx hs hu hp
 have e277 : ρ 66 = .agg cs44.toArray := (hp 23 rfl).1
 have e278 : ρ 67 = .agg cs39.toArray := (hp 24 rfl).1
 have e279 : ρ 64 = .bool x118 := (hp 21 rfl).1
 refine WL.call (vs := [.agg cs44.toArray, .agg cs39.toArray]) hs FN12 ⟨e277, ⟨e278, trivial⟩⟩ (fun ok hA => Y1x.calls (x1 := x43) (x5 := x38) hxx120 (hA.get (Γx.length + 3) (Y0t rfl)) (hA.get (Γx.length + 4) (Y0t rfl))) ?_ (hg := (Y00 rfl rfl (Y01 e279 hc119)).trans rfl)
 rintro cs121 w hs
 have hl122 := hs.agglen (n := 5) 0 rfl rfl rfl
 have hs := hs.add (it := vl Y0e x120 (.agg cs121.toArray)) fun ok hA => hA.get 0 rfl
 exact WL.nil ⟨rfl, _, rfl, ⟨cs121, rfl⟩, hs.cutG 1 1⟩ }
 {
 intro ρ w Γx Λx hs hu hp
 have e280 : ρ 65 = .agg ([bstr x77.Field.Name, .int .i64 x77.Field.Kind, .int .i64 x77.Field.f_Type, .int .i64 x77.Field.At, .slice a78 (x77.Entries).length c80] : List Value).toArray := (hp 22 rfl).1
 obtain ⟨⟨cs281, e283r⟩, hm284⟩ := hp 25 rfl
 have e283 : ρ 68 = .agg cs281.toArray := e283r
 rw [e283r] at hm284
 have hs := hs.memo1 (it := vl Y0e x120 (.agg cs281.toArray)) (List.mem_append.2 (.inl (hm284 _ (List.mem_of_getElem? (i := 0) rfl))))
 have hl282 := hs.agglen (n := 5) 0 rfl rfl rfl
 have e285 : ρ 64 = .bool x118 := (hp 21 rfl).1
 have hs := hs.add (it := vl Y0e (⟨(⟨x77.Field.Name, x77.Field.Kind, x77.Field.f_Type, x77.Field.At⟩ : Y0l), x77.Entries⟩ : Y0N) (.agg [bstr x77.Field.Name, .int .i64 x77.Field.Kind, .int .i64 x77.Field.f_Type, .int .i64 x77.Field.At, .slice a78 (x77.Entries).length c80].toArray)) fun ok hA => Y3c (show Y0e.R ok _ _ _ from ⟨[bstr x77.Field.Name, .int .i64 x77.Field.Kind, .int .i64 x77.Field.f_Type, .int .i64 x77.Field.At], [.slice a78 (x77.Entries).length c80], rfl, ⟨[bstr x77.Field.Name], [.int .i64 x77.Field.Kind, .int .i64 x77.Field.f_Type, .int .i64 x77.Field.At], rfl, rfl, ⟨[.int .i64 x77.Field.Kind], [.int .i64 x77.Field.f_Type, .int .i64 x77.Field.At], rfl, rfl, ⟨[.int .i64 x77.Field.f_Type], [.int .i64 x77.Field.At], rfl, rfl, rfl⟩⟩⟩, (Y4I (hA.get (Γx.length + 0 + 1) (Y2Q rfl)))⟩) rfl
 refine WL.call (vs := [.agg ([bstr x77.Field.Name, .int .i64 x77.Field.Kind, .int .i64 x77.Field.f_Type, .int .i64 x77.Field.At, .slice a78 (x77.Entries).length c80] : List Value).toArray, .agg cs281.toArray]) hs FN27 ⟨e280, ⟨e283, trivial⟩⟩ (fun ok hA => Y0W.calls (x1 := (⟨(⟨x77.Field.Name, x77.Field.Kind, x77.Field.f_Type, x77.Field.At⟩ : Y0l), x77.Entries⟩ : Y0N)) (x5 := x120) hxx123 (hA.get 0 rfl) (hA.get 1 rfl)) ?_ (hg := (Y00 rfl rfl (Y01 e285 hc119)).trans rfl)
 rintro _ w hs
 exact WL.nil ⟨rfl, _, rfl, rfl, hs.cutG 0 2⟩ }
 {
 intro ρ w Γx Λx hs hu hp
 have e286 : ρ 64 = .bool x118 := (hp 21 rfl).1
 have e287 : ρ 69 = .bool x123 := (hp 26 rfl).1
 refine WL.pickT (v := .bool x123) (Y01 e286 hc119) e287 ?_
 exact WL.nil ⟨rfl, _, rfl, rfl, hs.cutG 0 0⟩ }
 {
 intro ρ w Γx Λx hs hu hp
 have e288 : ρ 70 = .bool x123 := (hp 27 rfl).1
 refine WL.move (v := .bool x123) e288 ?_
 exact WL.nil ⟨rfl, _, rfl, rfl, hs.cutG 0 0⟩ }
 {
 intro ρ w Γx Λx hs hu hp
 have e289 : ρ 71 = .bool x123 := (hp 28 rfl).1
 refine WL.pass ((Y00 rfl rfl (Y01 e289 hc124)).trans rfl) rfl ?_
 exact WL.nil ⟨rfl, _, rfl, rfl, hs.cutG 0 0⟩ }
 {
 intro ρ w Γx Λx hs hu hp
 have e290 : ρ 71 = .bool x123 := (hp 28 rfl).1
 have e291 : ρ 72 = undef := (hp 29 rfl).1
 refine WL.pickF (v := .bool false) (Y01 e290 hc124) rfl ?_
 exact WL.nil ⟨rfl, _, rfl, rfl, hs.cutG 0 0⟩ }
 {
 intro ρ w hs hu292 hp
 obtain ⟨⟨⟨⟨⟨⟨⟨⟨⟨⟨⟨⟨⟨⟨⟨⟨⟨⟨⟨⟨⟨⟨⟨⟨⟨⟨⟨⟨⟨⟨⟨_, hp0_⟩, hp1_⟩, hp2_⟩, hp3_⟩, hp4_⟩, hp5_⟩, hp6_⟩, hp7_⟩, hp8_⟩, hp9_⟩, hp10_⟩, hp11_⟩, hp12_⟩, hp13_⟩, hp14_⟩, hp15_⟩, hp16_⟩, hp17_⟩, hp18_⟩, hp19_⟩, hp20_⟩, hp21_⟩, hp22_⟩, hp23_⟩, hp24_⟩, hp25_⟩, hp26_⟩, hp27_⟩, hp28_⟩, hp29_⟩, hp30_⟩ := hp
 have hs : St ok (bz w0) w [vl Y0e x120 (ρ 68), vl (Y0a Y03) x115 (ρ 61), vl Y0e x110 (ρ 53), vl (Y0a Y03) x105 (ρ 47), vl (Y0a Y0b) x51.Entries (ρ 44), vl (Y0a Y0b) x77.Entries (.slice a78 (x77.Entries).length c80), vl Y0e x51 (.agg cs66.toArray), vl Y0e x48 (.agg cs71.toArray), vl Y0g x43 (.agg cs44.toArray), vl Y0m x38 (.agg cs39.toArray), vl (Y0a Y0h) x34 (.slice a35 x34.length c37), vl Y0m x28 (.agg cs29.toArray), vl (Y0a Y0h) x24 (.slice a25 x24.length c27), vl Y0m x21 (.agg cs22.toArray), vl (Y0a Y0h) x17 (.slice a18 x17.length c20), vl (Y0a Y0h) x12 (.slice a13 x12.length c15), vl (Y0a (tInt .i64)) x1 (.slice a2 x1.length c3), vl (Y0a (tInt .i64)) x4 (.slice a5 x4.length c6)] [blk g81 35 [bstr x77.Field.Name, .int .i64 x77.Field.Kind, .int .i64 x77.Field.f_Type, .int .i64 x77.Field.At, .slice a78 (x77.Entries).length c80], blk g64 35 cs66, blk g46 31 cs44, blk g41 25 cs39, blk g32 25 cs29, blk g31 25 cs22] := hs
 have e293 : ρ 73 = .bool false := hp30_
 have e294 : ρ 72 = undef := hp29_
 have e295 : ρ 71 = .bool x123 := hp28_
 have e296 : ρ 70 = .bool x123 := hp27_
 have e297 : ρ 69 = .bool x123 := hp26_
 obtain ⟨cs298, e300⟩ := hp25_
 have e300 : ρ 68 = .agg cs298.toArray := e300
 try rw [e300] at hs
 have e301 : ρ 67 = .agg cs39.toArray := hp24_
 have e302 : ρ 66 = .agg cs44.toArray := hp23_
 have e303 : ρ 65 = .agg ([bstr x77.Field.Name, .int .i64 x77.Field.Kind, .int .i64 x77.Field.f_Type, .int .i64 x77.Field.At, .slice a78 (x77.Entries).length c80] : List Value).toArray := hp22_
 have e304 : ρ 64 = .bool x118 := hp21_
 have e305 : ρ 63 = .bool x118 := hp20_
 have e306 : ρ 62 = .bool x118 := hp19_
 obtain ⟨⟨a307, c308⟩, e309⟩ := hp18_
 have e309 : ρ 61 = .slice a307 x115.length c308 := e309
 try rw [e309] at hs
 have e310 : ρ 60 = .agg cs39.toArray := hp17_
 have e311 : ρ 59 = .agg cs44.toArray := hp16_
 have e312 : ρ 58 = .slice a78 (x77.Entries).length c80 := hp15_
 have e313 : ρ 57 = .pointer (some ⟨g81, 4, none⟩) := hp14_
 have e314 : ρ 56 = .bool x113 := hp13_
 have e315 : ρ 55 = .bool x113 := hp12_
 have e316 : ρ 54 = .bool x113 := hp11_
 obtain ⟨cs317, e319⟩ := hp10_
 have e319 : ρ 53 = .agg cs317.toArray := e319
 try rw [e319] at hs
 have e320 : ρ 52 = .agg cs29.toArray := hp9_
 have e321 : ρ 51 = .agg cs44.toArray := hp8_
 have e322 : ρ 50 = .agg cs66.toArray := hp7_
 have e323 : ρ 49 = .bool x108 := hp6_
 have e324 : ρ 48 = .bool x108 := hp5_
 obtain ⟨⟨a325, c326⟩, e327⟩ := hp4_
 have e327 : ρ 47 = .slice a325 x105.length c326 := e327
 try rw [e327] at hs
 have e328 : ρ 46 = .agg cs29.toArray := hp3_
 have e329 : ρ 45 = .agg cs44.toArray := hp2_
 obtain ⟨⟨a330, c331⟩, e332⟩ := hp1_
 have e332 : ρ 44 = .slice a330 (x51.Entries).length c331 := e332
 try rw [e332] at hs
 have e333 : ρ 43 = .pointer (some ⟨g64, 4, none⟩) := hp0_
 have hl318 := hs.agglen (n := 5) 2 rfl rfl rfl
 have hl299 := hs.agglen (n := 5) 0 rfl rfl rfl
 refine WA.step [31] (by kernel_rfl) (by simp) ⟨?_, trivial⟩
 refine WL.assign (v := .bool false) e293 ?_
 refine WL.nil ⟨rfl, _, rfl, ?_⟩
 refine WA.done (by kernel_rfl) ?_
 exact Jk85 false _ _ rfl ((hs.mask []).pick []) hf } } }
 {
 refine W.any (by kernel_rfl) 31 1 [true, true, true, true, true, true, true, true, true, true, true, true, true, true, true, true, true, true, true, true, true, true, true, true, true, true, true, true, true, true, true, false] rfl rfl (poAt [pv (.pointer (some ⟨g64, 4, none⟩)), pq (fun y : (Option Addr × Nat) => .slice y.1 (x51.Entries).length y.2) (fun v => [vl (Y0a Y0b) x51.Entries v]) (fun v => []), pv (.agg cs44.toArray), pv (.agg cs29.toArray), pq (fun y : (Option Addr × Nat) => .slice y.1 x105.length y.2) (fun v => [vl (Y0a Y03) x105 v]) (fun v => []), pv (.bool x108), pv (.bool x108), pv (.agg cs66.toArray), pv (.agg cs44.toArray), pv (.agg cs29.toArray), pq (fun y : List Value => .agg y.toArray) (fun v => [vl Y0e x110 v]) (fun v => []), pv (.bool x113), pv (.bool x113), pv (.bool x113), pv (.pointer (some ⟨g81, 4, none⟩)), pv (.slice a78 (x77.Entries).length c80), pv (.agg cs44.toArray), pv (.agg cs39.toArray), pq (fun y : (Option Addr × Nat) => .slice y.1 x115.length y.2) (fun v => [vl (Y0a Y03) x115 v]) (fun v => []), pv (.bool x118), pv (.bool x118), pv (.bool x118), pv (undef), pv (undef), pv (undef), pv (undef), pv (undef), pv (.bool false), pv (.bool false), pv (undef), pv (.bool false)]) (Λ := [blk g81 35 [bstr x77.Field.Name, .int .i64 x77.Field.Kind, .int .i64 x77.Field.f_Type, .int .i64 x77.Field.At, .slice a78 (x77.Entries).length c80], blk g64 35 cs66, blk g46 31 cs44, blk g41 25 cs39, blk g32 25 cs29, blk g31 25 cs22]) hs (by kernel_rfl) (by kernel_rfl) (by kernel_rfl) ⟨⟨⟨⟨⟨⟨⟨⟨⟨⟨⟨⟨⟨⟨⟨⟨⟨⟨⟨⟨⟨⟨⟨⟨⟨⟨⟨⟨⟨⟨⟨trivial, ?_⟩, ?_⟩, ?_⟩, ?_⟩, ?_⟩, ?_⟩, ?_⟩, ?_⟩, ?_⟩, ?_⟩, ?_⟩, ?_⟩, ?_⟩, ?_⟩, ?_⟩, ?_⟩, ?_⟩, ?_⟩, ?_⟩, ?_⟩, ?_⟩, ?_⟩, ?_⟩, ?_⟩, ?_⟩, ?_⟩, ?_⟩, ?_⟩, ?_⟩, ?_⟩, ?_⟩ ?_
 {
 intro ρ w Γx Λx hs hu hp
 refine WL.fieldAddr (m := 4) ((hu 16 rfl).trans e65) Y3e rfl ?_
 exact WL.nil ⟨rfl, _, rfl, rfl, hs.cutG 0 0⟩ }
 {
 intro ρ w Γx Λx hs hu hp
 have e334 : ρ 43 = .pointer (some ⟨g64, 4, none⟩) := (hp 0 rfl).1
 refine WL.loadF (z := x51.Entries) Y1c hs (Λx.length + 1) (Y0t rfl) (Γx.length + 1) (Y0t rfl) rfl TI33 (.inr rfl) e334 rfl (fun v102 hs => ?_)
 obtain ⟨a103, c104, rfl⟩ := hs.slice 0 rfl
 have hs := hs.add (it := vl (Y0a Y0b) x51.Entries (.slice a103 (x51.Entries).length c104)) fun ok hA => hA.get 0 rfl
 exact WL.nil ⟨rfl, _, rfl, ⟨(a103, c104), rfl⟩, hs.cutG 1 1⟩ }
 {
 intro ρ w Γx Λx hs hu hp
 refine WL.loadAll hs (Λx.length + 2) (Y0t rfl) TI31 ((hu 15 rfl).trans (hu63 15 rfl)) hl45 ?_
 exact WL.nil ⟨rfl, _, rfl, rfl, hs.cutG 0 0⟩ }
 {
 intro ρ w Γx Λx hs hu hp
 refine WL.loadAll hs (Λx.length + 4) (Y0t rfl) TI25 ((hu 13 rfl).trans (hu63 13 rfl)) hl30 ?_
 exact WL.nil ⟨rfl, _, rfl, rfl, hs.cutG 0 0⟩ }
 {
 intro ρ w Γx Λx hs hu hp
 have e335 : ρ 45 = .agg cs44.toArray := (hp 2 rfl).1
 have e336 : ρ 46 = .agg cs29.toArray := (hp 3 rfl).1
 refine WL.call (vs := [.agg cs44.toArray, .agg cs29.toArray]) hs FN17 ⟨e335, ⟨e336, trivial⟩⟩ (fun ok hA => Y0f.callc (x1 := x43) (x5 := x28) hxx105 (hA.get (Γx.length + 3) (Y0t rfl)) (hA.get (Γx.length + 6) (Y0t rfl))) ?_
 rintro ⟨a106, c107⟩ w hs
 have hs := hs.add (it := vl (Y0a Y03) x105 (.slice a106 x105.length c107)) fun ok hA => hA.get 0 rfl
 exact WL.nil ⟨rfl, _, rfl, ⟨(a106, c107), rfl⟩, hs.cutG 1 1⟩ }
 {
 intro ρ w Γx Λx hs hu hp
 obtain ⟨⟨⟨a337, c338⟩, e339r⟩, hm340⟩ := hp 1 rfl
 have e339 : ρ 44 = .slice a337 (x51.Entries).length c338 := e339r
 rw [e339r] at hm340
 have hs := hs.memo1 (it := vl (Y0a Y0b) x51.Entries (.slice a337 (x51.Entries).length c338)) (List.mem_append.2 (.inl (hm340 _ (List.mem_of_getElem? (i := 0) rfl))))
 obtain ⟨⟨⟨a341, c342⟩, e343r⟩, hm344⟩ := hp 4 rfl
 have e343 : ρ 47 = .slice a341 x105.length c342 := e343r
 rw [e343r] at hm344
 have hs := hs.memo1 (it := vl (Y0a Y03) x105 (.slice a341 x105.length c342)) (List.mem_cons_of_mem _ (List.mem_append.2 (.inl (hm344 _ (List.mem_of_getElem? (i := 0) rfl)))))
 refine WL.call (vs := [.slice a337 (x51.Entries).length c338, .slice a341 x105.length c342]) hs FN16 ⟨e339, ⟨e343, trivial⟩⟩ (fun ok hA => Y0L.calls (x1 := x51.Entries) (x4 := x105) hxx108 (hA.get 1 rfl) (hA.get 0 rfl)) ?_
 rintro _ w hs
 exact WL.nil ⟨rfl, _, rfl, rfl, hs.cutG 0 2⟩ }
 {
 intro ρ w Γx Λx hs hu hp
 have e345 : ρ 48 = .bool x108 := (hp 5 rfl).1
 refine WL.move (v := .bool x108) e345 ?_
 exact WL.nil ⟨rfl, _, rfl, rfl, hs.cutG 0 0⟩ }
 {
 intro ρ w Γx Λx hs hu hp
 have e346 : ρ 49 = .bool x108 := (hp 6 rfl).1
 refine WL.loadAll hs (Λx.length + 1) (Y0t rfl) TI35 ((hu 16 rfl).trans e65) hl67 ?_ (hg := (Y00 rfl rfl (Y01 e346 hc109)).trans rfl)
 exact WL.nil ⟨rfl, _, rfl, rfl, hs.cutG 0 0⟩ }
 {
 intro ρ w Γx Λx hs hu hp
 have e347 : ρ 49 = .bool x108 := (hp 6 rfl).1
 refine WL.loadAll hs (Λx.length + 2) (Y0t rfl) TI31 ((hu 15 rfl).trans (hu63 15 rfl)) hl45 ?_ (hg := (Y00 rfl rfl (Y01 e347 hc109)).trans rfl)
 exact WL.nil ⟨rfl, _, rfl, rfl, hs.cutG 0 0⟩ }
 {
 intro ρ w Γx Λx hs hu hp
 have e348 : ρ 49 = .bool x108 := (hp 6 rfl).1
 refine WL.loadAll hs (Λx.length + 4) (Y0t rfl) TI25 ((hu 13 rfl).trans (hu63 13 rfl)) hl30 ?_ (hg := (Y00 rfl rfl (Y01 e348 hc109)).trans rfl)
 exact WL.nil ⟨rfl, _, rfl, rfl, hs.cutG 0 0⟩ }
 {
 intro ρ w Γx Λx hs hu hp
 have e349 : ρ 51 = .agg cs44.toArray := (hp 8 rfl).1
 have e350 : ρ 52 = .agg cs29.toArray := (hp 9 rfl).1
 have e351 : ρ 49 = .bool x108 := (hp 6 rfl).1
 refine WL.call (vs := [.agg cs44.toArray, .agg cs29.toArray]) hs FN12 ⟨e349, ⟨e350, trivial⟩⟩ (fun ok hA => Y1x.calls (x1 := x43) (x5 := x28) hxx110 (hA.get (Γx.length + 3) (Y0t rfl)) (hA.get (Γx.length + 6) (Y0t rfl))) ?_ (hg := (Y00 rfl rfl (Y01 e351 hc109)).trans rfl)
 rintro cs111 w hs
 have hl112 := hs.agglen (n := 5) 0 rfl rfl rfl
 have hs := hs.add (it := vl Y0e x110 (.agg cs111.toArray)) fun ok hA => hA.get 0 rfl
 exact WL.nil ⟨rfl, _, rfl, ⟨cs111, rfl⟩, hs.cutG 1 1⟩ }
 {
 intro ρ w Γx Λx hs hu hp
 have e352 : ρ 50 = .agg cs66.toArray := (hp 7 rfl).1
 obtain ⟨⟨cs353, e355r⟩, hm356⟩ := hp 10 rfl
 have e355 : ρ 53 = .agg cs353.toArray := e355r
 rw [e355r] at hm356
 have hs := hs.memo1 (it := vl Y0e x110 (.agg cs353.toArray)) (List.mem_append.2 (.inl (hm356 _ (List.mem_of_getElem? (i := 0) rfl))))
 have hl354 := hs.agglen (n := 5) 0 rfl rfl rfl
 have e357 : ρ 49 = .bool x108 := (hp 6 rfl).1
 refine WL.call (vs := [.agg cs66.toArray, .agg cs353.toArray]) hs FN27 ⟨e352, ⟨e355, trivial⟩⟩ (fun ok hA => Y0W.calls (x1 := x51) (x5 := x110) hxx113 (hA.get (Γx.length + 1 + 1) (Y2Q rfl)) (hA.get 0 rfl)) ?_ (hg := (Y00 rfl rfl (Y01 e357 hc109)).trans rfl)
 rintro _ w hs
 exact WL.nil ⟨rfl, _, rfl, rfl, hs.cutG 0 1⟩ }
 {
 intro ρ w Γx Λx hs hu hp
 have e358 : ρ 49 = .bool x108 := (hp 6 rfl).1
 have e359 : ρ 54 = .bool x113 := (hp 11 rfl).1
 refine WL.pickT (v := .bool x113) (Y01 e358 hc109) e359 ?_
 exact WL.nil ⟨rfl, _, rfl, rfl, hs.cutG 0 0⟩ }
 {
 intro ρ w Γx Λx hs hu hp
 have e360 : ρ 55 = .bool x113 := (hp 12 rfl).1
 refine WL.move (v := .bool x113) e360 ?_
 exact WL.nil ⟨rfl, _, rfl, rfl, hs.cutG 0 0⟩ }
 {
 intro ρ w Γx Λx hs hu hp
 have e361 : ρ 56 = .bool x113 := (hp 13 rfl).1
 refine WL.fieldAddr (m := 4) (hu 17 rfl) Y3e rfl ?_ (hg := (Y00 rfl rfl (Y01 e361 hc114)).trans rfl)
 exact WL.nil ⟨rfl, _, rfl, rfl, hs.cutG 0 0⟩ }
 {
 intro ρ w Γx Λx hs hu hp
 have e362 : ρ 57 = .pointer (some ⟨g81, 4, none⟩) := (hp 14 rfl).1
 have e363 : ρ 56 = .bool x113 := (hp 13 rfl).1
 refine WL.load1 (v := .slice a78 (x77.Entries).length c80) hs (Λx.length + 0) (Y0t rfl) TI33 e362 rfl ?_ (hg := (Y00 rfl rfl (Y01 e363 hc114)).trans rfl)
 exact WL.nil ⟨rfl, _, rfl, rfl, hs.cutG 0 0⟩ }
 {
 intro ρ w Γx Λx hs hu hp
 have e364 : ρ 56 = .bool x113 := (hp 13 rfl).1
 refine WL.loadAll hs (Λx.length + 2) (Y0t rfl) TI31 ((hu 15 rfl).trans (hu63 15 rfl)) hl45 ?_ (hg := (Y00 rfl rfl (Y01 e364 hc114)).trans rfl)
 exact WL.nil ⟨rfl, _, rfl, rfl, hs.cutG 0 0⟩ }
 {
 intro ρ w Γx Λx hs hu hp
 have e365 : ρ 56 = .bool x113 := (hp 13 rfl).1
 refine WL.loadAll hs (Λx.length + 3) (Y0t rfl) TI25 ((hu 14 rfl).trans (hu63 14 rfl)) hl40 ?_ (hg := (Y00 rfl rfl (Y01 e365 hc114)).trans rfl)
 exact WL.nil ⟨rfl, _, rfl, rfl, hs.cutG 0 0⟩ }
 {
 intro ρ w Γx Λx hs hu hp
 have e366 : ρ 59 = .agg cs44.toArray := (hp 16 rfl).1
 have e367 : ρ 60 = .agg cs39.toArray := (hp 17 rfl).1
 have e368 : ρ 56 = .bool x113 := (hp 13 rfl).1
 refine WL.call (vs := [.agg cs44.toArray, .agg cs39.toArray]) hs FN17 ⟨e366, ⟨e367, trivial⟩⟩ (fun ok hA => Y0f.callc (x1 := x43) (x5 := x38) hxx115 (hA.get (Γx.length + 3) (Y0t rfl)) (hA.get (Γx.length + 4) (Y0t rfl))) ?_ (hg := (Y00 rfl rfl (Y01 e368 hc114)).trans rfl)
 rintro ⟨a116, c117⟩ w hs
 have hs := hs.add (it := vl (Y0a Y03) x115 (.slice a116 x115.length c117)) fun ok hA => hA.get 0 rfl
 exact WL.nil ⟨rfl, _, rfl, ⟨(a116, c117), rfl⟩, hs.cutG 1 1⟩ }
 {
 intro ρ w Γx Λx hs hu hp
 have e369 : ρ 58 = .slice a78 (x77.Entries).length c80 := (hp 15 rfl).1
 obtain ⟨⟨⟨a370, c371⟩, e372r⟩, hm373⟩ := hp 18 rfl
 have e372 : ρ 61 = .slice a370 x115.length c371 := e372r
 rw [e372r] at hm373
 have hs := hs.memo1 (it := vl (Y0a Y03) x115 (.slice a370 x115.length c371)) (List.mem_append.2 (.inl (hm373 _ (List.mem_of_getElem? (i := 0) rfl))))
 have e374 : ρ 56 = .bool x113 := (hp 13 rfl).1
 refine WL.call (vs := [.slice a78 (x77.Entries).length c80, .slice a370 x115.length c371]) hs FN16 ⟨e369, ⟨e372, trivial⟩⟩ (fun ok hA => Y0L.calls (x1 := x77.Entries) (x4 := x115) hxx118 (hA.get (Γx.length + 0 + 1) (Y2Q rfl)) (hA.get 0 rfl)) ?_ (hg := (Y00 rfl rfl (Y01 e374 hc114)).trans rfl)
 rintro _ w hs
 exact WL.nil ⟨rfl, _, rfl, rfl, hs.cutG 0 1⟩ }
 {
 intro ρ w Γx Λx hs hu hp
 have e375 : ρ 56 = .bool x113 := (hp 13 rfl).1
 have e376 : ρ 62 = .bool x118 := (hp 19 rfl).1
 refine WL.pickT (v := .bool x118) (Y01 e375 hc114) e376 ?_
 exact WL.nil ⟨rfl, _, rfl, rfl, hs.cutG 0 0⟩ }
 {
 intro ρ w Γx Λx hs hu hp
 have e377 : ρ 63 = .bool x118 := (hp 20 rfl).1
 refine WL.move (v := .bool x118) e377 ?_
 exact WL.nil ⟨rfl, _, rfl, rfl, hs.cutG 0 0⟩ }
 {
 intro ρ w Γx Λx hs hu hp
 have e378 : ρ 64 = .bool x118 := (hp 21 rfl).1
 refine WL.pass ((Y00 rfl rfl (Y01 e378 hc119)).trans rfl) rfl ?_
 exact WL.nil ⟨rfl, _, rfl, rfl, hs.cutG 0 0⟩ }
 {
 intro ρ w Γx Λx hs hu hp
 have e379 : ρ 64 = .bool x118 := (hp 21 rfl).1
 refine WL.pass ((Y00 rfl rfl (Y01 e379 hc119)).trans rfl) rfl ?_
 exact WL.nil ⟨rfl, _, rfl, rfl, hs.cutG 0 0⟩ }
 {
 intro ρ w Γx Λx hs hu hp
 have e380 : ρ 64 = .bool x118 := (hp 21 rfl).1
 refine WL.pass ((Y00 rfl rfl (Y01 e380 hc119)).trans rfl) rfl ?_
 exact WL.nil ⟨rfl, _, rfl, rfl, hs.cutG 0 0⟩ }
 {
 intro ρ w Γx Λx hs hu hp
 have e381 : ρ 66 = undef := (hp 23 rfl).1
 have e382 : ρ 67 = undef := (hp 24 rfl).1
 have e383 : ρ 64 = .bool x118 := (hp 21 rfl).1
 refine WL.pass ((Y00 rfl rfl (Y01 e383 hc119)).trans rfl) rfl ?_
 exact WL.nil ⟨rfl, _, rfl, rfl, hs.cutG 0 0⟩ }
 {
 intro ρ w Γx Λx hs hu hp
 have e384 : ρ 65 = undef := (hp 22 rfl).1
 have e385 : ρ 68 = undef := (hp 25 rfl).1
 have e386 : ρ 64 = .bool x118 := (hp 21 rfl).1
 refine WL.pass ((Y00 rfl rfl (Y01 e386 hc119)).trans rfl) rfl ?_
 exact WL.nil ⟨rfl, _, rfl, rfl, hs.cutG 0 0⟩ }
 {
 intro ρ w Γx Λx hs hu hp
 have e387 : ρ 64 = .bool x118 := (hp 21 rfl).1
 have e388 : ρ 69 = undef := (hp 26 rfl).1
 refine WL.pickF (v := .bool false) (Y01 e387 hc119) rfl ?_
 exact WL.nil ⟨rfl, _, rfl, rfl, hs.cutG 0 0⟩ }
 {
 intro ρ w Γx Λx hs hu hp
 have e389 : ρ 70 = .bool false := (hp 27 rfl).1
 refine WL.move (v := .bool false) e389 ?_
 exact WL.nil ⟨rfl, _, rfl, rfl, hs.cutG 0 0⟩ }
 {
 intro ρ w Γx Λx hs hu hp
 have e390 : ρ 71 = .bool false := (hp 28 rfl).1
 refine WL.pass ((Y00 rfl rfl e390).trans rfl) rfl ?_
 exact WL.nil ⟨rfl, _, rfl, rfl, hs.cutG 0 0⟩ }
 {
 intro ρ w Γx Λx hs hu hp
 have e391 : ρ 71 = .bool false := (hp 28 rfl).1
 have e392 : ρ 72 = undef := (hp 29 rfl).1
 refine WL.pickF (v := .bool false) e391 rfl ?_
 exact WL.nil ⟨rfl, _, rfl, rfl, hs.cutG 0 0⟩ }
 {
 intro ρ w hs hu393 hp
 obtain ⟨⟨⟨⟨⟨⟨⟨⟨⟨⟨⟨⟨⟨⟨⟨⟨⟨⟨⟨⟨⟨⟨⟨⟨⟨⟨⟨⟨⟨⟨⟨_, hp0_⟩, hp1_⟩, hp2_⟩, hp3_⟩, hp4_⟩, hp5_⟩, hp6_⟩, hp7_⟩, hp8_⟩, hp9_⟩, hp10_⟩, hp11_⟩, hp12_⟩, hp13_⟩, hp14_⟩, hp15_⟩, hp16_⟩, hp17_⟩, hp18_⟩, hp19_⟩, hp20_⟩, hp21_⟩, hp22_⟩, hp23_⟩, hp24_⟩, hp25_⟩, hp26_⟩, hp27_⟩, hp28_⟩, hp29_⟩, hp30_⟩ := hp
 have hs : St ok (bz w0) w [vl (Y0a Y03) x115 (ρ 61), vl Y0e x110 (ρ 53), vl (Y0a Y03) x105 (ρ 47), vl (Y0a Y0b) x51.Entries (ρ 44), vl (Y0a Y0b) x77.Entries (.slice a78 (x77.Entries).length c80), vl Y0e x51 (.agg cs66.toArray), vl Y0e x48 (.agg cs71.toArray), vl Y0g x43 (.agg cs44.toArray), vl Y0m x38 (.agg cs39.toArray), vl (Y0a Y0h) x34 (.slice a35 x34.length c37), vl Y0m x28 (.agg cs29.toArray), vl (Y0a Y0h) x24 (.slice a25 x24.length c27), vl Y0m x21 (.agg cs22.toArray), vl (Y0a Y0h) x17 (.slice a18 x17.length c20), vl (Y0a Y0h) x12 (.slice a13 x12.length c15), vl (Y0a (tInt .i64)) x1 (.slice a2 x1.length c3), vl (Y0a (tInt .i64)) x4 (.slice a5 x4.length c6)] [blk g81 35 [bstr x77.Field.Name, .int .i64 x77.Field.Kind, .int .i64 x77.Field.f_Type, .int .i64 x77.Field.At, .slice a78 (x77.Entries).length c80], blk g64 35 cs66, blk g46 31 cs44, blk g41 25 cs39, blk g32 25 cs29, blk g31 25 cs22] := hs
 have e394 : ρ 73 = .bool false := hp30_
 have e395 : ρ 72 = undef := hp29_
 have e396 : ρ 71 = .bool false := hp28_
 have e397 : ρ 70 = .bool false := hp27_
 have e398 : ρ 69 = undef := hp26_
 have e399 : ρ 68 = undef := hp25_
 have e400 : ρ 67 = undef := hp24_
 have e401 : ρ 66 = undef := hp23_
 have e402 : ρ 65 = undef := hp22_
 have e403 : ρ 64 = .bool x118 := hp21_
 have e404 : ρ 63 = .bool x118 := hp20_
 have e405 : ρ 62 = .bool x118 := hp19_
 obtain ⟨⟨a406, c407⟩, e408⟩ := hp18_
 have e408 : ρ 61 = .slice a406 x115.length c407 := e408
 try rw [e408] at hs
 have e409 : ρ 60 = .agg cs39.toArray := hp17_
 have e410 : ρ 59 = .agg cs44.toArray := hp16_
 have e411 : ρ 58 = .slice a78 (x77.Entries).length c80 := hp15_
 have e412 : ρ 57 = .pointer (some ⟨g81, 4, none⟩) := hp14_
 have e413 : ρ 56 = .bool x113 := hp13_
 have e414 : ρ 55 = .bool x113 := hp12_
 have e415 : ρ 54 = .bool x113 := hp11_
 obtain ⟨cs416, e418⟩ := hp10_
 have e418 : ρ 53 = .agg cs416.toArray := e418
 try rw [e418] at hs
 have e419 : ρ 52 = .agg cs29.toArray := hp9_
 have e420 : ρ 51 = .agg cs44.toArray := hp8_
 have e421 : ρ 50 = .agg cs66.toArray := hp7_
 have e422 : ρ 49 = .bool x108 := hp6_
 have e423 : ρ 48 = .bool x108 := hp5_
 obtain ⟨⟨a424, c425⟩, e426⟩ := hp4_
 have e426 : ρ 47 = .slice a424 x105.length c425 := e426
 try rw [e426] at hs
 have e427 : ρ 46 = .agg cs29.toArray := hp3_
 have e428 : ρ 45 = .agg cs44.toArray := hp2_
 obtain ⟨⟨a429, c430⟩, e431⟩ := hp1_
 have e431 : ρ 44 = .slice a429 (x51.Entries).length c430 := e431
 try rw [e431] at hs
 have e432 : ρ 43 = .pointer (some ⟨g64, 4, none⟩) := hp0_
 have hl417 := hs.agglen (n := 5) 1 rfl rfl rfl
 refine WA.step [31] (by kernel_rfl) (by simp) ⟨?_, trivial⟩
 refine WL.assign (v := .bool false) e394 ?_
 refine WL.nil ⟨rfl, _, rfl, ?_⟩
 refine WA.done (by kernel_rfl) ?_
 exact Jk85 false _ _ rfl ((hs.mask []).pick []) hf } } }
 {
 refine W.any (by kernel_rfl) 31 1 [true, true, true, true, true, true, true, true, true, true, true, true, true, true, true, true, true, true, true, true, true, true, true, true, true, true, true, true, true, true, true, false] rfl rfl (poAt [pv (.pointer (some ⟨g64, 4, none⟩)), pq (fun y : (Option Addr × Nat) => .slice y.1 (x51.Entries).length y.2) (fun v => [vl (Y0a Y0b) x51.Entries v]) (fun v => []), pv (.agg cs44.toArray), pv (.agg cs29.toArray), pq (fun y : (Option Addr × Nat) => .slice y.1 x105.length y.2) (fun v => [vl (Y0a Y03) x105 v]) (fun v => []), pv (.bool x108), pv (.bool x108), pv (.agg cs66.toArray), pv (.agg cs44.toArray), pv (.agg cs29.toArray), pq (fun y : List Value => .agg y.toArray) (fun v => [vl Y0e x110 v]) (fun v => []), pv (.bool x113), pv (.bool x113), pv (.bool x113), pv (undef), pv (undef), pv (undef), pv (undef), pv (undef), pv (undef), pv (.bool false), pv (.bool false), pv (undef), pv (undef), pv (undef), pv (undef), pv (undef), pv (.bool false), pv (.bool false), pv (undef), pv (.bool false)]) (Λ := [blk g81 35 [bstr x77.Field.Name, .int .i64 x77.Field.Kind, .int .i64 x77.Field.f_Type, .int .i64 x77.Field.At, .slice a78 (x77.Entries).length c80], blk g64 35 cs66, blk g46 31 cs44, blk g41 25 cs39, blk g32 25 cs29, blk g31 25 cs22]) hs (by kernel_rfl) (by kernel_rfl) (by kernel_rfl) ⟨⟨⟨⟨⟨⟨⟨⟨⟨⟨⟨⟨⟨⟨⟨⟨⟨⟨⟨⟨⟨⟨⟨⟨⟨⟨⟨⟨⟨⟨⟨trivial, ?_⟩, ?_⟩, ?_⟩, ?_⟩, ?_⟩, ?_⟩, ?_⟩, ?_⟩, ?_⟩, ?_⟩, ?_⟩, ?_⟩, ?_⟩, ?_⟩, ?_⟩, ?_⟩, ?_⟩, ?_⟩, ?_⟩, ?_⟩, ?_⟩, ?_⟩, ?_⟩, ?_⟩, ?_⟩, ?_⟩, ?_⟩, ?_⟩, ?_⟩, ?_⟩, ?_⟩ ?_
 {
 intro ρ w Γx Λx hs hu hp
 refine WL.fieldAddr (m := 4) ((hu 16 rfl).trans e65) Y3e rfl ?_
 exact WL.nil ⟨rfl, _, rfl, rfl, hs.cutG 0 0⟩ }
 {
 intro ρ w Γx Λx hs hu hp
 have e433 : ρ 43 = .pointer (some ⟨g64, 4, none⟩) := (hp 0 rfl).1
 refine WL.loadF (z := x51.Entries) Y1c hs (Λx.length + 1) (Y0t rfl) (Γx.length + 1) (Y0t rfl) rfl TI33 (.inr rfl) e433 rfl (fun v102 hs => ?_)
 obtain ⟨a103, c104, rfl⟩ := hs.slice 0 rfl
 have hs := hs.add (it := vl (Y0a Y0b) x51.Entries (.slice a103 (x51.Entries).length c104)) fun ok hA => hA.get 0 rfl
 exact WL.nil ⟨rfl, _, rfl, ⟨(a103, c104), rfl⟩, hs.cutG 1 1⟩ }
 {
 intro ρ w Γx Λx hs hu hp
 refine WL.loadAll hs (Λx.length + 2) (Y0t rfl) TI31 ((hu 15 rfl).trans (hu63 15 rfl)) hl45 ?_
 exact WL.nil ⟨rfl, _, rfl, rfl, hs.cutG 0 0⟩ }
 {
 intro ρ w Γx Λx hs hu hp
 refine WL.loadAll hs (Λx.length + 4) (Y0t rfl) TI25 ((hu 13 rfl).trans (hu63 13 rfl)) hl30 ?_
 exact WL.nil ⟨rfl, _, rfl, rfl, hs.cutG 0 0⟩ }
 {
 intro ρ w Γx Λx hs hu hp
 have e434 : ρ 45 = .agg cs44.toArray := (hp 2 rfl).1
 have e435 : ρ 46 = .agg cs29.toArray := (hp 3 rfl).1
 refine WL.call (vs := [.agg cs44.toArray, .agg cs29.toArray]) hs FN17 ⟨e434, ⟨e435, trivial⟩⟩ (fun ok hA => Y0f.callc (x1 := x43) (x5 := x28) hxx105 (hA.get (Γx.length + 3) (Y0t rfl)) (hA.get (Γx.length + 6) (Y0t rfl))) ?_
 rintro ⟨a106, c107⟩ w hs
 have hs := hs.add (it := vl (Y0a Y03) x105 (.slice a106 x105.length c107)) fun ok hA => hA.get 0 rfl
 exact WL.nil ⟨rfl, _, rfl, ⟨(a106, c107), rfl⟩, hs.cutG 1 1⟩ }
 {
 intro ρ w Γx Λx hs hu hp
 obtain ⟨⟨⟨a436, c437⟩, e438r⟩, hm439⟩ := hp 1 rfl
 have e438 : ρ 44 = .slice a436 (x51.Entries).length c437 := e438r
 rw [e438r] at hm439
 have hs := hs.memo1 (it := vl (Y0a Y0b) x51.Entries (.slice a436 (x51.Entries).length c437)) (List.mem_append.2 (.inl (hm439 _ (List.mem_of_getElem? (i := 0) rfl))))
 obtain ⟨⟨⟨a440, c441⟩, e442r⟩, hm443⟩ := hp 4 rfl
 have e442 : ρ 47 = .slice a440 x105.length c441 := e442r
 rw [e442r] at hm443
 have hs := hs.memo1 (it := vl (Y0a Y03) x105 (.slice a440 x105.length c441)) (List.mem_cons_of_mem _ (List.mem_append.2 (.inl (hm443 _ (List.mem_of_getElem? (i := 0) rfl)))))
 refine WL.call (vs := [.slice a436 (x51.Entries).length c437, .slice a440 x105.length c441]) hs FN16 ⟨e438, ⟨e442, trivial⟩⟩ (fun ok hA => Y0L.calls (x1 := x51.Entries) (x4 := x105) hxx108 (hA.get 1 rfl) (hA.get 0 rfl)) ?_
 rintro _ w hs
 exact WL.nil ⟨rfl, _, rfl, rfl, hs.cutG 0 2⟩ }
 {
 intro ρ w Γx Λx hs hu hp
 have e444 : ρ 48 = .bool x108 := (hp 5 rfl).1
 refine WL.move (v := .bool x108) e444 ?_
 exact WL.nil ⟨rfl, _, rfl, rfl, hs.cutG 0 0⟩ }
 {
 intro ρ w Γx Λx hs hu hp
 have e445 : ρ 49 = .bool x108 := (hp 6 rfl).1
 refine WL.loadAll hs (Λx.length + 1) (Y0t rfl) TI35 ((hu 16 rfl).trans e65) hl67 ?_ (hg := (Y00 rfl rfl (Y01 e445 hc109)).trans rfl)
 exact WL.nil ⟨rfl, _, rfl, rfl, hs.cutG 0 0⟩ }
 {
 intro ρ w Γx Λx hs hu hp
 have e446 : ρ 49 = .bool x108 := (hp 6 rfl).1
 refine WL.loadAll hs (Λx.length + 2) (Y0t rfl) TI31 ((hu 15 rfl).trans (hu63 15 rfl)) hl45 ?_ (hg := (Y00 rfl rfl (Y01 e446 hc109)).trans rfl)
 exact WL.nil ⟨rfl, _, rfl, rfl, hs.cutG 0 0⟩ }
 {
 intro ρ w Γx Λx hs hu hp
 have e447 : ρ 49 = .bool x108 := (hp 6 rfl).1
 refine WL.loadAll hs (Λx.length + 4) (Y0t rfl) TI25 ((hu 13 rfl).trans (hu63 13 rfl)) hl30 ?_ (hg := (Y00 rfl rfl (Y01 e447 hc109)).trans rfl)
 exact WL.nil ⟨rfl, _, rfl, rfl, hs.cutG 0 0⟩ }
 {
 intro ρ w Γx Λx hs hu hp
 have e448 : ρ 51 = .agg cs44.toArray := (hp 8 rfl).1
 have e449 : ρ 52 = .agg cs29.toArray := (hp 9 rfl).1
 have e450 : ρ 49 = .bool x108 := (hp 6 rfl).1
 refine WL.call (vs := [.agg cs44.toArray, .agg cs29.toArray]) hs FN12 ⟨e448, ⟨e449, trivial⟩⟩ (fun ok hA => Y1x.calls (x1 := x43) (x5 := x28) hxx110 (hA.get (Γx.length + 3) (Y0t rfl)) (hA.get (Γx.length + 6) (Y0t rfl))) ?_ (hg := (Y00 rfl rfl (Y01 e450 hc109)).trans rfl)
 rintro cs111 w hs
 have hl112 := hs.agglen (n := 5) 0 rfl rfl rfl
 have hs := hs.add (it := vl Y0e x110 (.agg cs111.toArray)) fun ok hA => hA.get 0 rfl
 exact WL.nil ⟨rfl, _, rfl, ⟨cs111, rfl⟩, hs.cutG 1 1⟩ }
 {
 intro ρ w Γx Λx hs hu hp
 have e451 : ρ 50 = .agg cs66.toArray := (hp 7 rfl).1
 obtain ⟨⟨cs452, e454r⟩, hm455⟩ := hp 10 rfl
 have e454 : ρ 53 = .agg cs452.toArray := e454r
 rw [e454r] at hm455
 have hs := hs.memo1 (it := vl Y0e x110 (.agg cs452.toArray)) (List.mem_append.2 (.inl (hm455 _ (List.mem_of_getElem? (i := 0) rfl))))
 have hl453 := hs.agglen (n := 5) 0 rfl rfl rfl
 have e456 : ρ 49 = .bool x108 := (hp 6 rfl).1
 refine WL.call (vs := [.agg cs66.toArray, .agg cs452.toArray]) hs FN27 ⟨e451, ⟨e454, trivial⟩⟩ (fun ok hA => Y0W.calls (x1 := x51) (x5 := x110) hxx113 (hA.get (Γx.length + 1 + 1) (Y2Q rfl)) (hA.get 0 rfl)) ?_ (hg := (Y00 rfl rfl (Y01 e456 hc109)).trans rfl)
 rintro _ w hs
 exact WL.nil ⟨rfl, _, rfl, rfl, hs.cutG 0 1⟩ }
 {
 intro ρ w Γx Λx hs hu hp
 have e457 : ρ 49 = .bool x108 := (hp 6 rfl).1
 have e458 : ρ 54 = .bool x113 := (hp 11 rfl).1
 refine WL.pickT (v := .bool x113) (Y01 e457 hc109) e458 ?_
 exact WL.nil ⟨rfl, _, rfl, rfl, hs.cutG 0 0⟩ }
 {
 intro ρ w Γx Λx hs hu hp
 have e459 : ρ 55 = .bool x113 := (hp 12 rfl).1
 refine WL.move (v := .bool x113) e459 ?_
 exact WL.nil ⟨rfl, _, rfl, rfl, hs.cutG 0 0⟩ }
 {
 intro ρ w Γx Λx hs hu hp
 have e460 : ρ 56 = .bool x113 := (hp 13 rfl).1
 refine WL.pass ((Y00 rfl rfl (Y01 e460 hc114)).trans rfl) rfl ?_
 exact WL.nil ⟨rfl, _, rfl, rfl, hs.cutG 0 0⟩ }
 {
 intro ρ w Γx Λx hs hu hp
 have e461 : ρ 57 = undef := (hp 14 rfl).1
 have e462 : ρ 56 = .bool x113 := (hp 13 rfl).1
 refine WL.pass ((Y00 rfl rfl (Y01 e462 hc114)).trans rfl) rfl ?_
 exact WL.nil ⟨rfl, _, rfl, rfl, hs.cutG 0 0⟩ }
 {
 intro ρ w Γx Λx hs hu hp
 have e463 : ρ 56 = .bool x113 := (hp 13 rfl).1
 refine WL.pass ((Y00 rfl rfl (Y01 e463 hc114)).trans rfl) rfl ?_
 exact WL.nil ⟨rfl, _, rfl, rfl, hs.cutG 0 0⟩ }
 {
 intro ρ w Γx Λx hs hu hp
 have e464 : ρ 56 = .bool x113 := (hp 13 rfl).1
 refine WL.pass ((Y00 rfl rfl (Y01 e464 hc114)).trans rfl) rfl ?_
 exact WL.nil ⟨rfl, _, rfl, rfl, hs.cutG 0 0⟩ }
 {
 intro ρ w Γx Λx hs hu hp
 have e465 : ρ 59 = undef := (hp 16 rfl).1
 have e466 : ρ 60 = undef := (hp 17 rfl).1
 have e467 : ρ 56 = .bool x113 := (hp 13 rfl).1
 refine WL.pass ((Y00 rfl rfl (Y01 e467 hc114)).trans rfl) rfl ?_
 exact WL.nil ⟨rfl, _, rfl, rfl, hs.cutG 0 0⟩ }
 {
 intro ρ w Γx Λx hs hu hp
 have e468 : ρ 58 = undef := (hp 15 rfl).1
 have e469 : ρ 61 = undef := (hp 18 rfl).1
 have e470 : ρ 56 = .bool x113 := (hp 13 rfl).1
 refine WL.pass ((Y00 rfl rfl (Y01 e470 hc114)).trans rfl) rfl ?_
 exact WL.nil ⟨rfl, _, rfl, rfl, hs.cutG 0 0⟩ }
 {
 intro ρ w Γx Λx hs hu hp
 have e471 : ρ 56 = .bool x113 := (hp 13 rfl).1
 have e472 : ρ 62 = undef := (hp 19 rfl).1
 refine WL.pickF (v := .bool false) (Y01 e471 hc114) rfl ?_
 exact WL.nil ⟨rfl, _, rfl, rfl, hs.cutG 0 0⟩ }
 {
 intro ρ w Γx Λx hs hu hp
 have e473 : ρ 63 = .bool false := (hp 20 rfl).1
 refine WL.move (v := .bool false) e473 ?_
 exact WL.nil ⟨rfl, _, rfl, rfl, hs.cutG 0 0⟩ }
 {
 intro ρ w Γx Λx hs hu hp
 have e474 : ρ 64 = .bool false := (hp 21 rfl).1
 refine WL.pass ((Y00 rfl rfl e474).trans rfl) rfl ?_
 exact WL.nil ⟨rfl, _, rfl, rfl, hs.cutG 0 0⟩ }
 {
 intro ρ w Γx Λx hs hu hp
 have e475 : ρ 64 = .bool false := (hp 21 rfl).1
 refine WL.pass ((Y00 rfl rfl e475).trans rfl) rfl ?_
 exact WL.nil ⟨rfl, _, rfl, rfl, hs.cutG 0 0⟩ }
 {
 intro ρ w Γx Λx hs hu hp
 have e476 : ρ 64 = .bool false := (hp 21 rfl).1
 refine WL.pass ((Y00 rfl rfl e476).trans rfl) rfl ?_
 exact WL.nil ⟨rfl, _, rfl, rfl, hs.cutG 0 0⟩ }
 {
 intro ρ w Γx Λx hs hu hp
 have e477 : ρ 66 = undef := (hp 23 rfl).1
 have e478 : ρ 67 = undef := (hp 24 rfl).1
 have e479 : ρ 64 = .bool false := (hp 21 rfl).1
 refine WL.pass ((Y00 rfl rfl e479).trans rfl) rfl ?_
 exact WL.nil ⟨rfl, _, rfl, rfl, hs.cutG 0 0⟩ }
 {
 intro ρ w Γx Λx hs hu hp
 have e480 : ρ 65 = undef := (hp 22 rfl).1
 have e481 : ρ 68 = undef := (hp 25 rfl).1
 have e482 : ρ 64 = .bool false := (hp 21 rfl).1
 refine WL.pass ((Y00 rfl rfl e482).trans rfl) rfl ?_
 exact WL.nil ⟨rfl, _, rfl, rfl, hs.cutG 0 0⟩ }
 {
 intro ρ w Γx Λx hs hu hp
 have e483 : ρ 64 = .bool false := (hp 21 rfl).1
 have e484 : ρ 69 = undef := (hp 26 rfl).1
 refine WL.pickF (v := .bool false) e483 rfl ?_
 exact WL.nil ⟨rfl, _, rfl, rfl, hs.cutG 0 0⟩ }
 {
 intro ρ w Γx Λx hs hu hp
 have e485 : ρ 70 = .bool false := (hp 27 rfl).1
 refine WL.move (v := .bool false) e485 ?_
 exact WL.nil ⟨rfl, _, rfl, rfl, hs.cutG 0 0⟩ }
 {
 intro ρ w Γx Λx hs hu hp
 have e486 : ρ 71 = .bool false := (hp 28 rfl).1
 refine WL.pass ((Y00 rfl rfl e486).trans rfl) rfl ?_
 exact WL.nil ⟨rfl, _, rfl, rfl, hs.cutG 0 0⟩ }
 {
 intro ρ w Γx Λx hs hu hp
 have e487 : ρ 71 = .bool false := (hp 28 rfl).1
 have e488 : ρ 72 = undef := (hp 29 rfl).1
 refine WL.pickF (v := .bool false) e487 rfl ?_
 exact WL.nil ⟨rfl, _, rfl, rfl, hs.cutG 0 0⟩ }
 {
 intro ρ w hs hu489 hp
 obtain ⟨⟨⟨⟨⟨⟨⟨⟨⟨⟨⟨⟨⟨⟨⟨⟨⟨⟨⟨⟨⟨⟨⟨⟨⟨⟨⟨⟨⟨⟨⟨_, hp0_⟩, hp1_⟩, hp2_⟩, hp3_⟩, hp4_⟩, hp5_⟩, hp6_⟩, hp7_⟩, hp8_⟩, hp9_⟩, hp10_⟩, hp11_⟩, hp12_⟩, hp13_⟩, hp14_⟩, hp15_⟩, hp16_⟩, hp17_⟩, hp18_⟩, hp19_⟩, hp20_⟩, hp21_⟩, hp22_⟩, hp23_⟩, hp24_⟩, hp25_⟩, hp26_⟩, hp27_⟩, hp28_⟩, hp29_⟩, hp30_⟩ := hp
 have hs : St ok (bz w0) w [vl Y0e x110 (ρ 53), vl (Y0a Y03) x105 (ρ 47), vl (Y0a Y0b) x51.Entries (ρ 44), vl (Y0a Y0b) x77.Entries (.slice a78 (x77.Entries).length c80), vl Y0e x51 (.agg cs66.toArray), vl Y0e x48 (.agg cs71.toArray), vl Y0g x43 (.agg cs44.toArray), vl Y0m x38 (.agg cs39.toArray), vl (Y0a Y0h) x34 (.slice a35 x34.length c37), vl Y0m x28 (.agg cs29.toArray), vl (Y0a Y0h) x24 (.slice a25 x24.length c27), vl Y0m x21 (.agg cs22.toArray), vl (Y0a Y0h) x17 (.slice a18 x17.length c20), vl (Y0a Y0h) x12 (.slice a13 x12.length c15), vl (Y0a (tInt .i64)) x1 (.slice a2 x1.length c3), vl (Y0a (tInt .i64)) x4 (.slice a5 x4.length c6)] [blk g81 35 [bstr x77.Field.Name, .int .i64 x77.Field.Kind, .int .i64 x77.Field.f_Type, .int .i64 x77.Field.At, .slice a78 (x77.Entries).length c80], blk g64 35 cs66, blk g46 31 cs44, blk g41 25 cs39, blk g32 25 cs29, blk g31 25 cs22] := hs
 have e490 : ρ 73 = .bool false := hp30_
 have e491 : ρ 72 = undef := hp29_
 have e492 : ρ 71 = .bool false := hp28_
 have e493 : ρ 70 = .bool false := hp27_
 have e494 : ρ 69 = undef := hp26_
 have e495 : ρ 68 = undef := hp25_
 have e496 : ρ 67 = undef := hp24_
 have e497 : ρ 66 = undef := hp23_
 have e498 : ρ 65 = undef := hp22_
 have e499 : ρ 64 = .bool false := hp21_
 have e500 : ρ 63 = .bool false := hp20_
 have e501 : ρ 62 = undef := hp19_
 have e502 : ρ 61 = undef := hp18_
 have e503 : ρ 60 = undef := hp17_
 have e504 : ρ 59 = undef := hp16_
 have e505 : ρ 58 = undef := hp15_
 have e506 : ρ 57 = undef := hp14_
 have e507 : ρ 56 = .bool x113 := hp13_
 have e508 : ρ 55 = .bool x113 := hp12_
 have e509 : ρ 54 = .bool x113 := hp11_
 obtain ⟨cs510, e512⟩ := hp10_
 have e512 : ρ 53 = .agg cs510.toArray := e512
 try rw [e512] at hs
 have e513 : ρ 52 = .agg cs29.toArray := hp9_
 have e514 : ρ 51 = .agg cs44.toArray := hp8_
 have e515 : ρ 50 = .agg cs66.toArray := hp7_
 have e516 : ρ 49 = .bool x108 := hp6_
 have e517 : ρ 48 = .bool x108 := hp5_
 obtain ⟨⟨a518, c519⟩, e520⟩ := hp4_
 have e520 : ρ 47 = .slice a518 x105.length c519 := e520
 try rw [e520] at hs
 have e521 : ρ 46 = .agg cs29.toArray := hp3_
 have e522 : ρ 45 = .agg cs44.toArray := hp2_
 obtain ⟨⟨a523, c524⟩, e525⟩ := hp1_
 have e525 : ρ 44 = .slice a523 (x51.Entries).length c524 := e525
 try rw [e525] at hs
 have e526 : ρ 43 = .pointer (some ⟨g64, 4, none⟩) := hp0_
 have hl511 := hs.agglen (n := 5) 0 rfl rfl rfl
 refine WA.step [31] (by kernel_rfl) (by simp) ⟨?_, trivial⟩
 refine WL.assign (v := .bool false) e490 ?_
 refine WL.nil ⟨rfl, _, rfl, ?_⟩
 refine WA.done (by kernel_rfl) ?_
 exact Jk85 false _ _ rfl ((hs.mask []).pick []) hf } } }
 {
 refine W.any (by kernel_rfl) 31 1 [true, true, true, true, true, true, true, true, true, true, true, true, true, true, true, true, true, true, true, true, true, true, true, true, true, true, true, true, true, true, true, false] rfl rfl (poAt [pv (.pointer (some ⟨g64, 4, none⟩)), pq (fun y : (Option Addr × Nat) => .slice y.1 (x51.Entries).length y.2) (fun v => [vl (Y0a Y0b) x51.Entries v]) (fun v => []), pv (.agg cs44.toArray), pv (.agg cs29.toArray), pq (fun y : (Option Addr × Nat) => .slice y.1 x105.length y.2) (fun v => [vl (Y0a Y03) x105 v]) (fun v => []), pv (.bool x108), pv (.bool x108), pv (undef), pv (undef), pv (undef), pv (undef), pv (undef), pv (.bool false), pv (.bool false), pv (undef), pv (undef), pv (undef), pv (undef), pv (undef), pv (undef), pv (.bool false), pv (.bool false), pv (undef), pv (undef), pv (undef), pv (undef), pv (undef), pv (.bool false), pv (.bool false), pv (undef), pv (.bool false)]) (Λ := [blk g81 35 [bstr x77.Field.Name, .int .i64 x77.Field.Kind, .int .i64 x77.Field.f_Type, .int .i64 x77.Field.At, .slice a78 (x77.Entries).length c80], blk g64 35 cs66, blk g46 31 cs44, blk g41 25 cs39, blk g32 25 cs29, blk g31 25 cs22]) hs (by kernel_rfl) (by kernel_rfl) (by kernel_rfl) ⟨⟨⟨⟨⟨⟨⟨⟨⟨⟨⟨⟨⟨⟨⟨⟨⟨⟨⟨⟨⟨⟨⟨⟨⟨⟨⟨⟨⟨⟨⟨trivial, ?_⟩, ?_⟩, ?_⟩, ?_⟩, ?_⟩, ?_⟩, ?_⟩, ?_⟩, ?_⟩, ?_⟩, ?_⟩, ?_⟩, ?_⟩, ?_⟩, ?_⟩, ?_⟩, ?_⟩, ?_⟩, ?_⟩, ?_⟩, ?_⟩, ?_⟩, ?_⟩, ?_⟩, ?_⟩, ?_⟩, ?_⟩, ?_⟩, ?_⟩, ?_⟩, ?_⟩ ?_
 {
 intro ρ w Γx Λx hs hu hp
 refine WL.fieldAddr (m := 4) ((hu 16 rfl).trans e65) Y3e rfl ?_
 exact WL.nil ⟨rfl, _, rfl, rfl, hs.cutG 0 0⟩ }
 {
 intro ρ w Γx Λx hs hu hp
 have e527 : ρ 43 = .pointer (some ⟨g64, 4, none⟩) := (hp 0 rfl).1
 refine WL.loadF (z := x51.Entries) Y1c hs (Λx.length + 1) (Y0t rfl) (Γx.length + 1) (Y0t rfl) rfl TI33 (.inr rfl) e527 rfl (fun v102 hs => ?_)
 obtain ⟨a103, c104, rfl⟩ := hs.slice 0 rfl
 have hs := hs.add (it := vl (Y0a Y0b) x51.Entries (.slice a103 (x51.Entries).length c104)) fun ok hA => hA.get 0 rfl
 exact WL.nil ⟨rfl, _, rfl, ⟨(a103, c104), rfl⟩, hs.cutG 1 1⟩ }
 {
 intro ρ w Γx Λx hs hu hp
 refine WL.loadAll hs (Λx.length + 2) (Y0t rfl) TI31 ((hu 15 rfl).trans (hu63 15 rfl)) hl45 ?_
 exact WL.nil ⟨rfl, _, rfl, rfl, hs.cutG 0 0⟩ }
 {
 intro ρ w Γx Λx hs hu hp
 refine WL.loadAll hs (Λx.length + 4) (Y0t rfl) TI25 ((hu 13 rfl).trans (hu63 13 rfl)) hl30 ?_
 exact WL.nil ⟨rfl, _, rfl, rfl, hs.cutG 0 0⟩ }
 {
 intro ρ w Γx Λx hs hu hp
 have e528 : ρ 45 = .agg cs44.toArray := (hp 2 rfl).1
 have e529 : ρ 46 = .agg cs29.toArray := (hp 3 rfl).1
 refine WL.call (vs := [.agg cs44.toArray, .agg cs29.toArray]) hs FN17 ⟨e528, ⟨e529, trivial⟩⟩ (fun ok hA => Y0f.callc (x1 := x43) (x5 := x28) hxx105 (hA.get (Γx.length + 3) (Y0t rfl)) (hA.get (Γx.length + 6) (Y0t rfl))) ?_
 rintro ⟨a106, c107⟩ w hs
 have hs := hs.add (it := vl (Y0a Y03) x105 (.slice a106 x105.length c107)) fun ok hA => hA.get 0 rfl
 exact WL.nil ⟨rfl, _, rfl, ⟨(a106, c107), rfl⟩, hs.cutG 1 1⟩ }
 {
 intro ρ w Γx Λx hs hu hp
 obtain ⟨⟨⟨a530, c531⟩, e532r⟩, hm533⟩ := hp 1 rfl
 have e532 : ρ 44 = .slice a530 (x51.Entries).length c531 := e532r
 rw [e532r] at hm533
 have hs := hs.memo1 (it := vl (Y0a Y0b) x51.Entries (.slice a530 (x51.Entries).length c531)) (List.mem_append.2 (.inl (hm533 _ (List.mem_of_getElem? (i := 0) rfl))))
 obtain ⟨⟨⟨a534, c535⟩, e536r⟩, hm537⟩ := hp 4 rfl
 have e536 : ρ 47 = .slice a534 x105.length c535 := e536r
 rw [e536r] at hm537
 have hs := hs.memo1 (it := vl (Y0a Y03) x105 (.slice a534 x105.length c535)) (List.mem_cons_of_mem _ (List.mem_append.2 (.inl (hm537 _ (List.mem_of_getElem? (i := 0) rfl)))))
 refine WL.call (vs := [.slice a530 (x51.Entries).length c531, .slice a534 x105.length c535]) hs FN16 ⟨e532, ⟨e536, trivial⟩⟩ (fun ok hA => Y0L.calls (x1 := x51.Entries) (x4 := x105) hxx108 (hA.get 1 rfl) (hA.get 0 rfl)) ?_
 rintro _ w hs
 exact WL.nil ⟨rfl, _, rfl, rfl, hs.cutG 0 2⟩ }
 {
 intro ρ w Γx Λx hs hu hp
 have e538 : ρ 48 = .bool x108 := (hp 5 rfl).1
 refine WL.move (v := .bool x108) e538 ?_
 exact WL.nil ⟨rfl, _, rfl, rfl, hs.cutG 0 0⟩ }
 {
 intro ρ w Γx Λx hs hu hp
 have e539 : ρ 49 = .bool x108 := (hp 6 rfl).1
 refine WL.pass ((Y00 rfl rfl (Y01 e539 hc109)).trans rfl) rfl ?_
 exact WL.nil ⟨rfl, _, rfl, rfl, hs.cutG 0 0⟩ }
 {
 intro ρ w Γx Λx hs hu hp
 have e540 : ρ 49 = .bool x108 := (hp 6 rfl).1
 refine WL.pass ((Y00 rfl rfl (Y01 e540 hc109)).trans rfl) rfl ?_
 exact WL.nil ⟨rfl, _, rfl, rfl, hs.cutG 0 0⟩ }
 {
 intro ρ w Γx Λx hs hu hp
 have e541 : ρ 49 = .bool x108 := (hp 6 rfl).1
 refine WL.pass ((Y00 rfl rfl (Y01 e541 hc109)).trans rfl) rfl ?_
 exact WL.nil ⟨rfl, _, rfl, rfl, hs.cutG 0 0⟩ }
 {
 intro ρ w Γx Λx hs hu hp
 have e542 : ρ 51 = undef := (hp 8 rfl).1
 have e543 : ρ 52 = undef := (hp 9 rfl).1
 have e544 : ρ 49 = .bool x108 := (hp 6 rfl).1
 refine WL.pass ((Y00 rfl rfl (Y01 e544 hc109)).trans rfl) rfl ?_
 exact WL.nil ⟨rfl, _, rfl, rfl, hs.cutG 0 0⟩ }
 {
 intro ρ w Γx Λx hs hu hp
 have e545 : ρ 50 = undef := (hp 7 rfl).1
 have e546 : ρ 53 = undef := (hp 10 rfl).1
 have e547 : ρ 49 = .bool x108 := (hp 6 rfl).1
 refine WL.pass ((Y00 rfl rfl (Y01 e547 hc109)).trans rfl) rfl ?_
 exact WL.nil ⟨rfl, _, rfl, rfl, hs.cutG 0 0⟩ }
 {
 intro ρ w Γx Λx hs hu hp
 have e548 : ρ 49 = .bool x108 := (hp 6 rfl).1
 have e549 : ρ 54 = undef := (hp 11 rfl).1
 refine WL.pickF (v := .bool false) (Y01 e548 hc109) rfl ?_
 exact WL.nil ⟨rfl, _, rfl, rfl, hs.cutG 0 0⟩ }
 {
 intro ρ w Γx Λx hs hu hp
 have e550 : ρ 55 = .bool false := (hp 12 rfl).1
 refine WL.move (v := .bool false) e550 ?_
 exact WL.nil ⟨rfl, _, rfl, rfl, hs.cutG 0 0⟩ }
 {
 intro ρ w Γx Λx hs hu hp
 have e551 : ρ 56 = .bool false := (hp 13 rfl).1
 refine WL.pass ((Y00 rfl rfl e551).trans rfl) rfl ?_
 exact WL.nil ⟨rfl, _, rfl, rfl, hs.cutG 0 0⟩ }
 {
 intro ρ w Γx Λx hs hu hp
 have e552 : ρ 57 = undef := (hp 14 rfl).1
 have e553 : ρ 56 = .bool false := (hp 13 rfl).1
 refine WL.pass ((Y00 rfl rfl e553).trans rfl) rfl ?_
 exact WL.nil ⟨rfl, _, rfl, rfl, hs.cutG 0 0⟩ }
 {
 intro ρ w Γx Λx hs hu hp
 have e554 : ρ 56 = .bool false := (hp 13 rfl).1
 refine WL.pass ((Y00 rfl rfl e554).trans rfl) rfl ?_
 exact WL.nil ⟨rfl, _, rfl, rfl, hs.cutG 0 0⟩ }
 {
 intro ρ w Γx Λx hs hu hp
 have e555 : ρ 56 = .bool false := (hp 13 rfl).1
 refine WL.pass ((Y00 rfl rfl e555).trans rfl) rfl ?_
 exact WL.nil ⟨rfl, _, rfl, rfl, hs.cutG 0 0⟩ }
 {
 intro ρ w Γx Λx hs hu hp
 have e556 : ρ 59 = undef := (hp 16 rfl).1
 have e557 : ρ 60 = undef := (hp 17 rfl).1
 have e558 : ρ 56 = .bool false := (hp 13 rfl).1
 refine WL.pass ((Y00 rfl rfl e558).trans rfl) rfl ?_
 exact WL.nil ⟨rfl, _, rfl, rfl, hs.cutG 0 0⟩ }
 {
 intro ρ w Γx Λx hs hu hp
 have e559 : ρ 58 = undef := (hp 15 rfl).1
 have e560 : ρ 61 = undef := (hp 18 rfl).1
 have e561 : ρ 56 = .bool false := (hp 13 rfl).1
 refine WL.pass ((Y00 rfl rfl e561).trans rfl) rfl ?_
 exact WL.nil ⟨rfl, _, rfl, rfl, hs.cutG 0 0⟩ }
 {
 intro ρ w Γx Λx hs hu hp
 have e562 : ρ 56 = .bool false := (hp 13 rfl).1
 have e563 : ρ 62 = undef := (hp 19 rfl).1
 refine WL.pickF (v := .bool false) e562 rfl ?_
 exact WL.nil ⟨rfl, _, rfl, rfl, hs.cutG 0 0⟩ }
 {
 intro ρ w Γx Λx hs hu hp
 have e564 : ρ 63 = .bool false := (hp 20 rfl).1
 refine WL.move (v := .bool false) e564 ?_
 exact WL.nil ⟨rfl, _, rfl, rfl, hs.cutG 0 0⟩ }
 {
 intro ρ w Γx Λx hs hu hp
 have e565 : ρ 64 = .bool false := (hp 21 rfl).1
 refine WL.pass ((Y00 rfl rfl e565).trans rfl) rfl ?_
 exact WL.nil ⟨rfl, _, rfl, rfl, hs.cutG 0 0⟩ }
 {
 intro ρ w Γx Λx hs hu hp
 have e566 : ρ 64 = .bool false := (hp 21 rfl).1
 refine WL.pass ((Y00 rfl rfl e566).trans rfl) rfl ?_
 exact WL.nil ⟨rfl, _, rfl, rfl, hs.cutG 0 0⟩ }
 {
 intro ρ w Γx Λx hs hu hp
 have e567 : ρ 64 = .bool false := (hp 21 rfl).1
 refine WL.pass ((Y00 rfl rfl e567).trans rfl) rfl ?_
 exact WL.nil ⟨rfl, _, rfl, rfl, hs.cutG 0 0⟩ }
 {
 intro ρ w Γx Λx hs hu hp
 have e568 : ρ 66 = undef := (hp 23 rfl).1
 have e569 : ρ 67 = undef := (hp 24 rfl).1
 have e570 : ρ 64 = .bool false := (hp 21 rfl).1
 refine WL.pass ((Y00 rfl rfl e570).trans rfl) rfl ?_
 exact WL.nil ⟨rfl, _, rfl, rfl, hs.cutG 0 0⟩ }
 {
 intro ρ w Γx Λx hs hu hp
 have e571 : ρ 65 = undef := (hp 22 rfl).1
 have e572 : ρ 68 = undef := (hp 25 rfl).1
 have e573 : ρ 64 = .bool false := (hp 21 rfl).1
 refine WL.pass ((Y00 rfl rfl e573).trans rfl) rfl ?_
 exact WL.nil ⟨rfl, _, rfl, rfl, hs.cutG 0 0⟩ }
 {
 intro ρ w Γx Λx hs hu hp
 have e574 : ρ 64 = .bool false := (hp 21 rfl).1
 have e575 : ρ 69 = undef := (hp 26 rfl).1
 refine WL.pickF (v := .bool false) e574 rfl ?_
 exact WL.nil ⟨rfl, _, rfl, rfl, hs.cutG 0 0⟩ }
 {
 intro ρ w Γx Λx hs hu hp
 have e576 : ρ 70 = .bool false := (hp 27 rfl).1
 refine WL.move (v := .bool false) e576 ?_
 exact WL.nil ⟨rfl, _, rfl, rfl, hs.cutG 0 0⟩ }
 {
 intro ρ w Γx Λx hs hu hp
 have e577 : ρ 71 = .bool false := (hp 28 rfl).1
 refine WL.pass ((Y00 rfl rfl e577).trans rfl) rfl ?_
 exact WL.nil ⟨rfl, _, rfl, rfl, hs.cutG 0 0⟩ }
 {
 intro ρ w Γx Λx hs hu hp
 have e578 : ρ 71 = .bool false := (hp 28 rfl).1
 have e579 : ρ 72 = undef := (hp 29 rfl).1
 refine WL.pickF (v := .bool false) e578 rfl ?_
 exact WL.nil ⟨rfl, _, rfl, rfl, hs.cutG 0 0⟩ }
 {
 intro ρ w hs hu580 hp
 obtain ⟨⟨⟨⟨⟨⟨⟨⟨⟨⟨⟨⟨⟨⟨⟨⟨⟨⟨⟨⟨⟨⟨⟨⟨⟨⟨⟨⟨⟨⟨⟨_, hp0_⟩, hp1_⟩, hp2_⟩, hp3_⟩, hp4_⟩, hp5_⟩, hp6_⟩, hp7_⟩, hp8_⟩, hp9_⟩, hp10_⟩, hp11_⟩, hp12_⟩, hp13_⟩, hp14_⟩, hp15_⟩, hp16_⟩, hp17_⟩, hp18_⟩, hp19_⟩, hp20_⟩, hp21_⟩, hp22_⟩, hp23_⟩, hp24_⟩, hp25_⟩, hp26_⟩, hp27_⟩, hp28_⟩, hp29_⟩, hp30_⟩ := hp
 have hs : St ok (bz w0) w [vl (Y0a Y03) x105 (ρ 47), vl (Y0a Y0b) x51.Entries (ρ 44), vl (Y0a Y0b) x77.Entries (.slice a78 (x77.Entries).length c80), vl Y0e x51 (.agg cs66.toArray), vl Y0e x48 (.agg cs71.toArray), vl Y0g x43 (.agg cs44.toArray), vl Y0m x38 (.agg cs39.toArray), vl (Y0a Y0h) x34 (.slice a35 x34.length c37), vl Y0m x28 (.agg cs29.toArray), vl (Y0a Y0h) x24 (.slice a25 x24.length c27), vl Y0m x21 (.agg cs22.toArray), vl (Y0a Y0h) x17 (.slice a18 x17.length c20), vl (Y0a Y0h) x12 (.slice a13 x12.length c15), vl (Y0a (tInt .i64)) x1 (.slice a2 x1.length c3), vl (Y0a (tInt .i64)) x4 (.slice a5 x4.length c6)] [blk g81 35 [bstr x77.Field.Name, .int .i64 x77.Field.Kind, .int .i64 x77.Field.f_Type, .int .i64 x77.Field.At, .slice a78 (x77.Entries).length c80], blk g64 35 cs66, blk g46 31 cs44, blk g41 25 cs39, blk g32 25 cs29, blk g31 25 cs22] := hs
 have e581 : ρ 73 = .bool false := hp30_
 have e582 : ρ 72 = undef := hp29_
 have e583 : ρ 71 = .bool false := hp28_
 have e584 : ρ 70 = .bool false := hp27_
 have e585 : ρ 69 = undef := hp26_
 have e586 : ρ 68 = undef := hp25_
 have e587 : ρ 67 = undef := hp24_
 have e588 : ρ 66 = undef := hp23_
 have e589 : ρ 65 = undef := hp22_
 have e590 : ρ 64 = .bool false := hp21_
 have e591 : ρ 63 = .bool false := hp20_
 have e592 : ρ 62 = undef := hp19_
 have e593 : ρ 61 = undef := hp18_
 have e594 : ρ 60 = undef := hp17_
 have e595 : ρ 59 = undef := hp16_
 have e596 : ρ 58 = undef := hp15_
 have e597 : ρ 57 = undef := hp14_
 have e598 : ρ 56 = .bool false := hp13_
 have e599 : ρ 55 = .bool false := hp12_
 have e600 : ρ 54 = undef := hp11_
 have e601 : ρ 53 = undef := hp10_
 have e602 : ρ 52 = undef := hp9_
 have e603 : ρ 51 = undef := hp8_
 have e604 : ρ 50 = undef := hp7_
 have e605 : ρ 49 = .bool x108 := hp6_
 have e606 : ρ 48 = .bool x108 := hp5_
 obtain ⟨⟨a607, c608⟩, e609⟩ := hp4_
 have e609 : ρ 47 = .slice a607 x105.length c608 := e609
 try rw [e609] at hs
 have e610 : ρ 46 = .agg cs29.toArray := hp3_
 have e611 : ρ 45 = .agg cs44.toArray := hp2_
 obtain ⟨⟨a612, c613⟩, e614⟩ := hp1_
 have e614 : ρ 44 = .slice a612 (x51.Entries).length c613 := e614
 try rw [e614] at hs
 have e615 : ρ 43 = .pointer (some ⟨g64, 4, none⟩) := hp0_
 refine WA.step [31] (by kernel_rfl) (by simp) ⟨?_, trivial⟩
 refine WL.assign (v := .bool false) e581 ?_
 refine WL.nil ⟨rfl, _, rfl, ?_⟩
 refine WA.done (by kernel_rfl) ?_
 exact Jk85 false _ _ rfl ((hs.mask []).pick []) hf } } }
end
section
open Go Go.Proofs.YtpfgdjfiimknlaaGreatL
structure GD (n : Nat) (objs : List Y06) : Prop where
 asc : SA ON_ objs
 len : objs.length ≤ n
 name : ∀ o ∈ objs, o.Name.length ≤ 1000
 ne : ∀ o ∈ objs, o.Fields ≠ []
 fasc : ∀ o ∈ objs, SA FN_ o.Fields
 flen : ∀ o ∈ objs, o.Fields.length ≤ n
 good : ∀ o ∈ objs, ∀ y ∈ o.Fields, GF n y
theorem GD.mono {n m : Nat} {objs : List Y06} (h : GD n objs) (hm : n ≤ m) : GD m objs :=
 ⟨h.asc, Nat.le_trans h.len hm, h.name, h.ne, h.fasc, fun o ho => Nat.le_trans (h.flen o ho) hm, fun o ho y hy => (h.good o ho y hy).mono hm⟩
theorem GD_nil (n : Nat) : GD n [] := ⟨List.Pairwise.nil, Nat.zero_le _, by simp, by simp, by simp, by simp, by simp⟩
def appT (u : Y0j) (objs : List Y06) : List Y06 := u.Effects.foldl (effT u) objs
def Y5Z (s : List Y0j) (objs : List Y06) : List Y06 := s.foldl (fun o u => appT u o) objs
theorem Y8t {u : Y0j} {n : Nat} {x : Y1E} (h : BI n x) (he : ∀ e ∈ u.Effects, EF e) (hn : n + u.Effects.length ≤ 1000000) :
  ∃ x', Y25 u x = some x' ∧ BI (n + u.Effects.length) x' ∧ Y2W x' = appT u (Y2W x) := by
 unfold Y25
 refine Y2B (I := fun k s => s.1 = (k : Int) ∧ BI (n + k) s.2 ∧ Y2W s.2 = (u.Effects.take k).foldl (effT u) (Y2W x)) u.Effects.length ⟨rfl, h, rfl⟩ ?_ ?_
 ·rintro k ⟨i, y⟩ hk ⟨hi, h1, h2⟩
  simp only at hi h1 h2
  subst hi
  obtain ⟨x', e1, e2, e3⟩ := eff_eq (u := u) h1 (he _ (List.getElem_mem hk)) (by omega)
  refine ⟨(((k + 1 : Nat) : Int), x'), ?_, rfl, e2, ?_⟩
  ·unfold Y25.l1
   simp only [Y1k hk, if_true, Y1a hk, Option.bind_some, e1, letV, Y2G hk (by omega)]
  ·rw [Y1i hk, List.foldl_append, ← h2, e3]
   rfl
 ·rintro ⟨i, y⟩ ⟨hi, h1, h2⟩
  simp only at hi h1 h2
  subst hi
  rw [List.take_length] at h2
  refine ⟨y, ?_, h1, h2⟩
  unfold Y25.l1
  simp only [Y16, Bool.false_eq_true, if_false]
theorem Y8q {l : List (List UInt8)} (h : l.length ≤ 1000000) : Y1v l = some l := by
 unfold Y1v
 rw [Y2L (by simp; omega)]
 rfl
theorem Y6B {α : Type} {key : α → List UInt8} {l : List α} (h : SA key l) : (l.map key).Nodup := by
 refine List.pairwise_map.2 (h.imp fun {a b} hab e => ?_)
 rw [e, Y2a] at hab
 cases hab
def Y3D (objs : List Y06) : Y1E := objs.map fun o => (o.Name, o.Fields)
theorem Y7K {n : Nat} {o : Y06} (h1 : SA FN_ o.Fields) (h2 : o.Fields.length ≤ n) (h3 : ∀ y ∈ o.Fields, GF n y) (hn : n ≤ 1000000) : Y19 (Y1N.l1 o) (0, []) = some o.Fields := by
 have := Y2Y (step := Y1N.l1 o) (fun k => ((k : Int), o.Fields.take k)) o.Fields.length (b := o.Fields) (fun k hk => ?_) ?_
 ·exact this
 ·have hg := h3 _ (List.getElem_mem hk)
  unfold Y1N.l1
  simp only [Y1k hk, if_true, Y1a hk, Option.bind_some]
  rw [Y8q (by have := hg.len; omega), Option.bind_some, letV, Y2G hk (by omega)]
  have e : fput Y07.Name o.Fields[k] (o.Fields.take k) = o.Fields.take (k + 1) := by
   rw [Y1i hk, Y4W]
   rw [List.find?_eq_none]
   intro y hy
   obtain ⟨j, hj, rfl⟩ := List.getElem_of_mem hy
   rw [List.length_take] at hj
   have := List.pairwise_iff_getElem.1 h1 j k (by omega) hk (by omega)
   rw [List.getElem_take]
   intro he
   have he : o.Fields[k].Name = (o.Fields[j]'(by omega)).Name := by simpa using he
   have this : Op.bytesLess (o.Fields[j]'(by omega)).Name o.Fields[k].Name = true := this
   rw [he, Y2a] at this
   cases this
  rw [show ({ o.Fields[k] with Elems := o.Fields[k].Elems } : Y07) = o.Fields[k] from rfl, e]
 ·unfold Y1N.l1
  simp only [Y16, Bool.false_eq_true, if_false, List.take_length]
theorem load_eq {n : Nat} {t : Y0y} (h : GD n t.Objects) (hn : n ≤ 1000000) : Y1N t = some (Y3D t.Objects) := by
 unfold Y1N
 have hlen := h.len
 have := Y2Y (step := Y1N.l2 t) (fun k => ((k : Int), Y3D (t.Objects.take k))) t.Objects.length (b := Y3D t.Objects) (fun k hk => ?_) ?_
 ·exact this
 ·have hm := List.getElem_mem hk
  unfold Y1N.l2
  simp only [Y1k hk, if_true, Y1a hk, Option.bind_some]
  rw [Y7K (h.fasc _ hm) (h.flen _ hm) (h.good _ hm) hn, Option.bind_some, letV, Y2G hk (by omega)]
  have e : mset (Y3D (t.Objects.take k)) t.Objects[k].Name t.Objects[k].Fields = Y3D (t.Objects.take (k + 1)) := by
   unfold Y3D
   rw [Y1i hk, List.map_append, Y2K]
   ·rfl
   ·cases hl : (List.map (fun o : Y06 => (o.Name, o.Fields)) (List.take k t.Objects)).lookup t.Objects[k].Name with
    | none => rfl
    | some fs =>
     exfalso
     obtain ⟨o, ho, he⟩ := List.mem_map.1 (Y2x hl)
     have he : o.Name = t.Objects[k].Name := congrArg Prod.fst he
     obtain ⟨j, hj, rfl⟩ := List.getElem_of_mem ho
     rw [List.length_take] at hj
     have := List.pairwise_iff_getElem.1 h.asc j k (by omega) hk (by omega)
     rw [List.getElem_take] at he
     have this : Op.bytesLess (t.Objects[j]'(by omega)).Name t.Objects[k].Name = true := this
     rw [he, Y2a] at this
     cases this
  rw [e]
 ·unfold Y1N.l2
  simp only [Y16, Bool.false_eq_true, if_false, List.take_length]
theorem Y7z {n : Nat} {objs : List Y06} (h : GD n objs) : BI n (Y3D objs) := by
 have hm : ∀ o ∈ Y3D objs, ∃ p ∈ objs, o = (p.Name, p.Fields) := fun o ho => by
  obtain ⟨p, hp, rfl⟩ := List.mem_map.1 ho
  exact ⟨p, hp, rfl⟩
 refine ⟨?_, by unfold Y3D; rw [List.length_map]; exact h.len, fun o ho => ?_, fun o ho => ?_, fun o ho => ?_, fun o ho => ?_, fun o ho => ?_⟩
 ·unfold Y3D
  rw [List.map_map]
  exact Y6B h.asc
 all_goals obtain ⟨p, hp, rfl⟩ := hm o ho
 ·exact h.name p hp
 ·exact h.ne p hp
 ·exact Y6B (h.fasc p hp)
 ·exact h.flen p hp
 ·exact h.good p hp
theorem Y7Y {fs : List Y07} (h : SA FN_ fs) : Y2V fs = fs := Y6r (Y3I (Y6B h)) h fun k => Y4r fs k
theorem Y6D (objs : List Y06) (k : List UInt8) : (Y3D objs).lookup k = (get ON_ objs k).map (·.Fields) := by
 induction objs with
 | nil => rfl
 | cons a objs ih =>
  unfold Y3D at ih ⊢
  rw [List.map_cons, List.lookup_cons, Y1y]
  by_cases h : ON_ a = k
  ·rw [if_pos h, show (k == a.Name) = true by rw [← h]; simp]
   rfl
  ·rw [if_neg h, show (k == a.Name) = false by rw [beq_eq_false_iff_ne]; exact fun e => h e.symm]
   exact ih
theorem Y7m {n : Nat} {objs : List Y06} (h : GD n objs) : Y2W (Y3D objs) = objs := by
 refine Y6r (Y3r (Y7z h).keys) h.asc fun k => ?_
 rw [Y3j, Y6D]
 cases hg : get ON_ objs k with
 | none => rfl
 | some o =>
  show some (⟨k, Y2V o.Fields⟩ : Y06) = some o
  rw [Y7Y (h.fasc o (Y5f hg)), ← Y7Q hg]
theorem Y93 {fs : List Y07} {y : Y07} (h : y ∈ Y2V fs) : y ∈ fs := by
 unfold Y2V at h
 obtain ⟨n, hn, rfl⟩ := List.mem_map.1 h
 rw [Y4F, Y4U] at hn
 cases hg : get FN_ fs n with
 | none => rw [hg] at hn; cases hn
 | some y => exact Y5f hg
theorem Y8v {n : Nat} {x : Y1E} (h : BI n x) : GD n (Y2W x) := by
 have hm : ∀ o ∈ Y2W x, ∃ fs, (o.Name, fs) ∈ x ∧ o.Fields = Y2V fs := by
  intro o ho
  have hg := Y3A (Y3r h.keys) ho
  rw [Y3j] at hg
  cases hl : x.lookup (ON_ o) with
  | none => rw [hl] at hg; cases hg
  | some fs =>
   rw [hl] at hg
   have := Option.some.inj hg
   exact ⟨fs, Y2x hl, by rw [← this]⟩
 refine ⟨Y3r h.keys, ?_, fun o ho => ?_, fun o ho => ?_, fun o ho => ?_, fun o ho => ?_, fun o ho y hy => ?_⟩
 ·unfold Y2W
  rw [List.length_map, List.length_mergeSort, List.length_map]
  exact h.len
 all_goals obtain ⟨fs, h1, h2⟩ := hm o ho
 ·exact h.name _ h1
 ·rw [h2]
  intro he
  have := congrArg List.length he
  unfold Y2V at this
  rw [List.length_map, List.length_mergeSort, List.length_map] at this
  exact h.ne _ h1 (List.length_eq_zero_iff.1 this)
 ·rw [h2]; exact Y3I (h.names _ h1)
 ·rw [h2]
  unfold Y2V
  rw [List.length_map, List.length_mergeSort, List.length_map]
  exact h.flen _ h1
 ·rw [h2] at hy
  exact h.good _ h1 y (Y93 hy)
theorem Y6Q {n : Nat} {t : Y0y} {u : Y0j} (h : GD n t.Objects) (he : ∀ e ∈ u.Effects, EF e) (hn : n + u.Effects.length ≤ 1000000) :
  Y2y t u = some ⟨appT u t.Objects⟩ ∧ GD (n + u.Effects.length) (appT u t.Objects) := by
 unfold Y2y
 obtain ⟨x', e1, e2, e3⟩ := Y8t (u := u) (Y7z h) he hn
 rw [Y7m h] at e3
 rw [load_eq h (by omega), Option.bind_some, e1, Option.bind_some, Y4Y e2 hn, e3]
 exact ⟨rfl, e3 ▸ Y8v e2⟩
end
section
open Go Go.Proofs.YtpfgdjfiimknlaaGreatL
def effN (s : List Y0j) : Nat := (s.map fun u => u.Effects.length).sum
theorem Fold_eq {s : List Y0j} (he : ∀ u ∈ s, ∀ e ∈ u.Effects, EF e) (hn : effN s ≤ 1000000) (hl : s.length ≤ 1000000) :
  Y1X s = some ⟨Y5Z s []⟩ ∧ GD (effN s) (Y5Z s []) := by
 unfold Y1X
 have key : ∃ b, Y19 (Y1X.l1 s) (0, []) = some b ∧ BI (effN s) b ∧ Y2W b = Y5Z s [] := by
  have hsum : ∀ k, k ≤ s.length → effN (s.take k) ≤ effN s := by
   intro k hk
   unfold effN
   have : s.map (fun u => u.Effects.length) = (s.take k).map (fun u => u.Effects.length) ++ (s.drop k).map (fun u => u.Effects.length) := by rw [← List.map_append, List.take_append_drop]
   rw [this, List.sum_append]
   omega
  refine Y2B (I := fun k s' => s'.1 = (k : Int) ∧ BI (effN (s.take k)) s'.2 ∧ Y2W s'.2 = Y5Z (s.take k) []) s.length ⟨rfl, ?_, ?_⟩ ?_ ?_
  ·exact ⟨List.nodup_nil, Nat.zero_le _, by simp, by simp, by simp, by simp, by simp⟩
  ·simp [Y2W, srtN, Y5Z]
  ·rintro k ⟨i, y⟩ hk ⟨hi, h1, h2⟩
   simp only at hi h1 h2
   subst hi
   have hs := hsum (k + 1) hk
   have es : effN (s.take (k + 1)) = effN (s.take k) + s[k].Effects.length := by
    unfold effN
    rw [Y1i hk, List.map_append, List.sum_append]
    simp
   obtain ⟨x', e1, e2, e3⟩ := Y8t (u := s[k]) h1 (he _ (List.getElem_mem hk)) (by omega)
   refine ⟨(((k + 1 : Nat) : Int), x'), ?_, rfl, by rw [es]; exact e2, ?_⟩
   ·unfold Y1X.l1
    simp only [Y1k hk, if_true, Y1a hk, Option.bind_some, e1, letV, Y2G hk (by omega)]
   ·show Y2W x' = _
    rw [e3, h2, Y1i hk]
    unfold Y5Z
    rw [List.foldl_append]
    rfl
  ·rintro ⟨i, y⟩ ⟨hi, h1, h2⟩
   simp only at hi h1 h2
   subst hi
   rw [List.take_length] at h1 h2
   refine ⟨y, ?_, h1, h2⟩
   unfold Y1X.l1
   simp only [Y16, Bool.false_eq_true, if_false]
 obtain ⟨b, e1, e2, e3⟩ := key
 rw [e1, Option.bind_some, Y4Y e2 hn, e3]
 exact ⟨rfl, e3 ▸ Y8v e2⟩
end
section
open Go Go.Proofs.YtpfgdjfiimknlaaGreatL
theorem Y4M {α : Type} {P : List α → Prop} (h0 : P []) (hs : ∀ l a, P l → P (l ++ [a])) (l : List α) : P l := by
 rw [← l.reverse_reverse]
 induction l.reverse with
 | nil => exact h0
 | cons a m ih => rw [List.reverse_cons]; exact hs _ _ ih
section
variable {α : Type} {lt : α → α → Prop}
theorem Y7B (irr : ∀ a, ¬ lt a a) (tr : ∀ a b c, lt a b → lt b c → lt a c) : ∀ {l l' : List α}, l.Pairwise lt → l'.Pairwise lt → (∀ x, x ∈ l ↔ x ∈ l') → l = l'
 | [], [], _, _, _ => rfl
 | [], b :: l', _, _, h => by have := (h b).2 (by simp); simp at this
 | a :: l, [], _, _, h => by have := (h a).1 (by simp); simp at this
 | a :: l, b :: l', h1, h2, h => by
  have a1 := (List.pairwise_cons.1 h1).1
  have b1 := (List.pairwise_cons.1 h2).1
  have e : a = b := by
   rcases List.mem_cons.1 ((h a).1 (by simp)) with e | e
   ·exact e
   ·rcases List.mem_cons.1 ((h b).2 (by simp)) with e' | e'
    ·exact e'.symm
    ·exact absurd (tr _ _ _ (a1 b e') (b1 a e)) (irr a)
  subst e
  have : l = l' := by
   refine Y7B irr tr (List.pairwise_cons.1 h1).2 (List.pairwise_cons.1 h2).2 fun x => ?_
   have hx := h x
   rw [List.mem_cons, List.mem_cons] at hx
   constructor
   ·intro hm
    rcases hx.1 (.inr hm) with e | e
    ·rw [e] at hm; exact absurd (a1 a hm) (irr a)
    ·exact e
   ·intro hm
    rcases hx.2 (.inr hm) with e | e
    ·rw [e] at hm; exact absurd (b1 a hm) (irr a)
    ·exact e
  rw [this]
end
section
variable {α : Type} [DecidableEq α]
def dd (l : List α) : List α := l.foldl (fun r a => if r.getLast? = some a then r else r ++ [a]) []
theorem Y4h (l : List α) (a : α) : dd (l ++ [a]) = if (dd l).getLast? = some a then dd l else dd l ++ [a] := by
 unfold dd
 rw [List.foldl_append]
 rfl
theorem dd_last (l : List α) : (dd l).getLast? = l.getLast? := by
 refine Y4M (P := fun l => (dd l).getLast? = l.getLast?) ?_ (fun l a ih => ?_) l
 ·rfl
 ·rw [Y4h, List.getLast?_concat]
  split
  ·rename_i h; exact h
  ·rw [List.getLast?_concat]
theorem Y9G (l : List α) : ∀ x, x ∈ dd l ↔ x ∈ l := by
 refine Y4M (P := fun l => ∀ x, x ∈ dd l ↔ x ∈ l) ?_ (fun l a ih => ?_) l
 ·intro x; rfl
 ·intro x
  rw [Y4h, List.mem_append, List.mem_singleton]
  split
  ·rename_i h
   rw [ih]
   have : a ∈ l := (ih a).1 (List.mem_of_getLast? h)
   constructor
   ·exact .inl
   ·rintro (h | rfl)
    ·exact h
    ·exact this
  ·rw [List.mem_append, List.mem_singleton, ih]
theorem Y7h (l : List α) : (dd l).length ≤ l.length := by
 refine Y4M (P := fun l => (dd l).length ≤ l.length) (Nat.le_refl _) (fun l a ih => ?_) l
 rw [Y4h, List.length_append, List.length_singleton]
 split
 ·omega
 ·rw [List.length_append, List.length_singleton]; omega
theorem dd_self {l : List α} : l.Pairwise (· ≠ ·) → dd l = l := by
 refine Y4M (P := fun l => l.Pairwise (· ≠ ·) → dd l = l) (fun _ => rfl) (fun l a ih h => ?_) l
 rw [List.pairwise_append] at h
 rw [Y4h, ih h.1, if_neg]
 intro e
 exact h.2.2 a (List.mem_of_getLast? e) a (by simp) rfl
omit [DecidableEq α] in
theorem last_max {lt : α → α → Prop} {m : List α} {z x : α} (h : m.Pairwise lt) (hz : m.getLast? = some z) (hx : x ∈ m) : x = z ∨ lt x z := by
 obtain ⟨m', rfl⟩ : ∃ m', m = m' ++ [z] := by
  rw [List.getLast?_eq_some_iff] at hz
  exact hz
 rcases List.mem_append.1 hx with hx | hx
 ·exact .inr ((List.pairwise_append.1 h).2.2 x hx z (by simp))
 ·exact .inl (by simpa using hx)
theorem dd_srt {lt : α → α → Prop} (tri : ∀ a b, ¬ lt a b → ¬ lt b a → a = b) {l : List α} : l.Pairwise (fun a b => ¬ lt b a) → (dd l).Pairwise lt := by
 refine Y4M (P := fun l => l.Pairwise (fun a b => ¬ lt b a) → (dd l).Pairwise lt) (fun _ => .nil) (fun l a ih h => ?_) l
 rw [List.pairwise_append] at h
 have h1 := ih h.1
 rw [Y4h]
 split
 ·exact h1
 ·rename_i hn
  rw [List.pairwise_append]
  refine ⟨h1, List.pairwise_singleton _ _, fun x hx b hb => ?_⟩
  have hb : b = a := by simpa using hb
  subst hb
  refine Classical.byContradiction fun hc => ?_
  have ha := h.2.2
  have e := tri _ _ hc (ha x ((Y9G l x).1 hx) b (by simp))
  subst e
  cases hz : (dd l).getLast? with
  | none =>
   rw [List.getLast?_eq_none_iff] at hz
   rw [hz] at hx
   simp at hx
  | some z =>
   rcases last_max h1 hz hx with e | e
   ·exact hn (by rw [hz, e])
   ·exact ha z ((Y9G l z).1 (List.mem_of_getLast? hz)) x (by simp) e
end
section
variable {α : Type} (eq : α → α → Bool) (z : α)
noncomputable def gj2 (x24 : List α) (x26 : Int) : Option ((List α × Int) ⊕ (List α ⊕ List α)) :=
 (letV (IntKind.i64.wrap (x26 + 1)) fun x28 => some (.inl (x24, x28)))
noncomputable def gj3 (x61 : List α) (x63 : Int) : Option ((List α × Int) ⊕ (List α ⊕ List α)) :=
 (if 0 ≤ x63 ∧ x63 ≤ (x61.length : Int) then ((clr x61 x63 z).bind fun x67 => ((cut x67 0 x63).bind fun x69 => some (.inr (.inr x69)))) else none)
noncomputable def gj4 (x74 : Int) (x80 : List α) (x82 : Int) : Option ((List α × Int × Int) ⊕ (List α × Int)) :=
 (letV (IntKind.i64.wrap (x74 + 1)) fun x84 => some (.inl (x80, x82, x84)))
noncomputable def gl1 (x18 : Int) : (List α × Int × Int) → Option ((List α × Int × Int) ⊕ (List α × Int)) := fun (x71, x73, x74) =>
 (if (decide (x74 < ((x71.length - (x18).toNat : Nat) : Int))) then ((idx (List.drop ((x18).toNat) x71) x74).bind fun x86 =>
 (letV (IntKind.i64.wrap (x74 - 1)) fun x89 =>
 ((idx (List.drop ((x18).toNat) x71) x89).bind fun x90 =>
 (if (!eq x86 x90) then ((idx (List.drop ((x18).toNat) x71) x74).bind fun x115 =>
 ((idx x71 x73).bind fun x118 =>
 (letV (x71.set (x73).toNat x115) fun x120 =>
 (letV (IntKind.i64.wrap (x73 + 1)) fun x121 =>
 gj4 x74 x120 x121)))) else gj4 x74 x71 x73)))) else some (.inr (x71, x73)))
noncomputable def gl2 : (List α × Int) → Option ((List α × Int) ⊕ (List α ⊕ List α)) := fun (x16, x18) =>
 (if (decide (x18 < (x16.length : Int))) then ((idx x16 x18).bind fun x30 =>
 (letV (IntKind.i64.wrap (x18 - 1)) fun x33 =>
 ((idx x16 x33).bind fun x34 =>
 (if (eq x30 x34) then (if 0 ≤ x18 ∧ x18 ≤ (x16.length : Int) then ((Y19 (gl1 eq x18) (x16, x18, 1)).bind fun (x122, x123) => gj3 z x122 x123) else none) else gj2 x16 x18)))) else some (.inr (.inl x16)))
noncomputable def gC (x1 : List α) : Option (List α) :=
 (if (decide ((x1.length : Int) < 2)) then some x1 else ((Y19 (gl2 eq z) (x1, 1)).bind fun b => match b with | .inl x124 => some x124 | .inr x125 => some x125))
end
theorem w64s {k : Nat} (h : k ≤ 4611686018427387904) : IntKind.i64.wrap (((k + 1 : Nat) : Int) - 1) = (k : Int) := by
 rw [w64 (by omega) (by omega)]; omega
theorem Y5C {α : Type} {l : List α} {k : Nat} (h : k < l.length) : (l.take (k + 1)).getLast? = some l[k] := by
 rw [Y1i h, List.getLast?_concat]
theorem drop1 {α : Type} {x y : List α} {k : Nat} (h : y.drop k = x.drop k) : y.drop (k + 1) = x.drop (k + 1) := by
 have : ∀ l : List α, l.drop (k + 1) = (l.drop k).drop 1 := fun l => by rw [List.drop_drop]
 rw [this, this, h]
theorem gC1_eq {α : Type} [DecidableEq α] {eq : α → α → Bool} (heq : ∀ a b, eq a b = true ↔ a = b) {x : List α} (hl : x.length ≤ 4611686018427387903) {k0 : Nat} (h1 : 1 ≤ k0) (h2 : k0 < x.length)
  (hd : dd (x.take (k0 + 1)) = x.take k0) :
  ∃ b : List α × Int, Y19 (gl1 eq (k0 : Int)) (x, (k0 : Int), 1) = some b ∧ b.1.length = x.length ∧ b.2 = ((dd x).length : Int) ∧ b.1.take (dd x).length = dd x := by
 refine Y2B (fun n s => ∃ (y : List α) (i : Nat), s = (y, (i : Int), ((n + 1 : Nat) : Int)) ∧ y.length = x.length ∧ i ≤ k0 + n ∧ i = (dd (x.take (k0 + n + 1))).length ∧ y.take i = dd (x.take (k0 + n + 1)) ∧ y.drop (k0 + n) = x.drop (k0 + n)) (x.length - k0 - 1) ?_ ?_ ?_
 ·refine ⟨x, k0, rfl, rfl, Nat.le_refl _, ?_, ?_, rfl⟩
  ·show k0 = (dd (x.take (k0 + 1))).length
   rw [hd, List.length_take]
   omega
  ·show x.take k0 = dd (x.take (k0 + 1))
   rw [hd]
 ·rintro n s hn ⟨y, i, rfl, e1, e2, e3, e4, e5⟩
  have hi : i < y.length := by omega
  have hb : k0 + n + 1 < x.length := by omega
  have ey : ∀ j, k0 + n ≤ j → (hj : j < x.length) → y[j]'(by omega) = x[j] := by
   intro j hj1 hj
   have := congrArg (fun l => l[j - (k0 + n)]?) e5
   simp only [List.getElem?_drop] at this
   rw [show k0 + n + (j - (k0 + n)) = j by omega, List.getElem?_eq_getElem (by omega), List.getElem?_eq_getElem hj] at this
   exact Option.some.inj this
  have d1 : idx (List.drop ((k0 : Int).toNat) y) ((n + 1 : Nat) : Int) = some (x[k0 + n + 1]'hb) := by
   rw [Int.toNat_natCast, Y1a (by rw [List.length_drop]; omega), List.getElem_drop]
   congr 1
   have := ey (k0 + (n + 1)) (by omega) (by omega)
   rw [this]
   congr 1
  have d0 : idx (List.drop ((k0 : Int).toNat) y) (n : Int) = some (x[k0 + n]'(by omega)) := by
   rw [Int.toNat_natCast, Y1a (by rw [List.length_drop]; omega), List.getElem_drop]
   congr 1
   exact ey (k0 + n) (by omega) (by omega)
  have snoc : dd (x.take (k0 + n + 1 + 1)) = if x[k0 + n]'(by omega) = x[k0 + n + 1]'hb then dd (x.take (k0 + n + 1)) else dd (x.take (k0 + n + 1)) ++ [x[k0 + n + 1]'hb] := by
   rw [Y1i hb, Y4h, dd_last, Y5C (by omega)]
   simp only [Option.some.injEq]
  unfold gl1
  simp only
  rw [if_pos (by rw [Int.toNat_natCast, e1]; simp; omega), d1, Option.bind_some, Y13, w64s (by omega), d0, Option.bind_some]
  have nx : IntKind.i64.wrap (((n + 1 : Nat) : Int) + 1) = ((n + 1 + 1 : Nat) : Int) := w64n (by omega)
  by_cases hc : x[k0 + n + 1]'hb = x[k0 + n]'(by omega)
  ·rw [if_neg (by rw [(heq _ _).2 hc]; simp)]
   unfold gj4
   rw [Y13, nx]
   refine ⟨_, rfl, y, i, rfl, e1, by omega, ?_, ?_, ?_⟩
   ·rw [show k0 + (n + 1) + 1 = k0 + n + 1 + 1 by omega, snoc, if_pos hc.symm]; exact e3
   ·rw [show k0 + (n + 1) + 1 = k0 + n + 1 + 1 by omega, snoc, if_pos hc.symm]; exact e4
   ·exact drop1 e5
  ·rw [if_pos (by
    cases h : eq (x[k0 + n + 1]'hb) (x[k0 + n]'(by omega)) with
    | true => exact absurd ((heq _ _).1 h) hc
    | false => rfl), Option.bind_some, Y1a hi, Option.bind_some, Y13, Y13]
   unfold gj4
   rw [Y13, nx, w64n (by omega)]
   have e6 : dd (x.take (k0 + n + 1 + 1)) = dd (x.take (k0 + n + 1)) ++ [x[k0 + n + 1]'hb] := by
    rw [snoc, if_neg (fun e => hc e.symm)]
   refine ⟨_, rfl, y.set i (x[k0 + n + 1]'hb), i + 1, rfl, by rw [List.length_set]; exact e1, by omega, ?_, ?_, ?_⟩
   ·rw [show k0 + (n + 1) + 1 = k0 + n + 1 + 1 by omega, e6, List.length_append, ← e3]; rfl
   ·rw [show k0 + (n + 1) + 1 = k0 + n + 1 + 1 by omega, e6, ← e4, Y1i (by rw [List.length_set]; exact hi), List.getElem_set_self, List.take_set_of_le (Nat.le_refl _)]
   ·rw [List.drop_set_of_lt (by omega)]; exact drop1 e5
 ·rintro s ⟨y, i, rfl, e1, e2, e3, e4, e5⟩
  have e7 : x.take (k0 + (x.length - k0 - 1) + 1) = x := List.take_of_length_le (by omega)
  rw [e7] at e3 e4
  unfold gl1
  simp only
  rw [if_neg (by rw [Int.toNat_natCast, e1]; simp; omega)]
  exact ⟨_, rfl, e1, by rw [e3], by rw [← e3]; exact e4⟩
theorem gC_eq {α : Type} [DecidableEq α] {eq : α → α → Bool} {z : α} (heq : ∀ a b, eq a b = true ↔ a = b) {x : List α} (hl : x.length ≤ 4611686018427387903) : gC eq z x = some (dd x) := by
 unfold gC
 by_cases h0 : x.length < 2
 ·rw [if_pos (by simp; omega)]
  have : dd x = x := by
   match x, h0 with
   | [], _ => rfl
   | [a], _ => rfl
  rw [this]
 ·rw [if_neg (by simp; omega)]
  have key : ∃ b : List α ⊕ List α, Y19 (gl2 eq z) (x, 1) = some b ∧ (match b with | .inl y => y = dd x | .inr y => y = dd x) := by
   refine Y8h (fun n s => s = (x, ((n + 1 : Nat) : Int)) ∧ dd (x.take (n + 1)) = x.take (n + 1)) (x.length - 1) ⟨rfl, ?_⟩ ?_ ?_
   ·cases x with
    | nil => simp at h0
    | cons a l => rfl
   ·rintro n s hn ⟨rfl, hd⟩
    unfold gl2
    simp only
    rw [if_pos (by simp; omega), Y1a (show n + 1 < x.length by omega), Option.bind_some, Y13, w64s (by omega), Y1a (show n < x.length by omega), Option.bind_some]
    by_cases hc : x[n + 1]'(by omega) = x[n]'(by omega)
    ·rw [if_pos ((heq _ _).2 hc), if_pos (by omega)]
     refine .inr ?_
     obtain ⟨b, b1, b2, b3, b4⟩ := gC1_eq heq hl (k0 := n + 1) (by omega) (by omega) (by
      rw [Y1i (by omega), Y4h, hd, Y5C (by omega), if_pos (by rw [hc])])
     rw [b1, Option.bind_some]
     obtain ⟨y, i⟩ := b
     simp only at b2 b3 b4
     subst b3
     unfold gj3
     have hle : (dd x).length ≤ y.length := by rw [b2]; exact Y7h x
     simp only
     rw [if_pos (by omega)]
     unfold clr
     rw [if_pos (by omega), Option.bind_some, Int.toNat_natCast, cut_of (by omega) (by omega) (by rw [List.length_append, List.length_take, List.length_replicate]; omega), Option.bind_some]
     refine ⟨_, rfl, ?_⟩
     simp only [Int.toNat_zero, List.drop_zero, Int.toNat_natCast]
     rw [List.take_append_of_le_length (by rw [List.length_take]; omega), b4, List.take_of_length_le (by omega)]
    ·rw [if_neg (by rw [heq]; exact hc)]
     unfold gj2
     rw [Y13]
     refine .inl ⟨_, rfl, by rw [w64n (by omega)], ?_⟩
     rw [Y1i (show n + 1 < x.length by omega), Y4h, hd, Y5C (show n < x.length by omega), if_neg (fun e => hc (Option.some.inj e).symm)]
   ·rintro s ⟨rfl, hd⟩
    unfold gl2
    simp only
    rw [if_neg (by simp; omega)]
    refine ⟨_, rfl, ?_⟩
    rw [show x.length - 1 + 1 = x.length by omega, List.take_length] at hd
    exact hd.symm
  obtain ⟨b, b1, b2⟩ := key
  rw [b1, Option.bind_some]
  cases b with
  | inl y => simp only at b2; rw [b2]
  | inr y => simp only at b2; rw [b2]
theorem Y7W {x : List (List UInt8)} (hl : x.length ≤ 4611686018427387903) : Y0n x = some (dd x) := by
 rw [← gC_eq (eq := fun a b => a == b) (z := ([] : List UInt8)) (fun a b => by simp) hl]
 have e1 : ∀ k, Y0n.l1 k = gl1 (fun a b : List UInt8 => a == b) k := fun k => rfl
 have e2 : Y0n.l2 = gl2 (fun a b : List UInt8 => a == b) [] := by
  funext s
  unfold Y0n.l2 gl2
  simp only [e1]
  rfl
 unfold Y0n gC
 rw [e2]
 congr 1
 cases Y19 (gl2 (fun a b : List UInt8 => a == b) []) (x, 1) with
 | none => rfl
 | some b => cases b <;> rfl
theorem Y7X {x : List Y05} (hl : x.length ≤ 4611686018427387903) : Y0u x = some (dd x) := by
 have heq : ∀ a b : Y05, decide ((⟨a.f_Type, a.N, a.S⟩ : Y05) = (⟨b.f_Type, b.N, b.S⟩ : Y05)) = true ↔ a = b := fun a b => by rw [decide_eq_true_eq]
 rw [← gC_eq (eq := fun a b : Y05 => decide ((⟨a.f_Type, a.N, a.S⟩ : Y05) = (⟨b.f_Type, b.N, b.S⟩ : Y05))) (z := (⟨0, 0, []⟩ : Y05)) heq hl]
 have e1 : ∀ k, Y0u.l1 k = gl1 (fun a b : Y05 => decide ((⟨a.f_Type, a.N, a.S⟩ : Y05) = (⟨b.f_Type, b.N, b.S⟩ : Y05))) k := fun k => rfl
 have e2 : Y0u.l2 = gl2 (fun a b : Y05 => decide ((⟨a.f_Type, a.N, a.S⟩ : Y05) = (⟨b.f_Type, b.N, b.S⟩ : Y05))) (⟨0, 0, []⟩ : Y05) := by
  funext s
  unfold Y0u.l2 gl2
  simp only [e1]
  rfl
 unfold Y0u gC
 rw [e2]
 congr 1
 cases Y19 (gl2 (fun a b : Y05 => decide ((⟨a.f_Type, a.N, a.S⟩ : Y05) = (⟨b.f_Type, b.N, b.S⟩ : Y05))) (⟨0, 0, []⟩ : Y05)) (x, 1) with
 | none => rfl
 | some b => cases b <;> rfl
def ascL (l : List (List UInt8)) : List (List UInt8) := dd (l.mergeSort fun a b => decide (a ≤ b))
theorem Y5A (l : List (List UInt8)) (x : List UInt8) : x ∈ ascL l ↔ x ∈ l := by
 unfold ascL
 rw [Y9G, (List.mergeSort_perm l _).mem_iff]
theorem Y68 (l : List (List UInt8)) : (ascL l).length ≤ l.length := by
 unfold ascL
 refine Nat.le_trans (Y7h _) ?_
 rw [(List.mergeSort_perm l _).length_eq]
 exact Nat.le_refl _
theorem Y8s (l : List (List UInt8)) : Asc (ascL l) := by
 have tr : ∀ a b c : List UInt8, (decide (a ≤ b)) = true → (decide (b ≤ c)) = true → (decide (a ≤ c)) = true := fun a b c h1 h2 => by simp only [decide_eq_true_eq] at *; exact List.le_trans h1 h2
 have to : ∀ a b : List UInt8, ((decide (a ≤ b)) || (decide (b ≤ a))) = true := fun a b => by simp only [Bool.or_eq_true, decide_eq_true_eq]; exact List.le_total a b
 refine dd_srt (lt := fun a b => Op.bytesLess a b = true) (fun a b h1 h2 => Y5p (by simpa using h1) (by simpa using h2)) ?_
 refine (List.pairwise_mergeSort tr to l).imp fun {a b} h => ?_
 rw [Go.Proofs.bytesLess_eq, decide_eq_true_eq]
 rw [decide_eq_true_eq] at h
 exact fun h' => absurd h (by simpa using h')
theorem Y5q {l : List (List UInt8)} (h : l.length * 16 ≤ 140737488355328) : Y1S l = some (ascL l) := by
 unfold Y1S
 rw [if_pos h]
 exact Y7W (by rw [(List.mergeSort_perm l _).length_eq]; omega)
theorem Y5z {l l' : List (List UInt8)} (h : Asc l) (h' : Asc l') (hm : ∀ x, x ∈ l ↔ x ∈ l') : l = l' :=
 Y7B (lt := fun a b => Op.bytesLess a b = true) (fun a => by rw [Y2a]; simp) (fun a b c h1 h2 => Y3Y h1 h2) h h' hm
end
section
open Go Go.Proofs.YtpfgdjfiimknlaaGreatL
theorem Y96 {n : Nat} {o : Y06} (h1 : o.Fields.length ≤ n) (h2 : ∀ y ∈ o.Fields, GF n y) (hn : n ≤ 1000000) (k : List UInt8) :
  Y1n o k = some ((get FN_ o.Fields k).getD { Y1m with Name := k }) := by
 unfold Y1n
 have key : Y19 (Y1n.l1 o k) (0, (⟨[], (⟨false, 0, 0, 0, 0, []⟩ : Y0B), false, 0, 0, [], false⟩ : Y07)) = some (match get FN_ o.Fields k with | some y => .inr y | none => .inl ⟨[], ⟨false, 0, 0, 0, 0, []⟩, false, 0, 0, [], false⟩) := by
  have h1 := Y6k (step := Y1n.l1 o k) (fun i (z : Y07) => ((i : Int), z)) (fun _ y (z : Y07) => if y.Name = k then some (.inr (.inr y)) else some (.inl z)) (fun z => some (.inl z)) o.Fields (fun i hi z => ?_) (fun z => ?_) ⟨[], ⟨false, 0, 0, 0, 0, []⟩, false, 0, 0, [], false⟩
  ·have h2 : ∀ (l : List Y07) (i : Nat) (z : Y07), runL (fun _ (y : Y07) (z : Y07) => if y.Name = k then some (.inr (.inr y : Y07 ⊕ Y07)) else some (.inl z)) (fun z => some (.inl z)) i l z = some (match get FN_ l k with | some y => .inr y | none => .inl z) := by
    intro l
    induction l with
    | nil => intro i z; rfl
    | cons o l ih =>
     intro i z
     rw [runL, Y1y]
     by_cases he : o.Name = k
     ·rw [if_pos he, if_pos he]
     ·rw [if_neg he, if_neg he]
      exact ih _ z
   rw [← h2 o.Fields 0]
   exact h1
  ·have hm := List.getElem_mem hi
   unfold Y1n.l1
   simp only [Y1k hi, if_true, Y1a hi, Option.bind_some]
   by_cases he : o.Fields[i].Name = k
   ·rw [if_pos (by simp [he]), if_pos he, Y8q (by have := (h2 _ hm).len; omega)]
    rfl
   ·rw [if_neg (by simpa using he), if_neg he, letV, Y2G hi (by omega)]
  ·unfold Y1n.l1
   simp only [Y16, Bool.false_eq_true, if_false]
   rfl
 rw [key, Option.bind_some]
 cases get FN_ o.Fields k with
 | none => rfl
 | some o => rfl
theorem Y7G {o : Y06} (h1 : o.Fields.length ≤ 1000000) (k : List UInt8) : Y14 o k = some ((get FN_ o.Fields k).getD { Y1m with Name := k }) := by
 unfold Y14
 have key : Y19 (Y14.l1 o k) (0, (⟨[], (⟨false, 0, 0, 0, 0, []⟩ : Y0B), false, 0, 0, [], false⟩ : Y07)) = some (match get FN_ o.Fields k with | some y => .inr y | none => .inl ⟨[], ⟨false, 0, 0, 0, 0, []⟩, false, 0, 0, [], false⟩) := by
  have h1 := Y6k (step := Y14.l1 o k) (fun i (z : Y07) => ((i : Int), z)) (fun _ y (z : Y07) => if y.Name = k then some (.inr (.inr y)) else some (.inl z)) (fun z => some (.inl z)) o.Fields (fun i hi z => ?_) (fun z => ?_) ⟨[], ⟨false, 0, 0, 0, 0, []⟩, false, 0, 0, [], false⟩
  ·have h2 : ∀ (l : List Y07) (i : Nat) (z : Y07), runL (fun _ (y : Y07) (z : Y07) => if y.Name = k then some (.inr (.inr y : Y07 ⊕ Y07)) else some (.inl z)) (fun z => some (.inl z)) i l z = some (match get FN_ l k with | some y => .inr y | none => .inl z) := by
    intro l
    induction l with
    | nil => intro i z; rfl
    | cons o l ih =>
     intro i z
     rw [runL, Y1y]
     by_cases he : o.Name = k
     ·rw [if_pos he, if_pos he]
     ·rw [if_neg he, if_neg he]
      exact ih _ z
   rw [← h2 o.Fields 0]
   exact h1
  ·unfold Y14.l1
   simp only [Y1k hi, if_true, Y1a hi, Option.bind_some]
   by_cases he : o.Fields[i].Name = k
   ·rw [if_pos (by simp [he]), if_pos he]
   ·rw [if_neg (by simpa using he), if_neg he, letV, Y2G hi (by omega)]
  ·unfold Y14.l1
   simp only [Y16, Bool.false_eq_true, if_false]
   rfl
 rw [key, Option.bind_some]
 cases get FN_ o.Fields k with
 | none => rfl
 | some o => rfl
structure GO (o : Y06) : Prop where
 len : o.Fields.length ≤ 100
 good : ∀ y ∈ o.Fields, GF 100 y
theorem GD.go {objs : List Y06} (h : GD 100 objs) : ∀ o ∈ objs, GO o := fun o ho => ⟨h.flen o ho, h.good o ho⟩
def Y61 (o : Y06) (k : List UInt8) : Y07 := (get FN_ o.Fields k).getD { Y1m with Name := k }
theorem Y3U {o : Y06} (g : GO o) (k : List UInt8) : Asc (Y61 o k).Elems ∧ (Y61 o k).Elems.length ≤ 100 := by
 unfold Y61
 cases h : get FN_ o.Fields k with
 | none => exact ⟨List.Pairwise.nil, Nat.zero_le _⟩
 | some y =>
  have := g.good y (Y5f h)
  exact ⟨this.asc, this.len⟩
def Y6G (f : Y0l) (y : Y07) : List Y05 :=
 if f.Kind = 1 ∧ y.Register.Set = true ∧ f.f_Type = 1 then [⟨1, y.Register.N, []⟩]
 else if f.Kind = 1 ∧ y.Register.Set = true ∧ f.f_Type = 2 then [⟨2, 0, y.Register.S⟩]
 else if f.Kind = 4 then y.Elems.map fun s => ⟨2, 0, s⟩ else []
def Y2p (f : Y0l) (o : Y06) : List Y05 := Y6G f (Y61 o f.Name)
theorem Y9p {f : Y0l} {y : Y07} (h : Asc y.Elems) : (Y6G f y).Pairwise Y1W := by
 unfold Y6G
 split
 ·exact List.pairwise_singleton _ _
 ·split
  ·exact List.pairwise_singleton _ _
  ·split
   ·refine List.pairwise_map.2 (h.imp fun {a b} hab => ?_)
    exact .inr ⟨rfl, .inr ⟨rfl, hab⟩⟩
   ·exact List.Pairwise.nil
theorem Y77 {f : Y0l} {y : Y07} (h : y.Elems.length ≤ 100) : (Y6G f y).length ≤ 100 := by
 unfold Y6G
 split
 ·simp
 ·split
  ·simp
  ·split
   ·rw [List.length_map]; exact h
   ·simp
theorem Y6l {f : Y0l} {o : Y06} (g : GO o) : (Y2p f o).Pairwise Y1W := Y9p (Y3U g f.Name).1
theorem Y3h {f : Y0l} {o : Y06} (g : GO o) : (Y2p f o).length ≤ 100 := Y77 (Y3U g f.Name).2
theorem Y6H {a b : Y05} (h : Y1W a b) : a ≠ b := fun e => Y2C a (by rw [← e] at h; exact h)
theorem Y7M {a b : Y05} (h : Y1W a b) : ¬ Y1W b a := fun k => Y2C a (Y3q h k)
theorem Y6y {l : List Y05} (h : l.Pairwise Y1W) (hl : l.length ≤ 1000000) : Y1Z l = some l := by
 unfold Y1Z Y7E
 rw [if_pos ⟨h.imp fun {a b} hab => .inl (by rw [decide_eq_true_eq, Y2n]; exact hab), by omega⟩]
 congr 1
 refine List.mergeSort_of_pairwise (h.imp fun {a b} hab => ?_)
 have : ¬ Y28 b a < 0 := by rw [Y2n]; exact Y7M hab
 simpa using this
theorem Y5Q {l : List Y05} (h : l.Pairwise Y1W) (hl : l.length ≤ 1000000) : Y0O.j1 l = some l := by
 unfold Y0O.j1
 rw [Y6y h hl, Option.bind_some, Y7X (by omega), Option.bind_some, dd_self (h.imp fun {a b} hab => Y6H hab)]
theorem Y6J {f : Y0l} {o : Y06} (g : GO o) : Y0O f o = some (Y2p f o) := by
 unfold Y0O
 rw [Y96 g.len g.good (by decide), Option.bind_some]
 obtain ⟨h1, h2⟩ := Y3U g f.Name
 have hs : (Y2p f o).Pairwise Y1W := Y6l g
 have hlen : (Y2p f o).length ≤ 100 := Y3h g
 unfold Y2p at hs hlen ⊢
 change (let y := Y61 o f.Name; _) = _
 obtain ⟨y, hy⟩ : ∃ y, y = Y61 o f.Name := ⟨_, rfl⟩
 have hy' : (get FN_ o.Fields f.Name).getD { Y1m with Name := f.Name } = y := hy.symm
 rw [← hy] at h1 h2 hs hlen ⊢
 simp only [hy']
 have fin : ∀ l, l = Y6G f y → Y0O.j1 l = some (Y6G f y) := fun l hl => by
  rw [hl]; exact Y5Q hs (by omega)
 have loop : Y19 (Y0O.l1 y) ([], 0) = some (y.Elems.map fun s => (⟨2, 0, s⟩ : Y05)) := by
  have := Y2Y (step := Y0O.l1 y) (fun k => ((y.Elems.take k).map fun s => (⟨2, 0, s⟩ : Y05), (k : Int))) y.Elems.length (b := y.Elems.map fun s => (⟨2, 0, s⟩ : Y05)) (fun k hk => ?_) ?_
  ·exact this
  ·unfold Y0O.l1
   simp only [Y1k hk, if_true, Y1a hk, Option.bind_some]
   rw [Y2L (by simp; omega), Option.bind_some, Y13, Y2G hk (by omega), Y1i hk, List.map_append]
   rfl
  ·unfold Y0O.l1
   simp only [Y16, Bool.false_eq_true, if_false, List.take_length]
 have hf2 : Y0O.j2 f y false = some (if f.Kind = 4 then y.Elems.map fun s => (⟨2, 0, s⟩ : Y05) else []) := by
  unfold Y0O.j2
  rw [if_neg (by simp)]
  by_cases hk : f.Kind = 4
  ·rw [if_pos (by simpa using hk), if_pos hk, loop, Option.bind_some]
   refine Y5Q ?_ (by rw [List.length_map]; omega)
   exact List.pairwise_map.2 (h1.imp fun {a b} hab => .inr ⟨rfl, .inr ⟨rfl, hab⟩⟩)
  ·rw [if_neg (by simpa using hk), if_neg hk]
   exact Y5Q .nil (by simp)
 have hf3 : Y0O.j3 f y false = some (if f.Kind = 1 ∧ y.Register.Set = true ∧ f.f_Type = 2 then [⟨2, 0, y.Register.S⟩] else if f.Kind = 4 then y.Elems.map fun s => (⟨2, 0, s⟩ : Y05) else []) := by
  unfold Y0O.j3
  rw [if_neg (by simp)]
  by_cases hk : f.Kind = 1
  ·rw [if_pos (by simpa using hk)]
   cases hS : y.Register.Set with
   | false => rw [if_neg (by simp), hf2]; simp
   | true =>
    rw [if_pos rfl]
    by_cases ht : f.f_Type = 2
    ·rw [if_pos ⟨hk, rfl, ht⟩]
     unfold Y0O.j2
     rw [if_pos (by simpa using ht), Y2L (by simp), Option.bind_some, ht]
     exact Y5Q (List.pairwise_singleton _ _) (by simp)
    ·rw [if_neg (fun h => ht h.2.2), show (f.f_Type == 2) = false by simpa using ht, hf2]
  ·rw [if_neg (by simpa using hk), hf2]; simp [hk]
 unfold Y6G
 by_cases hk : f.Kind = 1
 ·rw [if_pos (by simpa using hk)]
  cases hS : y.Register.Set with
  | false => rw [if_neg (by simp), hf3]; simp [hS]
  | true =>
   rw [if_pos rfl]
   by_cases ht : f.f_Type = 1
   ·rw [if_pos ⟨hk, rfl, ht⟩]
    unfold Y0O.j3
    rw [if_pos (by simpa using ht), Y2L (by simp), Option.bind_some, ht]
    exact Y5Q (List.pairwise_singleton _ _) (by simp)
   ·rw [if_neg (fun h => ht h.2.2), show (f.f_Type == 1) = false by simpa using ht, hf3, hS]
 ·rw [if_neg (by simpa using hk), hf3]; simp [hk]
def kc (k : Y05) : Y02 := ⟨k.f_Type, k.N, k.S⟩
theorem Y9s {a b : Y05} (h : kc a = kc b) : a = b := by
 obtain ⟨t, n, s⟩ := a
 obtain ⟨t', n', s'⟩ := b
 unfold kc at h
 simp only [Y02.mk.injEq] at h
 obtain ⟨rfl, rfl, rfl⟩ := h
 rfl
theorem rKeys_eq {f : Y0l} {o : Y06} (g : GO o) : Y0H f o = some ((Y2p f o).map kc) := by
 unfold Y0H
 have hgl := g.len
 rw [Y7G (by omega), Option.bind_some]
 obtain ⟨h1, h2⟩ := Y3U g f.Name
 unfold Y2p
 obtain ⟨y, hy⟩ : ∃ y, y = Y61 o f.Name := ⟨_, rfl⟩
 have hy' : (get FN_ o.Fields f.Name).getD { Y1m with Name := f.Name } = y := hy.symm
 rw [← hy] at h1 h2 ⊢
 simp only [hy']
 have loop : Y19 (Y0H.l1 y) ([], 0) = some (y.Elems.map fun s => (⟨2, 0, s⟩ : Y02)) := by
  have := Y2Y (step := Y0H.l1 y) (fun k => ((y.Elems.take k).map fun s => (⟨2, 0, s⟩ : Y02), (k : Int))) y.Elems.length (b := y.Elems.map fun s => (⟨2, 0, s⟩ : Y02)) (fun k hk => ?_) ?_
  ·exact this
  ·unfold Y0H.l1
   simp only [Y1k hk, if_true, Y1a hk, Option.bind_some]
   rw [Y2L (by simp; omega), Option.bind_some, Y13, Y2G hk (by omega), Y1i hk, List.map_append]
   rfl
  ·unfold Y0H.l1
   simp only [Y16, Bool.false_eq_true, if_false, List.take_length]
 have hm : (y.Elems.map fun s => (⟨2, 0, s⟩ : Y05)).map kc = y.Elems.map fun s => (⟨2, 0, s⟩ : Y02) := by rw [List.map_map]; rfl
 have hf2 : Y0H.j2 f y false = some ((if f.Kind = 4 then y.Elems.map fun s => (⟨2, 0, s⟩ : Y05) else []).map kc) := by
  unfold Y0H.j2
  rw [if_neg (by simp)]
  by_cases hk : f.Kind = 4
  ·rw [if_pos (by simpa using hk), if_pos hk, loop, Option.bind_some, hm]
   rfl
  ·rw [if_neg (by simpa using hk), if_neg hk]
   rfl
 have hf3 : Y0H.j3 f y false = some ((if f.Kind = 1 ∧ y.Register.Set = true ∧ f.f_Type = 2 then [⟨2, 0, y.Register.S⟩] else if f.Kind = 4 then y.Elems.map fun s => (⟨2, 0, s⟩ : Y05) else []).map kc) := by
  unfold Y0H.j3
  rw [if_neg (by simp)]
  by_cases hk : f.Kind = 1
  ·rw [if_pos (by simpa using hk)]
   cases hS : y.Register.Set with
   | false => rw [if_neg (by simp), hf2]; simp
   | true =>
    rw [if_pos rfl]
    by_cases ht : f.f_Type = 2
    ·rw [if_pos ⟨hk, rfl, ht⟩]
     unfold Y0H.j2
     rw [if_pos (by simpa using ht), Y2L (by simp), Option.bind_some]
     rfl
    ·rw [if_neg (fun h => ht h.2.2), show (f.f_Type == 2) = false by simpa using ht, hf2]
  ·rw [if_neg (by simpa using hk), hf2]; simp [hk]
 unfold Y6G
 by_cases hk : f.Kind = 1
 ·rw [if_pos (by simpa using hk)]
  cases hS : y.Register.Set with
  | false => rw [if_neg (by simp), hf3]; simp [hS]
  | true =>
   rw [if_pos rfl]
   by_cases ht : f.f_Type = 1
   ·rw [if_pos ⟨hk, rfl, ht⟩]
    unfold Y0H.j3
    rw [if_pos (by simpa using ht), Y2L (by simp), Option.bind_some]
    rfl
   ·rw [if_neg (fun h => ht h.2.2), show (f.f_Type == 1) = false by simpa using ht, hf3, hS]
 ·rw [if_neg (by simpa using hk), hf3]; simp [hk]
def Y2A (f : Y0l) (objs : List Y06) : List Y0r := objs.flatMap fun o => (Y2p f o).map fun k => ⟨k, o.Name⟩
theorem Y5G {f : Y0l} {objs : List Y06} {p : Y0r} : p ∈ Y2A f objs ↔ ∃ o ∈ objs, o.Name = p.f_object ∧ p.f_key ∈ Y2p f o := by
 unfold Y2A
 rw [List.mem_flatMap]
 constructor
 ·rintro ⟨o, ho, hp⟩
  obtain ⟨k, hk, rfl⟩ := List.mem_map.1 hp
  exact ⟨o, ho, rfl, hk⟩
 ·rintro ⟨o, ho, hn, hk⟩
  refine ⟨o, ho, List.mem_map.2 ⟨p.f_key, hk, ?_⟩⟩
  rw [hn]
theorem Y39 {f : Y0l} : ∀ {objs : List Y06}, (∀ o ∈ objs, GO o) → (Y2A f objs).length ≤ 100 * objs.length
 | [], _ => Nat.zero_le _
 | o :: objs, h => by
  have h1 := Y3h (f := f) (h o (by simp))
  have h2 := Y39 (f := f) (objs := objs) fun q hq => h q (by simp [hq])
  unfold Y2A at h2 ⊢
  rw [List.flatMap_cons, List.length_append, List.length_map, List.length_cons]
  omega
theorem Y71 (f : Y0l) (objs : List Y06) (o : Y06) : Y2A f (objs ++ [o]) = Y2A f objs ++ (Y2p f o).map fun k => ⟨k, o.Name⟩ := by
 unfold Y2A
 rw [List.flatMap_append, List.flatMap_cons, List.flatMap_nil, List.append_nil]
theorem Y86 {f : Y0l} {objs : List Y06} (h : ∀ o ∈ objs, GO o) (hl : objs.length ≤ 1000) : Y0R f objs = some (Y2A f objs) := by
 unfold Y0R
 have := Y2Y (step := Y0R.l2 f objs) (fun k => (Y2A f (objs.take k), (k : Int))) objs.length (b := Y2A f objs) (fun k hk => ?_) ?_
 ·have this : Y19 (Y0R.l2 f objs) ([], 0) = some (Y2A f objs) := this
  rw [this]
  rfl
 ·have hg := h _ (List.getElem_mem hk)
  have hkl := Y3h (f := f) hg
  have hpl : (Y2A f (objs.take k)).length ≤ 100 * 1000 := by
   have := Y39 (f := f) (objs := objs.take k) fun q hq => h q (List.mem_of_mem_take hq)
   rw [List.length_take] at this
   omega
  unfold Y0R.l2
  simp only [Y1k hk, if_true, Y1a hk, Option.bind_some]
  rw [Y6J hg, Option.bind_some]
  have inner := Y2Y (step := Y0R.l1 objs[k] (Y2p f objs[k])) (fun j => (Y2A f (objs.take k) ++ ((Y2p f objs[k]).take j).map fun q => ⟨q, objs[k].Name⟩, (j : Int))) (Y2p f objs[k]).length (b := Y2A f (objs.take k) ++ (Y2p f objs[k]).map fun q => ⟨q, objs[k].Name⟩) (fun j hj => ?_) ?_
  ·have inner : Y19 (Y0R.l1 objs[k] (Y2p f objs[k])) (Y2A f (objs.take k) ++ [], 0) = _ := inner
   rw [List.append_nil] at inner
   rw [inner, Option.bind_some]
   unfold Y0R.j2
   rw [Y13, Y2G hk (by omega), Y1i hk, Y71]
  ·unfold Y0R.l1
   simp only [Y1k hj, if_true, Y1a hj, Option.bind_some]
   rw [Y2L (by simp only [List.length_append, List.length_map, List.length_take, List.length_singleton]; omega), Option.bind_some, Y13, Y2G hj (by omega), Y1i hj, List.map_append, List.append_assoc]
   rfl
  ·unfold Y0R.l1
   simp only [Y16, Bool.false_eq_true, if_false, List.take_length]
 ·unfold Y0R.l2
  simp only [Y16, Bool.false_eq_true, if_false, List.take_length]
end
section
open Go Go.Proofs.YtpfgdjfiimknlaaGreatL
structure IsIx (P : Y05 → List UInt8 → Prop) (es : List Y0c) : Prop where
 srt : es.Pairwise fun a b => Y1W a.Key b.Key
 asc : ∀ e ∈ es, Asc e.Objects
 ne : ∀ e ∈ es, e.Objects ≠ []
 mem : ∀ k s, (∃ e ∈ es, e.Key = k ∧ s ∈ e.Objects) ↔ P k s
theorem ix_key {es : List Y0c} (h : es.Pairwise fun a b => Y1W a.Key b.Key) {a b : Y0c} (ha : a ∈ es) (hb : b ∈ es) (e : a.Key = b.Key) : a = b := by
 induction es with
 | nil => simp at ha
 | cons c es ih =>
  have h1 := (List.pairwise_cons.1 h).1
  have h2 := (List.pairwise_cons.1 h).2
  rcases List.mem_cons.1 ha with p | p <;> rcases List.mem_cons.1 hb with q | q
  ·rw [p, q]
  ·rw [p] at e; exact absurd e (Y6H (h1 b q))
  ·rw [q] at e; exact absurd e.symm (Y6H (h1 a p))
  ·exact ih h2 p q
theorem IsIx.obj {P : Y05 → List UInt8 → Prop} {es : List Y0c} (h : IsIx P es) {e : Y0c} (he : e ∈ es) (s : List UInt8) : s ∈ e.Objects ↔ P e.Key s := by
 rw [← h.mem]
 constructor
 ·exact fun hs => ⟨e, he, rfl, hs⟩
 ·rintro ⟨e', he', hk, hs⟩
  rw [← ix_key h.srt he' he hk]
  exact hs
theorem IsIx.sub {P : Y05 → List UInt8 → Prop} {es es' : List Y0c} (h : IsIx P es) (h' : IsIx P es') {e : Y0c} (he : e ∈ es) : e ∈ es' := by
 obtain ⟨s, hs⟩ : ∃ s, s ∈ e.Objects := by
  cases ho : e.Objects with
  | nil => exact absurd ho (h.ne e he)
  | cons s l => exact ⟨s, by simp⟩
 obtain ⟨e', he', hk, _⟩ := (h'.mem e.Key s).2 ((h.obj he s).1 hs)
 have : e.Objects = e'.Objects := Y5z (h.asc e he) (h'.asc e' he') fun x => by rw [h.obj he, h'.obj he', hk]
 have e2 : e = e' := by
  obtain ⟨k, o⟩ := e
  obtain ⟨k', o'⟩ := e'
  simp only at this hk
  rw [this, hk]
 rw [e2]
 exact he'
theorem IsIx.uniq {P : Y05 → List UInt8 → Prop} {es es' : List Y0c} (h : IsIx P es) (h' : IsIx P es') : es = es' :=
 Y7B (lt := fun a b => Y1W a.Key b.Key) (fun _ => Y2C _) (fun _ _ _ => Y3q) h.srt h'.srt fun x => ⟨fun hx => h.sub h' hx, fun hx => h'.sub h hx⟩
theorem IsIx.congr {P Q : Y05 → List UInt8 → Prop} {es : List Y0c} (h : IsIx P es) (hpq : ∀ k s, P k s ↔ Q k s) : IsIx Q es := ⟨h.srt, h.asc, h.ne, fun k s => by rw [h.mem, hpq]⟩
section
variable {κ β : Type} [BEq κ] [LawfulBEq κ]
theorem Y3M : ∀ {x : List (κ × β)}, (x.map (·.1)).Nodup → ∀ o ∈ x, x.lookup o.1 = some o.2
 | [], _, o, h => by simp at h
 | a :: x, hn, o, h => by
  rw [List.map_cons, List.nodup_cons] at hn
  rw [List.lookup_cons]
  rcases List.mem_cons.1 h with rfl | h
  ·simp
  ·have : (o.1 == a.1) = false := by
    rw [beq_eq_false_iff_ne]
    exact fun e => hn.1 (List.mem_map.2 ⟨o, h, e⟩)
   rw [this]
   exact Y3M hn.2 o h
theorem Y4G {x : List (κ × β)} {k : κ} {b : β} (h : x.lookup k = some b) : (k, b) ∈ x := by
 induction x with
 | nil => cases h
 | cons a x ih =>
  rw [List.lookup_cons] at h
  cases hk : k == a.1 with
  | true =>
   rw [hk] at h
   have e : k = a.1 := by simpa using hk
   have : a = (k, b) := by rw [e]; exact Prod.ext rfl (Option.some.inj h)
   rw [this]; simp
  | false => rw [hk] at h; exact List.mem_cons_of_mem _ (ih h)
end
structure Grp (l : List Y0r) (gs : List (Y05 × List Y0r)) : Prop where
 nd : (gs.map (·.1)).Nodup
 len : gs.length ≤ l.length
 at_ : ∀ k, gs.lookup k = if l.filter (fun p => decide (p.f_key = k)) = [] then none else some (l.filter fun p => decide (p.f_key = k))
theorem Y8X {l : List Y0r} (hl : l.length ≤ 1000000000) : ∃ gs, Y1H l = some gs ∧ Grp l gs := by
 unfold Y1H
 refine Y2B (fun n s => s.1 = (n : Int) ∧ Grp (l.take n) s.2) l.length ⟨rfl, ⟨by simp, by simp, fun k => by simp⟩⟩ ?_ ?_
 ·rintro n ⟨i, gs⟩ hn ⟨hi, g⟩
  simp only at hi g
  subst hi
  have glen := g.len
  rw [List.length_take] at glen
  unfold Y1H.l1
  simp only [Y1k hn, if_true, Y1a hn, Option.bind_some]
  have e1 : Y27 l[n] = some l[n].f_key := rfl
  have hfl : ((gs.lookup l[n].f_key).getD []) = (l.take n).filter fun p => decide (p.f_key = l[n].f_key) := by
   rw [g.at_]
   split
   ·rename_i h; rw [h]; rfl
   ·rfl
  have hfl2 := List.length_filter_le (fun p => decide (p.f_key = l[n].f_key)) (l.take n)
  rw [List.length_take] at hfl2
  rw [e1, Option.bind_some, hfl, Y2L (by rw [List.length_singleton]; omega), Option.bind_some, Y13, Y2G hn (by omega)]
  refine ⟨_, rfl, rfl, ?_⟩
  simp only
  refine ⟨(Y4O _ _ _ g.nd).1, ?_, fun k => ?_⟩
  ·have := Y4E l[n].f_key ((l.take n).filter (fun p => decide (p.f_key = l[n].f_key)) ++ [l[n]]) gs
   rw [List.length_take]
   omega
  ·rw [Y36, Y1i hn, List.filter_append]
   by_cases hk : k = l[n].f_key
   ·rw [if_pos (by simp [hk]), ← hk, if_neg]
    ·congr 2
     rw [List.filter_cons, if_pos (by simp [hk])]
     rfl
    ·rw [List.filter_cons, if_pos (by simp [hk])]
     simp
   ·have e2 : [l[n]].filter (fun p => decide (p.f_key = k)) = [] := by
     rw [List.filter_cons, if_neg (by simpa using fun e => hk e.symm)]
     rfl
    rw [if_neg (by simpa using hk), g.at_, e2, List.append_nil]
 ·rintro ⟨i, gs⟩ ⟨hi, g⟩
  simp only at hi g
  subst hi
  unfold Y1H.l1
  simp only [Y16, Bool.false_eq_true, if_false]
  rw [List.take_length] at g
  exact ⟨gs, rfl, g⟩
def ent (p : Y05 × List Y0r) : Y0c := ⟨p.1, ascL (p.2.map fun q => q.f_object)⟩
def srtE (es : List Y0c) : List Y0c := es.mergeSort fun a b => !decide (Y28 b.Key a.Key < 0)
theorem Y9h {g : List Y0r} (hl : g.length ≤ 1000000000) : Y19 (Y0A.l1 g) (0, []) = some (g.map fun q => q.f_object) := by
 have := Y2Y (step := Y0A.l1 g) (fun k => ((k : Int), (g.take k).map fun q => q.f_object)) g.length (b := g.map fun q => q.f_object) (fun k hk => ?_) ?_
 ·exact this
 ·unfold Y0A.l1
  simp only [Y1k hk, if_true, Y1a hk, Option.bind_some]
  rw [Y2L (by simp only [List.length_map, List.length_take, List.length_singleton]; omega), Option.bind_some, Y13, Y2G hk (by omega), Y1i hk, List.map_append]
  rfl
 ·unfold Y0A.l1
  simp only [Y16, Bool.false_eq_true, if_false, List.take_length]
theorem Y7f : ∀ (t : List (Y05 × List Y0r)) (es : List Y0c), (∀ p ∈ t, p.2.length ≤ 1000000000) → es.length + t.length ≤ 1000000000 →
  Y4H (fun p : Y05 × (List Y0r) => Y0A.l2 p.1 p.2) t es = some (.inl (es ++ t.map ent))
 | [], es, _, _ => by rw [Y4H, List.map_nil, List.append_nil]
 | p :: t, es, h, hl => by
  have hp := h p (by simp)
  rw [List.length_cons] at hl
  have step : Y0A.l2 p.1 p.2 es = some (.inl (es ++ [ent p])) := by
   unfold Y0A.l2 Y0A.j2
   rw [Y9h hp, Option.bind_some, Y5q (by rw [List.length_map]; omega), Option.bind_some, Y2L (by rw [List.length_singleton]; omega), Option.bind_some]
   rfl
  rw [Y4H, step]
  have := Y7f t (es ++ [ent p]) (fun q hq => h q (by simp [hq])) (by rw [List.length_append, List.length_singleton]; omega)
  simp only
  rw [this, List.map_cons, List.append_assoc]
  rfl
theorem Y3k (es : List Y0c) : (srtE es).Perm es := List.mergeSort_perm _ _
theorem sortE_eq {es : List Y0c} (h : (es.map (·.Key)).Nodup) (hl : es.length ≤ 1000000000) : Y1r es = some (srtE es) ∧ (srtE es).Pairwise fun a b => Y1W a.Key b.Key := by
 have hp : es.Pairwise fun a b => decide (Y28 a.Key b.Key < 0) = true ∨ decide (Y28 b.Key a.Key < 0) = true := by
  refine (List.pairwise_map.1 h).imp fun {a b} hab => ?_
  simp only [decide_eq_true_eq, Y2n]
  refine Classical.byContradiction fun hc => ?_
  rw [not_or] at hc
  exact hab (Y5R hc.1 hc.2)
 have e1 : Y1r es = some (srtE es) := by
  unfold Y1r Y7E
  rw [if_pos ⟨hp, by omega⟩]
  rfl
 refine ⟨e1, ?_⟩
 have h1 := Y5n (Y6x fun e : Y0c => e.Key) (xs := es) (ys := srtE es) e1
 have h2 := Y3L (fun a b h => h.symm) (Y3k es).symm hp
 refine (h1.and h2).imp fun {a b} hab => ?_
 obtain ⟨a1, a2⟩ := hab
 simp only [decide_eq_true_eq, decide_eq_false_iff_not, Y2n] at a1 a2
 exact a2.resolve_right a1
theorem Y6p {f : Y0l} {l : List Y0r} (hl : l.length ≤ 1000000000) :
  ∃ es, Y0A f l = some ⟨f, es⟩ ∧ IsIx (fun k s => (⟨k, s⟩ : Y0r) ∈ l) es ∧ es.length ≤ l.length ∧ ∀ e ∈ es, e.Objects.length ≤ l.length := by
 obtain ⟨gs, e1, g⟩ := Y8X hl
 have glen := g.len
 have gmem : ∀ p : Y05 × List Y0r, p ∈ gs → p.2 = (l.filter fun q => decide (q.f_key = p.1)) ∧ p.2 ≠ [] := by
  intro p hp
  have h1 := Y3M g.nd p hp
  rw [g.at_] at h1
  split at h1
  ·cases h1
  ·rename_i hne
   have := Option.some.inj h1
   exact ⟨this.symm, by rw [← this]; exact hne⟩
 have facts : ∀ t : List (Y05 × List Y0r), t.Perm gs → (Y4H (fun p : Y05 × (List Y0r) => Y0A.l2 p.1 p.2) t []) = some (.inl (t.map ent)) ∧ Y1r (t.map ent) = some (srtE (t.map ent)) ∧ IsIx (fun k s => (⟨k, s⟩ : Y0r) ∈ l) (srtE (t.map ent)) := by
  intro t ht
  have tl : t.length ≤ 1000000000 := by rw [ht.length_eq]; omega
  have tm : ∀ p ∈ t, p.2.length ≤ l.length := fun p hp => by
   rw [(gmem p (ht.mem_iff.1 hp)).1]
   exact List.length_filter_le _ _
  have f1 := Y7f t [] (fun p hp => Nat.le_trans (tm p hp) hl) (by simpa using tl)
  rw [List.nil_append] at f1
  have nd : ((t.map ent).map (·.Key)).Nodup := by
   rw [List.map_map]
   exact ((ht.map (·.1)).nodup_iff).2 g.nd
  obtain ⟨s1, s2⟩ := sortE_eq nd (by rw [List.length_map]; exact tl)
  refine ⟨f1, s1, s2, fun e he => ?_, fun e he => ?_, fun k s => ?_⟩
  ·obtain ⟨p, _, rfl⟩ := List.mem_map.1 ((Y3k _).mem_iff.1 he)
   exact Y8s _
  ·obtain ⟨p, hp, rfl⟩ := List.mem_map.1 ((Y3k _).mem_iff.1 he)
   obtain ⟨q, hq⟩ : ∃ q, q ∈ p.2 := by
    cases h2 : p.2 with
    | nil => exact absurd h2 (gmem p (ht.mem_iff.1 hp)).2
    | cons q _ => exact ⟨q, by simp⟩
   intro h0
   have : q.f_object ∈ (ent p).Objects := (Y5A _ _).2 (List.mem_map.2 ⟨q, hq, rfl⟩)
   rw [h0] at this
   simp at this
  ·constructor
   ·rintro ⟨e, he, hk, hs⟩
    obtain ⟨p, hp, rfl⟩ := List.mem_map.1 ((Y3k _).mem_iff.1 he)
    obtain ⟨q, hq, rfl⟩ := List.mem_map.1 ((Y5A _ _).1 hs)
    rw [(gmem p (ht.mem_iff.1 hp)).1, List.mem_filter] at hq
    have hk2 : q.f_key = p.1 := by simpa using hq.2
    have hk : p.1 = k := hk
    rw [← hk, ← hk2]
    exact hq.1
   ·intro hm
    have hf : (⟨k, s⟩ : Y0r) ∈ l.filter fun q => decide (q.f_key = k) := List.mem_filter.2 ⟨hm, by simp⟩
    have hlk : gs.lookup k = some (l.filter fun q => decide (q.f_key = k)) := by
     rw [g.at_, if_neg]
     intro h0
     rw [h0] at hf
     simp at hf
    have hg := Y4G hlk
    refine ⟨ent (k, l.filter fun q => decide (q.f_key = k)), (Y3k _).mem_iff.2 (List.mem_map.2 ⟨_, ht.mem_iff.2 hg, rfl⟩), rfl, ?_⟩
    exact (Y5A _ _).2 (List.mem_map.2 ⟨_, hf, rfl⟩)
 obtain ⟨_, _, ix0⟩ := facts gs (.refl _)
 refine ⟨srtE (gs.map ent), ?_, ix0, ?_, fun e he => ?_⟩
 ·unfold Y0A
  rw [e1, Option.bind_some]
  refine permI fun t ht => ?_
  obtain ⟨f1, f2, f3⟩ := facts t ht
  rw [f1, Option.bind_some]
  simp only
  unfold Y0A.j1
  rw [f2, Option.bind_some, f3.uniq ix0]
 ·rw [(Y3k _).length_eq, List.length_map]
  exact glen
 ·obtain ⟨p, hp, rfl⟩ := List.mem_map.1 ((Y3k _).mem_iff.1 he)
  refine Nat.le_trans (Y68 _) ?_
  rw [List.length_map, (gmem p hp).1]
  exact List.length_filter_le _ _
def PB (f : Y0l) (objs : List Y06) (k : Y05) (s : List UInt8) : Prop := ∃ o ∈ objs, o.Name = s ∧ k ∈ Y2p f o
structure GX (P : Y05 → List UInt8 → Prop) (es : List Y0c) : Prop where
 ix : IsIx P es
 len : es.length ≤ 10000
 olen : ∀ e ∈ es, e.Objects.length ≤ 10000
theorem Y58 (f : Y0l) {objs : List Y06} (h : ∀ o ∈ objs, GO o) (hl : objs.length ≤ 100) : ∃ es, Y1x f ⟨objs⟩ = some ⟨f, es⟩ ∧ GX (PB f objs) es := by
 have hpl := Y39 (f := f) h
 obtain ⟨es, e1, e2, e3, e4⟩ := Y6p (f := f) (l := Y2A f objs) (by omega)
 refine ⟨es, ?_, e2.congr fun k s => Y5G, by omega, fun e he => by have := e4 e he; omega⟩
 unfold Y1x
 rw [Y86 h (by omega), Option.bind_some, e1, Option.bind_some]
theorem GX.uniq {P : Y05 → List UInt8 → Prop} {es es' : List Y0c} (h : GX P es) (h' : GX P es') : es = es' := h.ix.uniq h'.ix
end
end Go.Proofs.YtpfgdjfiimknlaaGreat
