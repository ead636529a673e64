/- What the row leans on, as few texts. -/
import Derived.Test.YtpfgdjfiimknlaaGreatQIEQ1
import Derived.Test.YtpfgdjfiimknlaaGreatQIEQ0
import Derived.Sort.Walk0
import Derived.Shelf.Spec.SearchS
import Derived.Shelf.Spec.SlicesInsertGrow
import Derived.Shelf.SlSortCmp.WholeK
import Derived.Test.YtpfgdjfiimknlaaGreatProg
set_option linter.unusedVariables false
set_option linter.unusedSimpArgs false
set_option maxRecDepth 20000
set_option linter.unusedSectionVars false
set_option linter.unnecessarySimpa false
namespace Go.Proofs.YtpfgdjfiimknlaaGreat
section
open Go Go.RowKit Go.Proofs.YtpfgdjfiimknlaaGreatL
set_option maxRecDepth 100000
set_option maxHeartbeats 4000000
theorem Y1q.calls {ok : Nat → Prop} {w0 : World} {x1 : Int}  {r : Bool} (hf : Y1q x1 = some r)  :
  Calls Tryz.prog 91 #[.int .i64 x1] w0 fun e w' => ∃ v, e = .returned v ∧ ∃ y : Unit, v = .bool r ∧ St ok (bz w0) w' [] [] := by
 unfold Y1q at hf
 refine Y0t (fn := Tryz.f91) (N := 6) Tryz.func91 rfl Tryz.ntmps91 rfl ?_
 have hs : St ok (bz w0) w0 [] [] := St.init All.nil
 refine W.seqK fun K2 hK2 => ?_
 refine W.region ?_
 refine WL.assign (v := .bool false) rfl ?_
 refine WL.nil ?_
 refine hK2 _ _ ?_
 refine W.seqK fun K3 hK3 => ?_
 refine W.region ?_
 refine WL.move (v := .int .i64 x1) rfl ?_
 refine WL.move (v := .int .i64 x1) rfl ?_
 refine WL.bin (v := .bool (x1 != x1)) rfl rfl (Y48 _ _ _) ?_
 refine WL.assign (v := .bool (x1 != x1)) rfl ?_
 refine WL.nil ?_
 refine hK3 _ _ ?_
 refine W.ret ?_
 have hr := Option.some.inj hf; subst hr
 exact ⟨_, Y0e rfl rfl, (), rfl, (hs.mask []).pick []⟩
theorem Y0W.calls {ok : Nat → Prop} {w0 : World} {x1 : Int} {x2 : Int}  {r : Int} (hf : Y0W x1 x2 = some r)  :
  Calls Tryz.prog 64 #[.int .i64 x1, .int .i64 x2] w0 fun e w' => ∃ v, e = .returned v ∧ ∃ y : Unit, v = .int .i64 r ∧ St ok (bz w0) w' [] [] := by
 unfold Y0W at hf
 refine Y0t (fn := Tryz.f64) (N := 20) Tryz.func64 rfl Tryz.ntmps64 rfl ?_
 have hs : St ok (bz w0) w0 [] [] := St.init All.nil
 refine W.seqK fun K3 hK3 => ?_
 refine W.region ?_
 refine WL.assign (v := .int .i64 0) rfl ?_
 refine WL.nil ?_
 refine hK3 _ _ ?_
 refine W.seqK fun K4 hK4 => ?_
 refine W.region ?_
 refine WL.move (v := .int .i64 x1) rfl ?_
 obtain ⟨x5, hxx5, hf⟩ := Y0s hf
 refine WL.call (vs := [.int .i64 x1]) hs FN91 ⟨rfl, trivial⟩ (fun ok hA => Y1q.calls (x1 := x1) hxx5) ?_
 rintro _ w hs
 refine WL.assign (v := .bool x5) rfl ?_
 refine WL.nil ?_
 refine hK4 _ _ ?_
 refine W.seqK fun K6 hK6 => ?_
 refine W.region ?_
 refine WL.move (v := .int .i64 x2) rfl ?_
 obtain ⟨x7, hxx7, hf⟩ := Y0s hf
 refine WL.call (vs := [.int .i64 x2]) hs FN91 ⟨rfl, trivial⟩ (fun ok hA => Y1q.calls (x1 := x2) hxx7) ?_
 rintro _ w hs
 refine WL.assign (v := .bool x7) rfl ?_
 refine WL.nil ?_
 refine hK6 _ _ ?_
 refine W.seqK fun K8 hK8 => ?_
 refine W.seqK fun K9 hK9 => ?_
 refine W.region ?_
 refine WL.move (v := .bool x5) rfl ?_
 refine WL.nil ?_
 refine hK9 _ _ ?_
 rcases iteE hf with ⟨hc10, hf⟩ | ⟨hc10, hf⟩
 {
 refine W.cond_true (Y02 rfl hc10) ?_
 refine W.seqK fun K11 hK11 => ?_
 refine W.seqK fun K12 hK12 => ?_
 refine W.region ?_
 refine WL.move (v := .bool x7) rfl ?_
 refine WL.nil ?_
 refine hK12 _ _ ?_
 rcases iteE hf with ⟨hc13, hf⟩ | ⟨hc13, hf⟩
 {
 refine W.cond_true (Y02 rfl hc13) ?_
 refine W.seqK fun K14 hK14 => ?_
 refine W.region ?_
 refine WL.assign (v := .int .i64 0) rfl ?_
 refine WL.nil ?_
 refine hK14 _ _ ?_
 refine W.ret ?_
 have hr := Option.some.inj hf; subst hr
 exact ⟨_, Y0e rfl rfl, (), rfl, (hs.mask []).pick []⟩ }
 {
 refine W.cond_false (Y02 rfl hc13) ?_
 refine W.skip ?_
 refine hK11 _ _ ?_
 refine W.seqK fun K15 hK15 => ?_
 refine W.region ?_
 refine WL.assign (v := .int .i64 (-1)) rfl ?_
 refine WL.nil ?_
 refine hK15 _ _ ?_
 refine W.ret ?_
 have hr := Option.some.inj hf; subst hr
 exact ⟨_, Y0e rfl rfl, (), rfl, (hs.mask []).pick []⟩ } }
 {
 refine W.cond_false (Y02 rfl hc10) ?_
 refine W.skip ?_
 refine hK8 _ _ ?_
 refine W.seqK fun K16 hK16 => ?_
 refine W.seqK fun K17 hK17 => ?_
 refine W.region ?_
 refine WL.move (v := .bool x7) rfl ?_
 refine WL.nil ?_
 refine hK17 _ _ ?_
 rcases iteE hf with ⟨hc18, hf⟩ | ⟨hc18, hf⟩
 {
 refine W.cond_true (Y02 rfl hc18) ?_
 refine W.seqK fun K19 hK19 => ?_
 refine W.region ?_
 refine WL.assign (v := .int .i64 1) rfl ?_
 refine WL.nil ?_
 refine hK19 _ _ ?_
 refine W.ret ?_
 have hr := Option.some.inj hf; subst hr
 exact ⟨_, Y0e rfl rfl, (), rfl, (hs.mask []).pick []⟩ }
 {
 refine W.cond_false (Y02 rfl hc18) ?_
 refine W.skip ?_
 refine hK16 _ _ ?_
 refine W.seqK fun K20 hK20 => ?_
 refine W.seqK fun K21 hK21 => ?_
 refine W.region ?_
 refine WL.move (v := .int .i64 x1) rfl ?_
 refine WL.move (v := .int .i64 x2) rfl ?_
 refine WL.bin (v := .bool (decide (x1 < x2))) rfl rfl (Y1n _ _ _) ?_
 refine WL.nil ?_
 refine hK21 _ _ ?_
 rcases iteE hf with ⟨hc22, hf⟩ | ⟨hc22, hf⟩
 {
 refine W.cond_true (Y02 rfl hc22) ?_
 refine W.seqK fun K23 hK23 => ?_
 refine W.region ?_
 refine WL.assign (v := .int .i64 (-1)) rfl ?_
 refine WL.nil ?_
 refine hK23 _ _ ?_
 refine W.ret ?_
 have hr := Option.some.inj hf; subst hr
 exact ⟨_, Y0e rfl rfl, (), rfl, (hs.mask []).pick []⟩ }
 {
 refine W.cond_false (Y02 rfl hc22) ?_
 refine W.skip ?_
 refine hK20 _ _ ?_
 refine W.seqK fun K24 hK24 => ?_
 refine W.seqK fun K25 hK25 => ?_
 refine W.region ?_
 refine WL.move (v := .int .i64 x1) rfl ?_
 refine WL.move (v := .int .i64 x2) rfl ?_
 refine WL.bin (v := .bool (decide (x2 < x1))) rfl rfl (Y5X _ _ _) ?_
 refine WL.nil ?_
 refine hK25 _ _ ?_
 rcases iteE hf with ⟨hc26, hf⟩ | ⟨hc26, hf⟩
 {
 refine W.cond_true (Y02 rfl hc26) ?_
 refine W.seqK fun K27 hK27 => ?_
 refine W.region ?_
 refine WL.assign (v := .int .i64 1) rfl ?_
 refine WL.nil ?_
 refine hK27 _ _ ?_
 refine W.ret ?_
 have hr := Option.some.inj hf; subst hr
 exact ⟨_, Y0e rfl rfl, (), rfl, (hs.mask []).pick []⟩ }
 {
 refine W.cond_false (Y02 rfl hc26) ?_
 refine W.skip ?_
 refine hK24 _ _ ?_
 refine W.seqK fun K28 hK28 => ?_
 refine W.region ?_
 refine WL.assign (v := .int .i64 0) rfl ?_
 refine WL.nil ?_
 refine hK28 _ _ ?_
 refine W.ret ?_
 have hr := Option.some.inj hf; subst hr
 exact ⟨_, Y0e rfl rfl, (), rfl, (hs.mask []).pick []⟩ } } } }
theorem Y0S.calls {ok : Nat → Prop} {w0 : World} {x1 : List Int} {a2 : Option Addr} {c3 : Nat} {r : Int} (hf : Y0S x1 = some r) (i0 : (vl (Y0b (tInt .i64)) x1 (.slice a2 x1.length c3)).holds ok w0) :
  Calls Tryz.prog 63 #[.slice a2 x1.length c3] w0 fun e w' => ∃ v, e = .returned v ∧ ∃ y : Unit, v = .int .i64 r ∧ St ok (bz w0) w' [] [] := by
 unfold Y0S at hf
 refine Y0t (fn := Tryz.f63) (N := 18) Tryz.func63 rfl Tryz.ntmps63 rfl ?_
 have hs : St ok (bz w0) w0 [vl (Y0b (tInt .i64)) x1 (.slice a2 x1.length c3)] [] := St.init (All.cons i0 All.nil)
 clear i0
 refine W.seqK fun K4 hK4 => ?_
 refine W.region ?_
 refine WL.assign (v := .int .i64 0) rfl ?_
 refine WL.nil ?_
 refine hK4 _ _ ?_
 refine W.seqK fun K5 hK5 => ?_
 refine W.region ?_
 refine WL.assign (v := .int .i64 0) rfl ?_
 refine WL.nil ?_
 refine hK5 _ _ ?_
 refine W.seqK fun K6 hK6 => ?_
 have Jk8 : ∀  (ρ : Env) (w : World), ρ 3 = .int .i64 0 → St ok (bz w0) w [] [] → Y0S.j1 = some r → K6 ρ w := by
  intro  ρ w h7_3 hs hf
  refine hK6 _ _ ?_
  unfold Y0S.j1 at hf
  refine W.seqK fun K9 hK9 => ?_
  refine W.region ?_
  refine WL.move (v := .int .i64 0) h7_3 ?_
  refine WL.assign (v := .int .i64 0) rfl ?_
  refine WL.nil ?_
  refine hK9 _ _ ?_
  refine W.ret ?_
  have hr := Option.some.inj hf; subst hr
  exact ⟨_, Y0e rfl rfl, (), rfl, (hs.mask []).pick []⟩
 refine W.seqK fun K10 hK10 => ?_
 refine W.region ?_
 refine WL.move (v := .slice a2 x1.length c3) rfl ?_
 refine WL.len (v := .slice a2 x1.length c3) rfl (Y10 UN22) ?_
 refine WL.move (v := .int .i64 0) rfl ?_
 refine WL.nil ?_
 refine hK10 _ _ ?_
 refine W.block ?_
 obtain ⟨bs13, hbs13, hfs13⟩ := Y0s hf
 refine W.loop hbs13 (fun s ρ w => match s with | x12 => ρ 3 = .int .i64 0 ∧ ρ 6 = .slice a2 x1.length c3 ∧ ρ 7 = .int .i64 (x1.length : Int) ∧ ρ 8 = .int .i64 x12 ∧ St ok (bz w0) w [vl (Y0b (tInt .i64)) x1 (.slice a2 x1.length c3)] []) ⟨rfl, rfl, rfl, rfl, (hs.mask []).pick [0]⟩ ?_
 intro x12 ρ w os13 hI hf hbbs13
 obtain ⟨h11_3, h11_6, h11_7, h11_8, hs⟩ := hI
 unfold Y0S.l1 at hf
 refine W.seqK fun K14 hK14 => ?_
 refine W.region ?_
 refine WL.bin (v := .bool (decide (x12 < (x1.length : Int)))) h11_8 h11_7 (Y1n _ _ _) ?_
 refine WL.nil ?_
 refine hK14 _ _ ?_
 refine W.seqK fun K15 hK15 => ?_
 rcases iteE hf with ⟨hc16, hf⟩ | ⟨hc16, hf⟩
 {
 refine W.cond_true (Y02 rfl hc16) ?_
 refine W.skip ?_
 refine hK15 _ _ ?_
 refine W.seqK fun K17 hK17 => ?_
 refine W.block ?_
 refine W.seqK fun K18 hK18 => ?_
 refine W.region ?_
 obtain ⟨x19, hxx19, hf⟩ := Y0s hf
 refine WL.indexAddr hs 0 rfl UN22 TI3 h11_6 h11_8 hxx19 (fun ad20 hs => ?_)
 refine WL.loadP hs 0 rfl TI3 (.inr rfl) rfl (fun v21 hs => ?_)
 obtain rfl := hs.int 0 rfl
 refine WL.assign (v := .int .i64 x19) rfl ?_
 refine WL.nil ?_
 refine hK18 _ _ ?_
 refine W.seqK fun K22 hK22 => ?_
 refine W.region ?_
 refine WL.move (v := .int .i64 x19) rfl ?_
 refine WL.move (v := .int .i64 0) h11_3 ?_
 refine WL.bin (v := .bool (x19 != 0)) rfl rfl (Y48 _ _ _) ?_
 refine WL.nil ?_
 refine hK22 _ _ ?_
 rcases iteE hf with ⟨hc23, hf⟩ | ⟨hc23, hf⟩
 {
 refine W.cond_true (Y02 rfl hc23) ?_
 refine W.seqK fun K24 hK24 => ?_
 refine W.region ?_
 refine WL.move (v := .int .i64 x19) rfl ?_
 refine WL.assign (v := .int .i64 x19) rfl ?_
 refine WL.nil ?_
 refine hK24 _ _ ?_
 refine W.ret ?_
 have hr := Option.some.inj hf; subst hr
 have hr := hbbs13 _ rfl; subst hr
 have hf := hfs13
 have hr := Option.some.inj hf; subst hr
 exact ⟨_, Y0e rfl rfl, (), rfl, (hs.mask []).pick []⟩ }
 {
 refine W.cond_false (Y02 rfl hc23) ?_
 refine W.skip ?_
 refine hK17 _ _ ?_
 refine W.region ?_
 obtain ⟨x25, ex25, hf⟩ := letE hf
 refine WL.bin (v := .int .i64 x25) h11_8 rfl (Y1V ex25 (Y1t _ _ _)) ?_
 refine WL.move (v := .int .i64 x25) rfl ?_
 refine WL.nil ?_
 exact ⟨_, (Option.some.inj hf).symm, h11_3, h11_6, h11_7, rfl, (hs.mask []).pick [2]⟩ } }
 {
 refine W.cond_false (Y02 rfl hc16) ?_
 refine W.exit ?_
 have hr := Option.some.inj hf; subst hr
 have hr := hbbs13 _ rfl; subst hr
 have hf := hfs13
 exact Jk8  _ _ h11_3 ((hs.mask []).pick []) hf }
theorem Y23.calls {ok : Nat → Prop} {w0 : World} {x1 : Y0l} {x5 : Y0L} {v2 : Value} {v6 : Value} {r : Bool} (hf : Y23 x1 x5 = some r) (i0 : (vl Y0r x1 v2).holds ok w0) (i1 : (vl Y1c x5 v6).holds ok w0) :
  Calls Tryz.prog 49 #[v2, v6] w0 fun e w' => ∃ v, e = .returned v ∧ ∃ y : Unit, v = .bool r ∧ St ok (bz w0) w' [] [] := by
 unfold Y23 at hf
 refine Y0t (fn := Tryz.f49) (N := 28) Tryz.func49 rfl Tryz.ntmps49 rfl ?_
 have hs : St ok (bz w0) w0 [vl Y0r x1 v2, vl Y1c x5 v6] [] := St.init (All.cons i0 (All.cons i1 All.nil))
 clear i0 i1
 obtain ⟨cs3, hl4, rfl⟩ := hs.aggv (n := 4) 0 rfl rfl rfl
 obtain ⟨cs7, hl8, rfl⟩ := hs.aggv (n := 6) 1 rfl rfl rfl
 refine W.seqK fun K9 hK9 => ?_
 refine W.region ?_
 refine WL.box (vs := cs3) hs rfl rfl (fun g10 w hs => ?_)
 refine WL.box (vs := cs7) hs rfl rfl (fun g11 w hs => ?_)
 refine WL.assign (v := .bool false) rfl ?_
 refine WL.nil ?_
 refine hK9 _ _ ?_
 refine W.seqK fun K12 hK12 => ?_
 have Jk15 : ∀ (x14 : Bool) (ρ : Env) (w : World), ρ 4 = .bool x14 → St ok (bz w0) w [] [] → Y23.j1 x14 = some r → K12 ρ w := by
  intro x14 ρ w h13_4 hs hf
  refine hK12 _ _ ?_
  unfold Y23.j1 at hf
  refine W.ret ?_
  have hr := Option.some.inj hf; subst hr
  exact ⟨_, Y0e rfl h13_4, (), rfl, (hs.mask []).pick []⟩
 rcases iteE hf with ⟨hc17, hf⟩ | ⟨hc17, hf⟩
 {
 refine W.any (by kernel_rfl) 23 1 [true, true, true, true, true, true, true, true, true, true, true, true, true, true, true, true, true, true, true, true, true, true, true, false] rfl rfl (poAt [pv (.pointer (some ⟨g11, 0, none⟩)), pv (.bool x5.Set), pv (.bool (!x5.Set)), pv (.bool (!x5.Set)), pv (undef), pv (undef), pv (undef), pv (undef), pv (undef), pv (undef), pv (undef), pv (undef), pv (undef), pv (undef), pv (undef), pv (undef), pv (undef), pv (undef), pv (undef), pv (undef), pv (undef), pv (undef), pv (.bool true)]) (Λ := [blk g11 84 cs7, blk g10 74 cs3]) hs (by kernel_rfl) (by kernel_rfl) (by kernel_rfl) ⟨⟨⟨⟨⟨⟨⟨⟨⟨⟨⟨⟨⟨⟨⟨⟨⟨⟨⟨⟨⟨⟨⟨trivial, ?_⟩, ?_⟩, ?_⟩, ?_⟩, ?_⟩, ?_⟩, ?_⟩, ?_⟩, ?_⟩, ?_⟩, ?_⟩, ?_⟩, ?_⟩, ?_⟩, ?_⟩, ?_⟩, ?_⟩, ?_⟩, ?_⟩, ?_⟩, ?_⟩, ?_⟩, ?_⟩ ?_
 {
 intro ρ w Γx Λx hs hu hp
 refine WL.fieldAddr (m := 0) (hu 3 rfl) Y61 rfl ?_
 exact WL.nil ⟨rfl, _, rfl, rfl, hs.cutG 0 0⟩ }
 {
 intro ρ w Γx Λx hs hu hp
 have e18 : ρ 5 = .pointer (some ⟨g11, 0, none⟩) := (hp 0 rfl).1
 refine WL.loadF (z := x5.Set) Y2k hs (Λx.length + 0) (Y0q rfl) (Γx.length + 1) (Y0q rfl) rfl TI4 (.inr rfl) e18 rfl (fun v16 hs => ?_)
 obtain rfl := hs.bool 0 rfl
 exact WL.nil ⟨rfl, _, rfl, rfl, hs.cutG 0 1⟩ }
 {
 intro ρ w Γx Λx hs hu hp
 have e19 : ρ 6 = .bool x5.Set := (hp 1 rfl).1
 refine WL.not e19 ?_
 exact WL.nil ⟨rfl, _, rfl, rfl, hs.cutG 0 0⟩ }
 {
 intro ρ w Γx Λx hs hu hp
 have e20 : ρ 7 = .bool (!x5.Set) := (hp 2 rfl).1
 refine WL.move (v := .bool (!x5.Set)) e20 ?_
 exact WL.nil ⟨rfl, _, rfl, rfl, hs.cutG 0 0⟩ }
 {
 intro ρ w Γx Λx hs hu hp
 have e21 : ρ 8 = .bool (!x5.Set) := (hp 3 rfl).1
 refine WL.pass ((Y01 rfl rfl (Y02 e21 hc17)).trans rfl) rfl ?_
 exact WL.nil ⟨rfl, _, rfl, rfl, hs.cutG 0 0⟩ }
 {
 intro ρ w Γx Λx hs hu hp
 have e22 : ρ 9 = undef := (hp 4 rfl).1
 have e23 : ρ 8 = .bool (!x5.Set) := (hp 3 rfl).1
 refine WL.pass ((Y01 rfl rfl (Y02 e23 hc17)).trans rfl) rfl ?_
 exact WL.nil ⟨rfl, _, rfl, rfl, hs.cutG 0 0⟩ }
 {
 intro ρ w Γx Λx hs hu hp
 have e24 : ρ 8 = .bool (!x5.Set) := (hp 3 rfl).1
 refine WL.pass ((Y01 rfl rfl (Y02 e24 hc17)).trans rfl) rfl ?_
 exact WL.nil ⟨rfl, _, rfl, rfl, hs.cutG 0 0⟩ }
 {
 intro ρ w Γx Λx hs hu hp
 have e25 : ρ 11 = undef := (hp 6 rfl).1
 have e26 : ρ 8 = .bool (!x5.Set) := (hp 3 rfl).1
 refine WL.pass ((Y01 rfl rfl (Y02 e26 hc17)).trans rfl) rfl ?_
 exact WL.nil ⟨rfl, _, rfl, rfl, hs.cutG 0 0⟩ }
 {
 intro ρ w Γx Λx hs hu hp
 have e27 : ρ 10 = undef := (hp 5 rfl).1
 have e28 : ρ 12 = undef := (hp 7 rfl).1
 have e29 : ρ 8 = .bool (!x5.Set) := (hp 3 rfl).1
 refine WL.pass ((Y01 rfl rfl (Y02 e29 hc17)).trans rfl) rfl ?_
 exact WL.nil ⟨rfl, _, rfl, rfl, hs.cutG 0 0⟩ }
 {
 intro ρ w Γx Λx hs hu hp
 have e30 : ρ 8 = .bool (!x5.Set) := (hp 3 rfl).1
 refine WL.pass ((Y01 rfl rfl (Y02 e30 hc17)).trans rfl) rfl ?_
 exact WL.nil ⟨rfl, _, rfl, rfl, hs.cutG 0 0⟩ }
 {
 intro ρ w Γx Λx hs hu hp
 have e31 : ρ 14 = undef := (hp 9 rfl).1
 have e32 : ρ 8 = .bool (!x5.Set) := (hp 3 rfl).1
 refine WL.pass ((Y01 rfl rfl (Y02 e32 hc17)).trans rfl) rfl ?_
 exact WL.nil ⟨rfl, _, rfl, rfl, hs.cutG 0 0⟩ }
 {
 intro ρ w Γx Λx hs hu hp
 have e33 : ρ 8 = .bool (!x5.Set) := (hp 3 rfl).1
 refine WL.pass ((Y01 rfl rfl (Y02 e33 hc17)).trans rfl) rfl ?_
 exact WL.nil ⟨rfl, _, rfl, rfl, hs.cutG 0 0⟩ }
 {
 intro ρ w Γx Λx hs hu hp
 have e34 : ρ 16 = undef := (hp 11 rfl).1
 have e35 : ρ 8 = .bool (!x5.Set) := (hp 3 rfl).1
 refine WL.pass ((Y01 rfl rfl (Y02 e35 hc17)).trans rfl) rfl ?_
 exact WL.nil ⟨rfl, _, rfl, rfl, hs.cutG 0 0⟩ }
 {
 intro ρ w Γx Λx hs hu hp
 have e36 : ρ 15 = undef := (hp 10 rfl).1
 have e37 : ρ 17 = undef := (hp 12 rfl).1
 have e38 : ρ 8 = .bool (!x5.Set) := (hp 3 rfl).1
 refine WL.pass ((Y01 rfl rfl (Y02 e38 hc17)).trans rfl) rfl ?_
 exact WL.nil ⟨rfl, _, rfl, rfl, hs.cutG 0 0⟩ }
 {
 intro ρ w Γx Λx hs hu hp
 have e39 : ρ 8 = .bool (!x5.Set) := (hp 3 rfl).1
 refine WL.pass ((Y01 rfl rfl (Y02 e39 hc17)).trans rfl) rfl ?_
 exact WL.nil ⟨rfl, _, rfl, rfl, hs.cutG 0 0⟩ }
 {
 intro ρ w Γx Λx hs hu hp
 have e40 : ρ 19 = undef := (hp 14 rfl).1
 have e41 : ρ 8 = .bool (!x5.Set) := (hp 3 rfl).1
 refine WL.pass ((Y01 rfl rfl (Y02 e41 hc17)).trans rfl) rfl ?_
 exact WL.nil ⟨rfl, _, rfl, rfl, hs.cutG 0 0⟩ }
 {
 intro ρ w Γx Λx hs hu hp
 have e42 : ρ 8 = .bool (!x5.Set) := (hp 3 rfl).1
 refine WL.pass ((Y01 rfl rfl (Y02 e42 hc17)).trans rfl) rfl ?_
 exact WL.nil ⟨rfl, _, rfl, rfl, hs.cutG 0 0⟩ }
 {
 intro ρ w Γx Λx hs hu hp
 have e43 : ρ 21 = undef := (hp 16 rfl).1
 have e44 : ρ 8 = .bool (!x5.Set) := (hp 3 rfl).1
 refine WL.pass ((Y01 rfl rfl (Y02 e44 hc17)).trans rfl) rfl ?_
 exact WL.nil ⟨rfl, _, rfl, rfl, hs.cutG 0 0⟩ }
 {
 intro ρ w Γx Λx hs hu hp
 have e45 : ρ 20 = undef := (hp 15 rfl).1
 have e46 : ρ 22 = undef := (hp 17 rfl).1
 have e47 : ρ 8 = .bool (!x5.Set) := (hp 3 rfl).1
 refine WL.pass ((Y01 rfl rfl (Y02 e47 hc17)).trans rfl) rfl ?_
 exact WL.nil ⟨rfl, _, rfl, rfl, hs.cutG 0 0⟩ }
 {
 intro ρ w Γx Λx hs hu hp
 have e48 : ρ 13 = undef := (hp 8 rfl).1
 have e49 : ρ 18 = undef := (hp 13 rfl).1
 have e50 : ρ 23 = undef := (hp 18 rfl).1
 have e51 : ρ 8 = .bool (!x5.Set) := (hp 3 rfl).1
 refine WL.pass ((Y01 rfl rfl (Y02 e51 hc17)).trans rfl) rfl ?_
 exact WL.nil ⟨rfl, _, rfl, rfl, hs.cutG 0 0⟩ }
 {
 intro ρ w Γx Λx hs hu hp
 have e52 : ρ 24 = undef := (hp 19 rfl).1
 have e53 : ρ 8 = .bool (!x5.Set) := (hp 3 rfl).1
 refine WL.pass ((Y01 rfl rfl (Y02 e53 hc17)).trans rfl) rfl ?_
 exact WL.nil ⟨rfl, _, rfl, rfl, hs.cutG 0 0⟩ }
 {
 intro ρ w Γx Λx hs hu hp
 have e54 : ρ 25 = undef := (hp 20 rfl).1
 have e55 : ρ 8 = .bool (!x5.Set) := (hp 3 rfl).1
 refine WL.pass ((Y01 rfl rfl (Y02 e55 hc17)).trans rfl) rfl ?_
 exact WL.nil ⟨rfl, _, rfl, rfl, hs.cutG 0 0⟩ }
 {
 intro ρ w Γx Λx hs hu hp
 have e56 : ρ 8 = .bool (!x5.Set) := (hp 3 rfl).1
 have e57 : ρ 26 = undef := (hp 21 rfl).1
 refine WL.pickT (v := .bool true) (Y02 e56 hc17) rfl ?_
 exact WL.nil ⟨rfl, _, rfl, rfl, hs.cutG 0 0⟩ }
 {
 intro ρ w hs hu58 hp
 obtain ⟨⟨⟨⟨⟨⟨⟨⟨⟨⟨⟨⟨⟨⟨⟨⟨⟨⟨⟨⟨⟨⟨⟨_, hp0_⟩, hp1_⟩, hp2_⟩, hp3_⟩, hp4_⟩, hp5_⟩, hp6_⟩, hp7_⟩, hp8_⟩, hp9_⟩, hp10_⟩, hp11_⟩, hp12_⟩, hp13_⟩, hp14_⟩, hp15_⟩, hp16_⟩, hp17_⟩, hp18_⟩, hp19_⟩, hp20_⟩, hp21_⟩, hp22_⟩ := hp
 have hs : St ok (bz w0) w [vl Y0r x1 (.agg cs3.toArray), vl Y1c x5 (.agg cs7.toArray)] [blk g11 84 cs7, blk g10 74 cs3] := hs
 have e59 : ρ 27 = .bool true := hp22_
 have e60 : ρ 26 = undef := hp21_
 have e61 : ρ 25 = undef := hp20_
 have e62 : ρ 24 = undef := hp19_
 have e63 : ρ 23 = undef := hp18_
 have e64 : ρ 22 = undef := hp17_
 have e65 : ρ 21 = undef := hp16_
 have e66 : ρ 20 = undef := hp15_
 have e67 : ρ 19 = undef := hp14_
 have e68 : ρ 18 = undef := hp13_
 have e69 : ρ 17 = undef := hp12_
 have e70 : ρ 16 = undef := hp11_
 have e71 : ρ 15 = undef := hp10_
 have e72 : ρ 14 = undef := hp9_
 have e73 : ρ 13 = undef := hp8_
 have e74 : ρ 12 = undef := hp7_
 have e75 : ρ 11 = undef := hp6_
 have e76 : ρ 10 = undef := hp5_
 have e77 : ρ 9 = undef := hp4_
 have e78 : ρ 8 = .bool (!x5.Set) := hp3_
 have e79 : ρ 7 = .bool (!x5.Set) := hp2_
 have e80 : ρ 6 = .bool x5.Set := hp1_
 have e81 : ρ 5 = .pointer (some ⟨g11, 0, none⟩) := hp0_
 refine WA.step [23] (by kernel_rfl) (by simp) ⟨?_, trivial⟩
 refine WL.assign (v := .bool true) e59 ?_
 refine WL.nil ⟨rfl, _, rfl, ?_⟩
 refine WA.done (by kernel_rfl) ?_
 exact Jk15 true _ _ rfl ((hs.mask []).pick []) hf } }
 {
 obtain ⟨x84, hxx84, hf⟩ := Y0s hf
 obtain ⟨x87, hxx87, hf⟩ := Y0s hf
 obtain ⟨x90, hxx90, hf⟩ := Y0s hf
 obtain ⟨x93, hxx93, hf⟩ := Y0s hf
 refine W.any (by kernel_rfl) 23 1 [true, true, true, true, true, true, true, true, true, true, true, true, true, true, true, true, true, true, true, true, true, true, true, false] rfl rfl (poAt [pv (.pointer (some ⟨g11, 0, none⟩)), pv (.bool x5.Set), pv (.bool (!x5.Set)), pv (.bool (!x5.Set)), pv (.pointer (some ⟨g10, 2, none⟩)), pv (.int .i64 x1.Tag), pv (.pointer (some ⟨g11, 1, none⟩)), pv (.int .i64 x5.Tag), pv (.int .i64 x84), pv (.pointer (some ⟨g10, 0, none⟩)), pv (.int .i64 x1.Client), pv (.pointer (some ⟨g11, 2, none⟩)), pv (.int .i64 x5.Client), pv (.int .i64 x87), pv (.pointer (some ⟨g10, 1, none⟩)), pv (.int .i64 x1.Seq), pv (.pointer (some ⟨g11, 3, none⟩)), pv (.int .i64 x5.Seq), pv (.int .i64 x90), pq (fun y : (Option Addr × Nat) => .slice y.1 ([x84, x87, x90]).length y.2) (fun v => [vl (Y0b (tInt .i64)) [x84, x87, x90] v]) (fun v => []), pv (.int .i64 x93), pv (.bool (decide (0 < x93))), pv (.bool (decide (0 < x93)))]) (Λ := [blk g11 84 cs7, blk g10 74 cs3]) hs (by kernel_rfl) (by kernel_rfl) (by kernel_rfl) ⟨⟨⟨⟨⟨⟨⟨⟨⟨⟨⟨⟨⟨⟨⟨⟨⟨⟨⟨⟨⟨⟨⟨trivial, ?_⟩, ?_⟩, ?_⟩, ?_⟩, ?_⟩, ?_⟩, ?_⟩, ?_⟩, ?_⟩, ?_⟩, ?_⟩, ?_⟩, ?_⟩, ?_⟩, ?_⟩, ?_⟩, ?_⟩, ?_⟩, ?_⟩, ?_⟩, ?_⟩, ?_⟩, ?_⟩ ?_
 {
 intro ρ w Γx Λx hs hu hp
 refine WL.fieldAddr (m := 0) (hu 3 rfl) Y61 rfl ?_
 exact WL.nil ⟨rfl, _, rfl, rfl, hs.cutG 0 0⟩ }
 {
 intro ρ w Γx Λx hs hu hp
 have e94 : ρ 5 = .pointer (some ⟨g11, 0, none⟩) := (hp 0 rfl).1
 refine WL.loadF (z := x5.Set) Y2k hs (Λx.length + 0) (Y0q rfl) (Γx.length + 1) (Y0q rfl) rfl TI4 (.inr rfl) e94 rfl (fun v16 hs => ?_)
 obtain rfl := hs.bool 0 rfl
 exact WL.nil ⟨rfl, _, rfl, rfl, hs.cutG 0 1⟩ }
 {
 intro ρ w Γx Λx hs hu hp
 have e95 : ρ 6 = .bool x5.Set := (hp 1 rfl).1
 refine WL.not e95 ?_
 exact WL.nil ⟨rfl, _, rfl, rfl, hs.cutG 0 0⟩ }
 {
 intro ρ w Γx Λx hs hu hp
 have e96 : ρ 7 = .bool (!x5.Set) := (hp 2 rfl).1
 refine WL.move (v := .bool (!x5.Set)) e96 ?_
 exact WL.nil ⟨rfl, _, rfl, rfl, hs.cutG 0 0⟩ }
 {
 intro ρ w Γx Λx hs hu hp
 have e97 : ρ 8 = .bool (!x5.Set) := (hp 3 rfl).1
 refine WL.fieldAddr (m := 2) (hu 2 rfl) Y9e rfl ?_ (hg := (Y01 rfl rfl (Y02 e97 hc17)).trans rfl)
 exact WL.nil ⟨rfl, _, rfl, rfl, hs.cutG 0 0⟩ }
 {
 intro ρ w Γx Λx hs hu hp
 have e98 : ρ 9 = .pointer (some ⟨g10, 2, none⟩) := (hp 4 rfl).1
 have e99 : ρ 8 = .bool (!x5.Set) := (hp 3 rfl).1
 refine WL.loadF (z := x1.Tag) Y50 hs (Λx.length + 1) (Y0q rfl) (Γx.length + 0) (Y0q rfl) rfl TI3 (.inr rfl) e98 rfl (fun v82 hs => ?_) (hg := (Y01 rfl rfl (Y02 e99 hc17)).trans rfl)
 obtain rfl := hs.int 0 rfl
 exact WL.nil ⟨rfl, _, rfl, rfl, hs.cutG 0 1⟩ }
 {
 intro ρ w Γx Λx hs hu hp
 have e100 : ρ 8 = .bool (!x5.Set) := (hp 3 rfl).1
 refine WL.fieldAddr (m := 1) (hu 3 rfl) FA84_1 rfl ?_ (hg := (Y01 rfl rfl (Y02 e100 hc17)).trans rfl)
 exact WL.nil ⟨rfl, _, rfl, rfl, hs.cutG 0 0⟩ }
 {
 intro ρ w Γx Λx hs hu hp
 have e101 : ρ 11 = .pointer (some ⟨g11, 1, none⟩) := (hp 6 rfl).1
 have e102 : ρ 8 = .bool (!x5.Set) := (hp 3 rfl).1
 refine WL.loadF (z := x5.Tag) Y4j hs (Λx.length + 0) (Y0q rfl) (Γx.length + 1) (Y0q rfl) rfl TI3 (.inr rfl) e101 rfl (fun v83 hs => ?_) (hg := (Y01 rfl rfl (Y02 e102 hc17)).trans rfl)
 obtain rfl := hs.int 0 rfl
 exact WL.nil ⟨rfl, _, rfl, rfl, hs.cutG 0 1⟩ }
 {
 intro ρ w Γx Λx hs hu hp
 have e103 : ρ 10 = .int .i64 x1.Tag := (hp 5 rfl).1
 have e104 : ρ 12 = .int .i64 x5.Tag := (hp 7 rfl).1
 have e105 : ρ 8 = .bool (!x5.Set) := (hp 3 rfl).1
 refine WL.call (vs := [.int .i64 x1.Tag, .int .i64 x5.Tag]) hs FN64 ⟨e103, ⟨e104, trivial⟩⟩ (fun ok hA => Y0W.calls (x1 := x1.Tag) (x2 := x5.Tag) hxx84) ?_ (hg := (Y01 rfl rfl (Y02 e105 hc17)).trans rfl)
 rintro _ w hs
 exact WL.nil ⟨rfl, _, rfl, rfl, hs.cutG 0 0⟩ }
 {
 intro ρ w Γx Λx hs hu hp
 have e106 : ρ 8 = .bool (!x5.Set) := (hp 3 rfl).1
 refine WL.fieldAddr (m := 0) (hu 2 rfl) FA74_0 rfl ?_ (hg := (Y01 rfl rfl (Y02 e106 hc17)).trans rfl)
 exact WL.nil ⟨rfl, _, rfl, rfl, hs.cutG 0 0⟩ }
 {
 intro ρ w Γx Λx hs hu hp
 have e107 : ρ 14 = .pointer (some ⟨g10, 0, none⟩) := (hp 9 rfl).1
 have e108 : ρ 8 = .bool (!x5.Set) := (hp 3 rfl).1
 refine WL.loadF (z := x1.Client) Y4l hs (Λx.length + 1) (Y0q rfl) (Γx.length + 0) (Y0q rfl) rfl TI3 (.inr rfl) e107 rfl (fun v85 hs => ?_) (hg := (Y01 rfl rfl (Y02 e108 hc17)).trans rfl)
 obtain rfl := hs.int 0 rfl
 exact WL.nil ⟨rfl, _, rfl, rfl, hs.cutG 0 1⟩ }
 {
 intro ρ w Γx Λx hs hu hp
 have e109 : ρ 8 = .bool (!x5.Set) := (hp 3 rfl).1
 refine WL.fieldAddr (m := 2) (hu 3 rfl) FA84_2 rfl ?_ (hg := (Y01 rfl rfl (Y02 e109 hc17)).trans rfl)
 exact WL.nil ⟨rfl, _, rfl, rfl, hs.cutG 0 0⟩ }
 {
 intro ρ w Γx Λx hs hu hp
 have e110 : ρ 16 = .pointer (some ⟨g11, 2, none⟩) := (hp 11 rfl).1
 have e111 : ρ 8 = .bool (!x5.Set) := (hp 3 rfl).1
 refine WL.loadF (z := x5.Client) Y3M hs (Λx.length + 0) (Y0q rfl) (Γx.length + 1) (Y0q rfl) rfl TI3 (.inr rfl) e110 rfl (fun v86 hs => ?_) (hg := (Y01 rfl rfl (Y02 e111 hc17)).trans rfl)
 obtain rfl := hs.int 0 rfl
 exact WL.nil ⟨rfl, _, rfl, rfl, hs.cutG 0 1⟩ }
 {
 intro ρ w Γx Λx hs hu hp
 have e112 : ρ 15 = .int .i64 x1.Client := (hp 10 rfl).1
 have e113 : ρ 17 = .int .i64 x5.Client := (hp 12 rfl).1
 have e114 : ρ 8 = .bool (!x5.Set) := (hp 3 rfl).1
 refine WL.call (vs := [.int .i64 x1.Client, .int .i64 x5.Client]) hs FN64 ⟨e112, ⟨e113, trivial⟩⟩ (fun ok hA => Y0W.calls (x1 := x1.Client) (x2 := x5.Client) hxx87) ?_ (hg := (Y01 rfl rfl (Y02 e114 hc17)).trans rfl)
 rintro _ w hs
 exact WL.nil ⟨rfl, _, rfl, rfl, hs.cutG 0 0⟩ }
 {
 intro ρ w Γx Λx hs hu hp
 have e115 : ρ 8 = .bool (!x5.Set) := (hp 3 rfl).1
 refine WL.fieldAddr (m := 1) (hu 2 rfl) FA74_1 rfl ?_ (hg := (Y01 rfl rfl (Y02 e115 hc17)).trans rfl)
 exact WL.nil ⟨rfl, _, rfl, rfl, hs.cutG 0 0⟩ }
 {
 intro ρ w Γx Λx hs hu hp
 have e116 : ρ 19 = .pointer (some ⟨g10, 1, none⟩) := (hp 14 rfl).1
 have e117 : ρ 8 = .bool (!x5.Set) := (hp 3 rfl).1
 refine WL.loadF (z := x1.Seq) Y51 hs (Λx.length + 1) (Y0q rfl) (Γx.length + 0) (Y0q rfl) rfl TI3 (.inr rfl) e116 rfl (fun v88 hs => ?_) (hg := (Y01 rfl rfl (Y02 e117 hc17)).trans rfl)
 obtain rfl := hs.int 0 rfl
 exact WL.nil ⟨rfl, _, rfl, rfl, hs.cutG 0 1⟩ }
 {
 intro ρ w Γx Λx hs hu hp
 have e118 : ρ 8 = .bool (!x5.Set) := (hp 3 rfl).1
 refine WL.fieldAddr (m := 3) (hu 3 rfl) FA84_3 rfl ?_ (hg := (Y01 rfl rfl (Y02 e118 hc17)).trans rfl)
 exact WL.nil ⟨rfl, _, rfl, rfl, hs.cutG 0 0⟩ }
 {
 intro ρ w Γx Λx hs hu hp
 have e119 : ρ 21 = .pointer (some ⟨g11, 3, none⟩) := (hp 16 rfl).1
 have e120 : ρ 8 = .bool (!x5.Set) := (hp 3 rfl).1
 refine WL.loadF (z := x5.Seq) Y4k hs (Λx.length + 0) (Y0q rfl) (Γx.length + 1) (Y0q rfl) rfl TI3 (.inr rfl) e119 rfl (fun v89 hs => ?_) (hg := (Y01 rfl rfl (Y02 e120 hc17)).trans rfl)
 obtain rfl := hs.int 0 rfl
 exact WL.nil ⟨rfl, _, rfl, rfl, hs.cutG 0 1⟩ }
 {
 intro ρ w Γx Λx hs hu hp
 have e121 : ρ 20 = .int .i64 x1.Seq := (hp 15 rfl).1
 have e122 : ρ 22 = .int .i64 x5.Seq := (hp 17 rfl).1
 have e123 : ρ 8 = .bool (!x5.Set) := (hp 3 rfl).1
 refine WL.call (vs := [.int .i64 x1.Seq, .int .i64 x5.Seq]) hs FN64 ⟨e121, ⟨e122, trivial⟩⟩ (fun ok hA => Y0W.calls (x1 := x1.Seq) (x2 := x5.Seq) hxx90) ?_ (hg := (Y01 rfl rfl (Y02 e123 hc17)).trans rfl)
 rintro _ w hs
 exact WL.nil ⟨rfl, _, rfl, rfl, hs.cutG 0 0⟩ }
 {
 intro ρ w Γx Λx hs hu hp
 have e124 : ρ 13 = .int .i64 x84 := (hp 8 rfl).1
 have e125 : ρ 18 = .int .i64 x87 := (hp 13 rfl).1
 have e126 : ρ 23 = .int .i64 x90 := (hp 18 rfl).1
 have e127 : ρ 8 = .bool (!x5.Set) := (hp 3 rfl).1
 refine WL.buildSliceB (ys := [x84, x87, x90]) (n := 3) (vs := [(0, .int .i64 x84), (1, .int .i64 x87), (2, .int .i64 x90)]) (cs := [.int .i64 x84, .int .i64 x87, .int .i64 x90]) hs ⟨⟨rfl, e124⟩, ⟨⟨rfl, e125⟩, ⟨⟨rfl, e126⟩, trivial⟩⟩⟩ (bls PS22 (by decide) rfl) (fun ok hA => (Y0U.app (Y0U.one (T := tInt .i64) rfl) (Y0U.app (Y0U.one (T := tInt .i64) rfl) (Y0U.one (T := tInt .i64) rfl)))) rfl (by decide) (fun a92 w hBl hs => ?_) (hg := (Y01 rfl rfl (Y02 e127 hc17)).trans rfl)
 have hs := hs.add (it := vl (Y0b (tInt .i64)) [x84, x87, x90] (.slice a92 ([x84, x87, x90]).length 3)) fun ok hA => hA.get 0 rfl
 exact WL.nil ⟨rfl, _, rfl, ⟨(a92, 3), rfl⟩, hs.cutG 1 1⟩ }
 {
 intro ρ w Γx Λx hs hu hp
 obtain ⟨⟨⟨a128, c129⟩, e130r⟩, hm131⟩ := hp 19 rfl
 have e130 : ρ 24 = .slice a128 ([x84, x87, x90]).length c129 := e130r
 rw [e130r] at hm131
 have hs := hs.memo1 (it := vl (Y0b (tInt .i64)) [x84, x87, x90] (.slice a128 ([x84, x87, x90]).length c129)) (List.mem_append.2 (.inl (hm131 _ (List.mem_of_getElem? (i := 0) rfl))))
 have e132 : ρ 8 = .bool (!x5.Set) := (hp 3 rfl).1
 refine WL.call (vs := [.slice a128 ([x84, x87, x90]).length c129]) hs FN63 ⟨e130, trivial⟩ (fun ok hA => Y0S.calls (x1 := [x84, x87, x90]) hxx93 (hA.get 0 rfl)) ?_ (hg := (Y01 rfl rfl (Y02 e132 hc17)).trans rfl)
 rintro _ w hs
 exact WL.nil ⟨rfl, _, rfl, rfl, hs.cutG 0 1⟩ }
 {
 intro ρ w Γx Λx hs hu hp
 have e133 : ρ 25 = .int .i64 x93 := (hp 20 rfl).1
 have e134 : ρ 8 = .bool (!x5.Set) := (hp 3 rfl).1
 refine WL.bin (v := .bool (decide (0 < x93))) e133 rfl (Y5X _ _ _) ?_ (hg := (Y01 rfl rfl (Y02 e134 hc17)).trans rfl)
 exact WL.nil ⟨rfl, _, rfl, rfl, hs.cutG 0 0⟩ }
 {
 intro ρ w Γx Λx hs hu hp
 have e135 : ρ 8 = .bool (!x5.Set) := (hp 3 rfl).1
 have e136 : ρ 26 = .bool (decide (0 < x93)) := (hp 21 rfl).1
 refine WL.pickF (v := .bool (decide (0 < x93))) (Y02 e135 hc17) e136 ?_
 exact WL.nil ⟨rfl, _, rfl, rfl, hs.cutG 0 0⟩ }
 {
 intro ρ w hs hu137 hp
 obtain ⟨⟨⟨⟨⟨⟨⟨⟨⟨⟨⟨⟨⟨⟨⟨⟨⟨⟨⟨⟨⟨⟨⟨_, hp0_⟩, hp1_⟩, hp2_⟩, hp3_⟩, hp4_⟩, hp5_⟩, hp6_⟩, hp7_⟩, hp8_⟩, hp9_⟩, hp10_⟩, hp11_⟩, hp12_⟩, hp13_⟩, hp14_⟩, hp15_⟩, hp16_⟩, hp17_⟩, hp18_⟩, hp19_⟩, hp20_⟩, hp21_⟩, hp22_⟩ := hp
 have hs : St ok (bz w0) w [vl (Y0b (tInt .i64)) [x84, x87, x90] (ρ 24), vl Y0r x1 (.agg cs3.toArray), vl Y1c x5 (.agg cs7.toArray)] [blk g11 84 cs7, blk g10 74 cs3] := hs
 have e138 : ρ 27 = .bool (decide (0 < x93)) := hp22_
 have e139 : ρ 26 = .bool (decide (0 < x93)) := hp21_
 have e140 : ρ 25 = .int .i64 x93 := hp20_
 obtain ⟨⟨a141, c142⟩, e143⟩ := hp19_
 have e143 : ρ 24 = .slice a141 ([x84, x87, x90]).length c142 := e143
 try rw [e143] at hs
 have e144 : ρ 23 = .int .i64 x90 := hp18_
 have e145 : ρ 22 = .int .i64 x5.Seq := hp17_
 have e146 : ρ 21 = .pointer (some ⟨g11, 3, none⟩) := hp16_
 have e147 : ρ 20 = .int .i64 x1.Seq := hp15_
 have e148 : ρ 19 = .pointer (some ⟨g10, 1, none⟩) := hp14_
 have e149 : ρ 18 = .int .i64 x87 := hp13_
 have e150 : ρ 17 = .int .i64 x5.Client := hp12_
 have e151 : ρ 16 = .pointer (some ⟨g11, 2, none⟩) := hp11_
 have e152 : ρ 15 = .int .i64 x1.Client := hp10_
 have e153 : ρ 14 = .pointer (some ⟨g10, 0, none⟩) := hp9_
 have e154 : ρ 13 = .int .i64 x84 := hp8_
 have e155 : ρ 12 = .int .i64 x5.Tag := hp7_
 have e156 : ρ 11 = .pointer (some ⟨g11, 1, none⟩) := hp6_
 have e157 : ρ 10 = .int .i64 x1.Tag := hp5_
 have e158 : ρ 9 = .pointer (some ⟨g10, 2, none⟩) := hp4_
 have e159 : ρ 8 = .bool (!x5.Set) := hp3_
 have e160 : ρ 7 = .bool (!x5.Set) := hp2_
 have e161 : ρ 6 = .bool x5.Set := hp1_
 have e162 : ρ 5 = .pointer (some ⟨g11, 0, none⟩) := hp0_
 refine WA.step [23] (by kernel_rfl) (by simp) ⟨?_, trivial⟩
 refine WL.assign (v := .bool (decide (0 < x93))) e138 ?_
 refine WL.nil ⟨rfl, _, rfl, ?_⟩
 refine WA.done (by kernel_rfl) ?_
 exact Jk15 (decide (0 < x93)) _ _ rfl ((hs.mask []).pick []) hf } }
theorem Y1k.calls {ok : Nat → Prop} {w0 : World} {x1 : List (List UInt8)} {a2 : Option Addr} {c3 : Nat} {r : List (List UInt8)} (hf : Y1k x1 = some r) (i0 : (vl (Y0b tStr) x1 (.slice a2 x1.length c3)).holds ok w0) :
  Calls Tryz.prog 60 #[.slice a2 x1.length c3] w0 fun e w' => ∃ v, e = .returned v ∧ ∃ y : (Option Addr × Nat × Nat), v = .slice y.1 y.2.1 y.2.2 ∧ St ok (bz w0) w' [] [own tStr 9 (.slice y.1 y.2.1 y.2.2) r] := by
 unfold Y1k at hf
 refine Y0t (fn := Tryz.f60) (N := 8) Tryz.func60 rfl Tryz.ntmps60 rfl ?_
 have hs : St ok (bz w0) w0 [vl (Y0b tStr) x1 (.slice a2 x1.length c3)] [] := St.init (All.cons i0 All.nil)
 clear i0
 refine W.seqK fun K4 hK4 => ?_
 refine W.region ?_
 refine WL.assign (v := .slice none 0 0) rfl ?_
 refine WL.nil ?_
 refine hK4 _ _ ?_
 refine W.seqK fun K5 hK5 => ?_
 refine W.seqK fun K6 hK6 => ?_
 refine W.region ?_
 refine WL.move (v := .slice a2 x1.length c3) rfl ?_
 refine WL.nilEq UN56 rfl ?_
 rcases a2 with _ | ad7
 {
 obtain rfl := hs.nilx 0 rfl
 have hf : some [] = some r := by simpa [app, idx, cut] using hf
 refine WL.nil ?_
 refine hK6 _ _ ?_
 refine W.cond_true rfl ?_
 refine W.seqK fun K8 hK8 => ?_
 refine W.region ?_
 refine WL.assign (v := .slice none 0 0) rfl ?_
 refine WL.nil ?_
 refine hK8 _ _ ?_
 refine W.ret ?_
 have hr := Option.some.inj hf; subst hr
 have hs := hs.ownNil tStr 9
 exact ⟨_, Y0e rfl rfl, (none, 0, 0), rfl, (hs.mask [true]).pick []⟩ }
 {
 refine WL.nil ?_
 refine hK6 _ _ ?_
 refine W.cond_false rfl ?_
 refine W.skip ?_
 refine hK5 _ _ ?_
 refine W.seqK fun K9 hK9 => ?_
 refine W.region ?_
 refine WL.buildSlice0 hs UN56 TI9 (fun a10 w hs => ?_)
 refine WL.move (v := .slice (some ad7) x1.length c3) rfl ?_
 have hs := hs.ownEmpty tStr 9 a10
 obtain ⟨x11, hxx11, hf⟩ := Y0s hf
 obtain ⟨hbx11, hex11⟩ := appE hxx11
 refine WL.appendS (zs := x11) hs 0 rfl 0 rfl UN56 UN56 EI9 rfl rfl hbx11 (by omega) hex11 (fun v12 w hs => ?_)
 obtain ⟨a13, n15, c14, rfl⟩ := hs.ownv3 0 rfl
 refine WL.assign (v := .slice a13 n15 c14) rfl ?_
 refine WL.nil ?_
 refine hK9 _ _ ?_
 refine W.ret ?_
 have hr := Option.some.inj hf; subst hr
 exact ⟨_, Y0e rfl rfl, (a13, n15, c14), rfl, (hs.mask [true]).pick []⟩ }
theorem Y1d.calls {ok : Nat → Prop} {w0 : World} {x1 : Int}  {r : Bool} (hf : Y1d x1 = some r)  :
  Calls Tryz.prog 92 #[.int .i64 x1] w0 fun e w' => ∃ v, e = .returned v ∧ ∃ y : Unit, v = .bool r ∧ St ok (bz w0) w' [] [] := by
 unfold Y1d at hf
 refine Y0t (fn := Tryz.f92) (N := 6) Tryz.func92 rfl Tryz.ntmps92 rfl ?_
 have hs : St ok (bz w0) w0 [] [] := St.init All.nil
 refine W.seqK fun K2 hK2 => ?_
 refine W.region ?_
 refine WL.assign (v := .bool false) rfl ?_
 refine WL.nil ?_
 refine hK2 _ _ ?_
 refine W.seqK fun K3 hK3 => ?_
 refine W.region ?_
 refine WL.move (v := .int .i64 x1) rfl ?_
 refine WL.move (v := .int .i64 x1) rfl ?_
 refine WL.bin (v := .bool (x1 != x1)) rfl rfl (Y48 _ _ _) ?_
 refine WL.assign (v := .bool (x1 != x1)) rfl ?_
 refine WL.nil ?_
 refine hK3 _ _ ?_
 refine W.ret ?_
 have hr := Option.some.inj hf; subst hr
 exact ⟨_, Y0e rfl rfl, (), rfl, (hs.mask []).pick []⟩
theorem Y1e.calls {ok : Nat → Prop} {w0 : World} {x1 : Int} {x2 : Int}  {r : Int} (hf : Y1e x1 x2 = some r)  :
  Calls Tryz.prog 65 #[.int .i64 x1, .int .i64 x2] w0 fun e w' => ∃ v, e = .returned v ∧ ∃ y : Unit, v = .int .i64 r ∧ St ok (bz w0) w' [] [] := by
 unfold Y1e at hf
 refine Y0t (fn := Tryz.f65) (N := 20) Tryz.func65 rfl Tryz.ntmps65 rfl ?_
 have hs : St ok (bz w0) w0 [] [] := St.init All.nil
 refine W.seqK fun K3 hK3 => ?_
 refine W.region ?_
 refine WL.assign (v := .int .i64 0) rfl ?_
 refine WL.nil ?_
 refine hK3 _ _ ?_
 refine W.seqK fun K4 hK4 => ?_
 refine W.region ?_
 refine WL.move (v := .int .i64 x1) rfl ?_
 obtain ⟨x5, hxx5, hf⟩ := Y0s hf
 refine WL.call (vs := [.int .i64 x1]) hs FN92 ⟨rfl, trivial⟩ (fun ok hA => Y1d.calls (x1 := x1) hxx5) ?_
 rintro _ w hs
 refine WL.assign (v := .bool x5) rfl ?_
 refine WL.nil ?_
 refine hK4 _ _ ?_
 refine W.seqK fun K6 hK6 => ?_
 refine W.region ?_
 refine WL.move (v := .int .i64 x2) rfl ?_
 obtain ⟨x7, hxx7, hf⟩ := Y0s hf
 refine WL.call (vs := [.int .i64 x2]) hs FN92 ⟨rfl, trivial⟩ (fun ok hA => Y1d.calls (x1 := x2) hxx7) ?_
 rintro _ w hs
 refine WL.assign (v := .bool x7) rfl ?_
 refine WL.nil ?_
 refine hK6 _ _ ?_
 refine W.seqK fun K8 hK8 => ?_
 refine W.seqK fun K9 hK9 => ?_
 refine W.region ?_
 refine WL.move (v := .bool x5) rfl ?_
 refine WL.nil ?_
 refine hK9 _ _ ?_
 rcases iteE hf with ⟨hc10, hf⟩ | ⟨hc10, hf⟩
 {
 refine W.cond_true (Y02 rfl hc10) ?_
 refine W.seqK fun K11 hK11 => ?_
 refine W.seqK fun K12 hK12 => ?_
 refine W.region ?_
 refine WL.move (v := .bool x7) rfl ?_
 refine WL.nil ?_
 refine hK12 _ _ ?_
 rcases iteE hf with ⟨hc13, hf⟩ | ⟨hc13, hf⟩
 {
 refine W.cond_true (Y02 rfl hc13) ?_
 refine W.seqK fun K14 hK14 => ?_
 refine W.region ?_
 refine WL.assign (v := .int .i64 0) rfl ?_
 refine WL.nil ?_
 refine hK14 _ _ ?_
 refine W.ret ?_
 have hr := Option.some.inj hf; subst hr
 exact ⟨_, Y0e rfl rfl, (), rfl, (hs.mask []).pick []⟩ }
 {
 refine W.cond_false (Y02 rfl hc13) ?_
 refine W.skip ?_
 refine hK11 _ _ ?_
 refine W.seqK fun K15 hK15 => ?_
 refine W.region ?_
 refine WL.assign (v := .int .i64 (-1)) rfl ?_
 refine WL.nil ?_
 refine hK15 _ _ ?_
 refine W.ret ?_
 have hr := Option.some.inj hf; subst hr
 exact ⟨_, Y0e rfl rfl, (), rfl, (hs.mask []).pick []⟩ } }
 {
 refine W.cond_false (Y02 rfl hc10) ?_
 refine W.skip ?_
 refine hK8 _ _ ?_
 refine W.seqK fun K16 hK16 => ?_
 refine W.seqK fun K17 hK17 => ?_
 refine W.region ?_
 refine WL.move (v := .bool x7) rfl ?_
 refine WL.nil ?_
 refine hK17 _ _ ?_
 rcases iteE hf with ⟨hc18, hf⟩ | ⟨hc18, hf⟩
 {
 refine W.cond_true (Y02 rfl hc18) ?_
 refine W.seqK fun K19 hK19 => ?_
 refine W.region ?_
 refine WL.assign (v := .int .i64 1) rfl ?_
 refine WL.nil ?_
 refine hK19 _ _ ?_
 refine W.ret ?_
 have hr := Option.some.inj hf; subst hr
 exact ⟨_, Y0e rfl rfl, (), rfl, (hs.mask []).pick []⟩ }
 {
 refine W.cond_false (Y02 rfl hc18) ?_
 refine W.skip ?_
 refine hK16 _ _ ?_
 refine W.seqK fun K20 hK20 => ?_
 refine W.seqK fun K21 hK21 => ?_
 refine W.region ?_
 refine WL.move (v := .int .i64 x1) rfl ?_
 refine WL.move (v := .int .i64 x2) rfl ?_
 refine WL.bin (v := .bool (decide (x1 < x2))) rfl rfl (Y1n _ _ _) ?_
 refine WL.nil ?_
 refine hK21 _ _ ?_
 rcases iteE hf with ⟨hc22, hf⟩ | ⟨hc22, hf⟩
 {
 refine W.cond_true (Y02 rfl hc22) ?_
 refine W.seqK fun K23 hK23 => ?_
 refine W.region ?_
 refine WL.assign (v := .int .i64 (-1)) rfl ?_
 refine WL.nil ?_
 refine hK23 _ _ ?_
 refine W.ret ?_
 have hr := Option.some.inj hf; subst hr
 exact ⟨_, Y0e rfl rfl, (), rfl, (hs.mask []).pick []⟩ }
 {
 refine W.cond_false (Y02 rfl hc22) ?_
 refine W.skip ?_
 refine hK20 _ _ ?_
 refine W.seqK fun K24 hK24 => ?_
 refine W.seqK fun K25 hK25 => ?_
 refine W.region ?_
 refine WL.move (v := .int .i64 x1) rfl ?_
 refine WL.move (v := .int .i64 x2) rfl ?_
 refine WL.bin (v := .bool (decide (x2 < x1))) rfl rfl (Y5X _ _ _) ?_
 refine WL.nil ?_
 refine hK25 _ _ ?_
 rcases iteE hf with ⟨hc26, hf⟩ | ⟨hc26, hf⟩
 {
 refine W.cond_true (Y02 rfl hc26) ?_
 refine W.seqK fun K27 hK27 => ?_
 refine W.region ?_
 refine WL.assign (v := .int .i64 1) rfl ?_
 refine WL.nil ?_
 refine hK27 _ _ ?_
 refine W.ret ?_
 have hr := Option.some.inj hf; subst hr
 exact ⟨_, Y0e rfl rfl, (), rfl, (hs.mask []).pick []⟩ }
 {
 refine W.cond_false (Y02 rfl hc26) ?_
 refine W.skip ?_
 refine hK24 _ _ ?_
 refine W.seqK fun K28 hK28 => ?_
 refine W.region ?_
 refine WL.assign (v := .int .i64 0) rfl ?_
 refine WL.nil ?_
 refine hK28 _ _ ?_
 refine W.ret ?_
 have hr := Option.some.inj hf; subst hr
 exact ⟨_, Y0e rfl rfl, (), rfl, (hs.mask []).pick []⟩ } } } }
theorem Y16.calls {ok : Nat → Prop} {w0 : World} {x1 : List UInt8}  {r : Bool} (hf : Y16 x1 = some r)  :
  Calls Tryz.prog 93 #[bstr x1] w0 fun e w' => ∃ v, e = .returned v ∧ ∃ y : Unit, v = .bool r ∧ St ok (bz w0) w' [] [] := by
 unfold Y16 at hf
 refine Y0t (fn := Tryz.f93) (N := 6) Tryz.func93 rfl Tryz.ntmps93 rfl ?_
 have hs : St ok (bz w0) w0 [] [] := St.init All.nil
 refine W.seqK fun K2 hK2 => ?_
 refine W.region ?_
 refine WL.assign (v := .bool false) rfl ?_
 refine WL.nil ?_
 refine hK2 _ _ ?_
 refine W.seqK fun K3 hK3 => ?_
 refine W.region ?_
 refine WL.move (v := bstr x1) rfl ?_
 refine WL.move (v := bstr x1) rfl ?_
 refine WL.binS (v := .bool (x1 != x1)) rfl rfl (Y6t _ _) ?_
 refine WL.assign (v := .bool (x1 != x1)) rfl ?_
 refine WL.nil ?_
 refine hK3 _ _ ?_
 refine W.ret ?_
 have hr := Option.some.inj hf; subst hr
 exact ⟨_, Y0e rfl rfl, (), rfl, (hs.mask []).pick []⟩
theorem Y17.calls {ok : Nat → Prop} {w0 : World} {x1 : List UInt8} {x2 : List UInt8}  {r : Int} (hf : Y17 x1 x2 = some r)  :
  Calls Tryz.prog 66 #[bstr x1, bstr x2] w0 fun e w' => ∃ v, e = .returned v ∧ ∃ y : Unit, v = .int .i64 r ∧ St ok (bz w0) w' [] [] := by
 unfold Y17 at hf
 refine Y0t (fn := Tryz.f66) (N := 20) Tryz.func66 rfl Tryz.ntmps66 rfl ?_
 have hs : St ok (bz w0) w0 [] [] := St.init All.nil
 refine W.seqK fun K3 hK3 => ?_
 refine W.region ?_
 refine WL.assign (v := .int .i64 0) rfl ?_
 refine WL.nil ?_
 refine hK3 _ _ ?_
 refine W.seqK fun K4 hK4 => ?_
 refine W.region ?_
 refine WL.move (v := bstr x1) rfl ?_
 obtain ⟨x5, hxx5, hf⟩ := Y0s hf
 refine WL.call (vs := [bstr x1]) hs FN93 ⟨rfl, trivial⟩ (fun ok hA => Y16.calls (x1 := x1) hxx5) ?_
 rintro _ w hs
 refine WL.assign (v := .bool x5) rfl ?_
 refine WL.nil ?_
 refine hK4 _ _ ?_
 refine W.seqK fun K6 hK6 => ?_
 refine W.region ?_
 refine WL.move (v := bstr x2) rfl ?_
 obtain ⟨x7, hxx7, hf⟩ := Y0s hf
 refine WL.call (vs := [bstr x2]) hs FN93 ⟨rfl, trivial⟩ (fun ok hA => Y16.calls (x1 := x2) hxx7) ?_
 rintro _ w hs
 refine WL.assign (v := .bool x7) rfl ?_
 refine WL.nil ?_
 refine hK6 _ _ ?_
 refine W.seqK fun K8 hK8 => ?_
 refine W.seqK fun K9 hK9 => ?_
 refine W.region ?_
 refine WL.move (v := .bool x5) rfl ?_
 refine WL.nil ?_
 refine hK9 _ _ ?_
 rcases iteE hf with ⟨hc10, hf⟩ | ⟨hc10, hf⟩
 {
 refine W.cond_true (Y02 rfl hc10) ?_
 refine W.seqK fun K11 hK11 => ?_
 refine W.seqK fun K12 hK12 => ?_
 refine W.region ?_
 refine WL.move (v := .bool x7) rfl ?_
 refine WL.nil ?_
 refine hK12 _ _ ?_
 rcases iteE hf with ⟨hc13, hf⟩ | ⟨hc13, hf⟩
 {
 refine W.cond_true (Y02 rfl hc13) ?_
 refine W.seqK fun K14 hK14 => ?_
 refine W.region ?_
 refine WL.assign (v := .int .i64 0) rfl ?_
 refine WL.nil ?_
 refine hK14 _ _ ?_
 refine W.ret ?_
 have hr := Option.some.inj hf; subst hr
 exact ⟨_, Y0e rfl rfl, (), rfl, (hs.mask []).pick []⟩ }
 {
 refine W.cond_false (Y02 rfl hc13) ?_
 refine W.skip ?_
 refine hK11 _ _ ?_
 refine W.seqK fun K15 hK15 => ?_
 refine W.region ?_
 refine WL.assign (v := .int .i64 (-1)) rfl ?_
 refine WL.nil ?_
 refine hK15 _ _ ?_
 refine W.ret ?_
 have hr := Option.some.inj hf; subst hr
 exact ⟨_, Y0e rfl rfl, (), rfl, (hs.mask []).pick []⟩ } }
 {
 refine W.cond_false (Y02 rfl hc10) ?_
 refine W.skip ?_
 refine hK8 _ _ ?_
 refine W.seqK fun K16 hK16 => ?_
 refine W.seqK fun K17 hK17 => ?_
 refine W.region ?_
 refine WL.move (v := .bool x7) rfl ?_
 refine WL.nil ?_
 refine hK17 _ _ ?_
 rcases iteE hf with ⟨hc18, hf⟩ | ⟨hc18, hf⟩
 {
 refine W.cond_true (Y02 rfl hc18) ?_
 refine W.seqK fun K19 hK19 => ?_
 refine W.region ?_
 refine WL.assign (v := .int .i64 1) rfl ?_
 refine WL.nil ?_
 refine hK19 _ _ ?_
 refine W.ret ?_
 have hr := Option.some.inj hf; subst hr
 exact ⟨_, Y0e rfl rfl, (), rfl, (hs.mask []).pick []⟩ }
 {
 refine W.cond_false (Y02 rfl hc18) ?_
 refine W.skip ?_
 refine hK16 _ _ ?_
 refine W.seqK fun K20 hK20 => ?_
 refine W.seqK fun K21 hK21 => ?_
 refine W.region ?_
 refine WL.move (v := bstr x1) rfl ?_
 refine WL.move (v := bstr x2) rfl ?_
 refine WL.binS (v := .bool (Op.bytesLess x1 x2)) rfl rfl (Y8z _ _) ?_
 refine WL.nil ?_
 refine hK21 _ _ ?_
 rcases iteE hf with ⟨hc22, hf⟩ | ⟨hc22, hf⟩
 {
 refine W.cond_true (Y02 rfl hc22) ?_
 refine W.seqK fun K23 hK23 => ?_
 refine W.region ?_
 refine WL.assign (v := .int .i64 (-1)) rfl ?_
 refine WL.nil ?_
 refine hK23 _ _ ?_
 refine W.ret ?_
 have hr := Option.some.inj hf; subst hr
 exact ⟨_, Y0e rfl rfl, (), rfl, (hs.mask []).pick []⟩ }
 {
 refine W.cond_false (Y02 rfl hc22) ?_
 refine W.skip ?_
 refine hK20 _ _ ?_
 refine W.seqK fun K24 hK24 => ?_
 refine W.seqK fun K25 hK25 => ?_
 refine W.region ?_
 refine WL.move (v := bstr x1) rfl ?_
 refine WL.move (v := bstr x2) rfl ?_
 refine WL.binS (v := .bool (!(Op.bytesLess x1 x2 || x1 == x2))) rfl rfl (sb_gtr _ _) ?_
 refine WL.nil ?_
 refine hK25 _ _ ?_
 rcases iteE hf with ⟨hc26, hf⟩ | ⟨hc26, hf⟩
 {
 refine W.cond_true (Y02 rfl hc26) ?_
 refine W.seqK fun K27 hK27 => ?_
 refine W.region ?_
 refine WL.assign (v := .int .i64 1) rfl ?_
 refine WL.nil ?_
 refine hK27 _ _ ?_
 refine W.ret ?_
 have hr := Option.some.inj hf; subst hr
 exact ⟨_, Y0e rfl rfl, (), rfl, (hs.mask []).pick []⟩ }
 {
 refine W.cond_false (Y02 rfl hc26) ?_
 refine W.skip ?_
 refine hK24 _ _ ?_
 refine W.seqK fun K28 hK28 => ?_
 refine W.region ?_
 refine WL.assign (v := .int .i64 0) rfl ?_
 refine WL.nil ?_
 refine hK28 _ _ ?_
 refine W.ret ?_
 have hr := Option.some.inj hf; subst hr
 exact ⟨_, Y0e rfl rfl, (), rfl, (hs.mask []).pick []⟩ } } } }
theorem Y0j.calls {ok : Nat → Prop} {w0 : World} {F : Base} {x1 : List (List UInt8)} {a2 : Option Addr} {n3 c4 : Nat} {r : List (List UInt8)} (hf : Y0j x1 = some r) (hs : St ok F w0 [] [own tStr 9 (.slice a2 n3 c4) x1]) :
  Calls Tryz.prog 68 #[.slice a2 n3 c4] w0 fun e w' => ∃ v, e = .returned v ∧ ∃ y : (Option Addr × Nat × Nat), v = .slice y.1 y.2.1 y.2.2 ∧ St ok F w' [] [own tStr 9 (.slice y.1 y.2.1 y.2.2) r] := by
 unfold Y0j at hf
 refine Y0t (fn := Tryz.f68) (N := 61) Tryz.func68 rfl Tryz.ntmps68 rfl ?_
 refine W.seqK fun K5 hK5 => ?_
 refine W.region ?_
 refine WL.assign (v := .slice none 0 0) rfl ?_
 refine WL.nil ?_
 refine hK5 _ _ ?_
 refine W.seqK fun K6 hK6 => ?_
 refine W.seqK fun K7 hK7 => ?_
 refine W.region ?_
 refine WL.move (v := .slice a2 n3 c4) rfl ?_
 refine WL.len (v := .slice a2 n3 c4) rfl (Y2M hs 0 rfl UN56) ?_
 refine WL.bin (v := .bool (decide ((x1.length : Int) < 2))) rfl rfl (Y1n _ _ _) ?_
 refine WL.nil ?_
 refine hK7 _ _ ?_
 rcases iteE hf with ⟨hc8, hf⟩ | ⟨hc8, hf⟩
 {
 refine W.cond_true (Y02 rfl hc8) ?_
 refine W.seqK fun K9 hK9 => ?_
 refine W.region ?_
 refine WL.move (v := .slice a2 n3 c4) rfl ?_
 refine WL.assign (v := .slice a2 n3 c4) rfl ?_
 refine WL.nil ?_
 refine hK9 _ _ ?_
 refine W.ret ?_
 have hr := Option.some.inj hf; subst hr
 exact ⟨_, Y0e rfl rfl, (a2, n3, c4), rfl, (hs.mask [true]).pick []⟩ }
 {
 refine W.cond_false (Y02 rfl hc8) ?_
 refine W.skip ?_
 refine hK6 _ _ ?_
 refine W.seqK fun K10 hK10 => ?_
 have Jk13 : ∀ (x11 : List (List UInt8)) (ρ : Env) (w : World), ρ 0 = .slice a2 n3 c4 → St ok F w [] [own tStr 9 (.slice a2 n3 c4) x11] → Y0j.j1 x11 = some r → K10 ρ w := by
  intro x11 ρ w h12_0 hs hf
  refine hK10 _ _ ?_
  unfold Y0j.j1 at hf
  refine W.seqK fun K14 hK14 => ?_
  refine W.region ?_
  refine WL.move (v := .slice a2 n3 c4) h12_0 ?_
  refine WL.assign (v := .slice a2 n3 c4) rfl ?_
  refine WL.nil ?_
  refine hK14 _ _ ?_
  refine W.ret ?_
  have hr := Option.some.inj hf; subst hr
  exact ⟨_, Y0e rfl rfl, (a2, n3, c4), rfl, (hs.mask [true]).pick []⟩
 refine W.seqK fun K15 hK15 => ?_
 refine W.region ?_
 refine WL.assign (v := .int .i64 1) rfl ?_
 refine WL.nil ?_
 refine hK15 _ _ ?_
 refine W.block ?_
 obtain ⟨bs19, hbs19, hfs19⟩ := Y0s hf
 refine W.loop hbs19 (fun s ρ w => match s with | (x16, x18) => ρ 0 = .slice a2 n3 c4 ∧ ρ 3 = .int .i64 x18 ∧ St ok F w [] [own tStr 9 (.slice a2 n3 c4) x16]) ⟨rfl, rfl, (hs.mask [true]).pick []⟩ ?_
 intro s ρ w os19 hI hf hbbs19
 obtain ⟨x16, x18⟩ := s
 obtain ⟨h17_0, h17_3, hs⟩ := hI
 unfold Y0j.l2 at hf
 refine W.seqK fun K20 hK20 => ?_
 refine W.seqK fun K21 hK21 => ?_
 refine W.region ?_
 refine WL.move (v := .int .i64 x18) h17_3 ?_
 refine WL.move (v := .slice a2 n3 c4) h17_0 ?_
 refine WL.len (v := .slice a2 n3 c4) rfl (Y2M hs 0 rfl UN56) ?_
 refine WL.bin (v := .bool (decide (x18 < (x16.length : Int)))) rfl rfl (Y1n _ _ _) ?_
 refine WL.nil ?_
 refine hK21 _ _ ?_
 rcases iteE hf with ⟨hc22, hf⟩ | ⟨hc22, hf⟩
 {
 refine W.cond_true (Y02 rfl hc22) ?_
 refine W.skip ?_
 refine hK20 _ _ ?_
 refine W.seqK fun K23 hK23 => ?_
 have Jk27 : ∀ (x24 : List (List UInt8)) (x26 : Int) (ρ : Env) (w : World), ρ 0 = .slice a2 n3 c4 → ρ 3 = .int .i64 x26 → St ok F w [] [own tStr 9 (.slice a2 n3 c4) x24] → Y0j.j2 x24 x26 = some os19 → K23 ρ w := by
  intro x24 x26 ρ w h25_0 h25_3 hs hf
  refine hK23 _ _ ?_
  unfold Y0j.j2 at hf
  refine W.region ?_
  refine WL.move (v := .int .i64 x26) h25_3 ?_
  obtain ⟨x28, ex28, hf⟩ := letE hf
  refine WL.bin (v := .int .i64 x28) rfl rfl (Y1V ex28 (Y1t _ _ _)) ?_
  refine WL.assign (v := .int .i64 x28) rfl ?_
  refine WL.nil ?_
  exact ⟨_, (Option.some.inj hf).symm, h25_0, rfl, (hs.mask [true]).pick []⟩
 refine W.block ?_
 refine W.seqK fun K29 hK29 => ?_
 obtain ⟨x30, hxx30, hf⟩ := Y0s hf
 obtain ⟨x33, ex33, hf⟩ := letE hf
 obtain ⟨x34, hxx34, hf⟩ := Y0s hf
 refine W.any (by kernel_rfl) 10 0 [true, true, true, true, true, true, true, true, true, true] rfl rfl (poAt [pv (.slice a2 n3 c4), pv (.int .i64 x18), po (fun ad => Go.Proofs.YtpfgdjfiimknlaaGreatL.OwnAt 1 (.slice a2 n3 c4) x18 ad), pv (bstr x30), pv (.slice a2 n3 c4), pv (.int .i64 x18), pv (.int .i64 x33), po (fun ad => Go.Proofs.YtpfgdjfiimknlaaGreatL.OwnAt 1 (.slice a2 n3 c4) x33 ad), pv (bstr x34), pv (.bool (x30 == x34))]) (Λ := [own tStr 9 (.slice a2 n3 c4) x16]) hs (by kernel_rfl) (by kernel_rfl) (by kernel_rfl) ⟨⟨⟨⟨⟨⟨⟨⟨⟨⟨trivial, ?_⟩, ?_⟩, ?_⟩, ?_⟩, ?_⟩, ?_⟩, ?_⟩, ?_⟩, ?_⟩, ?_⟩ ?_
 {
 intro ρ w Γx Λx hs hu hp
 refine WL.move (v := .slice a2 n3 c4) ((hu 0 rfl).trans h17_0) ?_
 exact WL.nil ⟨rfl, _, rfl, rfl, hs.cutG 0 0⟩ }
 {
 intro ρ w Γx Λx hs hu hp
 refine WL.move (v := .int .i64 x18) ((hu 3 rfl).trans h17_3) ?_
 exact WL.nil ⟨rfl, _, rfl, rfl, hs.cutG 0 0⟩ }
 {
 intro ρ w Γx Λx hs hu hp
 have e37 : ρ 16 = .slice a2 n3 c4 := (hp 0 rfl).1
 have e38 : ρ 17 = .int .i64 x18 := (hp 1 rfl).1
 refine WL.indexAddrO hs (Λx.length + 0) (Y0q rfl) UN56 TI9 e37 e38 hxx30 (fun ad31 hatad31 => ?_)
 exact WL.nil ⟨rfl, _, rfl, ⟨ad31, rfl, hatad31⟩, hs.cutG 0 0⟩ }
 {
 intro ρ w Γx Λx hs hu hp
 obtain ⟨ad40, e39, hatad40⟩ := (hp 2 rfl).1
 have e39 : ρ 18 = .pointer (some ad40) := e39
 refine WL.loadO hs (Λx.length + 0) (Y0q rfl) TI9 (.inr rfl) hatad40 hxx30 e39 (fun v32 hs => ?_)
 obtain rfl := hs.str 0 rfl
 exact WL.nil ⟨rfl, _, rfl, rfl, hs.cutG 0 1⟩ }
 {
 intro ρ w Γx Λx hs hu hp
 refine WL.move (v := .slice a2 n3 c4) ((hu 0 rfl).trans h17_0) ?_
 exact WL.nil ⟨rfl, _, rfl, rfl, hs.cutG 0 0⟩ }
 {
 intro ρ w Γx Λx hs hu hp
 refine WL.move (v := .int .i64 x18) ((hu 3 rfl).trans h17_3) ?_
 exact WL.nil ⟨rfl, _, rfl, rfl, hs.cutG 0 0⟩ }
 {
 intro ρ w Γx Λx hs hu hp
 have e41 : ρ 21 = .int .i64 x18 := (hp 5 rfl).1
 refine WL.bin (v := .int .i64 x33) e41 rfl (Y1V ex33 (Y6D _ _ _)) ?_
 exact WL.nil ⟨rfl, _, rfl, rfl, hs.cutG 0 0⟩ }
 {
 intro ρ w Γx Λx hs hu hp
 have e42 : ρ 20 = .slice a2 n3 c4 := (hp 4 rfl).1
 have e43 : ρ 22 = .int .i64 x33 := (hp 6 rfl).1
 refine WL.indexAddrO hs (Λx.length + 0) (Y0q rfl) UN56 TI9 e42 e43 hxx34 (fun ad35 hatad35 => ?_)
 exact WL.nil ⟨rfl, _, rfl, ⟨ad35, rfl, hatad35⟩, hs.cutG 0 0⟩ }
 {
 intro ρ w Γx Λx hs hu hp
 obtain ⟨ad45, e44, hatad45⟩ := (hp 7 rfl).1
 have e44 : ρ 23 = .pointer (some ad45) := e44
 refine WL.loadO hs (Λx.length + 0) (Y0q rfl) TI9 (.inr rfl) hatad45 hxx34 e44 (fun v36 hs => ?_)
 obtain rfl := hs.str 0 rfl
 exact WL.nil ⟨rfl, _, rfl, rfl, hs.cutG 0 1⟩ }
 {
 intro ρ w Γx Λx hs hu hp
 have e46 : ρ 19 = bstr x30 := (hp 3 rfl).1
 have e47 : ρ 24 = bstr x34 := (hp 8 rfl).1
 refine WL.binS (v := .bool (x30 == x34)) e46 e47 (Y3N _ _) ?_
 exact WL.nil ⟨rfl, _, rfl, rfl, hs.cutG 0 0⟩ }
 {
 intro ρ w hs hu48 hp
 obtain ⟨⟨⟨⟨⟨⟨⟨⟨⟨⟨_, hp0_⟩, hp1_⟩, hp2_⟩, hp3_⟩, hp4_⟩, hp5_⟩, hp6_⟩, hp7_⟩, hp8_⟩, hp9_⟩ := hp
 have hs : St ok F w [] [own tStr 9 (.slice a2 n3 c4) x16] := hs
 have e49 : ρ 25 = .bool (x30 == x34) := hp9_
 have e50 : ρ 24 = bstr x34 := hp8_
 have e51 : ρ 22 = .int .i64 x33 := hp6_
 have e52 : ρ 21 = .int .i64 x18 := hp5_
 have e53 : ρ 20 = .slice a2 n3 c4 := hp4_
 have e54 : ρ 19 = bstr x30 := hp3_
 have e55 : ρ 17 = .int .i64 x18 := hp1_
 have e56 : ρ 16 = .slice a2 n3 c4 := hp0_
 refine WA.done (by kernel_rfl) ?_
 refine hK29 _ _ ?_
 rcases iteE hf with ⟨hc57, hf⟩ | ⟨hc57, hf⟩
 {
 refine W.cond_true (Y02 e49 hc57) ?_
 refine W.seqK fun K58 hK58 => ?_
 refine W.region ?_
 refine WL.move (v := .slice a2 n3 c4) ((hu48 0 rfl).trans h17_0) ?_
 refine WL.move (v := .int .i64 x18) ((hu48 3 rfl).trans h17_3) ?_
 obtain ⟨hn59, hf⟩ := Y2O hf
 refine WL.view_l hs 0 rfl UN56 TI9 rfl rfl hn59 ?_
 refine WL.assign (v := cutv a2 ((x18).toNat) n3 c4 1) rfl ?_
 refine WL.nil ?_
 refine hK58 _ _ ?_
 refine W.seqK fun K60 hK60 => ?_
 have Jk64 : ∀ (x61 : List (List UInt8)) (x63 : Int) (ρ : Env) (w : World), ρ 0 = .slice a2 n3 c4 → ρ 3 = .int .i64 x63 → St ok F w [] [own tStr 9 (.slice a2 n3 c4) x61] → Y0j.j3 x61 x63 = some os19 → K60 ρ w := by
  intro x61 x63 ρ w h62_0 h62_3 hs hf
  refine hK60 _ _ ?_
  unfold Y0j.j3 at hf
  refine W.seqK fun K65 hK65 => ?_
  refine W.region ?_
  refine WL.move (v := .slice a2 n3 c4) h62_0 ?_
  refine WL.move (v := .int .i64 x63) h62_3 ?_
  obtain ⟨hn66, hf⟩ := Y2O hf
  refine WL.view_l hs 0 rfl UN56 TI9 rfl rfl hn66 ?_
  obtain ⟨x67, hxx67, hf⟩ := Y0s hf
  refine WL.clearO (l := x63) (z := []) hs 0 rfl UN56 rfl ZR9 (fun ok => rfl) (by decide) hxx67 (fun w hs => ?_)
  refine WL.nil ?_
  refine hK65 _ _ ?_
  refine W.seqK fun K68 hK68 => ?_
  refine W.region ?_
  refine WL.move (v := .slice a2 n3 c4) h62_0 ?_
  refine WL.move (v := .int .i64 x63) h62_3 ?_
  obtain ⟨x69, hxx69, hf⟩ := Y0s hf
  refine WL.sliceO_h hs 0 rfl UN56 TI9 rfl rfl hxx69 (fun hs => ?_)
  refine WL.assign (v := .slice a2 x69.length c4) rfl ?_
  refine WL.nil ?_
  refine hK68 _ _ ?_
  refine W.ret ?_
  have hr := Option.some.inj hf; subst hr
  have hr := hbbs19 _ rfl; subst hr
  have hf := hfs19
  have hr := Option.some.inj hf; subst hr
  exact ⟨_, Y0e rfl rfl, (a2, x69.length, c4), rfl, (hs.mask [true]).pick []⟩
 refine W.seqK fun K70 hK70 => ?_
 refine W.region ?_
 refine WL.assign (v := .int .i64 1) rfl ?_
 refine WL.nil ?_
 refine hK70 _ _ ?_
 refine W.block ?_
 obtain ⟨bs75, hbs75, hfs75⟩ := Y0s hf
 refine W.loop hbs75 (fun s ρ w => match s with | (x71, x73, x74) => ρ 0 = .slice a2 n3 c4 ∧ ρ 3 = .int .i64 x73 ∧ ρ 4 = cutv a2 ((x18).toNat) n3 c4 1 ∧ ρ 5 = .int .i64 x74 ∧ St ok F w [] [own tStr 9 (.slice a2 n3 c4) x71]) ⟨((hu48 0 rfl).trans h17_0), ((hu48 3 rfl).trans h17_3), rfl, rfl, (hs.mask [true]).pick []⟩ ?_
 intro s ρ w os75 hI hf hbbs75
 obtain ⟨x71, x73, x74⟩ := s
 obtain ⟨h72_0, h72_3, h72_4, h72_5, hs⟩ := hI
 unfold Y0j.l1 at hf
 refine W.seqK fun K76 hK76 => ?_
 refine W.seqK fun K77 hK77 => ?_
 refine W.region ?_
 refine WL.move (v := .int .i64 x74) h72_5 ?_
 refine WL.move (v := cutv a2 ((x18).toNat) n3 c4 1) h72_4 ?_
 refine WL.len (v := cutv a2 ((x18).toNat) n3 c4 1) rfl (Y6y hs 0 rfl UN56) ?_
 refine WL.bin (v := .bool (decide (x74 < ((x71.length - (x18).toNat : Nat) : Int)))) rfl rfl (Y1n _ _ _) ?_
 refine WL.nil ?_
 refine hK77 _ _ ?_
 rcases iteE hf with ⟨hc78, hf⟩ | ⟨hc78, hf⟩
 {
 refine W.cond_true (Y02 rfl hc78) ?_
 refine W.skip ?_
 refine hK76 _ _ ?_
 refine W.seqK fun K79 hK79 => ?_
 have Jk83 : ∀ (x80 : List (List UInt8)) (x82 : Int) (ρ : Env) (w : World), ρ 0 = .slice a2 n3 c4 → ρ 3 = .int .i64 x82 → ρ 4 = cutv a2 ((x18).toNat) n3 c4 1 → ρ 5 = .int .i64 x74 → St ok F w [] [own tStr 9 (.slice a2 n3 c4) x80] → Y0j.j4 x74 x80 x82 = some os75 → K79 ρ w := by
  intro x80 x82 ρ w h81_0 h81_3 h81_4 h81_5 hs hf
  refine hK79 _ _ ?_
  unfold Y0j.j4 at hf
  refine W.region ?_
  refine WL.move (v := .int .i64 x74) h81_5 ?_
  obtain ⟨x84, ex84, hf⟩ := letE hf
  refine WL.bin (v := .int .i64 x84) rfl rfl (Y1V ex84 (Y1t _ _ _)) ?_
  refine WL.assign (v := .int .i64 x84) rfl ?_
  refine WL.nil ?_
  exact ⟨_, (Option.some.inj hf).symm, h81_0, h81_3, h81_4, rfl, (hs.mask [true]).pick []⟩
 refine W.block ?_
 refine W.seqK fun K85 hK85 => ?_
 obtain ⟨x86, hvx86, hf⟩ := Y0s hf; have hxx86 := Y3Z hvx86
 obtain ⟨x89, ex89, hf⟩ := letE hf
 obtain ⟨x90, hvx90, hf⟩ := Y0s hf; have hxx90 := Y3Z hvx90
 refine W.any (by kernel_rfl) 10 0 [true, true, true, true, true, true, true, true, true, true] rfl rfl (poAt [pv (cutv a2 ((x18).toNat) n3 c4 1), pv (.int .i64 x74), po (fun ad => Go.Proofs.YtpfgdjfiimknlaaGreatL.OwnAt 1 (.slice a2 n3 c4) ((((x18).toNat : Nat) : Int) + x74) ad), pv (bstr x86), pv (cutv a2 ((x18).toNat) n3 c4 1), pv (.int .i64 x74), pv (.int .i64 x89), po (fun ad => Go.Proofs.YtpfgdjfiimknlaaGreatL.OwnAt 1 (.slice a2 n3 c4) ((((x18).toNat : Nat) : Int) + x89) ad), pv (bstr x90), pv (.bool (x86 != x90))]) (Λ := [own tStr 9 (.slice a2 n3 c4) x71]) hs (by kernel_rfl) (by kernel_rfl) (by kernel_rfl) ⟨⟨⟨⟨⟨⟨⟨⟨⟨⟨trivial, ?_⟩, ?_⟩, ?_⟩, ?_⟩, ?_⟩, ?_⟩, ?_⟩, ?_⟩, ?_⟩, ?_⟩ ?_
 {
 intro ρ w Γx Λx hs hu hp
 refine WL.move (v := cutv a2 ((x18).toNat) n3 c4 1) ((hu 4 rfl).trans h72_4) ?_
 exact WL.nil ⟨rfl, _, rfl, rfl, hs.cutG 0 0⟩ }
 {
 intro ρ w Γx Λx hs hu hp
 refine WL.move (v := .int .i64 x74) ((hu 5 rfl).trans h72_5) ?_
 exact WL.nil ⟨rfl, _, rfl, rfl, hs.cutG 0 0⟩ }
 {
 intro ρ w Γx Λx hs hu hp
 have e93 : ρ 35 = cutv a2 ((x18).toNat) n3 c4 1 := (hp 0 rfl).1
 have e94 : ρ 36 = .int .i64 x74 := (hp 1 rfl).1
 refine WL.indexAddrV (l := (x18).toNat) hs (Λx.length + 0) (Y0q rfl) UN56 TI9 e93 e94 hvx86 (fun ad87 hatad87 => ?_)
 exact WL.nil ⟨rfl, _, rfl, ⟨ad87, rfl, hatad87⟩, hs.cutG 0 0⟩ }
 {
 intro ρ w Γx Λx hs hu hp
 obtain ⟨ad96, e95, hatad96⟩ := (hp 2 rfl).1
 have e95 : ρ 37 = .pointer (some ad96) := e95
 refine WL.loadO hs (Λx.length + 0) (Y0q rfl) TI9 (.inr rfl) hatad96 hxx86 e95 (fun v88 hs => ?_)
 obtain rfl := hs.str 0 rfl
 exact WL.nil ⟨rfl, _, rfl, rfl, hs.cutG 0 1⟩ }
 {
 intro ρ w Γx Λx hs hu hp
 refine WL.move (v := cutv a2 ((x18).toNat) n3 c4 1) ((hu 4 rfl).trans h72_4) ?_
 exact WL.nil ⟨rfl, _, rfl, rfl, hs.cutG 0 0⟩ }
 {
 intro ρ w Γx Λx hs hu hp
 refine WL.move (v := .int .i64 x74) ((hu 5 rfl).trans h72_5) ?_
 exact WL.nil ⟨rfl, _, rfl, rfl, hs.cutG 0 0⟩ }
 {
 intro ρ w Γx Λx hs hu hp
 have e97 : ρ 40 = .int .i64 x74 := (hp 5 rfl).1
 refine WL.bin (v := .int .i64 x89) e97 rfl (Y1V ex89 (Y6D _ _ _)) ?_
 exact WL.nil ⟨rfl, _, rfl, rfl, hs.cutG 0 0⟩ }
 {
 intro ρ w Γx Λx hs hu hp
 have e98 : ρ 39 = cutv a2 ((x18).toNat) n3 c4 1 := (hp 4 rfl).1
 have e99 : ρ 41 = .int .i64 x89 := (hp 6 rfl).1
 refine WL.indexAddrV (l := (x18).toNat) hs (Λx.length + 0) (Y0q rfl) UN56 TI9 e98 e99 hvx90 (fun ad91 hatad91 => ?_)
 exact WL.nil ⟨rfl, _, rfl, ⟨ad91, rfl, hatad91⟩, hs.cutG 0 0⟩ }
 {
 intro ρ w Γx Λx hs hu hp
 obtain ⟨ad101, e100, hatad101⟩ := (hp 7 rfl).1
 have e100 : ρ 42 = .pointer (some ad101) := e100
 refine WL.loadO hs (Λx.length + 0) (Y0q rfl) TI9 (.inr rfl) hatad101 hxx90 e100 (fun v92 hs => ?_)
 obtain rfl := hs.str 0 rfl
 exact WL.nil ⟨rfl, _, rfl, rfl, hs.cutG 0 1⟩ }
 {
 intro ρ w Γx Λx hs hu hp
 have e102 : ρ 38 = bstr x86 := (hp 3 rfl).1
 have e103 : ρ 43 = bstr x90 := (hp 8 rfl).1
 refine WL.binS (v := .bool (x86 != x90)) e102 e103 (Y6t _ _) ?_
 exact WL.nil ⟨rfl, _, rfl, rfl, hs.cutG 0 0⟩ }
 {
 intro ρ w hs hu104 hp
 obtain ⟨⟨⟨⟨⟨⟨⟨⟨⟨⟨_, hp0_⟩, hp1_⟩, hp2_⟩, hp3_⟩, hp4_⟩, hp5_⟩, hp6_⟩, hp7_⟩, hp8_⟩, hp9_⟩ := hp
 have hs : St ok F w [] [own tStr 9 (.slice a2 n3 c4) x71] := hs
 have e105 : ρ 44 = .bool (x86 != x90) := hp9_
 have e106 : ρ 43 = bstr x90 := hp8_
 have e107 : ρ 41 = .int .i64 x89 := hp6_
 have e108 : ρ 40 = .int .i64 x74 := hp5_
 have e109 : ρ 39 = cutv a2 ((x18).toNat) n3 c4 1 := hp4_
 have e110 : ρ 38 = bstr x86 := hp3_
 have e111 : ρ 36 = .int .i64 x74 := hp1_
 have e112 : ρ 35 = cutv a2 ((x18).toNat) n3 c4 1 := hp0_
 refine WA.done (by kernel_rfl) ?_
 refine hK85 _ _ ?_
 rcases iteE hf with ⟨hc113, hf⟩ | ⟨hc113, hf⟩
 {
 refine W.cond_true (Y02 e105 hc113) ?_
 refine W.seqK fun K114 hK114 => ?_
 refine W.region ?_
 refine WL.move (v := .slice a2 n3 c4) ((hu104 0 rfl).trans h72_0) ?_
 refine WL.move (v := .int .i64 x73) ((hu104 3 rfl).trans h72_3) ?_
 refine WL.move (v := cutv a2 ((x18).toNat) n3 c4 1) ((hu104 4 rfl).trans h72_4) ?_
 refine WL.move (v := .int .i64 x74) ((hu104 5 rfl).trans h72_5) ?_
 obtain ⟨x115, hvx115, hf⟩ := Y0s hf; have hxx115 := Y3Z hvx115
 refine WL.indexAddrV (l := (x18).toNat) hs 0 rfl UN56 TI9 rfl rfl hvx115 (fun ad116 hatad116 => ?_)
 refine WL.loadO hs 0 rfl TI9 (.inr rfl) hatad116 hxx115 rfl (fun v117 hs => ?_)
 obtain rfl := hs.str 0 rfl
 obtain ⟨x118, hxx118, hf⟩ := Y0s hf
 refine WL.indexAddrO hs 0 rfl UN56 TI9 rfl rfl hxx118 (fun ad119 hatad119 => ?_)
 obtain ⟨x120, exx120, hf⟩ := letE hf
 refine WL.storeO (y := x115) (vs := [bstr x115]) (zs := x120) hs 0 rfl TI9 hatad119 hxx118 rfl rfl rfl (fun ok hA => rfl) exx120 (fun w hs => ?_)
 refine WL.nil ?_
 refine hK114 _ _ ?_
 refine W.region ?_
 refine WL.move (v := .int .i64 x73) ((hu104 3 rfl).trans h72_3) ?_
 obtain ⟨x121, ex121, hf⟩ := letE hf
 refine WL.bin (v := .int .i64 x121) rfl rfl (Y1V ex121 (Y1t _ _ _)) ?_
 refine WL.assign (v := .int .i64 x121) rfl ?_
 refine WL.nil ?_
 exact Jk83 x120 x121 _ _ ((hu104 0 rfl).trans h72_0) rfl ((hu104 4 rfl).trans h72_4) ((hu104 5 rfl).trans h72_5) ((hs.mask [true]).pick []) hf }
 {
 refine W.cond_false (Y02 e105 hc113) ?_
 refine W.skip ?_
 exact Jk83 x71 x73 _ _ ((hu104 0 rfl).trans h72_0) ((hu104 3 rfl).trans h72_3) ((hu104 4 rfl).trans h72_4) ((hu104 5 rfl).trans h72_5) ((hs.mask [true]).pick []) hf } } }
 {
 refine W.cond_false (Y02 rfl hc78) ?_
 refine W.exit ?_
 have hr := Option.some.inj hf; subst hr
 have hr := hbbs75 _ rfl; subst hr
 have hf := hfs75
 exact Jk64 x71 x73 _ _ h72_0 h72_3 ((hs.mask [true]).pick []) hf } }
 {
 refine W.cond_false (Y02 e49 hc57) ?_
 refine W.skip ?_
 exact Jk27 x16 x18 _ _ ((hu48 0 rfl).trans h17_0) ((hu48 3 rfl).trans h17_3) ((hs.mask [true]).pick []) hf } } }
 {
 refine W.cond_false (Y02 rfl hc22) ?_
 refine W.exit ?_
 have hr := Option.some.inj hf; subst hr
 have hr := hbbs19 _ rfl; subst hr
 have hf := hfs19
 exact Jk13 x16 _ _ h17_0 ((hs.mask [true]).pick []) hf } }
theorem Y1U.calls {ok : Nat → Prop} {w0 : World} {x1 : Y0u} {v2 : Value} {r : Y04} (hf : Y1U x1 = some r) (i0 : (vl Y0v x1 v2).holds ok w0) :
  Calls Tryz.prog 57 #[v2] w0 fun e w' => ∃ v, e = .returned v ∧ ∃ y : List Value, v = .agg y.toArray ∧ St ok (bz w0) w' [vl Y09 r (.agg y.toArray)] [] := by
 unfold Y1U at hf
 refine Y0t (fn := Tryz.f57) (N := 5) Tryz.func57 rfl Tryz.ntmps57 rfl ?_
 have hs : St ok (bz w0) w0 [vl Y0v x1 v2] [] := St.init (All.cons i0 All.nil)
 clear i0
 obtain ⟨cs3, hl4, rfl⟩ := hs.aggv (n := 4) 0 rfl rfl rfl
 refine W.seqK fun K5 hK5 => ?_
 refine W.region ?_
 refine WL.box (vs := cs3) hs rfl rfl (fun g6 w hs => ?_)
 refine WL.alloc hs ZV47 (fun g7 w hs => ?_)
 refine WL.nil ?_
 refine hK5 _ _ ?_
 refine W.seqK fun K8 hK8 => ?_
 refine W.region ?_
 refine WL.fieldAddr (m := 0) rfl FA105_0 rfl ?_
 refine WL.loadF (z := x1.f_key) Y4C hs 1 rfl 0 rfl rfl TI47 (.inl rfl) rfl rfl (fun v9 hs => ?_)
 obtain ⟨cs10, hl11, rfl⟩ := hs.aggv (n := 3) 0 rfl rfl rfl
 refine WL.storeAll (vs := cs10) hs 0 rfl TI47 rfl rfl rfl hl11 (hs.ones 0 rfl rfl) rfl (fun w hs => ?_)
 refine WL.nil ?_
 refine hK8 _ _ ?_
 refine W.ret ?_
 have hr := Option.some.inj hf; subst hr
 exact ⟨_, Y0e rfl (Y2B hs 0 rfl TI47 rfl hl11), cs10, rfl, (hs.mask []).pick [0]⟩
end
end Go.Proofs.YtpfgdjfiimknlaaGreat
namespace Go.Proofs.YtpfgdjfiimknlaaGreatL
section
open Go Go.RowKit
theorem Y2a (a : List UInt8) : Op.bytesLess a a = false := by rw [Go.Proofs.bytesLess_eq]; simp [List.lt_irrefl]
theorem Y3E {a b c : List UInt8} (h : Op.bytesLess a b = true) (k : Op.bytesLess b c = true) : Op.bytesLess a c = true := by
 rw [Go.Proofs.bytesLess_eq, decide_eq_true_eq] at *
 exact List.lt_trans h k
theorem Y4T {a b : List UInt8} (h : Op.bytesLess a b = false) (k : Op.bytesLess b a = false) : a = b := by
 rw [Go.Proofs.bytesLess_eq, decide_eq_false_iff_not] at *
 exact List.le_antisymm k h
theorem bl_asymm {a b : List UInt8} (h : Op.bytesLess a b = true) : Op.bytesLess b a = false := by
 cases k : Op.bytesLess b a with
 | false => rfl
 | true => have := Y3E h k; rw [Y2a] at this; cases this
abbrev Asc (l : List (List UInt8)) : Prop := l.Pairwise fun a b => Op.bytesLess a b = true
def posS : List (List UInt8) → List UInt8 → Nat
 | [], _ => 0
 | a :: l, s => if Op.bytesLess a s then posS l s + 1 else 0
theorem Y7d : ∀ (l : List (List UInt8)) (s : List UInt8), posS l s ≤ l.length
 | [], _ => Nat.le_refl _
 | a :: l, s => by
  unfold posS
  have := Y7d l s
  split
  ·simp; exact this
  ·simp
theorem Y8E : ∀ (l : List (List UInt8)) (s : List UInt8) (t : Nat), t < posS l s → Op.bytesLess (l.getD t s) s = true
 | [], s, t, h => by simp [posS] at h
 | a :: l, s, t, h => by
  unfold posS at h
  split at h
  ·rename_i ha
   cases t with
   | zero => exact ha
   | succ t => simpa using Y8E l s t (by omega)
  ·omega
theorem Y8F : ∀ (l : List (List UInt8)) (s : List UInt8), Asc l → ∀ t, posS l s ≤ t → Op.bytesLess (l.getD t s) s = false
 | [], s, _, t, _ => by simp [Y2a]
 | a :: l, s, h, t, ht => by
  have h1 := (List.pairwise_cons.1 h).1
  have h2 := (List.pairwise_cons.1 h).2
  unfold posS at ht
  split at ht
  ·cases t with
   | zero => omega
   | succ t => simpa using Y8F l s h2 t (by omega)
  ·rename_i ha
   have ha : Op.bytesLess a s = false := by simpa using ha
   cases t with
   | zero => simpa using ha
   | succ t =>
    rw [List.getD_cons_succ]
    rcases Nat.lt_or_ge t l.length with hl | hl
    ·have e : l.getD t s = l[t] := by simp [List.getD_eq_getElem?_getD, hl]
     rw [e]
     cases k : Op.bytesLess l[t] s with
     | false => rfl
     | true =>
      have := Y3E (h1 _ (List.getElem_mem hl)) k
      rw [this] at ha; cases ha
    ·rw [List.getD_eq_getElem?_getD, List.getElem?_eq_none hl]
     exact Y2a s
theorem Y7O : ∀ (l : List (List UInt8)) (s : List UInt8), insS l s = if posS l s < l.length ∧ l.getD (posS l s) s = s then l else l.take (posS l s) ++ s :: l.drop (posS l s)
 | [], s => by simp [insS, posS]
 | a :: l, s => by
  unfold insS posS
  cases ha : Op.bytesLess a s with
  | true =>
   rw [if_pos rfl, if_pos rfl, Y7O l s]
   simp only [List.length_cons, Nat.add_lt_add_iff_right, List.getD_cons_succ, List.take_succ_cons, List.drop_succ_cons]
   split
   ·rfl
   ·rfl
  | false =>
   simp only [Bool.false_eq_true, if_false]
   cases he : a == s with
   | true =>
    have : a = s := by simpa using he
    simp [this]
   | false =>
    have : a ≠ s := by simpa using he
    simp [this]
section
variable {P : Program} {w : World} {w0 : Base} {ok0 : Nat → Prop} {Γ : List It} {Λ : List LObj} {ren : Go.Shelf.Ren}
open Go.Proofs Go.Shelf
theorem Y7w (L : Lays2.n26 P ren) {xs : List (List UInt8)} {s : List UInt8} {v : Value} (hs : St ok0 w0 w Γ Λ) (i : Nat) (hi : Λ[i]? = some (own tStr 9 v xs)) (ha : Asc xs) (hb : xs.length < 4611686018427387904) :
  Calls P (ren.f 26) #[v, bstr s] w fun e w' => e = .returned (.tuple #[.int .i64 (posS xs s : Nat), .bool (decide (posS xs s < xs.length ∧ xs.getD (posS xs s) s = s))]) ∧ ∃ q, w' = w.drewN q := by
 have hT := hs.ownT i hi
 obtain ⟨a, c, e, hc, hr⟩ := Y2h.1 hT
 have e : v = .slice a xs.length c := e
 subst e
 have empty : xs = [] → Calls P (ren.f 26) #[.slice a xs.length c, bstr s] w fun e w' => e = .returned (.tuple #[.int .i64 (posS xs s : Nat), .bool (decide (posS xs s < xs.length ∧ xs.getD (posS xs s) s = s))]) ∧ ∃ q, w' = w.drewN q := by
  intro hx
  subst hx
  refine (Any2.slices_BinarySearch_string_empty L a c ⟨s.toArray⟩ w).mono ?_
  rintro e w' ⟨rfl, rfl⟩
  exact ⟨by simp [posS], 0, rfl⟩
 rcases hr with hx | ⟨g, off, rfl, _, hlt, hcell⟩
 ·exact empty hx
 ·have key := Any2.slices_BinarySearch_string L g off xs.length c (fun j => ⟨(xs.getD j s).toArray⟩) ⟨s.toArray⟩ w hb (fun j hj => by
   have hx : xs[j]? = some xs[j] := List.getElem?_eq_getElem hj
   obtain ⟨cs, hR, hcs⟩ := hcell j _ hx
   have hR : cs = [bstr xs[j]] := hR
   subst hR
   have := hcs 0 _ rfl
   have e1 : off + j * tStr.sz + 0 = off + j := by show off + j * 1 + 0 = _; omega
   rw [e1] at this
   rw [this]
   simp [bstr, List.getD_eq_getElem?_getD, hj])
  refine key.mono ?_
  rintro e w' ⟨rfl, q, rfl⟩
  have e1 : Lib.bsGo (fun t => Op.bytesLess (ByteArray.toList ⟨(xs.getD t s).toArray⟩) (ByteArray.toList ⟨s.toArray⟩)) xs.length 0 xs.length = posS xs s := by
   refine Lib.bsGo_spec _ (posS xs s) (fun t ht => ?_) (fun t ht => ?_) xs.length 0 xs.length (by omega) (Nat.zero_le _) (Y7d xs s)
   ·rw [bl, bl]; exact Y8E xs s t ht
   ·rw [bl, bl]; exact Y8F xs s ha t ht
  refine ⟨?_, q, rfl⟩
  simp only [e1]
  congr 5
  have : (({ data := (xs.getD (posS xs s) s).toArray } : ByteArray) = ⟨s.toArray⟩) ↔ xs.getD (posS xs s) s = s := by
   constructor
   ·intro h
    have := congrArg ByteArray.toList h
    rw [bl, bl] at this
    exact this
   ·intro h; rw [h]
  simp only [this]
theorem Y4D (g : Nat) : ∀ (vs : List Value) (j : Nat) (w : World), World.setCells w g j vs = setCells w g j vs
 | [], _, _ => rfl
 | v :: vs, j, w => by rw [World.setCells, setCells, Y4D g vs]
theorem Y6L (w : World) : w.drew.heap = w.heap := rfl
theorem Off.drew (bs : List Nat) (w : World) : Off bs w w.drew := ⟨rfl, rfl, rfl, Nat.le_refl _, fun _ _ _ => rfl⟩
theorem own_str {v : Value} {xs : List (List UInt8)} {ok : Nat → Prop} {bs : List Nat} (h : (own tStr 9 v xs).H ok bs w) :
  (∃ a, v = .slice a 0 0 ∧ xs = [] ∧ bs = []) ∨ ∃ g c cur, v = .slice (some ⟨g, 0, none⟩) xs.length c ∧ 0 < c ∧ bs = [g] ∧ w.heap[g]? = some (.cells (xs.map bstr ++ cur).toArray 9 (0, 0)) ∧ xs.length + cur.length = c ∧ c ≤ maxLen := by
 rcases h with ⟨_, h1, h2, a, h3⟩ | ⟨h0, cs, h1, h2, h3⟩
 ·exact .inl ⟨a, h3, h2, h1⟩
 ·obtain ⟨_, h2⟩ := h2
  rcases h2 with ⟨rfl, _⟩ | ⟨g, c, cur, rfl, _, hg, q1, q2, q3, q4⟩
  ·simp [Y6r] at h0
  ·have ecs : cs = xs.map bstr := by
    have hl := h3.1
    have hl : cs.length = xs.length := by rw [hl]; exact Nat.mul_one _
    refine List.ext_getElem? fun j => ?_
    rcases Nat.lt_or_ge j xs.length with hj | hj
    ·have := h3.2 j _ (List.getElem?_eq_getElem hj)
     have this : ((cs.drop (j * 1)).take 1) = [bstr xs[j]] := this
     rw [Nat.mul_one, List.drop_eq_getElem_cons (by omega), List.take_succ_cons, List.take_zero] at this
     rw [List.getElem?_eq_getElem (by omega), List.getElem?_map, List.getElem?_eq_getElem hj]
     simpa using this
    ·rw [List.getElem?_eq_none (by omega), List.getElem?_eq_none (by simpa using hj)]
   subst ecs
   have q4 : cur.toList.take (xs.length * 1) = xs.map bstr := q4
   have q3 : cur.size = c * 1 := q3
   rw [Nat.mul_one] at q3 q4
   refine .inr ⟨g, c, cur.toList.drop xs.length, rfl, h0, by rw [h1]; rfl, ?_, ?_, q2⟩
   ·rw [← q4, List.take_append_drop]
    simpa using hg
   ·rw [List.length_drop, Array.length_toList (xs := cur)]
    omega
theorem own_of {g c : Nat} {xs : List (List UInt8)} {cur : List Value} (ok : Nat → Prop) (hc : 0 < c) (hg : w.heap[g]? = some (.cells (xs.map bstr ++ cur).toArray 9 (0, 0))) (hl : xs.length + cur.length = c) (hm : c ≤ maxLen) :
  (own tStr 9 (.slice (some ⟨g, 0, none⟩) xs.length c) xs).H ok [g] w := by
 refine .inr ⟨hc, xs.map bstr, rfl, ⟨by simp [tStr], .inr ⟨g, c, _, rfl, Nat.zero_le _, hg, by omega, hm, ?_, ?_⟩⟩, Y6P xs⟩
 ·show _ = c * 1
  simp; omega
 ·show List.take (xs.length * 1) _ = _
  simp
theorem Y8n (L : Lays2.n22 P ren) (h9 : ren.t 9 = 9) {xs : List (List UInt8)} {s : List UInt8} {v : Value} {gl k : Nat} (hs : St ok0 w0 w Γ (blk gl 9 [bstr s] :: Λ)) (i : Nat) (hi : Λ[i]? = some (own tStr 9 v xs)) (hk : k ≤ xs.length) (hb : (xs.length + 1) * 16 ≤ 140737488355328) :
  Calls P (ren.f 22) #[v, .int .i64 (k : Nat), .slice (some ⟨gl, 0, none⟩) 1 1] w fun e w' => ∃ v', e = .returned v' ∧ St ok0 w0 w' Γ (Λ.set i (own tStr 9 v' (xs.take k ++ s :: xs.drop k))) := by
 have hgl := hs.blk_at 0 rfl
 have hs2 := hs.freezeB (A := tStr) (x := s) 0 rfl fun _ _ => rfl
 have hs2 : St ok0 w0 w (pl tStr s ⟨gl, 0, none⟩ :: Γ) Λ := hs2
 obtain ⟨ok, bs, ho, hA, hn, hbs, hput⟩ := hs2.split i hi
 have hgok : ok gl := ((hA.get 0 rfl : (pl tStr s ⟨gl, 0, none⟩).holds ok w)).2.1
 have hlt := Y0K hgl
 have hvs : ∀ j u, ([bstr s] : List Value)[j]? = some u → w.cell? ⟨gl, 0 + j, none⟩ = some u := by
  intro j u hu
  cases j with
  | zero => rw [Y2s hgl]; exact hu
  | succ j => simp at hu
 have h1v : ∀ u ∈ ([bstr s] : List Value), u.oneCell' = true := by intro u hu; simp at hu; subst hu; rfl
 have h1c : ∀ u ∈ xs.map bstr, u.oneCell' = true := by intro u hu; obtain ⟨x, _, rfl⟩ := List.mem_map.1 hu; rfl
 have hlen : (xs.take k ++ s :: xs.drop k).length = xs.length + 1 := by simp; omega
 have hmap : (xs.take k ++ s :: xs.drop k).map bstr = (xs.map bstr).take k ++ bstr s :: (xs.map bstr).drop k := by simp
 have fin : ∀ {v' : Value} {bs' : List Nat} {w' : World}, Off bs w w' → bs'.Nodup → (∀ b ∈ bs', (b ∈ bs ∨ w.heap.size ≤ b) ∧ b < w'.heap.size) → (∀ ok', (own tStr 9 v' (xs.take k ++ s :: xs.drop k)).H ok' bs' w') → St ok0 w0 w' Γ (Λ.set i (own tStr 9 v' (xs.take k ++ s :: xs.drop k))) :=
  fun h1 h2 h3 h4 => (hput _ _ _ h1 h2 h3 fun ok' _ => h4 ok').sub fun it hi => List.mem_cons_of_mem _ hi
 -- a new block
 have fresh : ∀ (c' : Nat) (w' : World) (cur : List Value), w'.heap[w.heap.size]? = some (.cells ((xs.take k ++ s :: xs.drop k).map bstr ++ cur).toArray 9 (0, 0)) → Below w.heap.size w w' → xs.length + 1 + cur.length = c' → c' ≤ maxLen →
   St ok0 w0 w' Γ (Λ.set i (own tStr 9 (.slice (some ⟨w.heap.size, 0, none⟩) (xs.length + 1) c') (xs.take k ++ s :: xs.drop k))) := by
  intro c' w' cur h1 h2 h3 h4
  refine fin (bs' := [w.heap.size]) (Off.of_below h2 bs) (by simp) (fun b hb => ?_) fun ok' => ?_
  ·simp at hb; subst hb
   exact ⟨.inr (Nat.le_refl _), Y0K h1⟩
  ·have := own_of (w := w') (g := w.heap.size) (c := c') (xs := xs.take k ++ s :: xs.drop k) (cur := cur) ok' (by omega) h1 (by omega) h4
   rw [hlen] at this
   exact this
 have hge := fun c => grownCap_ge w (xs.length + 1) c (ren.t 9)
 have hle := fun c => grownCap_le_maxLen w (xs.length + 1) c (ren.t 9) (by simp only [maxLen]; omega)
 have hz : ∀ n, (Builtin.zeroCells (Value.string ⟨#[]⟩).cells n).size = n := by intro n; simp [Builtin.zeroCells, Value.cells]
 have endgrow : ∀ (base : Option Addr) (c : Nat), k = xs.length → xs.length ≤ c → c < xs.length + 1 → v = .slice base xs.length c → (base = none → xs.length = 0) → (∀ a, base = some a → ∀ (j : Nat) (u : Value), (xs.map bstr)[j]? = some u → w.cell? (a.add j) = some u) →
   Calls P (ren.f 22) #[v, .int .i64 (k : Nat), .slice (some ⟨gl, 0, none⟩) 1 1] w fun e w' => ∃ v', e = .returned v' ∧ St ok0 w0 w' Γ (Λ.set i (own tStr 9 v' (xs.take k ++ s :: xs.drop k))) := by
  intro base c ek hc1 hc2 ev hnil hcs
  subst ev
  rw [ek]
  refine (Any2.slices_Insert_string_end_grow L base xs.length c gl 0 1 1 (xs.map bstr) [bstr s] w (by omega) hc1 hc2 hb (by simp) rfl hnil hcs hvs h1v).mono ?_
  rintro e w' ⟨rfl, rfl⟩
  refine ⟨_, rfl, ?_⟩
  have := fresh (grownCap w (xs.length + 1) c (ren.t 9)) (cur := (Builtin.zeroCells (Value.string ⟨#[]⟩).cells (grownCap w (xs.length + 1) c (ren.t 9) - (xs.length + 1))).toList) (w' := w.drew.alloc (.cells ((xs.map bstr ++ [bstr s]).toArray ++ Builtin.zeroCells (Value.string ⟨#[]⟩).cells (grownCap w (xs.length + 1) c (ren.t 9) - (xs.length + 1))) (ren.t 9))) ?_ ?_ ?_ (hle c)
  ·rw [ek] at this; exact this
  ·have := Y2N w.drew (.cells ((xs.map bstr ++ [bstr s]).toArray ++ Builtin.zeroCells (Value.string ⟨#[]⟩).cells (grownCap w (xs.length + 1) c (ren.t 9) - (xs.length + 1))) (ren.t 9))
   rw [Y6L] at this
   rw [this, hmap, ek, h9]
   have e1 : (xs.map bstr).take xs.length = xs.map bstr := List.take_of_length_le (by simp)
   have e2 : (xs.map bstr).drop xs.length = [] := List.drop_of_length_le (by simp)
   rw [e1, e2]
   congr 2
   simp
  ·exact ⟨rfl, rfl, rfl, by simp [Y2D, Y6L], fun b hb => (Y1A w.drew _).block b hb⟩
  ·have e3 : ∀ n, (Builtin.zeroCells (Value.string ⟨#[]⟩).cells n).toList.length = n := fun n => by rw [Array.length_toList (xs := Builtin.zeroCells (Value.string ⟨#[]⟩).cells n), hz]
   rw [e3]
   have := hge c
   omega
 rcases own_str ho with ⟨a, rfl, rfl, rfl⟩ | ⟨g, c, cur, rfl, hc0, rfl, hg, hl, hm⟩
 ·exact endgrow a 0 (by simpa using hk) (Nat.le_refl _) (by simp) rfl (fun _ => rfl) (by simp)
 ·have hne : gl ≠ g := fun e => by
   have := (hbs g (by simp)).1
   rw [e] at hgok
   exact this hgok
  have hcell : ∀ j, w.cell? ⟨g, j, none⟩ = (xs.map bstr ++ cur)[j]? := Y2s hg
  have hcs0 : ∀ (j : Nat) (u : Value), (xs.map bstr)[j]? = some u → w.cell? ⟨g, 0 + j, none⟩ = some u := by
   intro j u hu
   have hj := (List.getElem?_eq_some_iff.1 hu).1
   rw [Nat.zero_add, hcell, List.getElem?_append_left hj]
   exact hu
  have hgsz : g < w.heap.size := Y0K hg
  have hcs1 : ∀ a, some (⟨g, 0, none⟩ : Addr) = some a → ∀ (j : Nat) (u : Value), (xs.map bstr)[j]? = some u → w.cell? (a.add j) = some u := by
   intro a ea j u hu
   cases ea
   rw [Y27]
   exact hcs0 j u hu
  by_cases hroom : xs.length + 1 ≤ c
  ·-- there is room
   have hcur : 0 < cur.length := by omega
   obtain ⟨u0, cur', rfl⟩ : ∃ u0 cur', cur = u0 :: cur' := by
    cases cur with
    | nil => simp at hcur
    | cons u t => exact ⟨u, t, rfl⟩
   have inpl : ∀ (w' : World) (vs : List Value) (j : Nat), w' = setCells (setCells w.drew g j vs) g k [bstr s] ∨ (vs = [] ∧ w' = setCells w g k [bstr s]) → Y2K (Y2K (xs.map bstr ++ u0 :: cur') j vs) k [bstr s] = (xs.take k ++ s :: xs.drop k).map bstr ++ cur' →
     St ok0 w0 w' Γ (Λ.set i (own tStr 9 (.slice (some ⟨g, 0, none⟩) (xs.length + 1) c) (xs.take k ++ s :: xs.drop k))) := by
    intro w' vs j hw hset
    have hheap : w'.heap[g]? = some (.cells ((xs.take k ++ s :: xs.drop k).map bstr ++ cur').toArray 9 (0, 0)) := by
     rw [← hset]
     rcases hw with rfl | ⟨rfl, rfl⟩
     ·exact Y1Q [bstr s] (Y1Q vs (w := w.drew) hg)
     ·exact Y1Q [bstr s] hg
    have hoff : Off [g] w w' := by
     rcases hw with rfl | ⟨rfl, rfl⟩
     ·exact ((Off.drew [g] w).trans (Y1J g vs _ _)).trans (Y1J g [bstr s] _ _)
     ·exact Y1J g [bstr s] _ _
    refine fin (bs' := [g]) hoff (by simp) (fun b hb => ?_) fun ok' => ?_
    ·simp at hb; subst hb
     exact ⟨.inl (by simp), Y0K hheap⟩
    ·have := own_of (w := w') (g := g) (c := c) (xs := xs.take k ++ s :: xs.drop k) (cur := cur') ok' hc0 hheap (by simp at hl ⊢; omega) hm
     rw [hlen] at this
     exact this
   have hfz : ∀ j, w.frozen? ⟨g, j, none⟩ = false := by
    intro j
    simp [World.frozen?, hg]
   rcases Nat.lt_or_ge k xs.length with hk1 | hk1
   ·refine (Any2.slices_Insert_string_shift L g 0 xs.length c k gl 0 1 1 (xs.map bstr) [bstr s] w hk1 (by omega) hroom (by unfold maxLen at hm; omega) hne (by simp) rfl hcs0 (fun j hj => ?_) (fun j hj => hfz _) hvs h1c h1v 9 9 1 c ?_ ?_ (by omega) ?_ ?_).mono ?_
    ·rw [Nat.zero_add, hcell, List.getElem?_eq_getElem (by simp; omega)]
     rfl
    ·simp [World.shape?, hgl]
    ·simp [World.shape?, hg]
     simp at hl; omega
    ·simp [World.frozen?, hgl]
    ·simp [World.frozen?, hgl]
    ·rintro e w' ⟨rfl, rfl⟩
     refine ⟨_, rfl, inpl _ ((xs.map bstr).drop k) (k + 1) (.inl ?_) ?_⟩
     ·rw [Y4D, Y4D, Nat.zero_add, Nat.zero_add]
     ·rw [hmap]
      have e1 : Y2K (xs.map bstr ++ u0 :: cur') (k + 1) ((xs.map bstr).drop k) = (xs.map bstr ++ u0 :: cur').take (k + 1) ++ (xs.map bstr).drop k ++ (xs.map bstr ++ u0 :: cur').drop (k + 1 + ((xs.map bstr).drop k).length) := Y2r _ _ _ (by simp; omega)
      have e2 : (xs.map bstr ++ u0 :: cur').drop (k + 1 + ((xs.map bstr).drop k).length) = cur' := by
       have : k + 1 + ((xs.map bstr).drop k).length = (xs.map bstr).length + 1 := by simp; omega
       rw [this, ← List.drop_drop, List.drop_left]
       rfl
      have e3 : (xs.map bstr ++ u0 :: cur').take (k + 1) = (xs.map bstr).take k ++ [(xs.map bstr)[k]'(by simpa using hk1)] := by
       rw [List.take_append_of_le_length (by simp; omega), List.take_succ_eq_append_getElem (by simpa using hk1)]
      rw [e1, e2, e3, Y2r _ _ _ (by simp; omega)]
      have e4 : ((xs.map bstr).take k ++ [(xs.map bstr)[k]'(by simpa using hk1)] ++ (xs.map bstr).drop k ++ cur').take k = (xs.map bstr).take k := by
       rw [List.append_assoc, List.append_assoc, List.take_append_of_le_length (by simp; omega), List.take_of_length_le (by simp; omega)]
      have e5 : ((xs.map bstr).take k ++ [(xs.map bstr)[k]'(by simpa using hk1)] ++ (xs.map bstr).drop k ++ cur').drop (k + 1) = (xs.map bstr).drop k ++ cur' := by
       have hl1 : k + 1 = ((xs.map bstr).take k ++ [(xs.map bstr)[k]'(by simpa using hk1)]).length := by simp; omega
       rw [List.append_assoc, hl1, List.drop_left]
      rw [e4, show k + [bstr s].length = k + 1 from rfl, e5]
      simp
   ·have ek : k = xs.length := by omega
    rw [ek]
    refine (Any2.slices_Insert_string_end_room L g 0 xs.length c gl 0 1 1 [bstr s] w (by omega) hroom (by unfold maxLen at hm; omega) rfl (fun j hj => ?_) (fun j hj => hfz _) hvs h1v).mono ?_
    ·rw [Nat.zero_add, hcell, List.getElem?_eq_getElem (by simp; omega)]
     rfl
    ·rintro e w' ⟨rfl, rfl⟩
     refine ⟨_, rfl, ?_⟩
     have := inpl (World.setCells w g (0 + xs.length) [bstr s]) [] 0 (.inr ⟨rfl, by rw [Y4D, Nat.zero_add, ek]⟩) ?_
     ·rw [ek] at this; exact this
     ·rw [hmap, ek]
      show Y2K (xs.map bstr ++ u0 :: cur') xs.length [bstr s] = _
      have hl1 : xs.length = (xs.map bstr).length := by simp
      rw [Y2r _ _ _ (by simp), hl1, List.take_left, List.take_of_length_le (Nat.le_refl _), List.drop_of_length_le (Nat.le_refl _), show [bstr s].length = 1 from rfl, ← List.drop_drop, List.drop_left]
      simp
  ·have hcl : c = xs.length := by omega
   rcases Nat.lt_or_ge k xs.length with hk1 | hk1
   ·refine (Any2.slices_Insert_string_grow L g 0 xs.length c k gl 0 1 1 (xs.map bstr) [bstr s] w hk1 (by omega) (by omega) (by omega) hb (by simp) rfl hcs0 hvs h1c h1v).mono ?_
    rintro e w' ⟨rfl, rfl⟩
    refine ⟨_, rfl, ?_⟩
    have hgc := hge c
    obtain ⟨W1, hW1⟩ : ∃ W1, w.alloc (.cells (((xs.map bstr).take k).toArray ++ Builtin.zeroCells (Value.string ⟨#[]⟩).cells (xs.length + 1 - k) ++ Builtin.zeroCells (Value.string ⟨#[]⟩).cells (grownCap w (xs.length + 1) c (ren.t 9) - (xs.length + 1))) (ren.t 9)) = W1 := ⟨_, rfl⟩
    have hn1 := Y2N w (.cells (((xs.map bstr).take k).toArray ++ Builtin.zeroCells (Value.string ⟨#[]⟩).cells (xs.length + 1 - k) ++ Builtin.zeroCells (Value.string ⟨#[]⟩).cells (grownCap w (xs.length + 1) c (ren.t 9) - (xs.length + 1))) (ren.t 9))
    have hb1 := Y1A w (.cells (((xs.map bstr).take k).toArray ++ Builtin.zeroCells (Value.string ⟨#[]⟩).cells (xs.length + 1 - k) ++ Builtin.zeroCells (Value.string ⟨#[]⟩).cells (grownCap w (xs.length + 1) c (ren.t 9) - (xs.length + 1))) (ren.t 9))
    rw [hW1] at hn1 hb1 ⊢
    rw [Y4D, Y4D]
    obtain ⟨Z1, hZ1⟩ : ∃ Z1, (Builtin.zeroCells (Value.string ⟨#[]⟩).cells (xs.length + 1 - k)).toList = Z1 := ⟨_, rfl⟩
    obtain ⟨Z2, hZ2⟩ : ∃ Z2, (Builtin.zeroCells (Value.string ⟨#[]⟩).cells (grownCap w (xs.length + 1) c (ren.t 9) - (xs.length + 1))).toList = Z2 := ⟨_, rfl⟩
    have hz1 : Z1.length = xs.length + 1 - k := by rw [← hZ1, Array.length_toList (xs := Builtin.zeroCells (Value.string ⟨#[]⟩).cells (xs.length + 1 - k)), hz]
    have hz2 : Z2.length = grownCap w (xs.length + 1) c (ren.t 9) - (xs.length + 1) := by rw [← hZ2, Array.length_toList (xs := Builtin.zeroCells (Value.string ⟨#[]⟩).cells (grownCap w (xs.length + 1) c (ren.t 9) - (xs.length + 1))), hz]
    have hn2 : W1.heap[w.heap.size]? = some (.cells ((xs.map bstr).take k ++ Z1 ++ Z2).toArray 9 (0, 0)) := by
     rw [hn1, ← hZ1, ← hZ2, h9]
     simp
    have hl0 : ((xs.map bstr).take k).length = k := by simp; omega
    have hset : Y2K (Y2K ((xs.map bstr).take k ++ Z1 ++ Z2) k [bstr s]) (k + 1) ((xs.map bstr).drop k) = (xs.take k ++ s :: xs.drop k).map bstr ++ Z2 := by
     have e1 : ((xs.map bstr).take k ++ Z1 ++ Z2).take k = (xs.map bstr).take k := by
      rw [List.append_assoc, List.take_append_of_le_length (by omega), List.take_of_length_le (by omega)]
     have e0 := Y2r [bstr s] ((xs.map bstr).take k ++ Z1 ++ Z2) k (by rw [List.length_append, List.length_append, hz1, hl0, List.length_singleton]; omega)
     rw [e1] at e0
     rw [hmap, e0, Y2r _ _ _ (by simp only [List.length_append, List.length_drop, List.length_map, List.length_singleton, hz1, hl0]; omega)]
     have e2 : ((xs.map bstr).take k ++ [bstr s] ++ ((xs.map bstr).take k ++ Z1 ++ Z2).drop (k + [bstr s].length)).take (k + 1) = (xs.map bstr).take k ++ [bstr s] := by
      rw [List.take_append_of_le_length (by simp; omega), List.take_of_length_le (by simp; omega)]
     have e3 : ((xs.map bstr).take k ++ [bstr s] ++ ((xs.map bstr).take k ++ Z1 ++ Z2).drop (k + [bstr s].length)).drop (k + 1 + ((xs.map bstr).drop k).length) = Z2 := by
      have q1 : k + 1 = ((xs.map bstr).take k ++ [bstr s]).length := by simp; omega
      rw [← List.drop_drop, q1, List.drop_left, List.drop_drop]
      have q2 : k + [bstr s].length + ((xs.map bstr).drop k).length = ((xs.map bstr).take k ++ Z1).length := by simp [hz1]; omega
      rw [q2, List.drop_left]
     rw [e2, e3]
     simp
    have hheap : (setCells (setCells W1.drew w.heap.size k [bstr s]).drew w.heap.size (k + 1) ((xs.map bstr).drop k)).heap[w.heap.size]? = some (.cells ((xs.take k ++ s :: xs.drop k).map bstr ++ Z2).toArray 9 (0, 0)) := by
     rw [← hset]
     exact Y1Q _ (w := (setCells W1.drew w.heap.size k [bstr s]).drew) (Y1Q [bstr s] (w := W1.drew) hn2)
    refine fresh _ _ Z2 hheap ?_ (by rw [hz2]; omega) (hle c)
    have o1 : Off [w.heap.size] W1 (setCells (setCells W1.drew w.heap.size k [bstr s]).drew w.heap.size (k + 1) ((xs.map bstr).drop k)) :=
     ((Off.drew _ W1).trans (Y1J _ _ _ _)).trans ((Off.drew _ _).trans (Y1J _ _ _ _))
    exact ⟨o1.os.trans hb1.os, o1.tape.trans hb1.tape, o1.output.trans hb1.output, Nat.le_trans hb1.size o1.size, fun b hb => (o1.block b (Nat.lt_of_lt_of_le hb hb1.size) (by simp; omega)).trans (hb1.block b hb)⟩
   ·exact endgrow _ c (by omega) (by omega) (by omega) rfl (by intro h; cases h) hcs1
end
end
section
open Go Go.RowKit
section
variable {P : Program} {N : Nat} {Q : QE} {ρ : Env} {w w' : World} {w0 : Base} {ok0 : Nat → Prop} {Γ : List It} {Λ : List LObj}
variable {d : Option Tmp} {ty : TypeId} {pos : String} {aft : Array Edge} {gd : Option (Nat × Bool)} {ops : Array Oper} {rest : List Oper}
theorem St.drewN (hs : St ok0 w0 w Γ Λ) (q : Nat) : St ok0 w0 (w.drewN q) Γ Λ := hs.below ⟨rfl, rfl, rfl, Nat.le_refl _, fun _ _ => rfl⟩
theorem Y8N {T K V : TypeId} {a : Option Nat} (hT : P.underlying T = some (.map K V)) (w : World) : (Op.equal T (.map a) (.map none)).run P w = .ok a.isNone w := by
 show (Op.equalIn 10000 T (.map a) (.map none)).run P w = _
 unfold Op.equalIn
 refine (Y0o (Y2d hT w)).trans ?_
 cases a <;> rfl
theorem WL.nilEqM {T K V T' : TypeId} {x : Operand} {a : Option Nat} (hT : P.underlying T = some (.map K V)) (hx : ρ.ev x = .map a)
  (K : WL P N ops Q rest (putE ρ d (.bool a.isNone)) w)
  (hg : Y0C ops ρ ⟨d, .binOp .eql T x (.const (.map none)) T', ty, pos, aft, gd⟩ = true := by rfl) (hd : fits N d = true := by rfl) :
  WL P N ops Q (⟨d, .binOp .eql T x (.const (.map none)) T', ty, pos, aft, gd⟩ :: rest) ρ w :=
 WL.value hg hd (v := .bool a.isNone) (w' := w) (by
  show (do pure (Next.value (← (do eqGuard .eql T x (.const (.map none)) (ρ.ev x) (.map none); binOp .eql T (ρ.ev x) (.map none)))) : Sem Next).run P w = _
  rw [hx]
  refine Y1K ((Y0o (x := ()) (w' := w) (by unfold eqGuard; rfl)).trans ?_)
  show (do pure (Value.bool (← Op.equal T (.map a) (.map none))) : Sem Value).run P w = _
  exact (Y0o (Y8N hT w)).trans rfl) K
theorem WL.callR {f : FuncId} {args : List Operand} {ats : Array TypeId} {vs : List Value} {R : Value → World → Prop} (hf : FN P f) (ha : Evs ρ args vs)
  (hc : Calls P f vs.toArray w fun e w' => ∃ v, e = .returned v ∧ R v w')
  (K : ∀ v w', R v w' → WL P N ops Q rest (putE ρ d v) w')
  (hg : Y0C ops ρ ⟨d, .call { callee := .value (.func f), args := args.toArray, argTypes := ats }, ty, pos, aft, gd⟩ = true := by rfl) (hd : fits N d = true := by rfl) :
  WL P N ops Q (⟨d, .call { callee := .value (.func f), args := args.toArray, argTypes := ats }, ty, pos, aft, gd⟩ :: rest) ρ w := by
 refine WL.enter (R := R) hg hd (w' := w) (f := f) (args := vs.toArray) ?_ hc K
 show (invoke (.fn (.func f) #[]) (#[] ++ args.toArray.map ρ.ev)).run P w = _
 rw [List.map_toArray, ha.map]
 simpa [invoke] using hf vs.toArray w
theorem St.bldWeak {φ : Type} {K : FK φ} {C : List (BE φ) → Prop} {g : Nat} {x : List (List UInt8 × List φ)} (hs : St ok0 w0 w Γ (bldc K C g x :: Λ)) : St ok0 w0 w Γ (bldo K g x :: Λ) := by
 obtain ⟨b, ⟨_, hc⟩, h⟩ := hs.bldOpen
 exact St.bldClose (K := K) h trivial hc
theorem WL.holeLook {φ : Type} (K : FK φ) {h : Hole φ} {g : Nat} {t kt et : TypeId} {m xo : Operand} (hs : St ok0 w0 w Γ (allo (Y5K K g h) :: Λ)) (hk : KK P kt bstr) (ht : P.underlying t = some (.map kt et)) (hm : ρ.ev m = .map (some g)) (hx : ρ.ev xo = bstr h.k) (hz : ∀ w, (zeroValue et).run P w = .ok (.map none) w)
  (hb : ∀ q ∈ h.b1, q.1 ≠ h.k)
  (K1 : WL P N ops Q rest (putE ρ d (.map (some h.gi))) w)
  (hg : Y0C ops ρ ⟨d, .lookup t m xo false, ty, pos, aft, gd⟩ = true := by rfl) (hd : fits N d = true := by rfl) :
  WL P N ops Q (⟨d, .lookup t m xo false, ty, pos, aft, gd⟩ :: rest) ρ w := by
 have h1 : St ok0 w0 w Γ (mapo bstr Y2i g (outL h.all) :: (mapo bstr (tRaw K.n) h.gi (ents K (h.f1 ++ (h.y, h.v) :: h.f2)) :: (owns K (h.f1 ++ h.f2) ++ Y35 K (h.b1 ++ h.b2)) ++ Λ)) := hs.allOpen
 refine WL.lookup (V := Y2i) (z0 := Value.map none) h1 0 rfl hk ht hm hx hz (fun _ _ => Y2A.2 ⟨rfl, rfl⟩) rfl (fun v h3 => ?_) hg hd
 have hv := h3.cellv 0 rfl
 have ha : (outL h.all).lookup h.k = some (Value.map (some h.gi)) := Y7x hb
 rw [ha] at hv
 rw [hv]
 exact K1
end
end
section
open Go Go.RowKit
section
variable {w : World} {w0 : Base} {ok0 : Nat → Prop} {Γ : List It} {Λ : List LObj}
theorem St.drop1 {o : LObj} (hs : St ok0 w0 w Γ (o :: Λ)) : St ok0 w0 w Γ Λ := by
 obtain ⟨hB, bss, hN, hlt, hO, hA⟩ := hs
 match bss, hO with
 | [], h => exact h.elim
 | bs :: b2, ⟨_, h2⟩ =>
  have hsub : b2.flatten.Sublist (bs :: b2).flatten := by rw [List.flatten_cons]; exact List.sublist_append_right _ _
  have hm : ∀ b, reg ok0 w0 (bs :: b2).flatten b → b < w.heap.size → w.heap[b]? = w.heap[b]? ∧ reg ok0 w0 b2.flatten b := fun b hr _ => ⟨rfl, hr.1, fun h => hr.2 (hsub.subset h)⟩
  exact ⟨hB, b2, hN.sublist hsub, fun b hb => hlt b (hsub.subset hb), h2.move hm fun _ _ => rfl, hA.move hm⟩
theorem St.dropL {R : List LObj} (hs : St ok0 w0 w Γ (R ++ Λ)) : St ok0 w0 w Γ Λ := hs.allClose.drop1
end
section
variable {φ : Type} (K : FK φ)
def inno (gi : Nat) (fs : List φ) : LObj where
 H := fun ok bs w => ∃ l : List (φ × Value), l.map (·.1) = fs ∧ (allo (inL K ([], gi, l))).H ok bs w
 fn := by
  rintro ok ok' bs bs' w ⟨l, _, bss, rfl, _, h⟩ ⟨l', _, bss', rfl, _, h'⟩
  have hfp : ∀ (o : BE φ), ∀ p ∈ inP K o, ∀ (ok : Nat → Prop) (bs : List Nat) (w : World), p.1.H ok bs w → bs = p.2 := by
   intro o p hp ok bs w hh
   unfold inP at hp
   rcases List.mem_cons.1 hp with rfl | hp
   ·exact hh.1
   ·obtain ⟨e, _, rfl⟩ := List.mem_map.1 hp
    exact Y7F hh
  have e1 := Own.eqs (hfp ([], gi, l)) h
  have e2 := Own.eqs (hfp ([], gi, l')) h'
  have m1 := Own.mem h
  have m2 := Own.mem h'
  have key := Y7l (ok := ok) (ok' := ok') (w := w) K [([], gi, l)] [([], gi, l')] rfl (fun o ho => by
   simp at ho; subst ho
   exact m1 _ (List.mem_cons_self ..)) (fun o ho => by
   simp at ho; subst ho
   exact m2 _ (List.mem_cons_self ..))
  simp only [List.flatMap_cons, List.flatMap_nil, List.append_nil] at key
  rw [e1, e2, key]
 lt := by
  rintro ok bs w ⟨l, _, h⟩ k hk
  exact (allo _).lt h k hk
 move := by
  rintro ok ok' bs w w' ⟨l, hl, h⟩ hk hm
  exact ⟨l, hl, (allo _).move h hk hm⟩
variable {w : World} {w0 : Base} {ok0 : Nat → Prop} {Γ : List It} {Λ : List LObj} {g gi : Nat} {fs : List φ} {x : List (List UInt8 × List φ)} {C : List (BE φ) → Prop}
theorem Y7Q (k : List UInt8) (gi : Nat) (l : List (φ × Value)) : inL K (k, gi, l) = mapo bstr (tRaw K.n) gi (ents K l) :: owns K l := by
 unfold inL inP ents owns
 rw [List.map_cons, List.map_map]
 rfl
theorem St.innOpen (hs : St ok0 w0 w Γ (inno K gi fs :: Λ)) : ∃ l : List (φ × Value), l.map (·.1) = fs ∧ St ok0 w0 w Γ (mapo bstr (tRaw K.n) gi (ents K l) :: (owns K l ++ Λ)) := by
 obtain ⟨hB, bss, hN, hlt, hO, hA⟩ := hs
 match bss, hO with
 | [], h => exact h.elim
 | bs :: bss, ⟨⟨l, hl, h1⟩, h2⟩ =>
  have h3 : St ok0 w0 w Γ (allo (inL K ([], gi, l)) :: Λ) := ⟨hB, bs :: bss, hN, hlt, ⟨h1, h2⟩, hA⟩
  have h4 := h3.allOpen
  rw [Y7Q] at h4
  exact ⟨l, hl, h4⟩
theorem St.innClose {l : List (φ × Value)} (hs : St ok0 w0 w Γ (mapo bstr (tRaw K.n) gi (ents K l) :: (owns K l ++ Λ))) (hl : l.map (·.1) = fs) : St ok0 w0 w Γ (inno K gi fs :: Λ) := by
 have h1 : St ok0 w0 w Γ (inL K ([], gi, l) ++ Λ) := by rw [Y7Q]; exact hs
 obtain ⟨hB, bss, hN, hlt, hO, hA⟩ := h1.allClose
 match bss, hO with
 | [], h => exact h.elim
 | bs :: bss, ⟨h1, h2⟩ => exact ⟨hB, bs :: bss, hN, hlt, ⟨⟨l, hl, h1⟩, h2⟩, hA⟩
theorem Y6v (f1 f2 : List (φ × Value)) (y : φ) (v : Value) : (owns K (f1 ++ (y, v) :: f2)).Perm (own tStr K.E v (K.fe y) :: owns K (f1 ++ f2)) := by
 unfold owns
 rw [List.map_append, List.map_cons, List.map_append]
 exact List.perm_middle
variable {P : Program} {N : Nat} {Q : QE} {ρ : Env} {d : Option Tmp} {ty : TypeId} {pos : String} {aft : Array Edge} {gd : Option (Nat × Bool)} {ops : Array Oper} {rest : List Oper}
theorem WL.innPut {t kt et : TypeId} {m xo u : Operand} {y : φ} {v : Value} (hs : St ok0 w0 w Γ (own tStr K.E v (K.fe y) :: inno K gi fs :: Λ)) (hk : KK P kt bstr) (ht : P.underlying t = some (.map kt et)) (hm : ρ.ev m = .map (some gi)) (hx : ρ.ev xo = bstr (K.nm y))
  (hu : ρ.ev u = .agg (K.fc y v).toArray) (h1 : (K.fc y v).length = K.n) (h2 : ∀ u ∈ K.fc y v, u.oneCell' = true)
  (K1 : ∀ w', St ok0 w0 w' Γ (inno K gi (fput K.nm y fs) :: Λ) → WL P N ops Q rest (putE ρ d undef) w')
  (hg : Y0C ops ρ ⟨d, .mapUpdate t m xo u, ty, pos, aft, gd⟩ = true := by rfl) (hd : fits N d = true := by rfl) :
  WL P N ops Q (⟨d, .mapUpdate t m xo u, ty, pos, aft, gd⟩ :: rest) ρ w := by
 obtain ⟨l, hl, h3⟩ := (hs.perm (List.Perm.swap _ _ _)).innOpen
 cases hf : fs.find? (fun q => K.nm y == K.nm q) with
 | none =>
  rw [← hl] at hf
  have e6 : ents K l ++ [(K.nm y, K.fc y v)] = ents K (l ++ [(y, v)]) := by
   unfold ents
   rw [List.map_append]
   rfl
  refine WL.mapUpdate (V := tRaw K.n) (y := K.fc y v) h3 0 rfl hk ht hm hx hu (fun _ _ => Y4m.2 ⟨rfl, h1, h2⟩) ((Y2w (Y5A K hf)).trans e6) (fun w' h5 => ?_) hg hd
  have h6 : St ok0 w0 w' Γ (mapo bstr (tRaw K.n) gi (ents K (l ++ [(y, v)])) :: (owns K l ++ (own tStr K.E v (K.fe y) :: Λ))) := h5
  refine K1 w' (St.innClose (K := K) (l := l ++ [(y, v)]) (h6.perm (List.Perm.cons _ ?_)) ?_)
  ·have e9 : owns K (l ++ [(y, v)]) = owns K l ++ [own tStr K.E v (K.fe y)] := by
    unfold owns
    rw [List.map_append]
    rfl
   rw [e9, List.append_assoc]
   exact .refl _
  ·rw [List.map_append, ← hl, Y4w hf]
   rfl
 | some y0 =>
  rw [← hl] at hf
  obtain ⟨f1, v0, f2, rfl, q1, q2, q3⟩ := Y94 K hf
  have q3' : ∀ e ∈ f1, K.nm y0 ≠ K.nm e.1 := fun e he => by rw [← q1]; exact q3 e he
  refine WL.mapUpdate (V := tRaw K.n) (y := K.fc y v) h3 0 rfl hk ht hm hx hu (l' := ents K (f1 ++ (y, v) :: f2)) (fun _ _ => Y4m.2 ⟨rfl, h1, h2⟩) (by rw [q1]; exact Y6w K q1 q3') (fun w' h5 => ?_) hg hd
  have h6 : St ok0 w0 w' Γ (mapo bstr (tRaw K.n) gi (ents K (f1 ++ (y, v) :: f2)) :: (owns K (f1 ++ (y0, v0) :: f2) ++ (own tStr K.E v (K.fe y) :: Λ))) := h5
  have h7 : St ok0 w0 w' Γ (own tStr K.E v0 (K.fe y0) :: (mapo bstr (tRaw K.n) gi (ents K (f1 ++ (y, v) :: f2)) :: (owns K (f1 ++ f2) ++ (own tStr K.E v (K.fe y) :: Λ)))) := h6.perm (by
   refine (List.Perm.cons _ ((Y6v K f1 f2 y0 v0).append_right _)).trans ?_
   exact List.Perm.swap _ _ _)
  refine K1 w' (St.innClose (K := K) (l := f1 ++ (y, v) :: f2) (h7.drop1.perm (List.Perm.cons _ ?_)) ?_)
  ·refine List.perm_middle.trans ?_
   exact ((Y6v K f1 f2 y v).symm).append_right Λ
  ·rw [List.map_append, List.map_cons, ← hl, List.map_append, List.map_cons, Y7p q1 (fun e he => by
    obtain ⟨q, hq, rfl⟩ := List.mem_map.1 he
    exact q3' q hq)]
theorem Y7J {b1 b2 : List (BE φ)} {k : List UInt8} {gi gi' : Nat} {l l' : List (φ × Value)} (hb : ∀ q ∈ b1, q.1 ≠ k) : mset (outL (b1 ++ (k, gi, l) :: b2)) k (Value.map (some gi')) = outL (b1 ++ (k, gi', l') :: b2) := by
 unfold outL
 induction b1 with
 | nil => rw [List.nil_append, List.nil_append, List.map_cons, List.map_cons, mset, if_pos (by simp)]
 | cons q b1 ih =>
  rw [List.cons_append, List.cons_append, List.map_cons, List.map_cons, mset]
  have : (k == q.1) = false := by
   rw [beq_eq_false_iff_ne]
   exact fun e => hb q (by simp) e.symm
  rw [this, if_neg (by simp), ih fun r hr => hb r (by simp [hr])]
theorem WL.bldAttach {t kt et : TypeId} {m xo u : Operand} {k : List UInt8} (hs : St ok0 w0 w Γ (inno K gi fs :: bldc K C g x :: Λ)) (hk : KK P kt bstr) (ht : P.underlying t = some (.map kt et)) (hm : ρ.ev m = .map (some g)) (hx : ρ.ev xo = bstr k) (hu : ρ.ev u = .map (some gi))
  (K1 : ∀ w', St ok0 w0 w' Γ (bldo K g (mset x k fs) :: Λ) → WL P N ops Q rest (putE ρ d undef) w')
  (hg : Y0C ops ρ ⟨d, .mapUpdate t m xo u, ty, pos, aft, gd⟩ = true := by rfl) (hd : fits N d = true := by rfl) :
  WL P N ops Q (⟨d, .mapUpdate t m xo u, ty, pos, aft, gd⟩ :: rest) ρ w := by
 obtain ⟨b, ⟨hC, hc⟩, h1⟩ := (hs.perm (List.Perm.swap _ _ _)).bldOpen
 subst hc
 have h2 : St ok0 w0 w Γ (mapo bstr Y2i g (outL b) :: (Y35 K b ++ (inno K gi fs :: Λ))) := h1
 have fin : ∀ (b' : List (BE φ)) (l : List (φ × Value)) (w' : World), l.map (·.1) = fs → cont b' = mset (cont b) k fs → mset (outL b) k (Value.map (some gi)) = outL b' → St ok0 w0 w' Γ (bldL K g b' ++ Λ) → St ok0 w0 w' Γ (bldo K g (mset (cont b) k fs) :: Λ) :=
  fun b' l w' _ h1 _ h2 => St.bldClose (K := K) (b := b') h2 trivial h1
 cases hl : (cont b).lookup k with
 | none =>
  refine WL.mapUpdate (V := Y2i) (y := Value.map (some gi)) h2 0 rfl hk ht hm hx hu (fun _ _ => Y2A.2 ⟨rfl, rfl⟩) (Y2w (Y3T hl)) (fun w' h3 => ?_) hg hd
  have h4 : St ok0 w0 w' Γ (mapo bstr Y2i g (outL b ++ [(k, Value.map (some gi))]) :: (Y35 K b ++ (inno K gi fs :: Λ))) := h3
  have h5 : St ok0 w0 w' Γ (inno K gi fs :: (mapo bstr Y2i g (outL b ++ [(k, Value.map (some gi))]) :: (Y35 K b ++ Λ))) := h4.perm (by
   refine (List.Perm.cons _ List.perm_middle).trans ?_
   exact List.Perm.swap _ _ _)
  obtain ⟨l, hl2, h6⟩ := h5.innOpen
  refine K1 w' (fin (b ++ [(k, gi, l)]) l w' hl2 ?_ ?_ ?_)
  ·unfold cont at hl ⊢
   rw [Y2w hl, List.map_append, ← hl2]
   rfl
  ·rw [Y2w (Y3T hl)]
   unfold outL
   rw [List.map_append]
   rfl
  ·have e1 : bldL K g (b ++ [(k, gi, l)]) = mapo bstr Y2i g (outL b ++ [(k, Value.map (some gi))]) :: (Y35 K b ++ (mapo bstr (tRaw K.n) gi (ents K l) :: owns K l)) := by
    rw [Y3U]
    unfold outL Y35
    rw [List.map_append, List.flatMap_append, List.map_append]
    congr 2
    have := Y7Q K k gi l
    unfold inL at this
    simp only [List.flatMap_cons, List.flatMap_nil, List.append_nil]
    exact this
   rw [e1]
   refine h6.perm ?_
   rw [List.cons_append, List.append_assoc]
   refine List.Perm.trans ?_ (List.Perm.cons _ (List.perm_append_comm_assoc _ _ _))
   exact (List.perm_middle (l₁ := mapo bstr (tRaw K.n) gi (ents K l) :: owns K l))
 | some fs0 =>
  obtain ⟨b1, o, b2, rfl, e1, e2, e3, e4⟩ := Y6j hl
  obtain ⟨k0, gi0, l0⟩ := o
  simp only at e1 e2 e3
  subst e1
  refine WL.mapUpdate (V := Y2i) (y := Value.map (some gi)) h2 0 rfl hk ht hm hx hu (fun _ _ => Y2A.2 ⟨rfl, rfl⟩) (Y7J (l' := []) e4) (fun w' h3 => ?_) hg hd
  have h4 : St ok0 w0 w' Γ (mapo bstr Y2i g (outL (b1 ++ (k0, gi, []) :: b2)) :: (Y35 K (b1 ++ (k0, gi0, l0) :: b2) ++ (inno K gi fs :: Λ))) := h3
  have h5 : St ok0 w0 w' Γ (inL K (k0, gi0, l0) ++ (inno K gi fs :: (mapo bstr Y2i g (outL (b1 ++ (k0, gi, []) :: b2)) :: (Y35 K (b1 ++ b2) ++ Λ)))) := h4.perm (by
   refine (List.Perm.cons _ ((Y31 K b1 b2 (k0, gi0, l0)).append_right _)).trans ?_
   rw [List.append_assoc]
   refine (List.perm_middle.symm).trans ?_
   refine List.Perm.append_left _ ?_
   refine (List.Perm.cons _ List.perm_middle).trans ?_
   exact List.Perm.swap _ _ _)
  obtain ⟨l, hl2, h6⟩ := h5.dropL.innOpen
  refine K1 w' (fin (b1 ++ (k0, gi, l) :: b2) l w' hl2 ?_ ?_ ?_)
  ·rw [Y5C (l := l0) e4, hl2, show cont (b1 ++ (k0, gi, l0) :: b2) = cont (b1 ++ (k0, gi0, l0) :: b2) by unfold cont; simp]
  ·exact Y7J e4
  ·have e5 : outL (b1 ++ (k0, gi, []) :: b2) = outL (b1 ++ (k0, gi, l) :: b2) := by
    unfold outL
    simp
   rw [e5] at h6
   refine h6.perm ?_
   rw [Y3U, List.cons_append]
   have p1 := (Y31 K b1 b2 (k0, gi, l)).append_right Λ
   rw [Y7Q, List.cons_append, List.cons_append, List.append_assoc] at p1
   refine List.Perm.trans ?_ (List.Perm.cons _ p1.symm)
   refine List.Perm.trans ?_ (List.Perm.swap _ _ _)
   refine List.Perm.cons _ ?_
   exact List.perm_middle
end
end
end Go.Proofs.YtpfgdjfiimknlaaGreatL
namespace Go.Proofs.YtpfgdjfiimknlaaGreat
section
open Go Go.RowKit Go.Proofs.YtpfgdjfiimknlaaGreatL
abbrev Y5S (r : Y0L) : List Value := [.bool r.Set, .int .i64 r.Tag, .int .i64 r.Client, .int .i64 r.Seq, .int .i64 r.N, bstr r.S]
def Y25 (y : Y07) (v : Value) : List Value := [bstr y.Name, .bool y.Register.Set, .int .i64 y.Register.Tag, .int .i64 y.Register.Client, .int .i64 y.Register.Seq, .int .i64 y.Register.N, bstr y.Register.S, .bool y.HasMax, .int .i64 y.Max, .int .i64 y.Sum, v, .bool y.Flag]
abbrev Y49 (e : Y0y) : List Value := [.int .i64 e.Kind, bstr e.Object, bstr e.Field, .int .i64 e.N, bstr e.S]
theorem regR (ok : Nat → Prop) (w : World) (r : Y0L) : Y1c.R ok w r (Y5S r) := ⟨[.bool r.Set], _, rfl, rfl, ⟨[.int .i64 r.Tag], _, rfl, rfl, ⟨[.int .i64 r.Client], _, rfl, rfl, ⟨[.int .i64 r.Seq], _, rfl, rfl, ⟨[.int .i64 r.N], [bstr r.S], rfl, rfl, rfl⟩⟩⟩⟩⟩
theorem fieldR (ok : Nat → Prop) (w : World) (y : Y07) (v : Value) (h : (Y0b tStr).V ok w y.Elems v) : Y0w.R ok w y (Y25 y v) :=
 ⟨[bstr y.Name], _, rfl, rfl, ⟨Y5S y.Register, [.bool y.HasMax, .int .i64 y.Max, .int .i64 y.Sum, v, .bool y.Flag], rfl, regR ok w y.Register, ⟨[.bool y.HasMax], _, rfl, rfl, ⟨[.int .i64 y.Max], _, rfl, rfl, ⟨[.int .i64 y.Sum], _, rfl, rfl, ⟨[v], [.bool y.Flag], rfl, Y5M h, rfl⟩⟩⟩⟩⟩⟩
def FKf : FK Y07 where
 n := 12
 E := 9
 fc := Y25
 fe := Y07.Elems
 nm := Y07.Name
 inj := by
  intro x v x' v' h
  unfold Y25 at h
  simp only [List.cons.injEq] at h
  exact h.2.2.2.2.2.2.2.2.2.2.1
def FinO (g : Nat) (x1 : Y1u) (k f : List UInt8) (fs : List Y07) (O : LObj) : Prop :=
 (∃ h : Hole Y07, O = allo (Y5K FKf g h) ∧ cont h.all = x1 ∧ h.k = k ∧ f = h.y.Name ∧ (∀ e ∈ h.f1, f ≠ e.1.Name) ∧ ∀ q ∈ h.b1, q.1 ≠ k) ∨
 (∃ C, O = bldc FKf C g x1 ∧ fs.find? (fun q => f == q.Name) = none)
theorem Y6I (x : Y1u) (k : List UInt8) : ∃ fs, (Y1i x k).lookup k = some fs := by
 unfold Y1i
 cases h : x.lookup k with
 | some fs => exact ⟨fs, by simpa using h⟩
 | none =>
  simp only [Option.isNone_none, if_true]
  refine ⟨[], ?_⟩
  induction x with
  | nil => simp
  | cons a x ih =>
   rw [List.lookup_cons] at h
   rw [List.cons_append, List.lookup_cons]
   cases hk : k == a.1 with
   | false => rw [hk] at h; exact ih h
   | true => rw [hk] at h; cases h
theorem Y1T.calls {ok : Nat → Prop} {F : Base} {w0 : World} {x : Y1u} {u : Y0l} {g : Nat} {vu : Value} {r : Y1u} (hf : Y1T u x = some r) (hs : St ok F w0 [vl Y0r u vu] [bldo FKf g x]) :
  Calls Tryz.prog 29 #[.map (some g), vu] w0 fun e w' => ∃ v, e = .returned v ∧ ∃ y : Unit, v = .tuple #[] ∧ St ok F w' [] [bldo FKf g r] := by
 unfold Y1T at hf
 obtain ⟨cs, hl, rfl⟩ := hs.aggv (n := 4) 0 rfl rfl rfl
 obtain ⟨a, c, rfl⟩ := Y5g hs 0 rfl
 refine Y0t (fn := Tryz.f29) (N := 110) Tryz.func29 rfl Tryz.ntmps29 rfl ?_
 refine W.seqK fun K1 hK1 => ?_
 refine W.region ?_
 refine WL.box (vs := [.int .i64 u.Client, .int .i64 u.Seq, .int .i64 u.Tag, .slice a u.Effects.length c]) hs rfl rfl (fun g3 w hs => ?_)
 refine WL.nil ?_
 refine hK1 _ _ ?_
 have hs := hs.front 1 rfl
 refine W.seqK fun K2 hK2 => ?_
 refine W.region ?_
 refine WL.fieldAddr (m := 3) rfl Y88 rfl ?_
 refine WL.loadF (z := u.Effects) Y46 hs 1 rfl 0 rfl rfl TI72 (.inr rfl) rfl rfl (fun v hs => ?_)
 obtain ⟨a2, c2, rfl⟩ := hs.slice 0 rfl
 refine WL.len (v := .slice a2 u.Effects.length c2) rfl (Y10 UN72) ?_
 refine WL.move (v := .int .i64 0) rfl ?_
 refine WL.nil ?_
 refine hK2 _ _ ?_
 refine W.block ?_
 refine W.loop hf (fun s ρ w => match s with | (i, x) => ρ 0 = .map (some g) ∧ ρ 3 = .pointer (some ⟨g3, 0, none⟩) ∧ ρ 10 = .slice a2 u.Effects.length c2 ∧ ρ 11 = .int .i64 (u.Effects.length : Int) ∧ ρ 12 = .int .i64 i ∧ St ok F w [vl (Y0b Y0A) u.Effects (.slice a2 u.Effects.length c2), vl Y0r u (.agg [.int .i64 u.Client, .int .i64 u.Seq, .int .i64 u.Tag, .slice a u.Effects.length c].toArray)] [bldo FKf g x, blk g3 74 [.int .i64 u.Client, .int .i64 u.Seq, .int .i64 u.Tag, .slice a u.Effects.length c]]) ⟨rfl, rfl, rfl, rfl, rfl, hs⟩ ?_
 intro s ρ w o hI hf hbb
 obtain ⟨i, x⟩ := s
 obtain ⟨h0, h3, h10, h11, h12, hs⟩ := hI
 unfold Y1T.l1 at hf
 refine W.seqK fun K3 hK3 => ?_
 refine W.region ?_
 refine WL.bin (v := .bool (decide (i < (u.Effects.length : Int)))) h12 h11 (Y1n _ _ _) ?_
 refine WL.nil ?_
 refine hK3 _ _ ?_
 refine W.seqK fun K4 hK4 => ?_
 rcases iteE hf with ⟨hc, hf⟩ | ⟨hc, hf⟩
 ·refine W.cond_true (Y02 rfl hc) ?_
  refine W.skip ?_
  refine hK4 _ _ ?_
  obtain ⟨e, he, hf⟩ := Y0s hf
  obtain ⟨x', hx', hf⟩ := Y0s hf
  refine W.seqK fun K5 hK5 => ?_
  have Jend : ∀ (ρ : Env) (w : World), ρ 0 = .map (some g) → ρ 3 = .pointer (some ⟨g3, 0, none⟩) → ρ 10 = .slice a2 u.Effects.length c2 → ρ 11 = .int .i64 (u.Effects.length : Int) → ρ 12 = .int .i64 i →
    St ok F w [vl (Y0b Y0A) u.Effects (.slice a2 u.Effects.length c2), vl Y0r u (.agg [.int .i64 u.Client, .int .i64 u.Seq, .int .i64 u.Tag, .slice a u.Effects.length c].toArray)] [bldo FKf g x', blk g3 74 [.int .i64 u.Client, .int .i64 u.Seq, .int .i64 u.Tag, .slice a u.Effects.length c]] → K5 ρ w := by
   intro ρ w h0 h3 h10 h11 h12 hs
   refine hK5 _ _ ?_
   refine W.region ?_
   obtain ⟨j, ej, hf⟩ := letE hf
   refine WL.bin (v := .int .i64 j) h12 rfl (Y1V ej (Y1t _ _ _)) ?_
   refine WL.move (v := .int .i64 j) rfl ?_
   refine WL.nil ?_
   exact ⟨_, (Option.some.inj hf).symm, h0, h3, h10, h11, rfl, hs⟩
  unfold Y55 at hx'
  obtain ⟨y', hy', hx'⟩ := Y0s hx'
  have hx' := Option.some.inj hx'
  refine W.block ?_
  refine W.seqK fun K6 hK6 => ?_
  refine W.region ?_
  refine WL.indexAddr hs 0 rfl UN72 TI96 h10 h12 he (fun ad hs => ?_)
  refine WL.loadP hs 0 rfl TI96 (.inl rfl) rfl (fun v hs => ?_)
  obtain ⟨es, hl5, rfl⟩ := hs.aggv (n := 5) 0 rfl rfl rfl
  obtain rfl := Y5h hs 0 rfl
  refine WL.alloc hs ZV96 (fun g5 w hs => ?_)
  refine WL.storeAll (vs := Y49 e) hs 0 rfl TI96 rfl rfl rfl rfl (Y0P rfl) rfl (fun w hs => ?_)
  refine WL.nil ?_
  refine hK6 _ _ ?_
  have hs := (hs.front 1 rfl).pick [2, 3]
  have hs : St ok F w [vl (Y0b Y0A) u.Effects (.slice a2 u.Effects.length c2), vl Y0r u (.agg [.int .i64 u.Client, .int .i64 u.Seq, .int .i64 u.Tag, .slice a u.Effects.length c].toArray)] [bldo FKf g x, blk g5 96 (Y49 e), blk g3 74 [.int .i64 u.Client, .int .i64 u.Seq, .int .i64 u.Tag, .slice a u.Effects.length c]] := hs
  refine W.seqK fun K7 hK7 => ?_
  obtain ⟨fs, hfs⟩ := Y6I x e.Object
  have Jin : ∀ (C : List (BE Y07) → Prop) (ρ : Env) (w : World), ρ 0 = .map (some g) → ρ 3 = .pointer (some ⟨g3, 0, none⟩) → ρ 5 = .pointer (some ⟨g5, 0, none⟩) → ρ 10 = .slice a2 u.Effects.length c2 → ρ 11 = .int .i64 (u.Effects.length : Int) → ρ 12 = .int .i64 i →
    St ok F w [vl (Y0b Y0A) u.Effects (.slice a2 u.Effects.length c2), vl Y0r u (.agg [.int .i64 u.Client, .int .i64 u.Seq, .int .i64 u.Tag, .slice a u.Effects.length c].toArray)] [bldc FKf C g (Y1i x e.Object), blk g5 96 (Y49 e), blk g3 74 [.int .i64 u.Client, .int .i64 u.Seq, .int .i64 u.Tag, .slice a u.Effects.length c]] → K7 ρ w := by
   intro C ρ w h0 h3 h5 h10 h11 h12 hs
   refine hK7 _ _ ?_
   refine W.seqK fun K9 hK9 => ?_
   have core : ∀ (O : LObj) (y0 : Y07) (a3 : Option Addr) (n3 c3 g6 : Nat) (ρ : Env) (w : World), Y4I (Y1i x e.Object) e.Object e.Field = y0 → FinO g (Y1i x e.Object) e.Object e.Field fs O →
     ρ 0 = .map (some g) → ρ 3 = .pointer (some ⟨g3, 0, none⟩) → ρ 5 = .pointer (some ⟨g5, 0, none⟩) → ρ 6 = .pointer (some ⟨g6, 0, none⟩) → ρ 10 = .slice a2 u.Effects.length c2 → ρ 11 = .int .i64 (u.Effects.length : Int) → ρ 12 = .int .i64 i →
     St ok F w [vl (Y0b Y0A) u.Effects (.slice a2 u.Effects.length c2), vl Y0r u (.agg [.int .i64 u.Client, .int .i64 u.Seq, .int .i64 u.Tag, .slice a u.Effects.length c].toArray)]
      [own tStr 9 (.slice a3 n3 c3) y0.Elems, O, blk g6 86 (Y25 y0 (.slice a3 n3 c3)), blk g5 96 (Y49 e), blk g3 74 [.int .i64 u.Client, .int .i64 u.Seq, .int .i64 u.Tag, .slice a u.Effects.length c]] → K9 ρ w := by
    intro O y0 a3 n3 c3 g6 ρ w hat hO h0 h3 h5 h6 h10 h11 h12 hs
    rw [hat] at hy'
    obtain ⟨y1, ey1⟩ : ∃ y1 : Y07, y1 = { y0 with Name := e.Field } := ⟨_, rfl⟩
    rw [← ey1] at hy'
    have eE : y0.Elems = y1.Elems := by rw [ey1]
    have eN : y1.Name = e.Field := by rw [ey1]
    have eS : Y2K (Y25 y0 (.slice a3 n3 c3)) 0 [bstr e.Field] = Y25 y1 (.slice a3 n3 c3) := by rw [ey1]; rfl
    rw [eE] at hs
    refine hK9 _ _ ?_
    refine W.seqK fun K10 hK10 => ?_
    refine W.region ?_
    refine WL.fieldAddr (m := 2) h5 Y84 rfl ?_
    refine WL.load1 (v := bstr e.Field) hs 3 rfl TI9 rfl rfl ?_
    refine WL.fieldAddr (m := 0) h6 Y87 rfl ?_
    refine WL.store (vs := [bstr e.Field]) (cs' := Y25 y1 (.slice a3 n3 c3)) hs 2 rfl TI9 rfl rfl rfl rfl (Y0P rfl) (Nat.le_of_ble_eq_true rfl) eS (fun w hs => ?_)
    refine WL.nil ?_
    refine hK10 _ _ ?_
    clear ey1 eE eS hat
    refine W.seqK fun K11 hK11 => ?_
    -- put back
    have Jset : ∀ (y' : Y07) (a4 : Option Addr) (n4 c4 : Nat) (ρ : Env) (w : World), Y4x u e y1 = some y' → y'.Name = e.Field →
      ρ 0 = .map (some g) → ρ 3 = .pointer (some ⟨g3, 0, none⟩) → ρ 5 = .pointer (some ⟨g5, 0, none⟩) → ρ 6 = .pointer (some ⟨g6, 0, none⟩) → ρ 10 = .slice a2 u.Effects.length c2 → ρ 11 = .int .i64 (u.Effects.length : Int) → ρ 12 = .int .i64 i →
      St ok F w [vl (Y0b Y0A) u.Effects (.slice a2 u.Effects.length c2), vl Y0r u (.agg [.int .i64 u.Client, .int .i64 u.Seq, .int .i64 u.Tag, .slice a u.Effects.length c].toArray)]
       [own tStr 9 (.slice a4 n4 c4) y'.Elems, O, blk g6 86 (Y25 y' (.slice a4 n4 c4)), blk g5 96 (Y49 e), blk g3 74 [.int .i64 u.Client, .int .i64 u.Seq, .int .i64 u.Tag, .slice a u.Effects.length c]] → K11 ρ w := by
     intro y2 a4 n4 c4 ρ w hup hn h0 h3 h5 h6 h10 h11 h12 hs
     rw [hup] at hy'
     have hy' := Option.some.inj hy'
     subst hy'
     refine hK11 _ _ ?_
     refine W.region ?_
     refine WL.move (v := .map (some g)) h0 ?_
     refine WL.fieldAddr (m := 1) h5 Y85 rfl ?_
     refine WL.load1 (v := bstr e.Object) hs 3 rfl TI9 rfl rfl ?_
     have hones : ∀ u ∈ FKf.fc y2 (.slice a4 n4 c4), u.oneCell' = true := Y0P rfl
     rcases hO with ⟨h, rfl, hc1, hk, hfy, hf1, hb1⟩ | ⟨C, rfl, hnone⟩
     ·have hs := hs.front 1 rfl
      refine WL.holeLook FKf (h := h) hs (Y4F UN9) UN71 rfl (by rw [hk]; rfl) Y8u (by rw [hk]; exact hb1) ?_
      refine WL.fieldAddr (m := 2) h5 Y84 rfl ?_
      refine WL.load1 (v := bstr e.Field) hs 3 rfl TI9 rfl rfl ?_
      refine WL.loadN (vs := Y25 y2 (.slice a4 n4 c4)) hs 2 rfl TI86 h6 rfl rfl ?_
      have hs := hs.front 1 rfl
      refine WL.bldGive (K := FKf) (h := h) (y' := y2) (v' := .slice a4 n4 c4) hs (Y4F UN9) Y7y rfl (by show _ = bstr h.y.Name; rw [← hfy]; rfl) rfl (hn.trans hfy) rfl hones (by rw [hk]; exact hb1) (fun q hq => by show h.y.Name ≠ _; rw [← hfy]; exact hf1 q hq) (fun w hs => ?_)
      refine WL.nil ?_
      have hcont := Y8Y (K := FKf) (h := h) (y' := y2) (v' := .slice a4 n4 c4) hc1 (fs := fs) (by rw [hk]; exact hfs) (hn.trans hfy) (by rw [hk]; exact hb1) (fun q hq => by show h.y.Name ≠ _; rw [← hfy]; exact hf1 q hq)
      rw [hcont] at hs
      refine Jend _ _ h0 h3 h10 h11 h12 ?_
      rw [← hx']
      have e1 : Y2y (Y1i x e.Object) e.Object y2 = mset (Y1i x e.Object) h.k (fput FKf.nm y2 fs) := by
       unfold Y2y
       rw [hfs, hk]
       rfl
      rw [e1]
      exact (hs.mask [true, false, false, true]).bldWeak
     ·have hs := hs.front 1 rfl
      refine WL.bldLook FKf (k := e.Object) hs (Y4F UN9) UN71 rfl rfl Y8u (fun hno hs => ?_) (fun fs2 gi hfs2 hs => ?_)
      ·rw [hfs] at hno; cases hno
      ·rw [hfs] at hfs2
       have hfs2 := Option.some.inj hfs2
       subst hfs2
       refine WL.fieldAddr (m := 2) h5 Y84 rfl ?_
       refine WL.load1 (v := bstr e.Field) hs 3 rfl TI9 rfl rfl ?_
       refine WL.loadN (vs := Y25 y2 (.slice a4 n4 c4)) hs 2 rfl TI86 h6 rfl rfl ?_
       have hs := hs.front 1 rfl
       refine WL.bldAdd (K := FKf) (k := e.Object) (y' := y2) (v' := .slice a4 n4 c4) hs (Y4F UN9) Y7y rfl (by show _ = bstr y2.Name; rw [hn]; rfl) rfl rfl hones hfs (by rw [show (fun q => FKf.nm y2 == FKf.nm q) = (fun q : Y07 => e.Field == q.Name) from funext fun q => by show (y2.Name == q.Name) = _; rw [hn]]; exact hnone) (fun w hs => ?_)
       refine WL.nil ?_
       refine Jend _ _ h0 h3 h10 h11 h12 ?_
       rw [← hx']
       have e1 : Y2y (Y1i x e.Object) e.Object y2 = mset (Y1i x e.Object) e.Object (fput FKf.nm y2 fs) := by
        unfold Y2y
        rw [hfs]
        rfl
       rw [e1]
       exact (hs.mask [true, false, false, true]).bldWeak
    refine W.seqK fun K12 hK12 => ?_
    refine W.region ?_
    refine WL.fieldAddr (m := 0) h5 Y60 rfl ?_
    refine WL.load1 (v := .int .i64 e.Kind) hs 3 rfl TI3 rfl rfl ?_
    refine WL.nil ?_
    refine hK12 _ _ ?_
    refine W.block ?_
    have hup := hy'
    unfold Y4x at hup
    refine W.seqK fun K13 hK13 => ?_
    refine W.region ?_
    refine WL.bin (v := .bool (e.Kind == 1)) rfl rfl (Y1P _ _ _) ?_
    refine WL.assign (v := .bool (e.Kind == 1)) rfl ?_
    refine WL.nil ?_
    refine hK13 _ _ ?_
    rcases iteE hup with ⟨hk1, hup⟩ | ⟨hk1, hup⟩
    ·refine W.cond_true (Y02 rfl hk1) ?_
     obtain ⟨b, hb, hup⟩ := Y0s hup
     refine W.seqK fun K14 hK14 => ?_
     refine W.region ?_
     refine WL.loadAll hs 4 rfl TI74 h3 rfl ?_
     refine WL.fieldAddr (m := 1) h6 Y4c rfl ?_
     refine WL.loadN (vs := Y5S y1.Register) hs 2 rfl TI84 rfl rfl rfl ?_
     refine WL.call (vs := [.agg [.int .i64 u.Client, .int .i64 u.Seq, .int .i64 u.Tag, .slice a u.Effects.length c].toArray, .agg (Y5S y1.Register).toArray]) hs FN49 ⟨rfl, rfl, trivial⟩ (fun ok hA => Y23.calls (x1 := u) (x5 := y1.Register) hb (hA.get 1 rfl) (Y2W (regR ok _ _) rfl)) ?_
     rintro _ w hs
     refine WL.nil ?_
     refine hK14 _ _ ?_
     cases b with
     | true =>
      refine W.cond_true rfl ?_
      refine W.region ?_
      refine WL.fieldAddr (m := 2) h3 Y9e rfl ?_
      refine WL.load1 (v := .int .i64 u.Tag) hs 4 rfl TI3 rfl rfl ?_
      refine WL.fieldAddr (m := 0) h3 FA74_0 rfl ?_
      refine WL.load1 (v := .int .i64 u.Client) hs 4 rfl TI3 rfl rfl ?_
      refine WL.fieldAddr (m := 1) h3 FA74_1 rfl ?_
      refine WL.load1 (v := .int .i64 u.Seq) hs 4 rfl TI3 rfl rfl ?_
      refine WL.fieldAddr (m := 3) h5 Y5G rfl ?_
      refine WL.load1 (v := .int .i64 e.N) hs 3 rfl TI2 rfl rfl ?_
      refine WL.fieldAddr (m := 4) h5 Y6Y rfl ?_
      refine WL.load1 (v := bstr e.S) hs 3 rfl TI9 rfl rfl ?_
      refine WL.build (vs := [(0, .bool true), (1, .int .i64 u.Tag), (2, .int .i64 u.Client), (3, .int .i64 u.Seq), (4, .int .i64 e.N), (5, bstr e.S)]) (cs := Y5S ⟨true, u.Tag, u.Client, u.Seq, e.N, e.S⟩) ⟨⟨rfl, rfl⟩, ⟨rfl, rfl⟩, ⟨rfl, rfl⟩, ⟨rfl, rfl⟩, ⟨rfl, rfl⟩, ⟨rfl, rfl⟩, trivial⟩ (bld PL84 rfl) ?_
      refine WL.fieldAddr (m := 1) h6 Y4c rfl ?_
      refine WL.store (vs := Y5S ⟨true, u.Tag, u.Client, u.Seq, e.N, e.S⟩) (cs' := Y25 { y1 with Register := ⟨true, u.Tag, u.Client, u.Seq, e.N, e.S⟩ } (.slice a3 n3 c3)) hs 2 rfl TI84 rfl rfl rfl rfl (Y0P rfl) (Nat.le_of_ble_eq_true rfl) rfl (fun w hs => ?_)
      refine WL.nil ?_
      have hup := Option.some.inj hup
      subst hup
      exact Jset _ a3 n3 c3 _ _ hy' eN h0 h3 h5 h6 h10 h11 h12 hs
     | false =>
      refine W.cond_false rfl ?_
      refine W.skip ?_
      have hup := Option.some.inj hup
      subst hup
      exact Jset _ a3 n3 c3 _ _ hy' eN h0 h3 h5 h6 h10 h11 h12 hs
    ·refine W.cond_false (Y02 rfl hk1) ?_
     refine W.seqK fun K15 hK15 => ?_
     refine W.region ?_
     refine WL.bin (v := .bool (e.Kind == 2)) rfl rfl (Y1P _ _ _) ?_
     refine WL.assign (v := .bool (e.Kind == 2)) rfl ?_
     refine WL.nil ?_
     refine hK15 _ _ ?_
     rcases iteE hup with ⟨hk2, hup⟩ | ⟨hk2, hup⟩
     ·refine W.cond_true (Y02 rfl hk2) ?_
      refine W.seqK fun K16 hK16 => ?_
      have J16 : ∀ (ρ : Env) (w : World), some { y1 with HasMax := true, Max := e.N } = some y' → ρ 66 = .bool true → ρ 0 = .map (some g) → ρ 3 = .pointer (some ⟨g3, 0, none⟩) → ρ 5 = .pointer (some ⟨g5, 0, none⟩) → ρ 6 = .pointer (some ⟨g6, 0, none⟩) → ρ 10 = .slice a2 u.Effects.length c2 → ρ 11 = .int .i64 (u.Effects.length : Int) → ρ 12 = .int .i64 i →
        St ok F w [vl (Y0b Y0A) u.Effects (.slice a2 u.Effects.length c2), vl Y0r u (.agg [.int .i64 u.Client, .int .i64 u.Seq, .int .i64 u.Tag, .slice a u.Effects.length c].toArray)] [own tStr 9 (.slice a3 n3 c3) y1.Elems, O, blk g6 86 (Y25 y1 (.slice a3 n3 c3)), blk g5 96 (Y49 e), blk g3 74 [.int .i64 u.Client, .int .i64 u.Seq, .int .i64 u.Tag, .slice a u.Effects.length c]] → K16 ρ w := by
       intro ρ w hup h66 h0 h3 h5 h6 h10 h11 h12 hs
       refine hK16 _ _ ?_
       refine W.cond_true h66 ?_
       have hs := hs.front 2 rfl
       refine W.any (by kernel_rfl) 4 2 [true, true, true, true, false, false] rfl rfl (poAt [pv (.pointer (some ⟨g5, 3, none⟩)), pv (.int .i64 e.N), pv (.pointer (some ⟨g6, 7, none⟩)), pw (blk g6 86 (Y25 y1 (.slice a3 n3 c3))) (blk g6 86 (Y25 { y1 with HasMax := true } (.slice a3 n3 c3)))])
        (Λ := [own tStr 9 (.slice a3 n3 c3) y1.Elems, O, blk g5 96 (Y49 e), blk g3 74 [.int .i64 u.Client, .int .i64 u.Seq, .int .i64 u.Tag, .slice a u.Effects.length c]]) hs (by kernel_rfl) (by kernel_rfl) (by kernel_rfl) ⟨⟨⟨⟨trivial, ?_⟩, ?_⟩, ?_⟩, ?_⟩ ?_
       ·intro ρ w Γx Λx hs hu hp
        refine WL.fieldAddr (m := 3) ((hu 5 rfl).trans h5) Y5G rfl ?_
        exact WL.nil ⟨rfl, _, rfl, rfl, hs.cutG 0 0⟩
       ·intro ρ w Γx Λx hs hu hp
        have e1 : ρ 67 = .pointer (some ⟨g5, 3, none⟩) := (hp 0 rfl).1
        refine WL.load1 (v := .int .i64 e.N) hs (Λx.length + 2) (Y0q rfl) TI2 e1 rfl ?_
        exact WL.nil ⟨rfl, _, rfl, rfl, hs.cutG 0 0⟩
       ·intro ρ w Γx Λx hs hu hp
        refine WL.fieldAddr (m := 7) ((hu 6 rfl).trans h6) FA86_2 rfl ?_
        exact WL.nil ⟨rfl, _, rfl, rfl, hs.cutG 0 0⟩
       ·intro ρ w Γx Λx hs hu hp
        have e1 : ρ 69 = .pointer (some ⟨g6, 7, none⟩) := (hp 2 rfl).1
        refine WL.store (vs := [.bool true]) (cs' := Y25 { y1 with HasMax := true } (.slice a3 n3 c3)) hs (Λx.length + 0) (Y0q rfl) TI4 e1 rfl rfl rfl (Y0P rfl) (Nat.le_of_ble_eq_true rfl) rfl (fun w hs => ?_)
        exact WL.nil ⟨rfl, _, rfl, trivial, hs.backP.cutG 0 0⟩
       ·intro ρ w hs hu hp
        obtain ⟨⟨⟨⟨_, hp0⟩, hp1⟩, hp2⟩, hp3⟩ := hp
        have hs : St ok F w [vl (Y0b Y0A) u.Effects (.slice a2 u.Effects.length c2), vl Y0r u (.agg [.int .i64 u.Client, .int .i64 u.Seq, .int .i64 u.Tag, .slice a u.Effects.length c].toArray)] [blk g6 86 (Y25 { y1 with HasMax := true } (.slice a3 n3 c3)), own tStr 9 (.slice a3 n3 c3) y1.Elems, O, blk g5 96 (Y49 e), blk g3 74 [.int .i64 u.Client, .int .i64 u.Seq, .int .i64 u.Tag, .slice a u.Effects.length c]] := hs
        have e1 : ρ 68 = .int .i64 e.N := hp1
        refine WA.step [4] (by kernel_rfl) (by simp) ⟨?_, trivial⟩
        refine WL.fieldAddr (m := 8) ((hu 6 rfl).trans h6) FA86_3 rfl ?_
        refine WL.nil ⟨rfl, _, rfl, ?_⟩
        refine WA.step [5] (by kernel_rfl) (by simp) ⟨?_, trivial⟩
        refine WL.store (vs := [.int .i64 e.N]) (cs' := Y25 { y1 with HasMax := true, Max := e.N } (.slice a3 n3 c3)) hs 0 rfl TI2 rfl e1 rfl rfl (Y0P rfl) (Nat.le_of_ble_eq_true rfl) rfl (fun w hs => ?_)
        refine WL.nil ⟨rfl, _, rfl, ?_⟩
        refine WA.done (by kernel_rfl) ?_
        have hup := Option.some.inj hup
        subst hup
        exact Jset _ a3 n3 c3 _ _ hy' eN ((hu 0 rfl).trans h0) ((hu 3 rfl).trans h3) ((hu 5 rfl).trans h5) ((hu 6 rfl).trans h6) ((hu 10 rfl).trans h10) ((hu 11 rfl).trans h11) ((hu 12 rfl).trans h12) ((hs.front 2 rfl).front 2 rfl)
      refine W.region ?_
      refine WL.fieldAddr (m := 7) h6 FA86_2 rfl ?_
      refine WL.load1 (v := .bool y1.HasMax) hs 2 rfl TI4 rfl rfl ?_
      refine WL.not rfl ?_
      refine WL.move (v := .bool (!y1.HasMax)) rfl ?_
      rcases iteE hup with ⟨hm, hup⟩ | ⟨hm, hup⟩
      ·refine WL.pass ((Y01 rfl rfl (Y02 rfl hm)).trans rfl) rfl ?_
       refine WL.pass ((Y01 rfl rfl (Y02 rfl hm)).trans rfl) rfl ?_
       refine WL.pass ((Y01 rfl rfl (Y02 rfl hm)).trans rfl) rfl ?_
       refine WL.pass ((Y01 rfl rfl (Y02 rfl hm)).trans rfl) rfl ?_
       refine WL.pass ((Y01 rfl rfl (Y02 rfl hm)).trans rfl) rfl ?_
       refine WL.pickT (v := .bool true) (Y02 rfl hm) rfl ?_
       refine WL.nil ?_
       exact J16 _ _ hup rfl h0 h3 h5 h6 h10 h11 h12 hs
      ·refine WL.fieldAddr (m := 8) h6 FA86_3 rfl ?_ (hg := (Y01 rfl rfl (Y02 rfl hm)).trans rfl)
       refine WL.load1 (v := .int .i64 y1.Max) hs 2 rfl TI2 rfl rfl ?_ (hg := (Y01 rfl rfl (Y02 rfl hm)).trans rfl)
       refine WL.fieldAddr (m := 3) h5 Y5G rfl ?_ (hg := (Y01 rfl rfl (Y02 rfl hm)).trans rfl)
       refine WL.load1 (v := .int .i64 e.N) hs 3 rfl TI2 rfl rfl ?_ (hg := (Y01 rfl rfl (Y02 rfl hm)).trans rfl)
       refine WL.bin (v := .bool (decide (y1.Max < e.N))) rfl rfl (Y1n _ _ _) ?_ (hg := (Y01 rfl rfl (Y02 rfl hm)).trans rfl)
       refine WL.pickF (v := .bool (decide (y1.Max < e.N))) (Y02 rfl hm) rfl ?_
       refine WL.nil ?_
       rcases iteE hup with ⟨hm2, hup⟩ | ⟨hm2, hup⟩
       ·exact J16 _ _ hup (Y02 rfl hm2) h0 h3 h5 h6 h10 h11 h12 hs
       ·refine hK16 _ _ ?_
        refine W.cond_false (Y02 rfl hm2) ?_
        refine W.skip ?_
        have hup := Option.some.inj hup
        subst hup
        exact Jset _ a3 n3 c3 _ _ hy' eN h0 h3 h5 h6 h10 h11 h12 hs
     ·refine W.cond_false (Y02 rfl hk2) ?_
      refine W.seqK fun K17 hK17 => ?_
      refine W.region ?_
      refine WL.bin (v := .bool (e.Kind == 3)) rfl rfl (Y1P _ _ _) ?_
      refine WL.assign (v := .bool (e.Kind == 3)) rfl ?_
      refine WL.nil ?_
      refine hK17 _ _ ?_
      rcases iteE hup with ⟨hk3, hup⟩ | ⟨hk3, hup⟩
      ·refine W.cond_true (Y02 rfl hk3) ?_
       refine W.region ?_
       refine WL.fieldAddr (m := 9) h6 FA86_4 rfl ?_
       refine WL.load1 (v := .int .i64 y1.Sum) hs 2 rfl TI2 rfl rfl ?_
       refine WL.fieldAddr (m := 3) h5 Y5G rfl ?_
       refine WL.load1 (v := .int .i64 e.N) hs 3 rfl TI2 rfl rfl ?_
       refine WL.bin (v := .int .i64 (IntKind.i64.wrap (y1.Sum + e.N))) rfl rfl (Y1t _ _ _) ?_
       refine WL.fieldAddr (m := 9) h6 FA86_4 rfl ?_
       refine WL.store (vs := [.int .i64 (IntKind.i64.wrap (y1.Sum + e.N))]) (cs' := Y25 { y1 with Sum := IntKind.i64.wrap (y1.Sum + e.N) } (.slice a3 n3 c3)) hs 2 rfl TI2 rfl rfl rfl rfl (Y0P rfl) (Nat.le_of_ble_eq_true rfl) rfl (fun w hs => ?_)
       refine WL.nil ?_
       have hup := Option.some.inj hup
       subst hup
       exact Jset _ a3 n3 c3 _ _ hy' eN h0 h3 h5 h6 h10 h11 h12 hs
      ·refine W.cond_false (Y02 rfl hk3) ?_
       refine W.seqK fun K18 hK18 => ?_
       refine W.region ?_
       refine WL.bin (v := .bool (e.Kind == 4)) rfl rfl (Y1P _ _ _) ?_
       refine WL.assign (v := .bool (e.Kind == 4)) rfl ?_
       refine WL.nil ?_
       refine hK18 _ _ ?_
       rcases iteE hup with ⟨hk4, hup⟩ | ⟨hk4, hup⟩
       ·refine W.cond_true (Y02 rfl hk4) ?_
        obtain ⟨l, hlO, hup⟩ := Y0s hup
        unfold insO at hlO
        obtain ⟨⟨hasc, hlen⟩, hlO⟩ := Y2O hlO
        have hlO := Option.some.inj hlO
        have hup := Option.some.inj hup
        subst hup
        have hns := Y7O y1.Elems e.S
        refine W.seqK fun K19 hK19 => ?_
        refine W.region ?_
        refine WL.fieldAddr (m := 10) h6 Y4b rfl ?_
        refine WL.load1 (v := .slice a3 n3 c3) hs 2 rfl TI56 rfl rfl ?_
        refine WL.fieldAddr (m := 4) h5 Y6Y rfl ?_
        refine WL.load1 (v := bstr e.S) hs 3 rfl TI9 rfl rfl ?_
        refine WL.callR (vs := [.slice a3 n3 c3, bstr e.S]) (R := fun v w' => v = .tuple ([.int .i64 (posS y1.Elems e.S : Nat), .bool (decide (posS y1.Elems e.S < y1.Elems.length ∧ y1.Elems.getD (posS y1.Elems e.S) e.S = e.S))] : List Value).toArray ∧ St ok F w' [vl (Y0b Y0A) u.Effects (.slice a2 u.Effects.length c2), vl Y0r u (.agg [.int .i64 u.Client, .int .i64 u.Seq, .int .i64 u.Tag, .slice a u.Effects.length c].toArray)] [own tStr 9 (.slice a3 n3 c3) y1.Elems, O, blk g6 86 (Y25 y1 (.slice a3 n3 c3)), blk g5 96 (Y49 e), blk g3 74 [.int .i64 u.Client, .int .i64 u.Seq, .int .i64 u.Tag, .slice a u.Effects.length c]])
         FN50 ⟨rfl, rfl, trivial⟩ ((Y7w lay_bs (s := e.S) hs 0 rfl hasc (by omega)).mono (by rintro e' w' ⟨rfl, q, rfl⟩; exact ⟨_, rfl, rfl, hs.drewN q⟩)) ?_
        rintro _ w ⟨rfl, hs⟩
        refine WL.move rfl ?_
        refine WL.extract rfl rfl ?_
        refine WL.extract rfl rfl ?_
        refine WL.assign (v := .int .i64 (posS y1.Elems e.S : Nat)) rfl ?_
        refine WL.assign (v := .bool (decide (posS y1.Elems e.S < y1.Elems.length ∧ y1.Elems.getD (posS y1.Elems e.S) e.S = e.S))) rfl ?_
        refine WL.nil ?_
        refine hK19 _ _ ?_
        refine W.seqK fun K20 hK20 => ?_
        refine W.region ?_
        refine WL.move (v := .bool (decide (posS y1.Elems e.S < y1.Elems.length ∧ y1.Elems.getD (posS y1.Elems e.S) e.S = e.S))) rfl ?_
        refine WL.not rfl ?_
        refine WL.nil ?_
        refine hK20 _ _ ?_
        by_cases hfd : posS y1.Elems e.S < y1.Elems.length ∧ y1.Elems.getD (posS y1.Elems e.S) e.S = e.S
        ·rw [if_pos hfd, hlO] at hns
         refine W.cond_false (Y02 rfl (by rw [decide_eq_true hfd]; rfl)) ?_
         refine W.skip ?_
         exact Jset _ a3 n3 c3 _ _ hy' eN h0 h3 h5 h6 h10 h11 h12 (by rw [hns]; exact hs)
        ·rw [if_neg hfd, hlO] at hns
         refine W.cond_true (Y02 rfl (by rw [decide_eq_false hfd]; rfl)) ?_
         refine W.region ?_
         refine WL.fieldAddr (m := 10) h6 Y4b rfl ?_
         refine WL.load1 (v := .slice a3 n3 c3) hs 2 rfl TI56 rfl rfl ?_
         refine WL.move (v := .int .i64 (posS y1.Elems e.S : Nat)) rfl ?_
         refine WL.fieldAddr (m := 4) h5 Y6Y rfl ?_
         refine WL.load1 (v := bstr e.S) hs 3 rfl TI9 rfl rfl ?_
         refine WL.buildSlice (n := 1) (vs := [(0, bstr e.S)]) (cs := [bstr e.S]) hs ⟨⟨rfl, rfl⟩, trivial⟩ (bls PS56 (by decide) rfl) (fun gl w hs => ?_)
         refine WL.callR (vs := [.slice a3 n3 c3, .int .i64 (posS y1.Elems e.S : Nat), .slice (some ⟨gl, 0, none⟩) 1 1]) (R := fun v w' => St ok F w' [vl (Y0b Y0A) u.Effects (.slice a2 u.Effects.length c2), vl Y0r u (.agg [.int .i64 u.Client, .int .i64 u.Seq, .int .i64 u.Tag, .slice a u.Effects.length c].toArray)] [own tStr 9 v l, O, blk g6 86 (Y25 y1 (.slice a3 n3 c3)), blk g5 96 (Y49 e), blk g3 74 [.int .i64 u.Client, .int .i64 u.Seq, .int .i64 u.Tag, .slice a u.Effects.length c]])
          FN51 ⟨rfl, rfl, rfl, trivial⟩ ((Y8n lay_ins rfl (s := e.S) (k := posS y1.Elems e.S) hs 0 rfl (Y7d _ _) (by omega)).mono (by rintro e' w' ⟨v', rfl, hs'⟩; refine ⟨v', rfl, ?_⟩; rw [hns]; exact hs')) ?_
         rintro v w hs
         obtain ⟨a4, n4, c4, rfl⟩ := hs.ownv3 0 rfl
         refine WL.fieldAddr (m := 10) h6 Y4b rfl ?_
         refine WL.store (vs := [.slice a4 n4 c4]) (cs' := Y25 { y1 with Elems := l } (.slice a4 n4 c4)) hs 2 rfl TI56 rfl rfl rfl rfl (Y0P rfl) (Nat.le_of_ble_eq_true rfl) rfl (fun w hs => ?_)
         refine WL.nil ?_
         exact Jset _ a4 n4 c4 _ _ hy' eN h0 h3 h5 h6 h10 h11 h12 hs
       ·refine W.cond_false (Y02 rfl hk4) ?_
        refine W.seqK fun K21 hK21 => ?_
        refine W.region ?_
        refine WL.bin (v := .bool (e.Kind == 5)) rfl rfl (Y1P _ _ _) ?_
        refine WL.assign (v := .bool (e.Kind == 5)) rfl ?_
        refine WL.nil ?_
        refine hK21 _ _ ?_
        rcases iteE hup with ⟨hk5, hup⟩ | ⟨hk5, hup⟩
        ·refine W.cond_true (Y02 rfl hk5) ?_
         refine W.region ?_
         refine WL.fieldAddr (m := 11) h6 FA86_6 rfl ?_
         refine WL.store (vs := [.bool true]) (cs' := Y25 { y1 with Flag := true } (.slice a3 n3 c3)) hs 2 rfl TI4 rfl rfl rfl rfl (Y0P rfl) (Nat.le_of_ble_eq_true rfl) rfl (fun w hs => ?_)
         refine WL.nil ?_
         have hup := Option.some.inj hup
         subst hup
         exact Jset _ a3 n3 c3 _ _ hy' eN h0 h3 h5 h6 h10 h11 h12 hs
        ·refine W.cond_false (Y02 rfl hk5) ?_
         refine W.skip ?_
         have hup := Option.some.inj hup
         subst hup
         exact Jset _ a3 n3 c3 _ _ hy' eN h0 h3 h5 h6 h10 h11 h12 hs
   refine W.region ?_
   refine WL.move (v := .map (some g)) h0 ?_
   refine WL.fieldAddr (m := 1) h5 Y85 rfl ?_
   refine WL.load1 (v := bstr e.Object) hs 1 rfl TI9 rfl rfl ?_
   refine WL.bldLook FKf (k := e.Object) hs (Y4F UN9) UN71 rfl rfl Y8u (fun hno hs => ?_) (fun fs2 gi hfs2 hs => ?_)
   ·rw [hfs] at hno; cases hno
   ·rw [hfs] at hfs2
    have hfs2 := Option.some.inj hfs2
    subst hfs2
    refine WL.fieldAddr (m := 2) h5 Y84 rfl ?_
    refine WL.load1 (v := bstr e.Field) hs 1 rfl TI9 rfl rfl ?_
    refine WL.bldTake (K := FKf) (k := e.Object) (f := e.Field) (z := Y25 Y19 (.slice none 0 0)) hs (Y4F UN9) Y7y rfl rfl ZR86 rfl (Y0P rfl) hfs (fun hn hs => ?_) (fun h hy hx hk hgi hfe hf1 hb1 hs => ?_)
    ·have hs := hs.ownNil tStr 9
     refine WL.alloc hs ZV86 (fun g6 w hs => ?_)
     refine WL.storeAll (vs := Y25 Y19 (.slice none 0 0)) hs 0 rfl TI86 rfl rfl rfl rfl (Y0P rfl) rfl (fun w hs => ?_)
     refine WL.nil ?_
     refine core _ Y19 none 0 0 g6 _ _ ?_ (.inr ⟨_, rfl, hn⟩) h0 h3 h5 rfl h10 h11 h12 ((hs.front 2 rfl).front 2 rfl)
     unfold Y4I
     rw [hfs]
     show (fs.find? _).getD _ = _
     have hn' : fs.find? (fun q => e.Field == q.Name) = none := hn
     rw [hn']
     rfl
    ·obtain ⟨a3, n3, c3, hv⟩ := hs.ownv3 0 rfl
     rw [hv] at hs ⊢
     refine WL.alloc hs ZV86 (fun g6 w hs => ?_)
     refine WL.storeAll (vs := Y25 h.y (.slice a3 n3 c3)) hs 0 rfl TI86 rfl rfl rfl rfl (Y0P rfl) rfl (fun w hs => ?_)
     refine WL.nil ?_
     refine core _ h.y a3 n3 c3 g6 _ _ ?_ (.inl ⟨h, rfl, hx, hk, hfe, hf1, hb1⟩) h0 h3 h5 rfl h10 h11 h12 ((hs.front 2 rfl).front 2 rfl)
     unfold Y4I
     rw [hfs]
     show (fs.find? _).getD _ = _
     have hy2 : fs.find? (fun q => e.Field == q.Name) = some h.y := hy
     rw [hy2]
     rfl
  refine W.seqK fun K8 hK8 => ?_
  refine W.region ?_
  refine WL.move (v := .map (some g)) h0 ?_
  refine WL.fieldAddr (m := 1) rfl Y85 rfl ?_
  refine WL.load1 (v := bstr e.Object) hs 1 rfl TI9 rfl rfl ?_
  refine WL.bldLook FKf (k := e.Object) hs (Y4F UN9) UN71 rfl rfl Y8u (fun hno hs => ?_) (fun fs2 gi hfs2 hs => ?_)
  ·refine WL.nilEqM Y7y rfl ?_
   refine WL.nil ?_
   refine hK8 _ _ ?_
   refine W.cond_true rfl ?_
   refine W.region ?_
   refine WL.move (v := .map (some g)) h0 ?_
   refine WL.fieldAddr (m := 1) rfl Y85 rfl ?_
   refine WL.load1 (v := bstr e.Object) hs 1 rfl TI9 rfl rfl ?_
   refine WL.makeMap bstr (tRaw FKf.n) hs (fun gi w hs => ?_)
   refine WL.bldPut (K := FKf) (k := e.Object) hs (Y4F UN9) UN71 rfl rfl rfl hno (fun w hs => ?_)
   refine WL.nil ?_
   refine Jin (At e.Object gi) _ _ h0 h3 rfl h10 h11 h12 ?_
   have e1 : Y1i x e.Object = x ++ [(e.Object, [])] := by
    unfold Y1i
    rw [hno]
    rfl
   rw [e1]
   exact hs
  ·refine WL.nilEqM Y7y rfl ?_
   refine WL.nil ?_
   refine hK8 _ _ ?_
   refine W.cond_false rfl ?_
   refine W.skip ?_
   refine Jin (At e.Object gi) _ _ h0 h3 rfl h10 h11 h12 ?_
   have e1 : Y1i x e.Object = x := by
    unfold Y1i
    rw [hfs2]
    rfl
   rw [e1]
   exact hs
 ·refine W.cond_false (Y02 rfl hc) ?_
  refine W.exit ?_
  have hr := Option.some.inj hf; subst hr
  have hr := hbb _ rfl; subst hr
  exact ⟨_, Y8h rfl, (), rfl, (hs.mask [true]).pick []⟩
theorem Y1D.calls {ok : Nat → Prop} {w0 : World} {t : Y0N} {vt : Value} {r : Y1u} (hf : Y1D t = some r) (i0 : (vl Y0p t vt).holds ok w0) :
  Calls Tryz.prog 67 #[vt] w0 fun e w' => ∃ v, e = .returned v ∧ ∃ g : Nat, v = .map (some g) ∧ St ok (bz w0) w' [] [bldo FKf g r] := by
 unfold Y1D at hf
 have hs : St ok (bz w0) w0 [vl Y0p t vt] [] := St.init (All.cons i0 All.nil)
 clear i0
 obtain ⟨cs, hl, rfl⟩ := hs.aggv (n := 1) 0 rfl rfl rfl
 refine Y0t (fn := Tryz.f67) (N := 40) Tryz.func67 rfl Tryz.ntmps67 rfl ?_
 refine W.seqK fun K1 hK1 => ?_
 refine W.region ?_
 refine WL.box (vs := cs) hs rfl rfl (fun g1 w hs => ?_)
 refine WL.assign (v := .map none) rfl ?_
 refine WL.nil ?_
 refine hK1 _ _ ?_
 refine W.seqK fun K2 hK2 => ?_
 refine W.region ?_
 refine WL.makeMap bstr Y2i hs (fun g w hs => ?_)
 refine WL.assign (v := .map (some g)) rfl ?_
 refine WL.nil ?_
 refine hK2 _ _ ?_
 have hs := St.bldClose (K := FKf) (g := g) (b := []) (C := fun _ => True) hs trivial rfl
 refine W.seqK fun K3 hK3 => ?_
 have Jret : ∀ (ρ : Env) (w : World), ρ 3 = .map (some g) → St ok (bz w0) w [vl (Y0b Y0g) t.Objects (.slice none 0 0)] [bldo FKf g r] ∨ St ok (bz w0) w [] [bldo FKf g r] → K3 ρ w := by
  intro ρ w h3 hs
  have hs : St ok (bz w0) w [] [bldo FKf g r] := hs.elim (fun h => h.pick []) id
  refine hK3 _ _ ?_
  refine W.seqK fun K4 hK4 => ?_
  refine W.region ?_
  refine WL.move (v := .map (some g)) h3 ?_
  refine WL.assign (v := .map (some g)) rfl ?_
  refine WL.nil ?_
  refine hK4 _ _ ?_
  refine W.ret ?_
  exact ⟨_, Y0e rfl rfl, g, rfl, hs⟩
 refine W.seqK fun K4 hK4 => ?_
 refine W.region ?_
 refine WL.fieldAddr (m := 0) rfl Y5I rfl ?_
 refine WL.loadF (z := t.Objects) Y1I hs 1 rfl 0 rfl rfl TI23 (.inr rfl) rfl rfl (fun v hs => ?_)
 obtain ⟨a2, c2, rfl⟩ := hs.slice 0 rfl
 refine WL.len (v := .slice a2 t.Objects.length c2) rfl (Y10 UN23) ?_
 refine WL.move (v := .int .i64 0) rfl ?_
 refine WL.nil ?_
 refine hK4 _ _ ?_
 refine W.block ?_
 refine W.loop (σ := Int × Y1u) hf (fun s ρ w => match s with | (i, x) => ρ 3 = .map (some g) ∧ ρ 11 = .slice a2 t.Objects.length c2 ∧ ρ 12 = .int .i64 (t.Objects.length : Int) ∧ ρ 13 = .int .i64 i ∧ St ok (bz w0) w [vl (Y0b Y0g) t.Objects (.slice a2 t.Objects.length c2)] [bldo FKf g x]) ⟨rfl, rfl, rfl, rfl, (hs.mask [true]).pick [0]⟩ ?_
 intro s ρ w o hI hf hbb
 obtain ⟨i, x⟩ := s
 obtain ⟨h3, h11, h12, h13, hs⟩ := hI
 unfold Y1D.l2 at hf
 refine W.seqK fun K5 hK5 => ?_
 refine W.region ?_
 refine WL.bin (v := .bool (decide (i < (t.Objects.length : Int)))) h13 h12 (Y1n _ _ _) ?_
 refine WL.nil ?_
 refine hK5 _ _ ?_
 refine W.seqK fun K6 hK6 => ?_
 rcases iteE hf with ⟨hc, hf⟩ | ⟨hc, hf⟩
 ·refine W.cond_true (Y02 rfl hc) ?_
  refine W.skip ?_
  refine hK6 _ _ ?_
  obtain ⟨ob, hob, hf⟩ := Y0s hf
  obtain ⟨fs, hfs, hf⟩ := Y0s hf
  refine W.seqK fun K7 hK7 => ?_
  have Jend : ∀ (ρ : Env) (w : World), ρ 3 = .map (some g) → ρ 11 = .slice a2 t.Objects.length c2 → ρ 12 = .int .i64 (t.Objects.length : Int) → ρ 13 = .int .i64 i → St ok (bz w0) w [vl (Y0b Y0g) t.Objects (.slice a2 t.Objects.length c2)] [bldo FKf g (mset x ob.Name fs)] → K7 ρ w := by
   intro ρ w h3 h11 h12 h13 hs
   refine hK7 _ _ ?_
   refine W.region ?_
   obtain ⟨j, ej, hf⟩ := letE hf
   refine WL.bin (v := .int .i64 j) h13 rfl (Y1V ej (Y1t _ _ _)) ?_
   refine WL.move (v := .int .i64 j) rfl ?_
   refine WL.nil ?_
   exact ⟨_, (Option.some.inj hf).symm, h3, h11, h12, rfl, hs⟩
  refine W.block ?_
  refine W.seqK fun K8 hK8 => ?_
  refine W.region ?_
  refine WL.indexAddr hs 0 rfl UN23 TI41 h11 h13 hob (fun ad hs => ?_)
  refine WL.loadP hs 0 rfl TI41 (.inl rfl) rfl (fun v hs => ?_)
  obtain ⟨os, hlo, rfl⟩ := hs.aggv (n := 2) 0 rfl rfl rfl
  obtain ⟨a3, c3, rfl⟩ := Y4Z hs 0 rfl
  refine WL.alloc hs ZV41 (fun g5 w hs => ?_)
  refine WL.storeAll (vs := [bstr ob.Name, .slice a3 ob.Fields.length c3]) hs 0 rfl TI41 rfl rfl rfl rfl (Y0P rfl) rfl (fun w hs => ?_)
  refine WL.nil ?_
  refine hK8 _ _ ?_
  refine W.seqK fun K9 hK9 => ?_
  refine W.region ?_
  refine WL.makeMap bstr (tRaw FKf.n) hs (fun gi w hs => ?_)
  refine WL.assign (v := .map (some gi)) rfl ?_
  refine WL.nil ?_
  refine hK9 _ _ ?_
  have hs := St.innClose (K := FKf) (gi := gi) (fs := []) (l := []) hs rfl
  refine W.seqK fun K10 hK10 => ?_
  have Jput : ∀ (ρ : Env) (w : World), ρ 3 = .map (some g) → ρ 5 = .pointer (some ⟨g5, 0, none⟩) → ρ 6 = .map (some gi) → ρ 11 = .slice a2 t.Objects.length c2 → ρ 12 = .int .i64 (t.Objects.length : Int) → ρ 13 = .int .i64 i →
    St ok (bz w0) w [vl (Y0b Y0g) t.Objects (.slice a2 t.Objects.length c2)] [inno FKf gi fs, bldo FKf g x, blk g5 41 [bstr ob.Name, .slice a3 ob.Fields.length c3]] → K10 ρ w := by
   intro ρ w h3 h5 h6 h11 h12 h13 hs
   refine hK10 _ _ ?_
   refine W.region ?_
   refine WL.move (v := .map (some g)) h3 ?_
   refine WL.fieldAddr (m := 0) h5 Y9f rfl ?_
   refine WL.load1 (v := bstr ob.Name) hs 2 rfl TI9 rfl rfl ?_
   refine WL.move (v := .map (some gi)) h6 ?_
   refine WL.bldAttach FKf (k := ob.Name) hs (Y4F UN9) UN71 rfl rfl rfl (fun w hs => ?_)
   refine WL.nil ?_
   exact Jend _ _ h3 h11 h12 h13 (hs.mask [true])
  refine W.seqK fun K11 hK11 => ?_
  refine W.region ?_
  refine WL.fieldAddr (m := 1) rfl Y5H rfl ?_
  refine WL.loadF (z := ob.Fields) Y1Y hs 1 rfl 0 rfl rfl TI39 (.inr rfl) rfl rfl (fun v hs => ?_)
  obtain ⟨a4, c4, rfl⟩ := hs.slice 0 rfl
  refine WL.len (v := .slice a4 ob.Fields.length c4) rfl (Y10 UN39) ?_
  refine WL.move (v := .int .i64 0) rfl ?_
  refine WL.nil ?_
  refine hK11 _ _ ?_
  refine W.block ?_
  have hs := (hs.front 2 rfl).pick [0, 3]
  have hs := hs.front 1 rfl
  refine W.loop (σ := Int × List Y07) hfs (fun s ρ w => match s with | (k, fs) => ρ 3 = .map (some g) ∧ ρ 5 = .pointer (some ⟨g5, 0, none⟩) ∧ ρ 6 = .map (some gi) ∧ ρ 11 = .slice a2 t.Objects.length c2 ∧ ρ 12 = .int .i64 (t.Objects.length : Int) ∧ ρ 13 = .int .i64 i ∧ ρ 19 = .slice a4 ob.Fields.length c4 ∧ ρ 20 = .int .i64 (ob.Fields.length : Int) ∧ ρ 21 = .int .i64 k ∧ St ok (bz w0) w [vl (Y0b Y0w) ob.Fields (.slice a4 ob.Fields.length c4), vl (Y0b Y0g) t.Objects (.slice a2 t.Objects.length c2)] [inno FKf gi fs, bldo FKf g x, blk g5 41 [bstr ob.Name, .slice a3 ob.Fields.length c3]]) ⟨h3, rfl, rfl, h11, h12, h13, rfl, rfl, rfl, hs⟩ ?_
  intro s ρ w o2 hI hf2 hbb2
  obtain ⟨k, fs2⟩ := s
  obtain ⟨h3, h5, h6, h11, h12, h13, h19, h20, h21, hs⟩ := hI
  unfold Y1D.l1 at hf2
  refine W.seqK fun K12 hK12 => ?_
  refine W.region ?_
  refine WL.bin (v := .bool (decide (k < (ob.Fields.length : Int)))) h21 h20 (Y1n _ _ _) ?_
  refine WL.nil ?_
  refine hK12 _ _ ?_
  refine W.seqK fun K13 hK13 => ?_
  rcases iteE hf2 with ⟨hc2, hf2⟩ | ⟨hc2, hf2⟩
  ·refine W.cond_true (Y02 rfl hc2) ?_
   refine W.skip ?_
   refine hK13 _ _ ?_
   obtain ⟨f, hfk, hf2⟩ := Y0s hf2
   obtain ⟨l, hcl, hf2⟩ := Y0s hf2
   refine W.seqK fun K14 hK14 => ?_
   refine W.block ?_
   refine W.seqK fun K15 hK15 => ?_
   refine W.region ?_
   refine WL.indexAddr hs 0 rfl UN39 TI86 h19 h21 hfk (fun ad hs => ?_)
   refine WL.loadP hs 0 rfl TI86 (.inl rfl) rfl (fun v hs => ?_)
   obtain ⟨ds, hld, rfl⟩ := hs.aggv (n := 12) 0 rfl rfl rfl
   obtain ⟨a6, c6, rfl⟩ := Y36 hs 0 rfl
   have hs := hs.add (it := vl (Y0b tStr) f.Elems (.slice a6 f.Elems.length c6)) fun ok hA => V_fld Y2n (hA.get 0 rfl) rfl rfl rfl
   refine WL.alloc hs ZV86 (fun g8 w hs => ?_)
   refine WL.storeAll (vs := Y25 f (.slice a6 f.Elems.length c6)) hs 0 rfl TI86 rfl rfl rfl rfl (Y0P rfl) rfl (fun w hs => ?_)
   refine WL.nil ?_
   refine hK15 _ _ ?_
   refine W.seqK fun K16 hK16 => ?_
   refine W.region ?_
   refine WL.fieldAddr (m := 10) rfl Y4b rfl ?_
   refine WL.load1 (v := .slice a6 f.Elems.length c6) hs 0 rfl TI56 rfl rfl ?_
   refine WL.call (vs := [.slice a6 f.Elems.length c6]) hs FN60 ⟨rfl, trivial⟩ (fun ok hA => Y1k.calls (x1 := f.Elems) hcl (hA.get 0 rfl)) ?_
   rintro ⟨a7, n7, c7⟩ w hs
   refine WL.fieldAddr (m := 10) rfl Y4b rfl ?_
   refine WL.store (vs := [.slice a7 n7 c7]) (cs' := Y25 { f with Elems := l } (.slice a7 n7 c7)) hs 1 rfl TI56 rfl rfl rfl rfl (Y0P rfl) (Nat.le_of_ble_eq_true rfl) rfl (fun w hs => ?_)
   refine WL.nil ?_
   refine hK16 _ _ ?_
   refine W.region ?_
   refine WL.move (v := .map (some gi)) h6 ?_
   refine WL.fieldAddr (m := 0) rfl Y87 rfl ?_
   refine WL.load1 (v := bstr f.Name) hs 1 rfl TI9 rfl rfl ?_
   refine WL.loadN (vs := Y25 { f with Elems := l } (.slice a7 n7 c7)) hs 1 rfl TI86 rfl rfl rfl ?_
   have hs := (hs.front 2 rfl).front 1 rfl
   refine WL.innPut FKf (y := { f with Elems := l }) (v := .slice a7 n7 c7) hs (Y4F UN9) Y7y rfl rfl rfl rfl (Y0P rfl) (fun w hs => ?_)
   refine WL.nil ?_
   refine hK14 _ _ ?_
   refine W.region ?_
   obtain ⟨j, ej, hf2⟩ := letE hf2
   refine WL.bin (v := .int .i64 j) h21 rfl (Y1V ej (Y1t _ _ _)) ?_
   refine WL.move (v := .int .i64 j) rfl ?_
   refine WL.nil ?_
   exact ⟨_, (Option.some.inj hf2).symm, h3, h5, h6, h11, h12, h13, h19, h20, rfl, (hs.mask [true, false, true, true]).pick [3, 4]⟩
  ·refine W.cond_false (Y02 rfl hc2) ?_
   refine W.exit ?_
   have hr := Option.some.inj hf2; subst hr
   have hr := hbb2 _ rfl; subst hr
   exact Jput _ _ h3 h5 h6 h11 h12 h13 (hs.pick [1])
 ·refine W.cond_false (Y02 rfl hc) ?_
  refine W.exit ?_
  have hr := Option.some.inj hf; subst hr
  have hr := hbb _ rfl; subst hr
  exact Jret _ _ h3 (.inr (hs.pick []))
theorem Y1o.calls {ok : Nat → Prop} {w0 : World} {x : Y7U} {g : Nat} {r : Y0N} (hf : Y1o x = some r) (i0 : (vl (tMap bstr (tMap bstr Y0w)) x (.map (some g))).holds ok w0) :
  Calls Tryz.prog 30 #[.map (some g)] w0 fun e w' => ∃ v, e = .returned v ∧ ∃ y : List Value, v = .agg y.toArray ∧ St ok (bz w0) w' [vl Y0p r (.agg y.toArray)] [] := by
 unfold Y1o at hf
 obtain ⟨ns, hns, hf⟩ := Y0s hf
 obtain ⟨ol, hol, hf⟩ := Y0s hf
 have hf := Option.some.inj hf
 subst hf
 have hs : St ok (bz w0) w0 [vl (tMap bstr (tMap bstr Y0w)) x (.map (some g))] [] := St.init (All.cons i0 All.nil)
 clear i0
 refine Y0t (fn := Tryz.f30) (N := 48) Tryz.func30 rfl Tryz.ntmps30 rfl ?_
 refine W.seqK fun K1 hK1 => ?_
 refine W.region ?_
 refine WL.alloc hs ZV25 (fun g2 w hs => ?_)
 refine WL.nil ?_
 refine hK1 _ _ ?_
 refine W.seqK fun K2 hK2 => ?_
 refine W.region ?_
 refine WL.alloc hs ZV25 (fun g3 w hs => ?_)
 refine WL.nil ?_
 refine hK2 _ _ ?_
 refine W.seqK fun K3 hK3 => ?_
 have hs := hs.ownNil Y0g 41
 have Jret : ∀ (a : Option Addr) (n c : Nat) (ρ : Env) (w : World), ρ 2 = .pointer (some ⟨g2, 0, none⟩) → ρ 3 = .pointer (some ⟨g3, 0, none⟩) → St ok (bz w0) w [] [own Y0g 41 (.slice a n c) ol, blk g3 25 [.slice a n c], blk g2 25 [.slice none 0 0]] → K3 ρ w := by
  intro a n c ρ w h2 h3 hs
  refine hK3 _ _ ?_
  refine W.seqK fun K4 hK4 => ?_
  refine W.region ?_
  refine WL.loadN (vs := [.slice a n c]) hs 1 rfl TI25 h3 rfl rfl ?_
  refine WL.storeAll (vs := [.slice a n c]) hs 2 rfl TI25 h2 rfl rfl rfl (Y0P rfl) rfl (fun w hs => ?_)
  refine WL.nil ?_
  refine hK4 _ _ ?_
  refine W.ret ?_
  obtain rfl := hs.ownLen 0 rfl
  have hs2 := hs.freezeOwn 0 rfl
  have hs3 := hs2.add (it := vl Y0p ⟨ol⟩ (.agg [.slice a ol.length c].toArray)) fun ok hA => Y2W (Y5M (hA.get 0 rfl)) rfl
  exact ⟨_, Y0e rfl (Y2B hs 2 rfl TI25 h2 rfl), [.slice a ol.length c], rfl, (hs3.mask []).pick [0]⟩
 refine W.seqK fun K4 hK4 => ?_
 refine W.region ?_
 refine WL.move (v := .map (some g)) rfl ?_
 refine WL.sortedKeys sk_B UN9 hs 0 rfl rfl hns (fun cl v w hs => ?_)
 obtain ⟨a1, c1, rfl⟩ := hs.ownv 0 rfl
 have hs := hs.freezeOwn 0 rfl
 refine WL.len (v := .slice a1 ns.length c1) rfl (Y10 UN56) ?_
 refine WL.move (v := .int .i64 0) rfl ?_
 refine WL.nil ?_
 refine hK4 _ _ ?_
 refine W.block ?_
 refine W.loop (σ := Int × List Y0f) hol (fun s ρ w => match s with | (i, out) => ∃ (a : Option Addr), ∃ (n : Nat), ∃ (c : Nat), ρ 0 = .map (some g) ∧ ρ 2 = .pointer (some ⟨g2, 0, none⟩) ∧ ρ 3 = .pointer (some ⟨g3, 0, none⟩) ∧ ρ 11 = .slice a1 ns.length c1 ∧ ρ 12 = .int .i64 (ns.length : Int) ∧ ρ 13 = .int .i64 i ∧ St ok (bz w0) w [vl (Y0b tStr) ns (.slice a1 ns.length c1), vl (tMap bstr (tMap bstr Y0w)) x (.map (some g))] [own Y0g 41 (.slice a n c) out, blk g3 25 [.slice a n c], blk g2 25 [.slice none 0 0]]) ⟨none, 0, 0, rfl, rfl, rfl, rfl, rfl, rfl, hs⟩ ?_
 intro s ρ w o hI hf hbb
 obtain ⟨i, out⟩ := s
 obtain ⟨a, n, c, h0, h2, h3, h11, h12, h13, hs⟩ := hI
 unfold Y1o.l2 at hf
 refine W.seqK fun K5 hK5 => ?_
 refine W.region ?_
 refine WL.bin (v := .bool (decide (i < (ns.length : Int)))) h13 h12 (Y1n _ _ _) ?_
 refine WL.nil ?_
 refine hK5 _ _ ?_
 refine W.seqK fun K6 hK6 => ?_
 rcases iteE hf with ⟨hc, hf⟩ | ⟨hc, hf⟩
 ·refine W.cond_true (Y02 rfl hc) ?_
  refine W.skip ?_
  refine hK6 _ _ ?_
  obtain ⟨nm, hnm, hf⟩ := Y0s hf
  obtain ⟨fs, hfs, hf⟩ := Y0s hf
  obtain ⟨l, hl, hf⟩ := Y0s hf
  obtain ⟨out', hout, hf⟩ := Y0s hf
  refine W.seqK fun K7 hK7 => ?_
  have Jend : ∀ (a : Option Addr) (n c : Nat) (ρ : Env) (w : World), ρ 0 = .map (some g) → ρ 2 = .pointer (some ⟨g2, 0, none⟩) → ρ 3 = .pointer (some ⟨g3, 0, none⟩) → ρ 11 = .slice a1 ns.length c1 → ρ 12 = .int .i64 (ns.length : Int) → ρ 13 = .int .i64 i → St ok (bz w0) w [vl (Y0b tStr) ns (.slice a1 ns.length c1), vl (tMap bstr (tMap bstr Y0w)) x (.map (some g))] [own Y0g 41 (.slice a n c) out', blk g3 25 [.slice a n c], blk g2 25 [.slice none 0 0]] → K7 ρ w := by
   intro a n c ρ w h0 h2 h3 h11 h12 h13 hs
   refine hK7 _ _ ?_
   refine W.region ?_
   obtain ⟨j, ej, hf⟩ := letE hf
   refine WL.bin (v := .int .i64 j) h13 rfl (Y1V ej (Y1t _ _ _)) ?_
   refine WL.move (v := .int .i64 j) rfl ?_
   refine WL.nil ?_
   exact ⟨_, (Option.some.inj hf).symm, a, n, c, h0, h2, h3, h11, h12, rfl, hs⟩
  refine W.block ?_
  refine W.seqK fun K8 hK8 => ?_
  refine W.region ?_
  refine WL.indexAddr hs 0 rfl UN56 TI9 h11 h13 hnm (fun ad hs => ?_)
  refine WL.loadP hs 0 rfl TI9 (.inr rfl) rfl (fun v hs => ?_)
  obtain rfl := hs.str 0 rfl
  refine WL.assign (v := bstr nm) rfl ?_
  refine WL.nil ?_
  refine hK8 _ _ ?_
  have hs := hs.pick [2, 3]
  refine W.seqK fun K9 hK9 => ?_
  refine W.region ?_
  refine WL.move (v := bstr nm) rfl ?_
  refine WL.build (vs := [(0, bstr nm)]) (cs := [bstr nm, .slice none 0 0]) ⟨⟨rfl, rfl⟩, trivial⟩ (bld PL41 rfl) ?_
  refine WL.alloc hs ZV41 (fun g6 w hs => ?_)
  refine WL.storeAll (vs := [bstr nm, .slice none 0 0]) hs 0 rfl TI41 rfl rfl rfl rfl (Y0P rfl) rfl (fun w hs => ?_)
  refine WL.nil ?_
  refine hK9 _ _ ?_
  have hs := hs.ownNil Y0w 86
  refine W.seqK fun K10 hK10 => ?_
  have Jobj : ∀ (a4 : Option Addr) (n4 c4 : Nat) (ρ : Env) (w : World), ρ 0 = .map (some g) → ρ 2 = .pointer (some ⟨g2, 0, none⟩) → ρ 3 = .pointer (some ⟨g3, 0, none⟩) → ρ 6 = .pointer (some ⟨g6, 0, none⟩) → ρ 11 = .slice a1 ns.length c1 → ρ 12 = .int .i64 (ns.length : Int) → ρ 13 = .int .i64 i →
    St ok (bz w0) w [vl (Y0b tStr) ns (.slice a1 ns.length c1), vl (tMap bstr (tMap bstr Y0w)) x (.map (some g))] [own Y0w 86 (.slice a4 n4 c4) l, blk g6 41 [bstr nm, .slice a4 n4 c4], own Y0g 41 (.slice a n c) out, blk g3 25 [.slice a n c], blk g2 25 [.slice none 0 0]] → K10 ρ w := by
   intro a4 n4 c4 ρ w h0 h2 h3 h6 h11 h12 h13 hs
   refine hK10 _ _ ?_
   refine W.region ?_
   refine WL.fieldAddr (m := 0) h3 Y5I rfl ?_
   refine WL.load1 (v := .slice a n c) hs 3 rfl TI23 rfl rfl ?_
   refine WL.loadN (vs := [bstr nm, .slice a4 n4 c4]) hs 1 rfl TI41 h6 rfl rfl ?_
   refine WL.buildSlice (n := 1) (vs := [(0, .agg ([bstr nm, .slice a4 n4 c4] : List Value).toArray)]) (cs := [bstr nm, .slice a4 n4 c4]) hs ⟨⟨rfl, rfl⟩, trivial⟩ (bls PS23 (by decide) rfl) (fun g9 w hs => ?_)
   obtain rfl := hs.ownLen 1 rfl
   have hs := hs.freezeOwn 1 rfl
   obtain ⟨hb1, he1⟩ := appE hout
   refine WL.append (ys := [(⟨nm, l⟩ : Y0f)]) (zs := out') hs 2 rfl 0 rfl UN23 EI41 rfl rfl (fun ok hA => (Y0U.one (T := Y0g) (show Y0g.R ok _ (⟨nm, l⟩ : Y0f) _ from ⟨[bstr nm], [.slice a4 l.length c4], rfl, rfl, (Y5M (hA.get 0 rfl))⟩))) hb1 (by omega) he1 (fun v w hs => ?_)
   obtain ⟨a5, n5, c5, rfl⟩ := hs.ownv3 2 rfl
   refine WL.fieldAddr (m := 0) h3 Y5I rfl ?_
   refine WL.storeAll (vs := [.slice a5 n5 c5]) hs 3 rfl TI23 rfl rfl rfl rfl (Y0P rfl) rfl (fun w hs => ?_)
   refine WL.nil ?_
   exact Jend a5 n5 c5 _ _ h0 h2 h3 h11 h12 h13 ((hs.mask [false, false, true, true, true]).pick [1, 2])
  refine W.seqK fun K11 hK11 => ?_
  refine W.region ?_
  refine WL.move (v := .map (some g)) h0 ?_
  refine WL.move (v := bstr nm) rfl ?_
  refine WL.lookupT (V := tMap bstr Y0w) (z0 := []) (y := (x.lookup nm).getD []) hs 1 rfl (Y4F UN9) UN71 rfl rfl Y8u (fun _ _ => Y5c.2 (.inl ⟨rfl, rfl⟩)) rfl (fun mv hs => ?_)
  refine WL.sortedKeys sk_F UN9 hs 0 rfl rfl hfs (fun cl v w hs => ?_)
  obtain ⟨a7, c7, rfl⟩ := hs.ownv 0 rfl
  have hs := hs.freezeOwn 0 rfl
  refine WL.len (v := .slice a7 fs.length c7) rfl (Y10 UN56) ?_
  refine WL.move (v := .int .i64 0) rfl ?_
  refine WL.nil ?_
  refine hK11 _ _ ?_
  refine W.block ?_
  refine W.loop (σ := Int × List Y07) hl (fun s ρ w => match s with | (k, l) => ∃ (a4 : Option Addr), ∃ (n4 : Nat), ∃ (c4 : Nat), ρ 0 = .map (some g) ∧ ρ 2 = .pointer (some ⟨g2, 0, none⟩) ∧ ρ 3 = .pointer (some ⟨g3, 0, none⟩) ∧ ρ 5 = bstr nm ∧ ρ 6 = .pointer (some ⟨g6, 0, none⟩) ∧ ρ 11 = .slice a1 ns.length c1 ∧ ρ 12 = .int .i64 (ns.length : Int) ∧ ρ 13 = .int .i64 i ∧ ρ 23 = .slice a7 fs.length c7 ∧ ρ 24 = .int .i64 (fs.length : Int) ∧ ρ 25 = .int .i64 k ∧ St ok (bz w0) w [vl (Y0b tStr) fs (.slice a7 fs.length c7), vl (Y0b tStr) ns (.slice a1 ns.length c1), vl (tMap bstr (tMap bstr Y0w)) x (.map (some g))] [own Y0w 86 (.slice a4 n4 c4) l, blk g6 41 [bstr nm, .slice a4 n4 c4], own Y0g 41 (.slice a n c) out, blk g3 25 [.slice a n c], blk g2 25 [.slice none 0 0]]) ⟨none, 0, 0, h0, h2, h3, rfl, rfl, h11, h12, h13, rfl, rfl, rfl, hs.pick [0, 2, 3]⟩ ?_
  intro s ρ w o2 hI hf2 hbb2
  obtain ⟨k, l2⟩ := s
  obtain ⟨a4, n4, c4, h0, h2, h3, h5, h6, h11, h12, h13, h23, h24, h25, hs⟩ := hI
  unfold Y1o.l1 at hf2
  refine W.seqK fun K12 hK12 => ?_
  refine W.region ?_
  refine WL.bin (v := .bool (decide (k < (fs.length : Int)))) h25 h24 (Y1n _ _ _) ?_
  refine WL.nil ?_
  refine hK12 _ _ ?_
  refine W.seqK fun K13 hK13 => ?_
  rcases iteE hf2 with ⟨hc2, hf2⟩ | ⟨hc2, hf2⟩
  ·refine W.cond_true (Y02 rfl hc2) ?_
   refine W.skip ?_
   refine hK13 _ _ ?_
   obtain ⟨fm, hfm, hf2⟩ := Y0s hf2
   obtain ⟨l3, hl3, hf2⟩ := Y0s hf2
   refine W.seqK fun K14 hK14 => ?_
   refine W.block ?_
   refine W.seqK fun K15 hK15 => ?_
   refine W.region ?_
   refine WL.indexAddr hs 0 rfl UN56 TI9 h23 h25 hfm (fun ad hs => ?_)
   refine WL.loadP hs 0 rfl TI9 (.inr rfl) rfl (fun v hs => ?_)
   obtain rfl := hs.str 0 rfl
   refine WL.assign (v := bstr fm) rfl ?_
   refine WL.nil ?_
   refine hK15 _ _ ?_
   have hs := hs.pick [2, 3, 4]
   refine W.region ?_
   refine WL.fieldAddr (m := 1) h6 Y5H rfl ?_
   refine WL.load1 (v := .slice a4 n4 c4) hs 1 rfl TI39 rfl rfl ?_
   refine WL.move (v := .map (some g)) h0 ?_
   refine WL.move (v := bstr nm) h5 ?_
   refine WL.lookupT (V := tMap bstr Y0w) (z0 := []) (y := (x.lookup nm).getD []) hs 2 rfl (Y4F UN9) UN71 rfl rfl Y8u (fun _ _ => Y5c.2 (.inl ⟨rfl, rfl⟩)) rfl (fun mv2 hs => ?_)
   refine WL.move (v := bstr fm) rfl ?_
   refine WL.lookupT (V := Y0w) (z0 := Y19) (y := (((x.lookup nm).getD []).lookup fm).getD Y19) hs 0 rfl (Y4F UN9) Y7y rfl rfl ZR86 (fun ok w => Y2W (cs := Y25 Y19 (.slice none 0 0)) (fieldR ok w Y19 (.slice none 0 0) V_nil) rfl) rfl (fun fv hs => ?_)
   obtain ⟨ds, hld, rfl⟩ := hs.aggv (n := 12) 0 rfl rfl rfl
   obtain ⟨a6, c6, rfl⟩ := Y36 hs 0 rfl
   refine WL.buildSlice (n := 1) (vs := [(0, .agg (Y25 ((((x.lookup nm).getD []).lookup fm).getD Y19) (.slice a6 ((((x.lookup nm).getD []).lookup fm).getD Y19).Elems.length c6)).toArray)]) (cs := Y25 ((((x.lookup nm).getD []).lookup fm).getD Y19) (.slice a6 ((((x.lookup nm).getD []).lookup fm).getD Y19).Elems.length c6)) hs ⟨⟨rfl, rfl⟩, trivial⟩ (bls PS39 (by decide) rfl) (fun g9 w hs => ?_)
   obtain ⟨hb1, he1⟩ := appE hl3
   refine WL.append (ys := [(((x.lookup nm).getD []).lookup fm).getD Y19]) (zs := l3) hs 1 rfl 0 rfl UN39 EI86 rfl rfl (fun ok hA => Y0U.one (T := Y0w) (Y3F (hA.get 0 rfl) rfl)) hb1 (by omega) he1 (fun v w hs => ?_)
   obtain ⟨a8, n8, c8, rfl⟩ := hs.ownv3 1 rfl
   refine WL.fieldAddr (m := 1) h6 Y5H rfl ?_
   refine WL.store (vs := [.slice a8 n8 c8]) (cs' := [bstr nm, .slice a8 n8 c8]) hs 2 rfl TI39 rfl rfl rfl rfl (Y0P rfl) (Nat.le_of_ble_eq_true rfl) rfl (fun w hs => ?_)
   refine WL.nil ?_
   refine hK14 _ _ ?_
   refine W.region ?_
   obtain ⟨j, ej, hf2⟩ := letE hf2
   refine WL.bin (v := .int .i64 j) h25 rfl (Y1V ej (Y1t _ _ _)) ?_
   refine WL.move (v := .int .i64 j) rfl ?_
   refine WL.nil ?_
   exact ⟨_, (Option.some.inj hf2).symm, a8, n8, c8, h0, h2, h3, h5, h6, h11, h12, h13, h23, h24, rfl, (hs.mask [false, true, true, true, true, true]).pick [2, 3, 4]⟩
  ·refine W.cond_false (Y02 rfl hc2) ?_
   refine W.exit ?_
   have hr := Option.some.inj hf2; subst hr
   have hr := hbb2 _ rfl; subst hr
   exact Jobj a4 n4 c4 _ _ h0 h2 h3 h6 h11 h12 h13 (hs.pick [1, 2])
 ·refine W.cond_false (Y02 rfl hc) ?_
  refine W.exit ?_
  have hr := Option.some.inj hf; subst hr
  have hr := hbb _ rfl; subst hr
  exact Jret a n c _ _ h2 h3 (hs.pick [])
theorem St.bFreeze {ok : Nat → Prop} {F : Base} {w : World} {Γ : List It} {Λ : List LObj} {g : Nat} {x : Y1u} (hs : St ok F w Γ (bldo FKf g x :: Λ)) : St ok F w (vl (tMap bstr (tMap bstr Y0w)) (Y2z x) (.map (some g)) :: Γ) Λ :=
 St.bldFreeze FKf (T := Y0w) (fun ok w y v h => fieldR ok w y v h) rfl hs
theorem Y2m.calls {ok : Nat → Prop} {w0 : World} {x1 : Y0N} {x2 : Y0l} {v1 v2 : Value} {r : Y0N} (hf : Y2m x1 x2 = some r) (i0 : (vl Y0p x1 v1).holds ok w0) (i1 : (vl Y0r x2 v2).holds ok w0) :
  Calls Tryz.prog 42 #[v1, v2] w0 fun e w' => ∃ v, e = .returned v ∧ ∃ y : List Value, v = .agg y.toArray ∧ St ok (bz w0) w' [vl Y0p r (.agg y.toArray)] [] := by
 unfold Y2m at hf
 obtain ⟨b, hb, hf⟩ := Y0s hf
 obtain ⟨b', hb', hf⟩ := Y0s hf
 have hs : St ok (bz w0) w0 [vl Y0p x1 v1, vl Y0r x2 v2] [] := St.init (All.cons i0 (All.cons i1 All.nil))
 clear i0 i1
 obtain ⟨cs, hl, rfl⟩ := hs.aggv (n := 1) 0 rfl rfl rfl
 obtain ⟨ds, hld, rfl⟩ := hs.aggv (n := 4) 1 rfl rfl rfl
 refine Y0t (fn := Tryz.f42) (N := 13) Tryz.func42 rfl Tryz.ntmps42 rfl ?_
 refine W.seqK fun K1 hK1 => ?_
 refine W.region ?_
 refine WL.box (vs := cs) hs rfl rfl (fun g2 w hs => ?_)
 refine WL.box (vs := ds) hs rfl rfl (fun g3 w hs => ?_)
 refine WL.alloc hs ZV25 (fun g4 w hs => ?_)
 refine WL.nil ?_
 refine hK1 _ _ ?_
 refine W.seqK fun K2 hK2 => ?_
 refine W.region ?_
 refine WL.loadAll hs 2 rfl TI25 rfl hl ?_
 refine WL.call (vs := [.agg cs.toArray]) hs FN67 ⟨rfl, trivial⟩ (fun ok hA => Y1D.calls hb (hA.get 0 rfl)) ?_
 rintro g w hs
 refine WL.assign (v := .map (some g)) rfl ?_
 refine WL.nil ?_
 refine hK2 _ _ ?_
 refine W.seqK fun K3 hK3 => ?_
 refine W.region ?_
 refine WL.move (v := .map (some g)) rfl ?_
 refine WL.loadAll hs 2 rfl TI74 rfl hld ?_
 have hs := hs.pick [1]
 refine WL.callO (vs := [.map (some g), .agg ds.toArray]) [bldo FKf g b] hs FN29 ⟨rfl, rfl, trivial⟩ (fun ok F hA => Y1T.calls hb' hA) ?_
 rintro _ w hs
 refine WL.nil ?_
 refine hK3 _ _ ?_
 refine W.seqK fun K4 hK4 => ?_
 refine W.region ?_
 refine WL.move (v := .map (some g)) rfl ?_
 have hs := St.bFreeze hs
 refine WL.call (vs := [.map (some g)]) hs FN30 ⟨rfl, trivial⟩ (fun ok hA => Y1o.calls hf (hA.get 0 rfl)) ?_
 rintro y w hs
 have hly := hs.agglen (n := 1) 0 rfl rfl rfl
 refine WL.storeAll (vs := y) hs 0 rfl TI25 rfl rfl rfl hly (hs.ones 0 rfl rfl) rfl (fun w hs => ?_)
 refine WL.nil ?_
 refine hK4 _ _ ?_
 refine W.ret ?_
 exact ⟨_, Y0e rfl (Y2B hs 0 rfl TI25 rfl hly), y, rfl, (hs.mask []).pick [0]⟩
theorem Y1X.calls {ok : Nat → Prop} {w0 : World} {x1 : List Y0l} {a2 : Option Addr} {c3 : Nat} {r : Y0N} (hf : Y1X x1 = some r) (i0 : (vl (Y0b Y0r) x1 (.slice a2 x1.length c3)).holds ok w0) :
  Calls Tryz.prog 9 #[.slice a2 x1.length c3] w0 fun e w' => ∃ v, e = .returned v ∧ ∃ y : List Value, v = .agg y.toArray ∧ St ok (bz w0) w' [vl Y0p r (.agg y.toArray)] [] := by
 unfold Y1X at hf
 obtain ⟨b, hb, hf⟩ := Y0s hf
 have hs : St ok (bz w0) w0 [vl (Y0b Y0r) x1 (.slice a2 x1.length c3)] [] := St.init (All.cons i0 All.nil)
 clear i0
 refine Y0t (fn := Tryz.f9) (N := 19) Tryz.func9 rfl Tryz.ntmps9 rfl ?_
 refine W.seqK fun K1 hK1 => ?_
 refine W.region ?_
 refine WL.alloc hs ZV25 (fun g2 w hs => ?_)
 refine WL.nil ?_
 refine hK1 _ _ ?_
 refine W.seqK fun K2 hK2 => ?_
 refine W.region ?_
 refine WL.makeMap bstr Y2i hs (fun g w hs => ?_)
 refine WL.assign (v := .map (some g)) rfl ?_
 refine WL.nil ?_
 refine hK2 _ _ ?_
 have hs := St.bldClose (K := FKf) (g := g) (b := []) (C := fun _ => True) hs trivial rfl
 refine W.seqK fun K3 hK3 => ?_
 have Jret : ∀ (ρ : Env) (w : World), ρ 2 = .pointer (some ⟨g2, 0, none⟩) → ρ 3 = .map (some g) → St ok (bz w0) w [] [bldo FKf g b, blk g2 25 [.slice none 0 0]] → K3 ρ w := by
  intro ρ w h2 h3 hs
  refine hK3 _ _ ?_
  refine W.seqK fun K4 hK4 => ?_
  refine W.region ?_
  refine WL.move (v := .map (some g)) h3 ?_
  have hs := St.bFreeze hs
  refine WL.call (vs := [.map (some g)]) hs FN30 ⟨rfl, trivial⟩ (fun ok hA => Y1o.calls hf (hA.get 0 rfl)) ?_
  rintro y w hs
  have hly := hs.agglen (n := 1) 0 rfl rfl rfl
  refine WL.storeAll (vs := y) hs 0 rfl TI25 h2 rfl rfl hly (hs.ones 0 rfl rfl) rfl (fun w hs => ?_)
  refine WL.nil ?_
  refine hK4 _ _ ?_
  refine W.ret ?_
  exact ⟨_, Y0e rfl (Y2B hs 0 rfl TI25 h2 hly), y, rfl, (hs.mask []).pick [0]⟩
 refine W.seqK fun K4 hK4 => ?_
 refine W.region ?_
 refine WL.move (v := .slice a2 x1.length c3) rfl ?_
 refine WL.len (v := .slice a2 x1.length c3) rfl (Y10 UN28) ?_
 refine WL.move (v := .int .i64 0) rfl ?_
 refine WL.nil ?_
 refine hK4 _ _ ?_
 refine W.block ?_
 refine W.loop (σ := Int × Y1u) hb (fun s ρ w => match s with | (i, x) => ρ 2 = .pointer (some ⟨g2, 0, none⟩) ∧ ρ 3 = .map (some g) ∧ ρ 7 = .slice a2 x1.length c3 ∧ ρ 8 = .int .i64 (x1.length : Int) ∧ ρ 9 = .int .i64 i ∧ St ok (bz w0) w [vl (Y0b Y0r) x1 (.slice a2 x1.length c3)] [bldo FKf g x, blk g2 25 [.slice none 0 0]]) ⟨rfl, rfl, rfl, rfl, rfl, hs⟩ ?_
 intro s ρ w o hI hf2 hbb
 obtain ⟨i, x⟩ := s
 obtain ⟨h2, h3, h7, h8, h9, hs⟩ := hI
 unfold Y1X.l1 at hf2
 refine W.seqK fun K5 hK5 => ?_
 refine W.region ?_
 refine WL.bin (v := .bool (decide (i < (x1.length : Int)))) h9 h8 (Y1n _ _ _) ?_
 refine WL.nil ?_
 refine hK5 _ _ ?_
 refine W.seqK fun K6 hK6 => ?_
 rcases iteE hf2 with ⟨hc, hf2⟩ | ⟨hc, hf2⟩
 ·refine W.cond_true (Y02 rfl hc) ?_
  refine W.skip ?_
  refine hK6 _ _ ?_
  obtain ⟨u, hu, hf2⟩ := Y0s hf2
  obtain ⟨x', hx', hf2⟩ := Y0s hf2
  refine W.seqK fun K7 hK7 => ?_
  refine W.block ?_
  refine W.seqK fun K8 hK8 => ?_
  refine W.region ?_
  refine WL.indexAddr hs 0 rfl UN28 TI74 h7 h9 hu (fun ad hs => ?_)
  refine WL.loadP hs 0 rfl TI74 (.inl rfl) rfl (fun v hs => ?_)
  obtain ⟨ds, hld, rfl⟩ := hs.aggv (n := 4) 0 rfl rfl rfl
  refine WL.alloc hs ZV74 (fun g5 w hs => ?_)
  refine WL.storeAll (vs := ds) hs 0 rfl TI74 rfl rfl rfl hld (hs.ones 0 rfl rfl) rfl (fun w hs => ?_)
  refine WL.nil ?_
  refine hK8 _ _ ?_
  refine W.region ?_
  refine WL.move (v := .map (some g)) h3 ?_
  refine WL.loadAll hs 0 rfl TI74 rfl hld ?_
  have hs := (hs.front 1 rfl).pick [0, 2]
  have hs1 := hs.pick [0]
  refine WL.callR (vs := [.map (some g), .agg ds.toArray]) (R := fun v w' => St ok (bz w0) w' [vl (Y0b Y0r) x1 (.slice a2 x1.length c3)] [bldo FKf g x', blk g5 74 ds, blk g2 25 [.slice none 0 0]]) FN29 ⟨rfl, rfl, trivial⟩ ?_ ?_
  ·obtain ⟨ok2, bs2, hA, hput⟩ := St.callO (Λ := [bldo FKf g x]) hs
   refine (Y1T.calls (ok := ok2) hx' (hA.pick [0])).mono ?_
   rintro e' w' ⟨v, rfl, _, rfl, hs'⟩
   exact ⟨_, rfl, (hput w' _ _ hs').pick [1]⟩
  rintro _ w hs
  refine WL.nil ?_
  refine hK7 _ _ ?_
  refine W.region ?_
  obtain ⟨j, ej, hf2⟩ := letE hf2
  refine WL.bin (v := .int .i64 j) h9 rfl (Y1V ej (Y1t _ _ _)) ?_
  refine WL.move (v := .int .i64 j) rfl ?_
  refine WL.nil ?_
  exact ⟨_, (Option.some.inj hf2).symm, h2, h3, h7, h8, rfl, hs.mask [true, false, true]⟩
 ·refine W.cond_false (Y02 rfl hc) ?_
  refine W.exit ?_
  have hr := Option.some.inj hf2; subst hr
  have hr := hbb _ rfl; subst hr
  exact Jret _ _ h2 h3 (hs.pick [])
end
section
open Go Go.RowKit Go.Shelf Go.Sort Go.Proofs.YtpfgdjfiimknlaaGreatL
def Y6a : Go.Shelf.Ren := ⟨fun | 6 => 37 | 15 => 62 | 14 => 61 | 28 => 89 | 29 => 90 | 20 => 81 | 21 => 82 | 22 => 83 | 23 => 84 | 24 => 85 | 25 => 86 | 26 => 87 | 27 => 88 | 46 => 108 | 47 => 109 | 48 => 110 | 49 => 111 | 50 => 112 | 57 => 127 | n => n, fun | 22 => 37 | 24 => 47 | 25 => 89 | 3 => 3 | 39 => 125 | 0 => 0 | 53 => 148 | 55 => 150 | 4 => 4 | 46 => 142 | 45 => 141 | 50 => 108 | 5 => 5 | 9 => 9 | 66 => 162 | 70 => 166 | 76 => 177 | 77 => 178 | n => n, fun | n => n⟩
theorem Y8O : Go.Proofs.SlLaysF0.n6 Tryz.prog Y6a := {
 mixed := by kernel_rfl
 f6 := ⟨Tryz.f37.name, by decide, Tryz.func37.trans (congrArg some (by kernel_rfl))⟩
 f14 := ⟨Tryz.f61.name, by decide, Tryz.func61.trans (congrArg some (by kernel_rfl))⟩
 f15 := Tryz.func62.trans (congrArg some (by kernel_rfl))
 f20 := ⟨Tryz.f81.name, by decide, Tryz.func81.trans (congrArg some (by kernel_rfl))⟩
 f21 := ⟨Tryz.f82.name, by decide, Tryz.func82.trans (congrArg some (by kernel_rfl))⟩
 f22 := ⟨Tryz.f83.name, by decide, Tryz.func83.trans (congrArg some (by kernel_rfl))⟩
 f23 := ⟨Tryz.f84.name, by decide, Tryz.func84.trans (congrArg some (by kernel_rfl))⟩
 f24 := ⟨Tryz.f85.name, by decide, Tryz.func85.trans (congrArg some (by kernel_rfl))⟩
 f25 := ⟨Tryz.f86.name, by decide, Tryz.func86.trans (congrArg some (by kernel_rfl))⟩
 f26 := ⟨Tryz.f87.name, by decide, Tryz.func87.trans (congrArg some (by kernel_rfl))⟩
 f27 := ⟨Tryz.f88.name, by decide, Tryz.func88.trans (congrArg some (by kernel_rfl))⟩
 f28 := Tryz.func89.trans (congrArg some (by kernel_rfl))
 f29 := Tryz.func90.trans (congrArg some (by kernel_rfl))
 f46 := ⟨Tryz.f108.name, by decide, Tryz.func108.trans (congrArg some (by kernel_rfl))⟩
 f47 := Tryz.func109.trans (congrArg some (by kernel_rfl))
 f48 := Tryz.func110.trans (congrArg some (by kernel_rfl))
 f49 := ⟨Tryz.f111.name, by decide, Tryz.func111.trans (congrArg some (by kernel_rfl))⟩
 f50 := ⟨Tryz.f112.name, by decide, Tryz.func112.trans (congrArg some (by kernel_rfl))⟩
 f57 := ⟨Tryz.f127.name, by decide, Tryz.func127.trans (congrArg some (by kernel_rfl))⟩
 t0 := Tryz.underlying0
 a0 := Tryz.isAgg0
 z0 := Tryz.sizeOf0
 v0 := Tryz.zeroValue0
 t3 := Tryz.underlying3
 a3 := Tryz.isAgg3
 z3 := Tryz.sizeOf3
 v3 := Tryz.zeroValue3
 t4 := Tryz.underlying4
 a4 := Tryz.isAgg4
 z4 := Tryz.sizeOf4
 v4 := Tryz.zeroValue4
 t5 := Tryz.underlying5
 a5 := Tryz.isAgg5
 z5 := Tryz.sizeOf5
 v5 := Tryz.zeroValue5
 t9 := Tryz.underlying9
 a9 := Tryz.isAgg9
 z9 := Tryz.sizeOf9
 v9 := Tryz.zeroValue9
 t22 := Tryz.underlying37
 a22 := Tryz.isAgg37
 z22 := Tryz.sizeOf37
 v22 := Tryz.zeroValue37
 t25 := Tryz.underlying89
 a25 := Tryz.isAgg89
 z25 := Tryz.sizeOf89
 v25 := Tryz.zeroValue89
 t39 := Tryz.underlying125
 a39 := Tryz.isAgg125
 z39 := Tryz.sizeOf125
 v39 := Tryz.zeroValue125
 t45 := Tryz.underlying141
 a45 := Tryz.isAgg141
 z45 := Tryz.sizeOf141
 v45 := Tryz.zeroValue141
 t46 := Tryz.underlying142
 a46 := Tryz.isAgg142
 z46 := Tryz.sizeOf142
 v46 := Tryz.zeroValue142
 t50 := Tryz.underlying108
 a50 := Tryz.isAgg108
 z50 := Tryz.sizeOf108
 v50 := Tryz.zeroValue108
 t53 := Tryz.underlying148
 a53 := Tryz.isAgg148
 z53 := Tryz.sizeOf148
 v53 := Tryz.zeroValue148
 t55 := Tryz.underlying150
 a55 := Tryz.isAgg150
 z55 := Tryz.sizeOf150
 v55 := Tryz.zeroValue150
 t66 := Tryz.underlying162
 a66 := Tryz.isAgg162
 z66 := Tryz.sizeOf162
 v66 := Tryz.zeroValue162
 t70 := Tryz.underlying166
 a70 := Tryz.isAgg166
 z70 := Tryz.sizeOf166
 v70 := Tryz.zeroValue166
 t76 := Tryz.underlying177
 a76 := Tryz.isAgg177
 z76 := Tryz.sizeOf177
 v76 := Tryz.zeroValue177
 t77 := Tryz.underlying178
 a77 := Tryz.isAgg178
 z77 := Tryz.sizeOf178
 v77 := Tryz.zeroValue178 }
def Y6b : Go.Shelf.Ren := ⟨fun | 6 => 58 | 15 => 62 | 14 => 80 | 28 => 89 | 29 => 90 | 20 => 100 | 21 => 101 | 22 => 102 | 23 => 103 | 24 => 104 | 25 => 105 | 26 => 106 | 27 => 107 | 46 => 124 | 47 => 109 | 48 => 110 | 49 => 125 | 50 => 126 | 57 => 131 | n => n, fun | 22 => 33 | 24 => 65 | 25 => 122 | 3 => 3 | 39 => 125 | 0 => 0 | 53 => 148 | 55 => 150 | 4 => 4 | 46 => 142 | 45 => 141 | 50 => 108 | 5 => 5 | 9 => 9 | 66 => 162 | 70 => 166 | 76 => 177 | 77 => 178 | n => n, fun | n => n⟩
theorem Y8P : Go.Proofs.SlLaysF0.n6 Tryz.prog Y6b := {
 mixed := by kernel_rfl
 f6 := ⟨Tryz.f58.name, by decide, Tryz.func58.trans (congrArg some (by kernel_rfl))⟩
 f14 := ⟨Tryz.f80.name, by decide, Tryz.func80.trans (congrArg some (by kernel_rfl))⟩
 f15 := Tryz.func62.trans (congrArg some (by kernel_rfl))
 f20 := ⟨Tryz.f100.name, by decide, Tryz.func100.trans (congrArg some (by kernel_rfl))⟩
 f21 := ⟨Tryz.f101.name, by decide, Tryz.func101.trans (congrArg some (by kernel_rfl))⟩
 f22 := ⟨Tryz.f102.name, by decide, Tryz.func102.trans (congrArg some (by kernel_rfl))⟩
 f23 := ⟨Tryz.f103.name, by decide, Tryz.func103.trans (congrArg some (by kernel_rfl))⟩
 f24 := ⟨Tryz.f104.name, by decide, Tryz.func104.trans (congrArg some (by kernel_rfl))⟩
 f25 := ⟨Tryz.f105.name, by decide, Tryz.func105.trans (congrArg some (by kernel_rfl))⟩
 f26 := ⟨Tryz.f106.name, by decide, Tryz.func106.trans (congrArg some (by kernel_rfl))⟩
 f27 := ⟨Tryz.f107.name, by decide, Tryz.func107.trans (congrArg some (by kernel_rfl))⟩
 f28 := Tryz.func89.trans (congrArg some (by kernel_rfl))
 f29 := Tryz.func90.trans (congrArg some (by kernel_rfl))
 f46 := ⟨Tryz.f124.name, by decide, Tryz.func124.trans (congrArg some (by kernel_rfl))⟩
 f47 := Tryz.func109.trans (congrArg some (by kernel_rfl))
 f48 := Tryz.func110.trans (congrArg some (by kernel_rfl))
 f49 := ⟨Tryz.f125.name, by decide, Tryz.func125.trans (congrArg some (by kernel_rfl))⟩
 f50 := ⟨Tryz.f126.name, by decide, Tryz.func126.trans (congrArg some (by kernel_rfl))⟩
 f57 := ⟨Tryz.f131.name, by decide, Tryz.func131.trans (congrArg some (by kernel_rfl))⟩
 t0 := Tryz.underlying0
 a0 := Tryz.isAgg0
 z0 := Tryz.sizeOf0
 v0 := Tryz.zeroValue0
 t3 := Tryz.underlying3
 a3 := Tryz.isAgg3
 z3 := Tryz.sizeOf3
 v3 := Tryz.zeroValue3
 t4 := Tryz.underlying4
 a4 := Tryz.isAgg4
 z4 := Tryz.sizeOf4
 v4 := Tryz.zeroValue4
 t5 := Tryz.underlying5
 a5 := Tryz.isAgg5
 z5 := Tryz.sizeOf5
 v5 := Tryz.zeroValue5
 t9 := Tryz.underlying9
 a9 := Tryz.isAgg9
 z9 := Tryz.sizeOf9
 v9 := Tryz.zeroValue9
 t22 := Tryz.underlying33
 a22 := Tryz.isAgg33
 z22 := Tryz.sizeOf33
 v22 := Tryz.zeroValue33
 t25 := Tryz.underlying122
 a25 := Tryz.isAgg122
 z25 := Tryz.sizeOf122
 v25 := Tryz.zeroValue122
 t39 := Tryz.underlying125
 a39 := Tryz.isAgg125
 z39 := Tryz.sizeOf125
 v39 := Tryz.zeroValue125
 t45 := Tryz.underlying141
 a45 := Tryz.isAgg141
 z45 := Tryz.sizeOf141
 v45 := Tryz.zeroValue141
 t46 := Tryz.underlying142
 a46 := Tryz.isAgg142
 z46 := Tryz.sizeOf142
 v46 := Tryz.zeroValue142
 t50 := Tryz.underlying108
 a50 := Tryz.isAgg108
 z50 := Tryz.sizeOf108
 v50 := Tryz.zeroValue108
 t53 := Tryz.underlying148
 a53 := Tryz.isAgg148
 z53 := Tryz.sizeOf148
 v53 := Tryz.zeroValue148
 t55 := Tryz.underlying150
 a55 := Tryz.isAgg150
 z55 := Tryz.sizeOf150
 v55 := Tryz.zeroValue150
 t66 := Tryz.underlying162
 a66 := Tryz.isAgg162
 z66 := Tryz.sizeOf162
 v66 := Tryz.zeroValue162
 t70 := Tryz.underlying166
 a70 := Tryz.isAgg166
 z70 := Tryz.sizeOf166
 v70 := Tryz.zeroValue166
 t76 := Tryz.underlying177
 a76 := Tryz.isAgg177
 z76 := Tryz.sizeOf177
 v76 := Tryz.zeroValue177
 t77 := Tryz.underlying178
 a77 := Tryz.isAgg178
 z77 := Tryz.sizeOf178
 v77 := Tryz.zeroValue178 }
end
end Go.Proofs.YtpfgdjfiimknlaaGreat
namespace Go.Proofs.YtpfgdjfiimknlaaGreatL
section
open Go Go.RowKit
open Go.ChangeMaps (setBlock)
structure KS (P : Program) {κ : Type} [BEq κ] (t : TypeId) (kv : κ → Value) : Prop where
 und : ∃ desc, P.underlying t = some desc ∧ ∀ a b, Instr.sameNow desc (kv a) (kv b) = none
 eql : ∀ a b w, (Op.equal t (kv a) (kv b)).run P w = .ok (a == b) w
 bits : ∀ a, Instr.sameBits 10000 (kv a) (kv a) = true
 chk : ∀ e a w, (Instr.checkKey e 10000 t (kv a)).run P w = .ok () w
section
variable {P : Program} {κ β : Type} [BEq κ] [LawfulBEq κ] {kv : κ → Value} {V : Ty β} {ok : Nat → Prop} {w : World} {t : TypeId}
theorem Y3R (hk : KS P t kv) (k : κ) : ∀ {l : List (κ × β)} {es : List MapEntry} (i : Nat), Ents kv V ok w l es →
  (l.lookup k = none ∧ (Instr.findAsking t (kv k) es i).run P w = .ok none w ∧ (∀ y, mset l k y = l ++ [(k, y)]) ∧ mdel l k = l ∧ k ∉ l.map (·.1)) ∨
  ∃ j y e, l.lookup k = some y ∧ es[j]? = some e ∧ e.key = kv k ∧ (Instr.findAsking t (kv k) es i).run P w = .ok (some (i + j, e.val)) w ∧ V.V ok w y e.val ∧
   (∀ y' e', e'.key = kv k → V.V ok w y' e'.val → Ents kv V ok w (mset l k y') (es.set j e')) ∧ (∀ y', (mset l k y').map (·.1) = l.map (·.1)) ∧ Ents kv V ok w (mdel l k) (es.eraseIdx j)
 | [], [], i, _ => .inl ⟨rfl, rfl, fun _ => rfl, rfl, by simp⟩
 | x :: l, e :: es, i, ⟨h1, h2, h3⟩ => by
  have hs := hk.eql k x.1 w
  rw [← h1] at hs
  cases hkx : k == x.1 with
  | true =>
   have hkk : k = x.1 := by simpa using hkx
   rw [hkx] at hs
   refine .inr ⟨0, x.2, e, by simp [List.lookup, hkx], rfl, by rw [h1, hkk], by rw [Instr.findAsking]; exact (Y0o hs).trans rfl, h2, fun y' e' a b => ?_, fun y' => by simp [mset, hkx], by simpa [mdel, hkx] using h3⟩
   simp only [mset, hkx, if_true]
   exact ⟨by rw [a, hkk], b, h3⟩
  | false =>
   rw [hkx] at hs
   rcases Y3R hk k (i + 1) h3 with ⟨a1, a2, a3, a4, a5⟩ | ⟨j, y, e0, a1, a2, a3, a4, a5, a6, a7, a8⟩
   ·refine .inl ⟨by simp [List.lookup, hkx, a1], by rw [Instr.findAsking]; exact (Y0o hs).trans a2, fun y => by simp [mset, hkx, a3 y], by simp [mdel, hkx, a4], ?_⟩
    simp only [List.map_cons, List.mem_cons, not_or]
    exact ⟨by simpa using hkx, a5⟩
   ·refine .inr ⟨j + 1, y, e0, by simp [List.lookup, hkx, a1], by simpa using a2, a3, by rw [Instr.findAsking]; refine (Y0o hs).trans (a4.trans ?_); rw [Nat.add_assoc, Nat.add_comm 1], a5, fun y' e' p q => ?_, fun y' => by simp [mset, hkx, a7 y'], ?_⟩
    ·simp only [mset, hkx]
     exact ⟨h1, h2, a6 y' e' p q⟩
    ·simp only [mdel, hkx]
     exact ⟨h1, h2, a8⟩
 | [], _ :: _, _, h => h.elim
 | _ :: _, [], _, h => h.elim
theorem Y5R (hk : KS P t kv) (k : κ) {l : List (κ × β)} {es : List MapEntry} (he : Ents kv V ok w l es) {r : Option (Nat × Value)} (h : (Instr.findAsking t (kv k) es 0).run P w = .ok r w) : (Instr.findKey t (kv k) es).run P w = .ok r w := by
 obtain ⟨desc, hu, hn⟩ := hk.und
 unfold Instr.findKey
 refine (Y0o (Y2d hu w)).trans ?_
 match l, es, he with
 | [], [], _ => exact h
 | x :: l, e :: es, ⟨h1, _, _⟩ =>
  have : Instr.findNow desc (kv k) (e :: es) 0 = none := by rw [Instr.findNow, h1, hn]
  rw [this]
  exact h
theorem Y3Q (hk : KS P t kv) (k : κ) {l : List (κ × β)} {es : List MapEntry} (he : Ents kv V ok w l es) :
  (l.lookup k = none ∧ (Instr.findKey t (kv k) es).run P w = .ok none w ∧ (∀ y, mset l k y = l ++ [(k, y)]) ∧ mdel l k = l ∧ k ∉ l.map (·.1)) ∨
  ∃ j y e, l.lookup k = some y ∧ es[j]? = some e ∧ e.key = kv k ∧ (Instr.findKey t (kv k) es).run P w = .ok (some (0 + j, e.val)) w ∧ V.V ok w y e.val ∧
   (∀ y' e', e'.key = kv k → V.V ok w y' e'.val → Ents kv V ok w (mset l k y') (es.set j e')) ∧ (∀ y', (mset l k y').map (·.1) = l.map (·.1)) ∧ Ents kv V ok w (mdel l k) (es.eraseIdx j) := by
 rcases Y3R hk k 0 he with ⟨a1, a2, a3⟩ | ⟨j, y, e, a1, a2, a3, a4, a5⟩
 ·exact .inl ⟨a1, Y5R hk k he a2, a3⟩
 ·exact .inr ⟨j, y, e, a1, a2, a3, Y5R hk k he a4, a5⟩
end
section
variable {P : Program} {N : Nat} {Q : QE} {ρ : Env} {w : World} {w0 : Base} {ok0 : Nat → Prop} {Γ : List It} {Λ : List LObj}
variable {d : Option Tmp} {ty : TypeId} {pos : String} {aft : Array Edge} {gd : Option (Nat × Bool)} {ops : Array Oper} {rest : List Oper}
variable {κ β : Type} [BEq κ] [LawfulBEq κ] {kv : κ → Value} {V : Ty β}
theorem WL.lookupS {t kt et : TypeId} {m x : Operand} {g : Nat} {l : List (κ × β)} {a : κ} {z0 : β} {zc : Value} (hs : St ok0 w0 w Γ Λ) (i : Nat) (hi : Λ[i]? = some (mapo kv V g l)) (hk : KS P kt kv) (ht : P.underlying t = some (.map kt et))
  (hm : ρ.ev m = .map (some g)) (hx : ρ.ev x = kv a) (hz : ∀ w, (zeroValue et).run P w = .ok zc w) (hzV : ∀ (ok : Nat → Prop) (w : World), V.V ok w z0 zc) {y : β} (hy : (l.lookup a).getD z0 = y)
  (K : ∀ v, St ok0 w0 w (vl V y v :: Γ) Λ → WL P N ops Q rest (putE ρ d v) w)
  (hg : Y0C ops ρ ⟨d, .lookup t m x false, ty, pos, aft, gd⟩ = true := by rfl) (hd : fits N d = true := by rfl) :
  WL P N ops Q (⟨d, .lookup t m x false, ty, pos, aft, gd⟩ :: rest) ρ w := by
 subst hy
 obtain ⟨ok, bs, ho, hA, _, _, _⟩ := hs.split i hi
 obtain ⟨_, es, c, hh, he, _, _, _⟩ := ho
 have go : ∀ r : Option (Nat × Value), (Instr.findKey kt (kv a) es.toList).run P w = .ok r w → ∀ v, (match r with | some (_, v) => v | none => zc) = v → (Instr.lookup t (.map (some g)) (kv a) false).run P w = .ok v w := by
  intro r hr v hv
  unfold Instr.lookup
  refine (Y0o (Y2d ht w)).trans ?_
  refine (Y0o ((Y0o (Y3X hh)).trans rfl)).trans ?_
  refine (Y0o (hk.chk _ a w)).trans ?_
  refine (Y0o hr).trans ?_
  cases r with
  | none => subst hv; exact (Y0o (hz w)).trans rfl
  | some p => obtain ⟨j, u⟩ := p; subst hv; rfl
 have fin : ∀ v, (Instr.lookup t (.map (some g)) (kv a) false).run P w = .ok v w → St ok0 w0 w (vl V ((l.lookup a).getD z0) v :: Γ) Λ → WL P N ops Q (⟨d, .lookup t m x false, ty, pos, aft, gd⟩ :: rest) ρ w := by
  intro v hv hst
  exact WL.value hg hd (v := v) (w' := w) (by
   show (do pure (Next.value (← Instr.lookup t (ρ.ev m) (ρ.ev x) false)) : Sem Next).run P w = _
   rw [hm, hx]
   exact Y1K hv) (K v hst)
 rcases Y3Q hk a he with ⟨a1, a2, _⟩ | ⟨j, y, e, a1, a2, a3, a4, a5, _⟩
 ·exact fin zc (go _ a2 _ rfl) (hs.add fun ok _ => by rw [a1]; exact hzV ok w)
 ·refine fin e.val (go _ a4 _ rfl) (hs.addO i hi fun ok' bs' h' => ?_)
  obtain ⟨_, es', c', hh', he', _⟩ := h'
  rw [hh] at hh'
  cases hh'
  rcases Y3Q hk a he' with ⟨b1, _⟩ | ⟨j', y', e', b1, b2, b3, b4, b5, _⟩
  ·rw [a1] at b1; cases b1
  ·rw [a4] at b4
   injection b4 with b4 _
   simp only [Option.some.injEq, Prod.mk.injEq] at b4
   rw [b1]
   show V.V ok' w y' e.val
   rw [b4.2]
   exact b5
theorem WL.mapUpdateS {t kt et : TypeId} {m x u : Operand} {g : Nat} {l l' : List (κ × β)} {a : κ} {y : β} {v : Value} (hs : St ok0 w0 w Γ Λ) (i : Nat) (hi : Λ[i]? = some (mapo kv V g l)) (hk : KS P kt kv) (ht : P.underlying t = some (.map kt et))
  (hm : ρ.ev m = .map (some g)) (hx : ρ.ev x = kv a) (hu : ρ.ev u = v) (hV : ∀ ok, All ok w Γ → V.V ok w y v) (hl : mset l a y = l')
  (K : ∀ w', St ok0 w0 w' Γ (Λ.set i (mapo kv V g l')) → WL P N ops Q rest (putE ρ d undef) w')
  (hg : Y0C ops ρ ⟨d, .mapUpdate t m x u, ty, pos, aft, gd⟩ = true := by rfl) (hd : fits N d = true := by rfl) :
  WL P N ops Q (⟨d, .mapUpdate t m x u, ty, pos, aft, gd⟩ :: rest) ρ w := by
 subst hl
 obtain ⟨ok, bs, ho, hA, hn, hbs, hput⟩ := hs.split i hi
 obtain ⟨rfl, es, c, hh, he, hb1, hb2, hnd⟩ := ho
 have hlt := Y0K hh
 have hVy := hV ok hA
 have fin : ∀ (es' : Array MapEntry) (c' : Nat), (Instr.mapUpdate t (.map (some g)) (kv a) v).run P w = .ok () (setBlock w g (.map es' c')) → Ents kv V ok w (mset l a y) es'.toList →
   (es'.toList.map (·.born)).Nodup → (∀ e ∈ es'.toList, e.born < c') → ((mset l a y).map (·.1)).Nodup → WL P N ops Q (⟨d, .mapUpdate t m x u, ty, pos, aft, gd⟩ :: rest) ρ w := by
  intro es' c' hrun h1 h2 h3 h4
  obtain ⟨o1, o2, o3⟩ := Y4R (w := w) (g := g) (.map es' c') hlt
  refine WL.unit hg hd (w' := setBlock w g (.map es' c')) (by
   show (do Instr.mapUpdate t (ρ.ev m) (ρ.ev x) (ρ.ev u); pure Next.skip : Sem Next).run P w = _
   rw [hm, hx, hu]
   exact Y6J hrun) (K _ (hput _ [g] _ o1 (by simp) (fun b hb => ⟨.inl hb, ?_⟩) fun ok' hm' => ⟨rfl, es', c', o2, h1.move hm', h2, h3, h4⟩))
  simp at hb; subst hb; omega
 have pre : ∀ r : Option (Nat × Value), (Instr.findKey kt (kv a) es.toList).run P w = .ok r w → (Instr.mapUpdate t (.map (some g)) (kv a) v).run P w =
   ((match r with
    | some (i, _) => do
     let key ← Instr.keyThatStays (((es[i]?).map (·.key)).getD (kv a)) (kv a)
     setObj g (.map (es.modify i fun e => { e with key, val := v }) c)
    | none => setObj g (.map (es.push { key := kv a, val := v, born := c }) (c + 1))) : Sem Unit).run P w := by
  intro r hr
  unfold Instr.mapUpdate
  refine (Y0o (Y2d ht w)).trans ?_
  refine (Y0o (Y3X hh)).trans ?_
  refine (Y0o (hk.chk _ a w)).trans ?_
  exact (Y0o hr).trans rfl
 rcases Y3Q hk a he with ⟨a1, a2, a3, _, a5⟩ | ⟨j, y0, e, a1, a2, a3, a4, a5, a6, a7, _⟩
 ·refine fin (es.push { key := kv a, val := v, born := c }) (c + 1) ((pre _ a2).trans (Y53 hh _)) ?_ ?_ ?_ ?_
  ·rw [a3 y, Array.toList_push]
   exact Ents.app he ⟨rfl, hVy, trivial⟩
  ·rw [Array.toList_push, List.map_append, List.nodup_append]
   refine ⟨hb1, by simp, fun p hp q hq => ?_⟩
   obtain ⟨e, he, rfl⟩ := List.mem_map.1 hp
   simp at hq
   have := hb2 e he
   omega
  ·intro e he
   rw [Array.toList_push] at he
   rcases List.mem_append.1 he with he | he
   ·have := hb2 e he; omega
   ·simp at he; subst he; simp
  ·rw [a3 y, List.map_append, List.nodup_append]
   exact ⟨hnd, by simp, fun p hp q hq e => by simp at hq; subst hq; subst e; exact a5 hp⟩
 ·have hj : es[j]? = some e := by simpa using a2
  have hkey : (((es[j]?).map (·.key)).getD (kv a)) = kv a := by rw [hj]; exact a3
  have hset : (es.modify j fun e => { e with key := kv a, val := v }).toList = es.toList.set j { e with key := kv a, val := v } := by
   rw [Array.toList_modify]
   apply List.ext_getElem?
   intro q
   rw [List.getElem?_modify, List.getElem?_set]
   by_cases hq : j = q
   ·subst hq
    have hjs : j < es.size := by simpa using (List.getElem?_eq_some_iff.1 a2).1
    have a2' : es[j]? = some e := hj
    rw [if_pos rfl, if_pos (by simpa using hjs), a2]
    simp
   ·simp [hq]
  refine fin (es.modify j fun e => { e with key := kv a, val := v }) c ((pre _ a4).trans ?_) ?_ ?_ ?_ ?_
  ·simp only [Nat.zero_add, hkey]
   refine (Y0o (x := kv a) (w' := w) ?_).trans (Y53 hh _)
   unfold Instr.keyThatStays
   rw [hk.bits, if_pos rfl]
   rfl
  ·rw [hset]; exact a6 y _ rfl hVy
  ·have hborn : (es.toList.set j { e with key := kv a, val := v }).map (·.born) = es.toList.map (·.born) := by
    apply List.ext_getElem?
    intro q
    rw [List.getElem?_map, List.getElem?_map, List.getElem?_set]
    by_cases hq : j = q
    ·subst hq
     have := (List.getElem?_eq_some_iff.1 a2).1
     rw [if_pos rfl, if_pos this, a2]
     rfl
    ·simp [hq]
   rw [hset, hborn]
   exact hb1
  ·intro e' he'
   rw [hset] at he'
   rcases List.mem_or_eq_of_mem_set he' with h | h
   ·exact hb2 e' h
   ·subst h; exact hb2 e (List.mem_of_getElem? a2)
  ·rw [a7]; exact hnd
end
end
section
open Go Go.RowKit
section
variable {κ α : Type} [BEq κ] [LawfulBEq κ] (kv : κ → Value) (A : Ty α) (E : TypeId)
abbrev GE (κ α : Type) := κ × List α × Value
def gout (b : List (GE κ α)) : List (κ × Value) := b.map fun o => (o.1, o.2.2)
def Y3p (b : List (GE κ α)) : List (κ × List α) := b.map fun o => (o.1, o.2.1)
def Y6g (b : List (GE κ α)) : List (LObj × List Nat) := b.map fun o => (own A E o.2.2 o.2.1, fpV o.2.2)
def Y7R : Option (κ × Value × List α) → List (GE κ α) → List (LObj × List Nat)
 | none, b => Y6g A E b
 | some (k, v, ys), b => (own A E v ys, fpV v) :: Y6g A E (b.filter fun o => !(o.1 == k))
def grpP (t : Option (κ × Value × List α)) (g : Nat) (b : List (GE κ α)) : List (LObj × List Nat) := (mapo kv Y2i g (gout b), [g]) :: Y7R A E t b
def Y8p (t : Option (κ × Value × List α)) (b : List (GE κ α)) : List LObj := (Y7R A E t b).map (·.1)
def grpL (t : Option (κ × Value × List α)) (g : Nat) (b : List (GE κ α)) : List LObj := (grpP kv A E t g b).map (·.1)
theorem Y7S (b : List (GE κ α)) : ∀ p ∈ Y6g A E b, ∀ ok bs w, p.1.H ok bs w → bs = p.2 := by
 intro p hp ok bs w h
 obtain ⟨o, _, rfl⟩ := List.mem_map.1 hp
 exact Y7F h
theorem Y91 (t : Option (κ × Value × List α)) (g : Nat) (b : List (GE κ α)) : ∀ p ∈ grpP kv A E t g b, ∀ ok bs w, p.1.H ok bs w → bs = p.2 := by
 intro p hp ok bs w h
 rcases List.mem_cons.1 hp with rfl | hp
 ·exact h.1
 ·match t, hp with
  | none, hp => exact Y7S A E b p hp ok bs w h
  | some (k, v, ys), hp =>
   rcases List.mem_cons.1 hp with rfl | hp
   ·exact Y7F h
   ·exact Y7S A E _ p hp ok bs w h
theorem Y4t (b : List (GE κ α)) : (Y6g A E b).map (·.2) = (gout b).map fun o => fpV o.2 := by
 unfold Y6g gout
 rw [List.map_map, List.map_map]
 rfl
theorem Y5s (k : κ) (b : List (GE κ α)) : gout (b.filter fun o => !(o.1 == k)) = (gout b).filter fun o => !(o.1 == k) := by
 unfold gout
 rw [List.filter_map]
 rfl
theorem grpP_snd {t : Option (κ × Value × List α)} {g : Nat} {b b' : List (GE κ α)} (h : gout b = gout b') : (grpP kv A E t g b).map (·.2) = (grpP kv A E t g b').map (·.2) := by
 unfold grpP
 rw [List.map_cons, List.map_cons]
 congr 1
 match t with
 | none => exact (Y4t A E b).trans ((congrArg _ h).trans (Y4t A E b').symm)
 | some (k, v, ys) =>
  show fpV v :: (Y6g A E _).map (·.2) = fpV v :: (Y6g A E _).map (·.2)
  rw [Y4t, Y4t, Y5s, Y5s, h]
def grpo (hkv : ∀ {a b}, kv a = kv b → a = b) (t : Option (κ × Value × List α)) (g : Nat) (x : List (κ × List α)) : LObj where
 H := fun ok bs w => ∃ (b : List (GE κ α)) (bss : List (List Nat)), Y3p b = x ∧ bs = bss.flatten ∧ bss.flatten.Nodup ∧ Own ok w (grpL kv A E t g b) bss
 fn := by
  rintro ok ok' bs bs' w ⟨b, bss, _, rfl, _, h⟩ ⟨b', bss', _, rfl, _, h'⟩
  have e1 := Own.eqs (Y91 kv A E t g b) h
  have e2 := Own.eqs (Y91 kv A E t g b') h'
  obtain ⟨_, q1⟩ := Own.mem h _ (List.mem_cons_self ..)
  obtain ⟨_, q2⟩ := Own.mem h' _ (List.mem_cons_self ..)
  obtain ⟨_, es, c, h1, h2, _⟩ := q1
  obtain ⟨_, es', c', k1, k2, _⟩ := q2
  rw [h1] at k1
  cases k1
  have el := Ents.inj_ hkv (fun {x y v} hx hy => (Y2A.1 hx).1.symm.trans (Y2A.1 hy).1) h2 k2
  rw [e1, e2, grpP_snd kv A E el]
 lt := by
  rintro ok bs w ⟨b, bss, _, rfl, _, h⟩ k hk
  exact h.lt k hk
 move := by
  rintro ok ok' bs w w' ⟨b, bss, hc, rfl, hn, h⟩ hk hm
  exact ⟨b, bss, hc, rfl, hn, h.move hm hk⟩
variable {kv A E} {hkv : ∀ {a b}, kv a = kv b → a = b} {w : World} {w0 : Base} {ok0 : Nat → Prop} {Γ : List It} {Λ : List LObj} {t : Option (κ × Value × List α)} {g : Nat} {x : List (κ × List α)} {b : List (GE κ α)}
theorem St.grpOpen (hs : St ok0 w0 w Γ (grpo kv A E hkv t g x :: Λ)) : ∃ b, Y3p b = x ∧ St ok0 w0 w Γ (mapo kv Y2i g (gout b) :: (Y8p A E t b ++ Λ)) := by
 obtain ⟨hB, bss, hN, hlt, hO, hA⟩ := hs
 match bss, hO with
 | [], h => exact h.elim
 | bs :: bss, hO =>
  obtain ⟨⟨b, bs1, hc, e0, hn, h1⟩, h2⟩ := hO
  subst e0
  have e : (bs1 ++ bss).flatten = (bs1.flatten :: bss).flatten := by simp
  exact ⟨b, hc, hB, bs1 ++ bss, by rw [e]; exact hN, by rw [e]; exact hlt, by rw [e]; exact Own.both h1 h2, by rw [e]; exact hA⟩
theorem St.grpClose (hs : St ok0 w0 w Γ (mapo kv Y2i g (gout b) :: (Y8p A E t b ++ Λ))) (hc : Y3p b = x) : St ok0 w0 w Γ (grpo kv A E hkv t g x :: Λ) := by
 have hs : St ok0 w0 w Γ (grpL kv A E t g b ++ Λ) := hs
 obtain ⟨hB, bss, hN, hlt, hO, hA⟩ := hs
 obtain ⟨a, c, rfl, ha, hcc⟩ := Own.part hO
 have e : (a.flatten :: c).flatten = (a ++ c).flatten := by simp
 refine ⟨hB, a.flatten :: c, by rw [e]; exact hN, by rw [e]; exact hlt, ⟨⟨b, a, hc, rfl, ?_, by rw [e]; exact ha⟩, by rw [e]; exact hcc⟩, by rw [e]; exact hA⟩
 rw [List.flatten_append] at hN
 exact (List.nodup_append.1 hN).1
theorem St.grpNew (hs : St ok0 w0 w Γ (mapo kv Y2i g [] :: Λ)) : St ok0 w0 w Γ (grpo kv A E hkv none g [] :: Λ) := St.grpClose (b := []) hs rfl
theorem gkeys (b : List (GE κ α)) : (gout b).map (·.1) = b.map (·.1) := by
 unfold gout
 rw [List.map_map]
 rfl
theorem glook {k : κ} : ∀ {b : List (GE κ α)}, (gout b).lookup k = none → (Y3p b).lookup k = none ∧ b.filter (fun o => !(o.1 == k)) = b ∧ ∀ o ∈ b, (k == o.1) = false
 | [], _ => ⟨rfl, rfl, by simp⟩
 | o :: b, h => by
  unfold gout at h
  rw [List.map_cons, List.lookup_cons] at h
  cases hk : k == o.1 with
  | true => simp [hk] at h
  | false =>
   simp only [hk] at h
   obtain ⟨h1, h2, h3⟩ := glook (b := b) h
   have hk2 : (o.1 == k) = false := by
    rw [beq_eq_false_iff_ne] at hk ⊢
    exact fun e => hk e.symm
   refine ⟨?_, ?_, ?_⟩
   ·unfold Y3p
    rw [List.map_cons, List.lookup_cons]
    simp only [hk]
    exact h1
   ·rw [List.filter_cons, hk2]
    simp only [Bool.not_false, if_true, h2]
   ·intro q hq
    rcases List.mem_cons.1 hq with rfl | hq
    ·exact hk
    ·exact h3 q hq
theorem Y92 {k : κ} {v : Value} : ∀ {b : List (GE κ α)}, (b.map (·.1)).Nodup → (gout b).lookup k = some v → ∃ ys b1 b2, b = b1 ++ (k, ys, v) :: b2 ∧ (Y3p b).lookup k = some ys ∧ b.filter (fun o => !(o.1 == k)) = b1 ++ b2 ∧ (∀ o ∈ b1, (k == o.1) = false)
 | [], _, h => by simp [gout] at h
 | o :: b, hn, h => by
  rw [List.map_cons, List.nodup_cons] at hn
  unfold gout at h
  rw [List.map_cons, List.lookup_cons] at h
  cases hk : k == o.1 with
  | true =>
   simp only [hk, Option.some.injEq] at h
   obtain ⟨k0, ys0, v0⟩ := o
   simp only at h hk
   have ek : k = k0 := by simpa using hk
   subst ek
   subst h
   refine ⟨ys0, [], b, rfl, ?_, ?_, by simp⟩
   ·unfold Y3p
    rw [List.map_cons, List.lookup_cons]
    simp
   ·rw [List.filter_cons]
    simp only [beq_self_eq_true, Bool.not_true, Bool.false_eq_true, if_false, List.nil_append]
    rw [List.filter_eq_self]
    intro q hq
    simp only [Bool.not_eq_true', beq_eq_false_iff_ne]
    rintro rfl
    exact hn.1 (List.mem_map.2 ⟨q, hq, rfl⟩)
  | false =>
   simp only [hk] at h
   obtain ⟨ys, b1, b2, e, h1, h2, h3⟩ := Y92 (b := b) hn.2 h
   have hk2 : (o.1 == k) = false := by
    rw [beq_eq_false_iff_ne] at hk ⊢
    exact fun e => hk e.symm
   refine ⟨ys, o :: b1, b2, by rw [e]; rfl, ?_, ?_, ?_⟩
   ·unfold Y3p
    rw [List.map_cons, List.lookup_cons]
    simp only [hk]
    exact h1
   ·rw [List.filter_cons, hk2]
    simp only [Bool.not_false, if_true, h2]
    rfl
   ·intro q hq
    rcases List.mem_cons.1 hq with rfl | hq
    ·exact hk
    ·exact h3 q hq
def gown (b : List (GE κ α)) (A : Ty α) (E : TypeId) : List LObj := b.map fun o => own A E o.2.2 o.2.1
theorem Y40 (b : List (GE κ α)) : Y8p A E none b = gown b A E := by
 unfold Y8p Y7R Y6g gown
 rw [List.map_map]
 rfl
theorem Y3o (k : κ) (v : Value) (ys : List α) (b : List (GE κ α)) : Y8p A E (some (k, v, ys)) b = own A E v ys :: gown (b.filter fun o => !(o.1 == k)) A E := by
 unfold Y8p Y7R Y6g gown
 rw [List.map_cons, List.map_map]
 rfl
theorem Y8K {β : Type} {b1 b2 : List (κ × β)} {k : κ} {y y' : β} (h : ∀ o ∈ b1, (k == o.1) = false) : mset (b1 ++ (k, y) :: b2) k y' = b1 ++ (k, y') :: b2 := by
 induction b1 with
 | nil => simp [mset]
 | cons o b1 ih =>
  have h0 := h o (by simp)
  rw [List.cons_append, mset, h0]
  simp only [Bool.false_eq_true, if_false]
  rw [ih fun q hq => h q (by simp [hq])]
  rfl
theorem St.keysNodup (hs : St ok0 w0 w Γ Λ) (i : Nat) {β : Type} {V : Ty β} {l : List (κ × β)} (hi : Λ[i]? = some (mapo kv V g l)) : (l.map (·.1)).Nodup := by
 obtain ⟨ok, bs, ho, _⟩ := hs.split i hi
 obtain ⟨_, es, c, _, _, _, _, h⟩ := ho
 exact h
variable {P : Program} {N : Nat} {Q : QE} {ρ : Env} {d : Option Tmp} {ty : TypeId} {pos : String} {aft : Array Edge} {gd : Option (Nat × Bool)} {ops : Array Oper} {rest : List Oper}
theorem WL.grpLook {mt kt et : TypeId} {m xo : Operand} {k : κ} (hs : St ok0 w0 w Γ (grpo kv A E hkv none g x :: Λ)) (hk : KS P kt kv) (ht : P.underlying mt = some (.map kt et)) (hm : ρ.ev m = .map (some g)) (hx : ρ.ev xo = kv k) (hz : ∀ w, (zeroValue et).run P w = .ok (.slice none 0 0) w)
  (K : ∀ v, St ok0 w0 w Γ (grpo kv A E hkv (some (k, v, (x.lookup k).getD [])) g x :: Λ) → WL P N ops Q rest (putE ρ d v) w)
  (hg : Y0C ops ρ ⟨d, .lookup mt m xo false, ty, pos, aft, gd⟩ = true := by rfl) (hd : fits N d = true := by rfl) :
  WL P N ops Q (⟨d, .lookup mt m xo false, ty, pos, aft, gd⟩ :: rest) ρ w := by
 obtain ⟨b, hc, h1⟩ := hs.grpOpen
 rw [Y40] at h1
 have hn := h1.keysNodup 0 rfl
 rw [gkeys] at hn
 refine WL.lookupS (z0 := Value.slice none 0 0) h1 0 rfl hk ht hm hx hz (fun _ _ => Y2A.2 ⟨rfl, rfl⟩) rfl (fun v h2 => K v ?_) hg hd
 have hv : v = ((gout b).lookup k).getD (.slice none 0 0) := h2.cellv 0 rfl
 cases hl : (gout b).lookup k with
 | none =>
  obtain ⟨q1, q2, _⟩ := glook hl
  rw [hl] at hv
  have hv : v = .slice none 0 0 := hv
  subst hv
  have h3 : St ok0 w0 w Γ (mapo kv Y2i g (gout b) :: (gown b A E ++ Λ)) := h1
  have h4 := (h3.ownNil A E).perm (List.Perm.swap _ _ _)
  refine St.grpClose (b := b) ?_ hc
  rw [Y3o, q2, ← hc, q1]
  exact h4
 | some v' =>
  rw [hl] at hv
  have hv : v = v' := hv
  subst hv
  obtain ⟨ys, b1, b2, e, q1, q2, _⟩ := Y92 hn hl
  refine St.grpClose (b := b) ?_ hc
  rw [Y3o, q2, ← hc, q1]
  refine h1.perm (List.Perm.cons _ ?_)
  refine List.Perm.append_right Λ ?_
  rw [e]
  unfold gown
  rw [List.map_append, List.map_cons, List.map_append]
  exact List.perm_middle
theorem WL.grpApp {T : TypeId} {z : Value} {bytes : Nat} {s xo : Operand} {k : κ} {v : Value} {ys zs us : List α} {a : Option Addr} {c : Nat} (hs : St ok0 w0 w Γ (grpo kv A E hkv (some (k, v, ys)) g x :: Λ)) (j : Nat) (hj : Γ[j]? = some (vl (Y0b A) zs (.slice a zs.length c)))
  (hT : P.underlying T = some (.slice E)) (hE : EI P E z A.sz bytes) (hsv : ρ.ev s = v) (hx : ρ.ev xo = .slice a zs.length c)
  (hb : (ys.length + zs.length) * bytes ≤ 140737488355328) (h63 : ys.length + zs.length ≤ 9223372036854775807) (hu : ys ++ zs = us)
  (K : ∀ v' w', St ok0 w0 w' Γ (grpo kv A E hkv (some (k, v', us)) g x :: Λ) → WL P N ops Q rest (putE ρ d v') w')
  (hg : Y0C ops ρ ⟨d, .call { callee := .builtin .append, args := #[s, xo], argTypes := #[T, T] }, ty, pos, aft, gd⟩ = true := by rfl) (hd : fits N d = true := by rfl) :
  WL P N ops Q (⟨d, .call { callee := .builtin .append, args := #[s, xo], argTypes := #[T, T] }, ty, pos, aft, gd⟩ :: rest) ρ w := by
 obtain ⟨b, hc, h1⟩ := hs.grpOpen
 rw [Y3o] at h1
 refine WL.appendS (zs := us) h1 1 rfl j hj hT hT hE hsv hx hb h63 hu (fun v' w' h2 => K v' w' ?_) hg hd
 refine St.grpClose (b := b) ?_ hc
 rw [Y3o]
 exact h2
theorem WL.grpPut {mt kt et : TypeId} {m xo u : Operand} {k : κ} {v : Value} {ys : List α} (hs : St ok0 w0 w Γ (grpo kv A E hkv (some (k, v, ys)) g x :: Λ)) (hk : KS P kt kv) (ht : P.underlying mt = some (.map kt et)) (hm : ρ.ev m = .map (some g)) (hx : ρ.ev xo = kv k) (hu : ρ.ev u = v)
  (K : ∀ w', St ok0 w0 w' Γ (grpo kv A E hkv none g (mset x k ys) :: Λ) → WL P N ops Q rest (putE ρ d undef) w')
  (hg : Y0C ops ρ ⟨d, .mapUpdate mt m xo u, ty, pos, aft, gd⟩ = true := by rfl) (hd : fits N d = true := by rfl) :
  WL P N ops Q (⟨d, .mapUpdate mt m xo u, ty, pos, aft, gd⟩ :: rest) ρ w := by
 obtain ⟨b, hc, h1⟩ := hs.grpOpen
 rw [Y3o] at h1
 have hn := h1.keysNodup 0 rfl
 rw [gkeys] at hn
 have hv1 : v.oneCell' = true := by
  obtain ⟨a', n', c', e⟩ := h1.ownv3 1 rfl
  rw [e]
  rfl
 cases hl : (gout b).lookup k with
 | none =>
  obtain ⟨q1, q2, q3⟩ := glook hl
  rw [q2] at h1
  refine WL.mapUpdateS (V := Y2i) (y := v) h1 0 rfl hk ht hm hx hu (fun _ _ => Y2A.2 ⟨rfl, hv1⟩) (Y2w hl) (fun w' h2 => K w' ?_) hg hd
  refine St.grpClose (b := b ++ [(k, ys, v)]) ?_ ?_
  ·rw [Y40]
   have e1 : gout (b ++ [(k, ys, v)]) = gout b ++ [(k, v)] := by unfold gout; rw [List.map_append]; rfl
   have e2 : gown (b ++ [(k, ys, v)]) A E = gown b A E ++ [own A E v ys] := by unfold gown; rw [List.map_append]; rfl
   rw [e1, e2]
   have h3 : St ok0 w0 w' Γ (mapo kv Y2i g (gout b ++ [(k, v)]) :: (own A E v ys :: gown b A E ++ Λ)) := h2
   refine h3.perm (List.Perm.cons _ (List.Perm.append_right Λ ?_))
   exact List.perm_append_comm (l₁ := [own A E v ys])
  ·rw [← hc]
   unfold Y3p at q1 ⊢
   rw [Y2w q1, List.map_append]
   rfl
 | some v' =>
  obtain ⟨ys', b1, b2, e, q1, q2, q3⟩ := Y92 hn hl
  rw [q2] at h1
  subst e
  have em : ∀ (f : List α → Value → Value) , True := fun _ => trivial
  have eg : gout (b1 ++ (k, ys', v') :: b2) = gout b1 ++ (k, v') :: gout b2 := by unfold gout; rw [List.map_append, List.map_cons]
  have eg2 : gout (b1 ++ (k, ys, v) :: b2) = gout b1 ++ (k, v) :: gout b2 := by unfold gout; rw [List.map_append, List.map_cons]
  have hq : ∀ o ∈ gout b1, (k == o.1) = false := by
   intro o ho
   obtain ⟨q, hq, rfl⟩ := List.mem_map.1 ho
   exact q3 q hq
  refine WL.mapUpdateS (V := Y2i) (y := v) (l' := gout (b1 ++ (k, ys, v) :: b2)) h1 0 rfl hk ht hm hx hu (fun _ _ => Y2A.2 ⟨rfl, hv1⟩) (by rw [eg, eg2]; exact Y8K hq) (fun w' h2 => K w' ?_) hg hd
  refine St.grpClose (b := b1 ++ (k, ys, v) :: b2) ?_ ?_
  ·rw [Y40]
   have h3 : St ok0 w0 w' Γ (mapo kv Y2i g (gout (b1 ++ (k, ys, v) :: b2)) :: (own A E v ys :: gown (b1 ++ b2) A E ++ Λ)) := h2
   refine h3.perm (List.Perm.cons _ (List.Perm.append_right Λ ?_))
   unfold gown
   rw [List.map_append, List.map_append, List.map_cons]
   exact List.perm_middle.symm
  ·rw [← hc]
   have c1 : Y3p (b1 ++ (k, ys', v') :: b2) = Y3p b1 ++ (k, ys') :: Y3p b2 := by unfold Y3p; rw [List.map_append, List.map_cons]
   have c2 : Y3p (b1 ++ (k, ys, v) :: b2) = Y3p b1 ++ (k, ys) :: Y3p b2 := by unfold Y3p; rw [List.map_append, List.map_cons]
   rw [c1, c2]
   refine (Y8K fun o ho => ?_).symm
   obtain ⟨q, hq', rfl⟩ := List.mem_map.1 ho
   exact q3 q hq'
def gits (b : List (GE κ α)) (A : Ty α) : List It := b.map fun o => vl (Y0b A) o.2.1 o.2.2
theorem St.gfreeze {L1 : List LObj} : ∀ {b : List (GE κ α)} {Γ : List It}, St ok0 w0 w Γ (L1 ++ (gown b A E ++ Λ)) → St ok0 w0 w (gits b A ++ Γ) (L1 ++ Λ)
 | [], Γ, h => h
 | o :: b, Γ, h => by
  have hi : (L1 ++ (gown (o :: b) A E ++ Λ))[L1.length]? = some (own A E o.2.2 o.2.1) := by
   rw [List.getElem?_append_right (Nat.le_refl _), Nat.sub_self]
   rfl
  have h2 := h.freezeOwn L1.length hi
  have e : (L1 ++ (gown (o :: b) A E ++ Λ)).eraseIdx L1.length = L1 ++ (gown b A E ++ Λ) := by
   rw [List.eraseIdx_append_of_length_le (Nat.le_refl _), Nat.sub_self]
   rfl
  rw [e] at h2
  refine (St.gfreeze (b := b) h2).sub fun it hit => ?_
  rcases List.mem_append.1 hit with hit | hit
  ·rcases List.mem_cons.1 hit with rfl | hit
   ·exact List.mem_append.2 (.inr (List.mem_cons_self ..))
   ·exact List.mem_append.2 (.inl hit)
  ·exact List.mem_append.2 (.inr (List.mem_cons_of_mem _ hit))
theorem Y5z {ok : Nat → Prop} : ∀ {b : List (GE κ α)} {es : List MapEntry}, Ents kv Y2i ok w (gout b) es → (∀ it ∈ gits b A, it.holds ok w) → Ents kv (Y0b A) ok w (Y3p b) es
 | [], [], _, _ => trivial
 | o :: b, e :: es, ⟨h1, h2, h3⟩, h => by
  refine ⟨h1, ?_, Y5z h3 fun it hit => h it (List.mem_cons_of_mem _ hit)⟩
  rw [(Y2A.1 h2).1]
  exact h _ (List.mem_cons_self ..)
 | [], _ :: _, h, _ => h.elim
 | _ :: _, [], h, _ => h.elim
theorem St.grpDone (hs : St ok0 w0 w Γ (grpo kv A E hkv none g x :: Λ)) : St ok0 w0 w Γ (mapo kv (Y0b A) g x :: Λ) := by
 obtain ⟨b, hc, h1⟩ := hs.grpOpen
 rw [Y40] at h1
 have h2 : St ok0 w0 w (gits b A ++ Γ) (mapo kv Y2i g (gout b) :: Λ) := St.gfreeze (L1 := [mapo kv Y2i g (gout b)]) h1
 obtain ⟨ok, bs, ho, hA, hn, hbs, hput⟩ := h2.split 0 rfl
 obtain ⟨rfl, es, c, hh, he, hb1, hb2, hnd⟩ := ho
 have h3 := hput (mapo kv (Y0b A) g x) [g] w (Off.refl_ _ _) (by simp) (fun k hk => ⟨.inl hk, (hbs k hk).2.2⟩) fun ok' hm => by
  refine ⟨rfl, es, c, hh, ?_, hb1, hb2, ?_⟩
  ·rw [← hc]
   exact Ents.move hm (Y5z he fun it hit => hA it (List.mem_append.2 (.inl hit)))
  ·rw [← hc]
   have : (Y3p b).map (·.1) = (gout b).map (·.1) := by unfold Y3p gout; rw [List.map_map, List.map_map]; rfl
   rw [this]
   exact hnd
 exact St.sub h3 fun it hit => List.mem_append.2 (.inr hit)
end
end
section
open Go Go.RowKit
def Y7o (l : List Oper) (m i s : Nat) : Bool := (List.range m).all fun k => !hasDst s (Y1b l k) || Y3e l l.length k i
theorem Y8q {l : List Oper} {m i s k : Nat} (h : Y7o l m i s = true) (hk : k < m) (e : Y1b l k = some s) : Y3e l l.length k i = true := by
 simp only [Y7o, List.all_eq_true, List.mem_range, Bool.or_eq_true] at h
 rcases h k hk with h1 | h1
 ·rw [e] at h1; simp [hasDst] at h1
 ·exact h1
def tlAt (l : List (Value → List LObj)) (i : Nat) (v : Value) : List LObj := (l.getD i fun _ => []) v
def oblU (P : Program) (N : Nat) (l : List Oper) (ok0 : Nat → Prop) (w0 : Base) (Γ : List It) (Λ : List LObj) (ρ0 : Env) (po : Nat → PO) (tk : Nat → List Nat) (tl : Nat → Value → List LObj) (m i : Nat) : Prop :=
 match l[i]? with
 | none => True
 | some o => ∀ ρ w Γx Λx, St ok0 w0 w (Γx ++ Γ) (Λx ++ (((po i).Pre ++ (tk i).flatMap fun j => (po j).L (Y14 ρ (Y1b l j))) ++ Λ)) → (∀ s, Y38 (l.take m) s = true → ρ s = ρ0 s) → (∀ s, Y7o l m i s = true → ρ s = ρ0 s) →
   (∀ j, Y3e l l.length i j = true → (po j).at_ l ρ (Y14 ρ (Y1b l j)) ∧ ∀ it ∈ (po j).G (Y14 ρ (Y1b l j)), it ∈ Γx) →
   WL P N l.toArray (oneQ ρ o.dst fun v w' => (po i).at_ l ρ (Y3L o.dst v) ∧ St ok0 w0 w' ((po i).G (Y3L o.dst v) ++ (Γx ++ Γ)) (((po i).L (Y3L o.dst v) ++ (tk i).flatMap fun j => tl j (Y14 ρ (Y1b l j))) ++ (Λx ++ Λ))) [o] ρ w
section
variable {P : Program} {N : Nat} {Q : QE} {ρ ρ0 : Env} {w w1 : World} {w0 : Base} {l : List Oper} {ok0 : Nat → Prop} {Γ : List It} {Λ : List LObj}
theorem W.anyU {id : Nat} (hm : P.follows .mixedOrders = true) (m F : Nat) (B : List Bool) (hF : l.length - m = F) (hB : Y5j l.length m = B) (po : Nat → PO) (tk : Nat → List Nat) (tl : Nat → Value → List LObj) (hs : St ok0 w0 w1 Γ (Y2P (fun i => (po i).Pre) m ++ Λ)) (hok : Y4a l m = true) (hdd : Y2C l = true) (hnd : Y5U l m po = true) (htk : Y4P l m tk = true)
  (hops : upTo (oblU P N l ok0 w0 Γ Λ ρ0 po tk tl m) m)
  (hfin : ∀ ρ w, St ok0 w0 w (Y2P (fun i => (po i).G (Y14 ρ (Y1b l i))) m ++ Γ) (Y2P (fun i => if Y42 tk m i = true then tl i (Y14 ρ (Y1b l i)) else (po i).L (Y14 ρ (Y1b l i))) m ++ Λ) → (∀ s, Y38 (l.take m) s = true → ρ s = ρ0 s) →
   upTo (fun i => (po i).at_ l ρ (Y14 ρ (Y1b l i))) m → WA P N l Q F B ρ w) :
  W P N (.region id l.toArray true) Q ρ0 w1 := by
 intro a0 ha0
 refine wp_region_any hm ?_
 let con : Array Bool → Env → Nat → List LObj := fun listed ρ i => if Y1M tk m listed i = true then tl i (Y14 ρ (Y1b l i)) else if listed.getD i false = true then (po i).L (Y14 ρ (Y1b l i)) else (po i).Pre
 let InvA : Array Bool → Act → World → Prop := fun listed a w => ∃ (ρ : Env) (Γx : List It), Y3d N a ρ ∧ St ok0 w0 w (Γx ++ Γ) (Y2P (con listed ρ) m ++ Λ) ∧ (∀ s, (∀ k, k < m → listed.getD k false = true → Y1b l k ≠ some s) → ρ s = ρ0 s) ∧
  (∀ i, listed.getD i false = true → i < m ∧ (po i).at_ l ρ (Y14 ρ (Y1b l i)) ∧ ∀ it ∈ (po i).G (Y14 ρ (Y1b l i)), it ∈ Γx)
 have hsz : l.toArray.size = l.length := by simp
 have finish : ∀ listed a w, InvA listed a w → (∀ i, i < m → listed.getD i false = true) → wpAny P .any l.toArray (lift N Q) F B.toArray a w := by
  rintro listed a w ⟨ρ, Γx, hρ, hst, hu, hp⟩ hall
  refine hfin ρ w (St.sub (Γ := Γx ++ Γ) ?_ fun it hit => ?_) (fun s hsn => hu s fun k hk _ => fun e => Y37 hsn (i := k) (by simpa [Y1b, List.getElem?_take, hk] using e)) (upTo.mk m fun i hi => (hp i (hall i hi)).2.1) a hρ
  ·rw [Y1O (f := con listed ρ) (g := fun i => if Y42 tk m i = true then tl i (Y14 ρ (Y1b l i)) else (po i).L (Y14 ρ (Y1b l i))) fun i hi => by
    show (if _ then _ else if _ then _ else _) = _
    rw [Y6q (fun j hj => hall j hj), if_pos (hall i hi)]] at hst
   exact hst
  ·rcases List.mem_append.1 hit with hit | hit
   ·obtain ⟨i, hi, hx⟩ := Y4p hit
    exact List.mem_append.2 (.inl ((hp i (hall i hi)).2.2 it hx))
   ·exact List.mem_append.2 (.inr hit)
 have hdeps : ∀ {listed : Array Bool} {i : Nat}, i ∈ Region.ready .any l.toArray listed → i < l.length ∧ listed.getD i true = false ∧ ∀ d ∈ Y29 l i, listed.getD d false = true := by
  intro listed i hi
  rw [mem_ready] at hi
  obtain ⟨h0, o, ho, hall⟩ := hi
  have ho' : l[i]? = some o := by simpa using ho
  refine ⟨(List.getElem?_eq_some_iff.1 ho').1, h0, fun d hd => ?_⟩
  simp only [Y29, ho', Option.map_some, Option.getD_some, List.mem_map, List.mem_filter] at hd
  obtain ⟨e, ⟨he, hb⟩, rfl⟩ := hd
  exact hall e (by simpa using he) hb
 have hready : ∀ {listed : Array Bool}, Region.ready .any l.toArray listed = [] → listed.size = l.length → ∀ i, i < l.length → listed.getD i false = true := by
  intro listed hr hls i
  induction i using Nat.strongRecOn with
  | _ i ih =>
   intro hi
   cases hb : listed.getD i false with
   | true => rfl
   | false =>
    exfalso
    have hin : i ∈ Region.ready .any l.toArray listed := by
     rw [mem_ready]
     refine ⟨?_, l[i], by simp [hi], fun e he hbd => ?_⟩
     ·have : i < listed.size := by omega
      simp [this] at hb ⊢
      exact hb
     ·have hd : e.on ∈ Y29 l i := by
       simp only [Y29, List.getElem?_eq_getElem hi, Option.map_some, Option.getD_some, List.mem_map, List.mem_filter]
       exact ⟨e, ⟨by simpa using he, hbd⟩, rfl⟩
      have hlt := Y4A hok hi hd
      exact ih e.on hlt (by omega)
    rw [hr] at hin
    cases hin
 have hset : ∀ {listed : Array Bool} {i j : Nat}, listed.size = l.length → i < l.length → ((listed.setIfInBounds i true).getD j false = true ↔ (j = i ∨ listed.getD j false = true)) := by
  intro listed i j hls hi
  by_cases hij : i = j
  ·subst hij
   have : i < listed.size := by omega
   simp [this]
  ·rw [getD_set_ne false hij]
   constructor
   ·exact .inr
   ·rintro (h | h)
    ·exact absurd h.symm hij
    ·exact h
 have main : ∀ fuel listed a w, listed.size = l.length → Y1F listed l.length = fuel →
   (∀ k, listed.getD k false = true → ∀ d ∈ Y29 l k, listed.getD d false = true) → InvA listed a w → wpAny P .any l.toArray (lift N Q) fuel listed a w := by
  intro fuel
  induction fuel with
  | zero =>
   intro listed a w hls hlf hcl hI
   have hall : ∀ i, i < l.length → listed.getD i false = true := by
    intro i hi
    have h1 := Y2j hlf i hi
    have : i < listed.size := by omega
    simp [this] at h1 ⊢
    exact h1
   refine ⟨?_, ?_⟩
   ·cases hr : Region.ready .any l.toArray listed with
    | nil => rfl
    | cons i rs =>
     exfalso
     obtain ⟨h1, h2, _⟩ := hdeps (listed := listed) (i := i) (by rw [hr]; simp)
     rw [Y2j hlf i h1] at h2
     cases h2
   ·have hmn : m = l.length := by
     obtain ⟨ρ, Γx, hρ, hst, hu, hp⟩ := hI
     rcases Nat.lt_or_ge m l.length with h | h
     ·have := (hp m (hall m h)).1; omega
     ·have := Y2V hok; omega
    have h0 := finish listed a w hI fun i hi => hall i (by omega)
    have hF0 : F = 0 := by omega
    subst hF0
    exact h0.2
  | succ fuel ih =>
   intro listed a w hls hlf hcl hI
   have hne : Region.ready .any l.toArray listed ≠ [] := by
    intro hr
    have hall := hready hr hls
    have : ∀ n, n ≤ l.length → Y1F listed n = 0 := by
     intro n
     induction n with
     | zero => exact fun _ => rfl
     | succ n ihn =>
      intro hn
      have h1 := hall n (by omega)
      have : n < listed.size := by omega
      have h2 : listed.getD n true = true := by simp [this] at h1 ⊢; exact h1
      rw [Y1F, ihn (by omega), h2]; rfl
    rw [this l.length (Nat.le_refl _)] at hlf
    cases hlf
   refine ⟨fun hr => absurd hr hne, fun i hi => ?_⟩
   obtain ⟨hin, hi0, hid⟩ := hdeps hi
   have hri : ∀ j, Y3e l l.length i j = true → listed.getD j false = true := fun j hj => Y1B hcl _ i j hid hj
   have ho : l[i]? = some l[i] := List.getElem?_eq_getElem hin
   have ho2 : l.toArray[i]? = some l[i] := by simpa using ho
   have hls' : (listed.setIfInBounds i true).size = l.length := by simpa using hls
   have hlf' : Y1F (listed.setIfInBounds i true) l.length = fuel := by
    have := Y3n hi0 l.length
    rw [if_pos hin] at this
    omega
   have hcl' : ∀ k, (listed.setIfInBounds i true).getD k false = true → ∀ d ∈ Y29 l k, (listed.setIfInBounds i true).getD d false = true := by
    intro k hk d hd
    rcases (hset hls hin).1 hk with rfl | hk
    ·exact getD_set_true (hid d hd)
    ·exact getD_set_true (hcl k hk d hd)
   have hif : listed.getD i false = false := by
    have : i < listed.size := by omega
    simp [this] at hi0 ⊢
    exact hi0
   rcases Nat.lt_or_ge i m with him | him
   ·obtain ⟨ρ, Γx, hρ, hst, hu, hp⟩ := hI
    have hob := hops.at_ i him
    unfold oblU at hob
    rw [ho] at hob
    have hnt : Y1M tk m listed i = false := by
     cases hb : Y1M tk m listed i with
     | false => rfl
     | true =>
      obtain ⟨k, hk, hkl, hkt⟩ := Y1z.1 hb
      have := Y1B hcl _ k i (hcl k hkl) ((Y2p htk hk i hkt).1)
      rw [hif] at this; cases this
    have hci : con listed ρ i = (po i).Pre := by
     show (if _ then _ else if _ then _ else _) = _
     rw [hnt, hif, if_neg (by simp), if_neg (by simp)]
    have hcj1 : ∀ j ∈ tk i, con listed ρ j = (po j).L (Y14 ρ (Y1b l j)) := by
     intro j hj
     have h1 := Y2p htk him j hj
     have h2 : Y1M tk m listed j = false := by
      cases hb : Y1M tk m listed j with
      | false => rfl
      | true =>
       obtain ⟨k, hk, hkl, hkt⟩ := Y1z.1 hb
       have : k = i := Y5O htk hk him hkt hj
       subst this
       rw [hif] at hkl; cases hkl
     show (if _ then _ else if _ then _ else _) = _
     rw [h2, hri j h1.1, if_neg (by simp), if_pos rfl]
    have hjs : (i :: tk i).Nodup := List.nodup_cons.2 ⟨fun h => by have := (Y2p htk him i h).2.1; omega, Y4O htk him⟩
    have hjlt : ∀ j ∈ i :: tk i, j < m := by
     intro j hj
     rcases List.mem_cons.1 hj with rfl | hj
     ·exact him
     ·have := (Y2p htk him j hj).2.1; omega
    have hfl : (i :: tk i).flatMap (con listed ρ) = (po i).Pre ++ (tk i).flatMap fun j => (po j).L (Y14 ρ (Y1b l j)) := by
     rw [List.flatMap_cons, hci, Y4z hcj1]
    have hst1 : St ok0 w0 w (Γx ++ Γ) (Y2P (fun j => if j ∈ i :: tk i then [] else con listed ρ j) m ++ (((po i).Pre ++ (tk i).flatMap fun j => (po j).L (Y14 ρ (Y1b l j))) ++ Λ)) := by
     refine hst.perm ?_
     have := (Y3D (con listed ρ) (i :: tk i) hjs hjlt).append_right Λ
     rw [hfl] at this
     refine this.trans ((List.perm_append_comm.append_right Λ).trans ?_)
     rw [List.append_assoc]
    refine Y3l ho2 hρ (hob ρ w Γx _ hst1 (fun s hsn => hu s fun k hk _ => fun e => Y37 hsn (i := k) (by simpa [Y1b, List.getElem?_take, hk] using e)) (fun s hsf => hu s fun k hk hkl e => by
     have h1 := Y8q hsf hk e
     have := Y1B hcl _ k i (hcl k hkl) h1
     rw [hif] at this; cases this) fun j hj => (hp j (hri j hj)).2) fun a' v w' ha' hR => ih _ a' w' hls' hlf' hcl' ?_
    have hdi : Y1b l i = l[i].dst := by simp [Y1b, ho]
    have hsame : ∀ j, j ≠ i → Y14 (putE ρ l[i].dst v) (Y1b l j) = Y14 ρ (Y1b l j) := fun j hj => Y52 fun t ht e => hj (Y3C hdd e (hdi.trans ht))
    have hcs : ∀ j, j ∉ i :: tk i → con (listed.setIfInBounds i true) (putE ρ l[i].dst v) j = con listed ρ j := by
     intro j hj
     have hji : j ≠ i := fun e => hj (by simp [e])
     have hjt : j ∉ tk i := fun e => hj (by simp [e])
     have ht : Y1M tk m (listed.setIfInBounds i true) j = Y1M tk m listed j := by
      rw [Bool.eq_iff_iff, Y1z, Y1z]
      constructor
      ·rintro ⟨k, hk, hkl, hkt⟩
       rcases (hset hls hin).1 hkl with rfl | hkl
       ·exact absurd hkt hjt
       ·exact ⟨k, hk, hkl, hkt⟩
      ·rintro ⟨k, hk, hkl, hkt⟩
       exact ⟨k, hk, (hset hls hin).2 (.inr hkl), hkt⟩
     show (if _ then _ else if _ then _ else _) = (if _ then _ else if _ then _ else _)
     rw [ht, getD_set_ne false (fun e => hji e.symm), hsame j hji]
    have hct : ∀ j ∈ tk i, con (listed.setIfInBounds i true) (putE ρ l[i].dst v) j = tl j (Y14 ρ (Y1b l j)) := by
     intro j hj
     have hji : j ≠ i := fun e => by have := (Y2p htk him j hj).2.1; omega
     have ht : Y1M tk m (listed.setIfInBounds i true) j = true := Y1z.2 ⟨i, him, (hset hls hin).2 (.inl rfl), hj⟩
     show (if _ then _ else if _ then _ else _) = _
     rw [ht, if_pos rfl, hsame j hji]
    have hnt2 : Y1M tk m (listed.setIfInBounds i true) i = false := by
     cases hb : Y1M tk m (listed.setIfInBounds i true) i with
     | false => rfl
     | true =>
      obtain ⟨k, hk, hkl, hkt⟩ := Y1z.1 hb
      have h1 := Y2p htk hk i hkt
      rcases (hset hls hin).1 hkl with rfl | hkl
      ·have := h1.2.1; omega
      ·have := Y1B hcl _ k i (hcl k hkl) h1.1
       rw [hif] at this; cases this
    have hci2 : con (listed.setIfInBounds i true) (putE ρ l[i].dst v) i = (po i).L (Y3L l[i].dst v) := by
     show (if _ then _ else if _ then _ else _) = _
     rw [hnt2, if_neg (by simp), if_pos ((hset hls hin).2 (.inl rfl)), hdi, Y3t]
    have hat : ∀ j, j < m → (∀ k, Y3e l l.length j k = true → listed.getD k false = true) → ∀ v', (po j).at_ l ρ v' → (po j).at_ l (putE ρ l[i].dst v) v' := by
     intro j hjm hk v' h
     have e : ((po j).needs.map fun k => Y14 (putE ρ l[i].dst v) (Y1b l k)) = (po j).needs.map fun k => Y14 ρ (Y1b l k) := by
      refine List.map_congr_left fun k hkn => hsame k ?_
      rintro rfl
      simp only [Y5U, List.all_eq_true, List.mem_range] at hnd
      have := hk _ (hnd j hjm _ hkn)
      rw [hif] at this
      cases this
     unfold PO.at_
     rw [e]
     exact h
    have hcj := hri
    refine ⟨_, (po i).G (Y3L l[i].dst v) ++ Γx, ha', ?_, fun s hsn => ?_, fun j hj => ?_⟩
    ·rw [List.append_assoc]
     refine hR.2.perm ?_
     have hfl2 : (i :: tk i).flatMap (con (listed.setIfInBounds i true) (putE ρ l[i].dst v)) = (po i).L (Y3L l[i].dst v) ++ (tk i).flatMap fun j => tl j (Y14 ρ (Y1b l j)) := by
      rw [List.flatMap_cons, hci2, Y4z hct]
     have h9 := (Y3D (con (listed.setIfInBounds i true) (putE ρ l[i].dst v)) (i :: tk i) hjs hjlt).append_right Λ
     rw [hfl2, Y1O (f := fun j => if j ∈ i :: tk i then [] else con (listed.setIfInBounds i true) (putE ρ l[i].dst v) j) (g := fun j => if j ∈ i :: tk i then [] else con listed ρ j) (fun j _ => by
      by_cases e : j ∈ i :: tk i
      ·rw [if_pos e, if_pos e]
      ·rw [if_neg e, if_neg e, hcs j e]), List.append_assoc] at h9
     exact h9.symm
    ·cases hd : l[i].dst with
     | none => exact hu s fun k hk hkl => hsn k hk ((hset hls hin).2 (.inr hkl))
     | some t =>
      have : s ≠ t := by
       rintro rfl
       exact hsn i him ((hset hls hin).2 (.inl rfl)) (by simp [Y1b, ho, hd])
      show upd ρ t v s = ρ0 s
      rw [Y5N _ _ this]
      exact hu s fun k hk hkl => hsn k hk ((hset hls hin).2 (.inr hkl))
    ·by_cases hji : j = i
     ·subst hji
      refine ⟨him, ?_⟩
      rw [hdi, Y3t]
      exact ⟨hat j him hcj _ hR.1, fun it hit => List.mem_append.2 (.inl hit)⟩
     ·have hj' := ((hset hls hin).1 hj).resolve_left hji
      rw [hsame j hji]
      exact ⟨(hp j hj').1, hat j (hp j hj').1 (fun k hk => Y1B hcl _ j k (hcl j hj') hk) _ (hp j hj').2.1, fun it hit => List.mem_append.2 (.inr ((hp j hj').2.2 it hit))⟩
   ·have hall : ∀ j, j < m → listed.getD j false = true := fun j hj => hri j (Y43 hok hin him hj)
    have h0 := finish listed a w hI hall
    obtain ⟨ρ, Γx, hρ, hst, hu, hp⟩ := hI
    have hl2 : ∀ j, j < l.length → (listed.getD j false = true ↔ j < m) := fun j hj => ⟨fun h => (hp j h).1, fun h => hall j h⟩
    have e1 := Y3w l.length m hls hl2
    have e2 := Y3x l.length m (Y2V hok) hls hl2
    have e3 : F = fuel + 1 := by omega
    rw [← hB, ← e1, e3] at h0
    exact h0.2 i hi
 have hfull : Y1F (Array.replicate l.length false) l.length = l.length := by
  have : ∀ n, n ≤ l.length → Y1F (Array.replicate l.length false) n = n := by
   intro n
   induction n with
   | zero => exact fun _ => rfl
   | succ n ih =>
    intro hn
    have h2 : (Array.replicate l.length false).getD n true = false := by
     have : n < l.length := by omega
     simp [this]
    rw [Y1F, ih (by omega), h2]; rfl
  exact this _ (Nat.le_refl _)
 have hnone : ∀ i, (Array.replicate l.length false).getD i false ≠ true := by
  intro i hi
  rcases Nat.lt_or_ge i l.length with h | h <;> simp [h] at hi
 suffices hgo : InvA (Array.replicate l.length false) a0 { w1 with drawn := w1.drawn + 1 } by
  have := main l.length (Array.replicate l.length false) a0 { w1 with drawn := w1.drawn + 1 } (by simp) hfull (fun k hk => absurd hk (hnone k)) hgo
  simpa using this
 refine ⟨ρ0, [], ha0, ?_, fun _ _ => rfl, fun i hi => absurd hi (hnone i)⟩
 rw [Y1O (f := con (Array.replicate l.length false) ρ0) (g := fun i => (po i).Pre) fun i _ => by
  have h1 : Y1M tk m (Array.replicate l.length false) i = false := by
   cases hb : Y1M tk m (Array.replicate l.length false) i with
   | false => rfl
   | true => obtain ⟨k, hk, hkl, hkt⟩ := Y1z.1 hb; exact absurd hkl (hnone k)
  show (if _ then _ else if _ then _ else _) = _
  rw [h1, if_neg (by simp), if_neg (hnone i)]]
 exact hs.drew
end
end
section
open Go Go.RowKit
theorem St.backR {ok0 : Nat → Prop} {w0 : Base} {w : World} {Γ : List It} {Λ Λx : List LObj} {a : LObj} (hs : St ok0 w0 w Γ (Λx ++ ([a] ++ Λ))) : St ok0 w0 w Γ ([a] ++ (Λx ++ Λ)) := hs.perm List.perm_middle
section
variable {l : List Oper} {m : Nat} {tk br : Nat → List Nat}
end
section
variable {P : Program} {N : Nat} {Q : QE} {ρ ρ0 : Env} {w w1 : World} {w0 : Base} {l : List Oper} {ok0 : Nat → Prop} {Γ : List It} {Λ : List LObj}
end
end
end Go.Proofs.YtpfgdjfiimknlaaGreatL
