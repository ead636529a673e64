/- What the row leans on, as few texts. -/
import Derived.Test.YtpfgdjfiimknlaaGreatQIEQ2
import Derived.Test.YtpfgdjfiimknlaaGreatQIEQ3
import Derived.Test.YtpfgdjfiimknlaaGreatQIEQ1
import Derived.Test.YtpfgdjfiimknlaaGreatQIEQ4
import Derived.Test.YtpfgdjfiimknlaaGreatQIEQ5
set_option linter.unusedVariables false
set_option linter.unusedSimpArgs false
namespace Go.Proofs.YtpfgdjfiimknlaaGreat
section
open Go Go.RowKit Go.Proofs.YtpfgdjfiimknlaaGreatL
set_option maxRecDepth 100000
set_option maxHeartbeats 4000000
theorem Y0x.calls {ok : Nat → Prop} {w0 : World} {x1 : List Y0a} {x4 : List Y0a} {x7 : Y0a × Y0a → Option Bool} {a2 : Option Addr} {c3 : Nat} {a5 : Option Addr} {c6 : Nat} {v8 : Value} {r : Bool} (hf : Y0x x1 x4 x7 = some r) (i0 : (vl (Y0b Y0i) x1 (.slice a2 x1.length c3)).holds ok w0) (i1 : (vl (Y0b Y0i) x4 (.slice a5 x4.length c6)).holds ok w0) (i2 : (vl (tFun Tryz.prog (argK2 Y0i Y0i) (fun r : Bool => .bool r)) x7 v8).holds ok w0) :
  Calls Tryz.prog 45 #[.slice a2 x1.length c3, .slice a5 x4.length c6, v8] w0 fun e w' => ∃ v, e = .returned v ∧ ∃ y : Unit, v = .bool r ∧ St ok (bz w0) w' [] [] := by
 unfold Y0x at hf
 refine Y0t (fn := Tryz.f45) (N := 32) Tryz.func45 rfl Tryz.ntmps45 rfl ?_
 have hs : St ok (bz w0) w0 [vl (Y0b Y0i) x1 (.slice a2 x1.length c3), vl (Y0b Y0i) x4 (.slice a5 x4.length c6), vl (tFun Tryz.prog (argK2 Y0i Y0i) (fun r : Bool => .bool r)) x7 v8] [] := St.init (All.cons i0 (All.cons i1 (All.cons i2 All.nil)))
 clear i0 i1 i2
 refine W.seqK fun K9 hK9 => ?_
 refine W.region ?_
 refine WL.assign (v := .bool false) rfl ?_
 refine WL.nil ?_
 refine hK9 _ _ ?_
 refine W.seqK fun K10 hK10 => ?_
 refine W.seqK fun K11 hK11 => ?_
 refine W.region ?_
 refine WL.move (v := .slice a2 x1.length c3) rfl ?_
 refine WL.len (v := .slice a2 x1.length c3) rfl (Y10 UN33) ?_
 refine WL.move (v := .slice a5 x4.length c6) rfl ?_
 refine WL.len (v := .slice a5 x4.length c6) rfl (Y10 UN33) ?_
 refine WL.bin (v := .bool ((x1.length : Int) != (x4.length : Int))) rfl rfl (Y48 _ _ _) ?_
 refine WL.nil ?_
 refine hK11 _ _ ?_
 rcases iteE hf with ⟨hc12, hf⟩ | ⟨hc12, hf⟩
 {
 refine W.cond_true (Y02 rfl hc12) ?_
 refine W.seqK fun K13 hK13 => ?_
 refine W.region ?_
 refine WL.assign (v := .bool false) rfl ?_
 refine WL.nil ?_
 refine hK13 _ _ ?_
 refine W.ret ?_
 have hr := Option.some.inj hf; subst hr
 exact ⟨_, Y0e rfl rfl, (), rfl, (hs.mask []).pick []⟩ }
 {
 refine W.cond_false (Y02 rfl hc12) ?_
 refine W.skip ?_
 refine hK10 _ _ ?_
 refine W.seqK fun K14 hK14 => ?_
 have Jk16 : ∀  (ρ : Env) (w : World), St ok (bz w0) w [] [] → Y0x.j1 = some r → K14 ρ w := by
  intro  ρ w  hs hf
  refine hK14 _ _ ?_
  unfold Y0x.j1 at hf
  refine W.seqK fun K17 hK17 => ?_
  refine W.region ?_
  refine WL.assign (v := .bool true) rfl ?_
  refine WL.nil ?_
  refine hK17 _ _ ?_
  refine W.ret ?_
  have hr := Option.some.inj hf; subst hr
  exact ⟨_, Y0e rfl rfl, (), rfl, (hs.mask []).pick []⟩
 refine W.seqK fun K18 hK18 => ?_
 refine W.region ?_
 refine WL.move (v := .slice a2 x1.length c3) rfl ?_
 refine WL.len (v := .slice a2 x1.length c3) rfl (Y10 UN33) ?_
 refine WL.move (v := .int .i64 0) rfl ?_
 refine WL.nil ?_
 refine hK18 _ _ ?_
 refine W.block ?_
 obtain ⟨bs21, hbs21, hfs21⟩ := Y0s hf
 refine W.loop hbs21 (fun s ρ w => match s with | x20 => ρ 1 = .slice a5 x4.length c6 ∧ ρ 2 = v8 ∧ ρ 15 = .slice a2 x1.length c3 ∧ ρ 16 = .int .i64 (x1.length : Int) ∧ ρ 17 = .int .i64 x20 ∧ St ok (bz w0) w [vl (Y0b Y0i) x4 (.slice a5 x4.length c6), vl (tFun Tryz.prog (argK2 Y0i Y0i) (fun r : Bool => .bool r)) x7 v8, vl (Y0b Y0i) x1 (.slice a2 x1.length c3)] []) ⟨rfl, rfl, rfl, rfl, rfl, (hs.mask []).pick [1, 2, 0]⟩ ?_
 intro x20 ρ w os21 hI hf hbbs21
 obtain ⟨h19_1, h19_2, h19_15, h19_16, h19_17, hs⟩ := hI
 unfold Y0x.l1 at hf
 refine W.seqK fun K22 hK22 => ?_
 refine W.region ?_
 refine WL.bin (v := .bool (decide (x20 < (x1.length : Int)))) h19_17 h19_16 (Y1n _ _ _) ?_
 refine WL.nil ?_
 refine hK22 _ _ ?_
 refine W.seqK fun K23 hK23 => ?_
 rcases iteE hf with ⟨hc24, hf⟩ | ⟨hc24, hf⟩
 {
 refine W.cond_true (Y02 rfl hc24) ?_
 refine W.skip ?_
 refine hK23 _ _ ?_
 refine W.seqK fun K25 hK25 => ?_
 refine W.block ?_
 refine W.seqK fun K26 hK26 => ?_
 refine W.region ?_
 refine WL.move (v := .int .i64 x20) h19_17 ?_
 obtain ⟨x27, hxx27, hf⟩ := Y0s hf
 refine WL.indexAddr hs 2 rfl UN33 TI65 h19_15 h19_17 hxx27 (fun ad28 hs => ?_)
 refine WL.loadP hs 0 rfl TI65 (.inl rfl) rfl (fun v29 hs => ?_)
 obtain ⟨cs30, hl31, rfl⟩ := hs.aggv (n := 4) 0 rfl rfl rfl
 refine WL.alloc hs ZV65 (fun g32 w hs => ?_)
 refine WL.assign (v := .int .i64 x20) rfl ?_
 refine WL.storeAll (vs := cs30) hs 0 rfl TI65 rfl rfl rfl hl31 (hs.ones 0 rfl rfl) rfl (fun w hs => ?_)
 refine WL.nil ?_
 refine hK26 _ _ ?_
 refine W.seqK fun K33 hK33 => ?_
 refine W.region ?_
 refine WL.move (v := .slice a5 x4.length c6) h19_1 ?_
 refine WL.move (v := .int .i64 x20) rfl ?_
 obtain ⟨x34, hxx34, hf⟩ := Y0s hf
 refine WL.indexAddr hs 2 rfl UN33 TI65 rfl rfl hxx34 (fun ad35 hs => ?_)
 refine WL.loadP hs 0 rfl TI65 (.inl rfl) rfl (fun v36 hs => ?_)
 obtain ⟨cs37, hl38, rfl⟩ := hs.aggv (n := 4) 0 rfl rfl rfl
 refine WL.alloc hs ZV65 (fun g39 w hs => ?_)
 refine WL.storeAll (vs := cs37) hs 0 rfl TI65 rfl rfl rfl hl38 (hs.ones 0 rfl rfl) rfl (fun w hs => ?_)
 refine WL.nil ?_
 refine hK33 _ _ ?_
 refine W.seqK fun K40 hK40 => ?_
 refine W.region ?_
 refine WL.move (v := v8) h19_2 ?_
 refine WL.loadAll hs 1 rfl TI65 rfl hl31 ?_
 refine WL.loadAll hs 0 rfl TI65 rfl hl38 ?_
 obtain ⟨x41, hxx41, hf⟩ := Y0s hf
 refine WL.callF (x := (x27, x34)) (vs := [.agg cs30.toArray, .agg cs37.toArray]) hs 5 rfl rfl ⟨rfl, ⟨rfl, trivial⟩⟩ (fun ok hA => ⟨_, _, rfl, hA.get 2 rfl, hA.get 0 rfl⟩) hxx41 (fun w hs => ?_)
 refine WL.not rfl ?_
 refine WL.nil ?_
 refine hK40 _ _ ?_
 rcases iteE hf with ⟨hc42, hf⟩ | ⟨hc42, hf⟩
 {
 refine W.cond_true (Y02 rfl hc42) ?_
 refine W.seqK fun K43 hK43 => ?_
 refine W.region ?_
 refine WL.assign (v := .bool false) rfl ?_
 refine WL.nil ?_
 refine hK43 _ _ ?_
 refine W.ret ?_
 have hr := Option.some.inj hf; subst hr
 have hr := hbbs21 _ rfl; subst hr
 have hf := hfs21
 have hr := Option.some.inj hf; subst hr
 exact ⟨_, Y0e rfl rfl, (), rfl, (hs.mask []).pick []⟩ }
 {
 refine W.cond_false (Y02 rfl hc42) ?_
 refine W.skip ?_
 refine hK25 _ _ ?_
 refine W.region ?_
 obtain ⟨x44, ex44, hf⟩ := letE hf
 refine WL.bin (v := .int .i64 x44) h19_17 rfl (Y1V ex44 (Y1t _ _ _)) ?_
 refine WL.move (v := .int .i64 x44) rfl ?_
 refine WL.nil ?_
 exact ⟨_, (Option.some.inj hf).symm, h19_1, h19_2, h19_15, h19_16, rfl, (hs.mask []).pick [4, 5, 6]⟩ } }
 {
 refine W.cond_false (Y02 rfl hc24) ?_
 refine W.exit ?_
 have hr := Option.some.inj hf; subst hr
 have hr := hbbs21 _ rfl; subst hr
 have hf := hfs21
 exact Jk16  _ _  ((hs.mask []).pick []) hf } }
theorem Y0G.calls {ok : Nat → Prop} {w0 : World} {x1 : List (List UInt8)} {x4 : List (List UInt8)} {a2 : Option Addr} {c3 : Nat} {a5 : Option Addr} {c6 : Nat} {r : Bool} (hf : Y0G x1 x4 = some r) (i0 : (vl (Y0b tStr) x1 (.slice a2 x1.length c3)).holds ok w0) (i1 : (vl (Y0b tStr) x4 (.slice a5 x4.length c6)).holds ok w0) :
  Calls Tryz.prog 47 #[.slice a2 x1.length c3, .slice a5 x4.length c6] w0 fun e w' => ∃ v, e = .returned v ∧ ∃ y : Unit, v = .bool r ∧ St ok (bz w0) w' [] [] := by
 unfold Y0G at hf
 refine Y0t (fn := Tryz.f47) (N := 26) Tryz.func47 rfl Tryz.ntmps47 rfl ?_
 have hs : St ok (bz w0) w0 [vl (Y0b tStr) x1 (.slice a2 x1.length c3), vl (Y0b tStr) x4 (.slice a5 x4.length c6)] [] := St.init (All.cons i0 (All.cons i1 All.nil))
 clear i0 i1
 refine W.seqK fun K7 hK7 => ?_
 refine W.region ?_
 refine WL.assign (v := .bool false) rfl ?_
 refine WL.nil ?_
 refine hK7 _ _ ?_
 refine W.seqK fun K8 hK8 => ?_
 refine W.seqK fun K9 hK9 => ?_
 refine W.region ?_
 refine WL.move (v := .slice a2 x1.length c3) rfl ?_
 refine WL.len (v := .slice a2 x1.length c3) rfl (Y10 UN56) ?_
 refine WL.move (v := .slice a5 x4.length c6) rfl ?_
 refine WL.len (v := .slice a5 x4.length c6) rfl (Y10 UN56) ?_
 refine WL.bin (v := .bool ((x1.length : Int) != (x4.length : Int))) rfl rfl (Y48 _ _ _) ?_
 refine WL.nil ?_
 refine hK9 _ _ ?_
 rcases iteE hf with ⟨hc10, hf⟩ | ⟨hc10, hf⟩
 {
 refine W.cond_true (Y02 rfl hc10) ?_
 refine W.seqK fun K11 hK11 => ?_
 refine W.region ?_
 refine WL.assign (v := .bool false) rfl ?_
 refine WL.nil ?_
 refine hK11 _ _ ?_
 refine W.ret ?_
 have hr := Option.some.inj hf; subst hr
 exact ⟨_, Y0e rfl rfl, (), rfl, (hs.mask []).pick []⟩ }
 {
 refine W.cond_false (Y02 rfl hc10) ?_
 refine W.skip ?_
 refine hK8 _ _ ?_
 refine W.seqK fun K12 hK12 => ?_
 have Jk14 : ∀  (ρ : Env) (w : World), St ok (bz w0) w [] [] → Y0G.j1 = some r → K12 ρ w := by
  intro  ρ w  hs hf
  refine hK12 _ _ ?_
  unfold Y0G.j1 at hf
  refine W.seqK fun K15 hK15 => ?_
  refine W.region ?_
  refine WL.assign (v := .bool true) rfl ?_
  refine WL.nil ?_
  refine hK15 _ _ ?_
  refine W.ret ?_
  have hr := Option.some.inj hf; subst hr
  exact ⟨_, Y0e rfl rfl, (), rfl, (hs.mask []).pick []⟩
 refine W.seqK fun K16 hK16 => ?_
 refine W.region ?_
 refine WL.move (v := .slice a2 x1.length c3) rfl ?_
 refine WL.len (v := .slice a2 x1.length c3) rfl (Y10 UN56) ?_
 refine WL.move (v := .int .i64 0) rfl ?_
 refine WL.nil ?_
 refine hK16 _ _ ?_
 refine W.block ?_
 obtain ⟨bs19, hbs19, hfs19⟩ := Y0s hf
 refine W.loop hbs19 (fun s ρ w => match s with | x18 => ρ 0 = .slice a2 x1.length c3 ∧ ρ 1 = .slice a5 x4.length c6 ∧ ρ 12 = .int .i64 (x1.length : Int) ∧ ρ 13 = .int .i64 x18 ∧ St ok (bz w0) w [vl (Y0b tStr) x1 (.slice a2 x1.length c3), vl (Y0b tStr) x4 (.slice a5 x4.length c6)] []) ⟨rfl, rfl, rfl, rfl, (hs.mask []).pick [0, 1]⟩ ?_
 intro x18 ρ w os19 hI hf hbbs19
 obtain ⟨h17_0, h17_1, h17_12, h17_13, hs⟩ := hI
 unfold Y0G.l1 at hf
 refine W.seqK fun K20 hK20 => ?_
 refine W.region ?_
 refine WL.bin (v := .bool (decide (x18 < (x1.length : Int)))) h17_13 h17_12 (Y1n _ _ _) ?_
 refine WL.nil ?_
 refine hK20 _ _ ?_
 refine W.seqK fun K21 hK21 => ?_
 rcases iteE hf with ⟨hc22, hf⟩ | ⟨hc22, hf⟩
 {
 refine W.cond_true (Y02 rfl hc22) ?_
 refine W.skip ?_
 refine hK21 _ _ ?_
 refine W.seqK fun K23 hK23 => ?_
 refine W.block ?_
 refine W.seqK fun K24 hK24 => ?_
 refine W.region ?_
 refine WL.move (v := .int .i64 x18) h17_13 ?_
 refine WL.assign (v := .int .i64 x18) rfl ?_
 refine WL.nil ?_
 refine hK24 _ _ ?_
 refine W.seqK fun K25 hK25 => ?_
 obtain ⟨x26, hxx26, hf⟩ := Y0s hf
 obtain ⟨x29, hxx29, hf⟩ := Y0s hf
 refine W.any (by kernel_rfl) 9 0 [true, true, true, true, true, true, true, true, true] rfl rfl (poAt [pv (.slice a2 x1.length c3), pv (.int .i64 x18), pq (fun y : Addr => .pointer (some y)) (fun v => [pl tStr x26 (adOf v)]) (fun v => []), pv (bstr x26), pv (.slice a5 x4.length c6), pv (.int .i64 x18), pq (fun y : Addr => .pointer (some y)) (fun v => [pl tStr x29 (adOf v)]) (fun v => []), pv (bstr x29), pv (.bool (x26 != x29))]) (Λ := []) hs (by kernel_rfl) (by kernel_rfl) (by kernel_rfl) ⟨⟨⟨⟨⟨⟨⟨⟨⟨trivial, ?_⟩, ?_⟩, ?_⟩, ?_⟩, ?_⟩, ?_⟩, ?_⟩, ?_⟩, ?_⟩ ?_
 {
 intro ρ w Γx Λx hs hu hp
 refine WL.move (v := .slice a2 x1.length c3) ((hu 0 rfl).trans h17_0) ?_
 exact WL.nil ⟨rfl, _, rfl, rfl, hs.cutG 0 0⟩ }
 {
 intro ρ w Γx Λx hs hu hp
 refine WL.move (v := .int .i64 x18) (hu 5 rfl) ?_
 exact WL.nil ⟨rfl, _, rfl, rfl, hs.cutG 0 0⟩ }
 {
 intro ρ w Γx Λx hs hu hp
 have e32 : ρ 16 = .slice a2 x1.length c3 := (hp 0 rfl).1
 have e33 : ρ 17 = .int .i64 x18 := (hp 1 rfl).1
 refine WL.indexAddr hs (Γx.length + 0) (Y0q rfl) UN56 TI9 e32 e33 hxx26 (fun ad27 hs => ?_)
 have hs := hs.add (it := pl tStr x26 ad27) fun ok hA => hA.get 0 rfl
 exact WL.nil ⟨rfl, _, rfl, ⟨ad27, rfl⟩, hs.cutG 1 1⟩ }
 {
 intro ρ w Γx Λx hs hu hp
 obtain ⟨⟨ad34, e35r⟩, hm36⟩ := hp 2 rfl
 have e35 : ρ 18 = .pointer (some ad34) := e35r
 rw [e35r] at hm36
 have hs := hs.memo1 (it := pl tStr x26 ad34) (List.mem_append.2 (.inl (hm36 _ (List.mem_of_getElem? (i := 0) rfl))))
 refine WL.loadP hs 0 rfl TI9 (.inr rfl) e35 (fun v28 hs => ?_)
 obtain rfl := hs.str 0 rfl
 exact WL.nil ⟨rfl, _, rfl, rfl, hs.cutG 0 2⟩ }
 {
 intro ρ w Γx Λx hs hu hp
 refine WL.move (v := .slice a5 x4.length c6) ((hu 1 rfl).trans h17_1) ?_
 exact WL.nil ⟨rfl, _, rfl, rfl, hs.cutG 0 0⟩ }
 {
 intro ρ w Γx Λx hs hu hp
 refine WL.move (v := .int .i64 x18) (hu 5 rfl) ?_
 exact WL.nil ⟨rfl, _, rfl, rfl, hs.cutG 0 0⟩ }
 {
 intro ρ w Γx Λx hs hu hp
 have e37 : ρ 20 = .slice a5 x4.length c6 := (hp 4 rfl).1
 have e38 : ρ 21 = .int .i64 x18 := (hp 5 rfl).1
 refine WL.indexAddr hs (Γx.length + 1) (Y0q rfl) UN56 TI9 e37 e38 hxx29 (fun ad30 hs => ?_)
 have hs := hs.add (it := pl tStr x29 ad30) fun ok hA => hA.get 0 rfl
 exact WL.nil ⟨rfl, _, rfl, ⟨ad30, rfl⟩, hs.cutG 1 1⟩ }
 {
 intro ρ w Γx Λx hs hu hp
 obtain ⟨⟨ad39, e40r⟩, hm41⟩ := hp 6 rfl
 have e40 : ρ 22 = .pointer (some ad39) := e40r
 rw [e40r] at hm41
 have hs := hs.memo1 (it := pl tStr x29 ad39) (List.mem_append.2 (.inl (hm41 _ (List.mem_of_getElem? (i := 0) rfl))))
 refine WL.loadP hs 0 rfl TI9 (.inr rfl) e40 (fun v31 hs => ?_)
 obtain rfl := hs.str 0 rfl
 exact WL.nil ⟨rfl, _, rfl, rfl, hs.cutG 0 2⟩ }
 {
 intro ρ w Γx Λx hs hu hp
 have e42 : ρ 19 = bstr x26 := (hp 3 rfl).1
 have e43 : ρ 23 = bstr x29 := (hp 7 rfl).1
 refine WL.binS (v := .bool (x26 != x29)) e42 e43 (Y6t _ _) ?_
 exact WL.nil ⟨rfl, _, rfl, rfl, hs.cutG 0 0⟩ }
 {
 intro ρ w hs hu44 hp
 obtain ⟨⟨⟨⟨⟨⟨⟨⟨⟨_, hp0_⟩, hp1_⟩, hp2_⟩, hp3_⟩, hp4_⟩, hp5_⟩, hp6_⟩, hp7_⟩, hp8_⟩ := hp
 have hs : St ok (bz w0) w [pl tStr x29 (adOf (ρ 22)), pl tStr x26 (adOf (ρ 18)), vl (Y0b tStr) x1 (.slice a2 x1.length c3), vl (Y0b tStr) x4 (.slice a5 x4.length c6)] [] := hs
 have e45 : ρ 24 = .bool (x26 != x29) := hp8_
 have e46 : ρ 23 = bstr x29 := hp7_
 obtain ⟨ad47, e48⟩ := hp6_
 have e48 : ρ 22 = .pointer (some ad47) := e48
 try rw [e48] at hs
 have e49 : ρ 21 = .int .i64 x18 := hp5_
 have e50 : ρ 20 = .slice a5 x4.length c6 := hp4_
 have e51 : ρ 19 = bstr x26 := hp3_
 obtain ⟨ad52, e53⟩ := hp2_
 have e53 : ρ 18 = .pointer (some ad52) := e53
 try rw [e53] at hs
 have e54 : ρ 17 = .int .i64 x18 := hp1_
 have e55 : ρ 16 = .slice a2 x1.length c3 := hp0_
 refine WA.done (by kernel_rfl) ?_
 refine hK25 _ _ ?_
 rcases iteE hf with ⟨hc56, hf⟩ | ⟨hc56, hf⟩
 {
 refine W.cond_true (Y02 e45 hc56) ?_
 refine W.seqK fun K57 hK57 => ?_
 refine W.region ?_
 refine WL.assign (v := .bool false) rfl ?_
 refine WL.nil ?_
 refine hK57 _ _ ?_
 refine W.ret ?_
 have hr := Option.some.inj hf; subst hr
 have hr := hbbs19 _ rfl; subst hr
 have hf := hfs19
 have hr := Option.some.inj hf; subst hr
 exact ⟨_, Y0e rfl rfl, (), rfl, (hs.mask []).pick []⟩ }
 {
 refine W.cond_false (Y02 e45 hc56) ?_
 refine W.skip ?_
 refine hK23 _ _ ?_
 refine W.region ?_
 obtain ⟨x58, ex58, hf⟩ := letE hf
 refine WL.bin (v := .int .i64 x58) ((hu44 13 rfl).trans h17_13) rfl (Y1V ex58 (Y1t _ _ _)) ?_
 refine WL.move (v := .int .i64 x58) rfl ?_
 refine WL.nil ?_
 exact ⟨_, (Option.some.inj hf).symm, ((hu44 0 rfl).trans h17_0), ((hu44 1 rfl).trans h17_1), ((hu44 12 rfl).trans h17_12), rfl, (hs.mask []).pick [2, 3]⟩ } } }
 {
 refine W.cond_false (Y02 rfl hc22) ?_
 refine W.exit ?_
 have hr := Option.some.inj hf; subst hr
 have hr := hbbs19 _ rfl; subst hr
 have hf := hfs19
 exact Jk14  _ _  ((hs.mask []).pick []) hf } }
theorem Y13.calls {ok : Nat → Prop} {w0 : World} {x1 : Y0a} {x5 : Y0a} {v2 : Value} {v6 : Value} {r : Bool} (hf : Y13 x1 x5 = some r) (i0 : (vl Y0i x1 v2).holds ok w0) (i1 : (vl Y0i x5 v6).holds ok w0) :
  Calls Tryz.prog 46 #[v2, v6] w0 fun e w' => ∃ v, e = .returned v ∧ ∃ y : Unit, v = .bool r ∧ St ok (bz w0) w' [] [] := by
 unfold Y13 at hf
 refine Y0t (fn := Tryz.f46) (N := 17) Tryz.func46 rfl Tryz.ntmps46 rfl ?_
 have hs : St ok (bz w0) w0 [vl Y0i x1 v2, vl Y0i x5 v6] [] := St.init (All.cons i0 (All.cons i1 All.nil))
 clear i0 i1
 obtain ⟨cs3, hl4, rfl⟩ := hs.aggv (n := 4) 0 rfl rfl rfl
 obtain ⟨cs7, hl8, rfl⟩ := hs.aggv (n := 4) 1 rfl rfl rfl
 refine W.seqK fun K9 hK9 => ?_
 refine W.region ?_
 refine WL.box (vs := cs3) hs rfl rfl (fun g10 w hs => ?_)
 refine WL.box (vs := cs7) hs rfl rfl (fun g11 w hs => ?_)
 refine WL.assign (v := .bool false) rfl ?_
 refine WL.nil ?_
 refine hK9 _ _ ?_
 refine W.seqK fun K12 hK12 => ?_
 have Jk15 : ∀ (x14 : Bool) (ρ : Env) (w : World), ρ 4 = .bool x14 → St ok (bz w0) w [] [] → Y13.j1 x14 = some r → K12 ρ w := by
  intro x14 ρ w h13_4 hs hf
  refine hK12 _ _ ?_
  unfold Y13.j1 at hf
  refine W.ret ?_
  have hr := Option.some.inj hf; subst hr
  exact ⟨_, Y0e rfl h13_4, (), rfl, (hs.mask []).pick []⟩
 refine W.region ?_
 refine WL.fieldAddr (m := 0) rfl Y4W rfl ?_
 refine WL.loadF (z := x1.Key) Y24 hs 1 rfl 0 rfl rfl TI47 (.inl rfl) rfl rfl (fun v16 hs => ?_)
 obtain ⟨cs17, hl18, rfl⟩ := hs.aggv (n := 3) 0 rfl rfl rfl
 refine WL.fieldAddr (m := 0) rfl Y4W rfl ?_
 refine WL.loadF (z := x5.Key) Y24 hs 0 rfl 2 rfl rfl TI47 (.inl rfl) rfl rfl (fun v19 hs => ?_)
 obtain ⟨cs20, hl21, rfl⟩ := hs.aggv (n := 3) 0 rfl rfl rfl
 obtain rfl := Y20 hs 1 rfl
 obtain rfl := Y20 hs 0 rfl
 refine WL.eqA rfl rfl EG47 (EQ47 (⟨x1.Key.f_Type, x1.Key.N, x1.Key.S⟩ : Y04) (⟨x5.Key.f_Type, x5.Key.N, x5.Key.S⟩ : Y04)) ?_
 refine WL.move (v := .bool (decide ((⟨x1.Key.f_Type, x1.Key.N, x1.Key.S⟩ : Y04) = (⟨x5.Key.f_Type, x5.Key.N, x5.Key.S⟩ : Y04)))) rfl ?_
 rcases iteE hf with ⟨hc22, hf⟩ | ⟨hc22, hf⟩
 {
 refine WL.fieldAddr (m := 3) rfl Y4V rfl ?_ (hg := (Y01 rfl rfl (Y02 rfl hc22)).trans rfl)
 refine WL.loadF (z := x1.Objects) Y2b hs 1 rfl 2 rfl rfl TI56 (.inr rfl) rfl rfl (fun v23 hs => ?_) (hg := (Y01 rfl rfl (Y02 rfl hc22)).trans rfl)
 obtain ⟨a24, c25, rfl⟩ := hs.slice 0 rfl
 refine WL.fieldAddr (m := 3) rfl Y4V rfl ?_ (hg := (Y01 rfl rfl (Y02 rfl hc22)).trans rfl)
 refine WL.loadF (z := x5.Objects) Y2b hs 0 rfl 4 rfl rfl TI56 (.inr rfl) rfl rfl (fun v26 hs => ?_) (hg := (Y01 rfl rfl (Y02 rfl hc22)).trans rfl)
 obtain ⟨a27, c28, rfl⟩ := hs.slice 0 rfl
 obtain ⟨x29, hxx29, hf⟩ := Y0s hf
 refine WL.call (vs := [.slice a24 (x1.Objects).length c25, .slice a27 (x5.Objects).length c28]) hs FN47 ⟨rfl, ⟨rfl, trivial⟩⟩ (fun ok hA => Y0G.calls (x1 := x1.Objects) (x4 := x5.Objects) hxx29 (hA.get 1 rfl) (hA.get 0 rfl)) ?_ (hg := (Y01 rfl rfl (Y02 rfl hc22)).trans rfl)
 rintro _ w hs
 refine WL.pickT (v := .bool x29) (Y02 rfl hc22) rfl ?_
 refine WL.assign (v := .bool x29) rfl ?_
 refine WL.nil ?_
 exact Jk15 x29 _ _ rfl ((hs.mask []).pick []) hf }
 {
 refine WL.pass ((Y01 rfl rfl (Y02 rfl hc22)).trans rfl) rfl ?_
 refine WL.pass ((Y01 rfl rfl (Y02 rfl hc22)).trans rfl) rfl ?_
 refine WL.pass ((Y01 rfl rfl (Y02 rfl hc22)).trans rfl) rfl ?_
 refine WL.pass ((Y01 rfl rfl (Y02 rfl hc22)).trans rfl) rfl ?_
 refine WL.pass ((Y01 rfl rfl (Y02 rfl hc22)).trans rfl) rfl ?_
 refine WL.pickF (v := .bool false) (Y02 rfl hc22) rfl ?_
 refine WL.assign (v := .bool false) rfl ?_
 refine WL.nil ?_
 exact Jk15 false _ _ rfl ((hs.mask []).pick []) hf }
theorem Y0Q.calls {ok : Nat → Prop} {w0 : World} {x1 : Y0Y} {x5 : Y0Y} {v2 : Value} {v6 : Value} {r : Bool} (hf : Y0Q x1 x5 = some r) (i0 : (vl Y0m x1 v2).holds ok w0) (i1 : (vl Y0m x5 v6).holds ok w0) :
  Calls Tryz.prog 27 #[v2, v6] w0 fun e w' => ∃ v, e = .returned v ∧ ∃ y : Unit, v = .bool r ∧ St ok (bz w0) w' [] [] := by
 unfold Y0Q at hf
 refine Y0t (fn := Tryz.f27) (N := 37) Tryz.func27 rfl Tryz.ntmps27 rfl ?_
 have hs : St ok (bz w0) w0 [vl Y0m x1 v2, vl Y0m x5 v6] [] := St.init (All.cons i0 (All.cons i1 All.nil))
 clear i0 i1
 obtain ⟨cs3, hl4, rfl⟩ := hs.aggv (n := 5) 0 rfl rfl rfl
 obtain ⟨cs7, hl8, rfl⟩ := hs.aggv (n := 5) 1 rfl rfl rfl
 refine W.seqK fun K9 hK9 => ?_
 refine W.region ?_
 refine WL.box (vs := cs3) hs rfl rfl (fun g10 w hs => ?_)
 refine WL.box (vs := cs7) hs rfl rfl (fun g11 w hs => ?_)
 refine WL.assign (v := .bool false) rfl ?_
 refine WL.nil ?_
 refine hK9 _ _ ?_
 refine W.seqK fun K12 hK12 => ?_
 have Jk22 : ∀ (x15 : Y0c) (x19 : Y0c) (g14 : Nat) (cs16 : List Value) (g18 : Nat) (cs20 : List Value) (ρ : Env) (w : World), cs16.length = 4 → cs20.length = 4 → ρ 2 = .pointer (some ⟨g10, 0, none⟩) → ρ 3 = .pointer (some ⟨g11, 0, none⟩) → ρ 5 = .pointer (some ⟨g14, 0, none⟩) → ρ 6 = .pointer (some ⟨g18, 0, none⟩) → St ok (bz w0) w [vl Y0m x5 (.agg cs7.toArray), vl Y0m x1 (.agg cs3.toArray), vl Y08 x15 (.agg cs16.toArray), vl Y08 x19 (.agg cs20.toArray)] [blk g11 35 cs7, blk g10 35 cs3, blk g14 31 cs16, blk g18 31 cs20] → Y0Q.j2 x1 x5 x15 x19 = some r → K12 ρ w := by
  intro x15 x19 g14 cs16 g18 cs20 ρ w hl17 hl21 h13_2 h13_3 h13_5 h13_6 hs hf
  refine hK12 _ _ ?_
  unfold Y0Q.j2 at hf
  refine W.seqK fun K23 hK23 => ?_
  have Jk26 : ∀ (x25 : Bool) (ρ : Env) (w : World), ρ 4 = .bool x25 → St ok (bz w0) w [] [] → Y0Q.j1 x25 = some r → K23 ρ w := by
   intro x25 ρ w h24_4 hs hf
   refine hK23 _ _ ?_
   unfold Y0Q.j1 at hf
   refine W.ret ?_
   have hr := Option.some.inj hf; subst hr
   exact ⟨_, Y0e rfl h24_4, (), rfl, (hs.mask []).pick []⟩
  refine W.region ?_
  refine WL.fieldAddr (m := 0) h13_5 Y3K rfl ?_
  refine WL.loadF (z := x15.Name) Y1m hs 2 rfl 2 rfl rfl TI9 (.inr rfl) rfl rfl (fun v27 hs => ?_)
  obtain rfl := hs.str 0 rfl
  refine WL.fieldAddr (m := 0) h13_6 Y3K rfl ?_
  refine WL.loadF (z := x19.Name) Y1m hs 3 rfl 4 rfl rfl TI9 (.inr rfl) rfl rfl (fun v28 hs => ?_)
  obtain rfl := hs.str 0 rfl
  refine WL.binS (v := .bool (x15.Name == x19.Name)) rfl rfl (Y3N _ _) ?_
  refine WL.move (v := .bool (x15.Name == x19.Name)) rfl ?_
  rcases iteE hf with ⟨hc29, hf⟩ | ⟨hc29, hf⟩
  {
  refine WL.fieldAddr (m := 1) h13_5 Y2X rfl ?_ (hg := (Y01 rfl rfl (Y02 rfl hc29)).trans rfl)
  refine WL.loadF (z := x15.Kind) Y12 hs 2 rfl 4 rfl rfl TI3 (.inr rfl) rfl rfl (fun v30 hs => ?_) (hg := (Y01 rfl rfl (Y02 rfl hc29)).trans rfl)
  obtain rfl := hs.int 0 rfl
  refine WL.fieldAddr (m := 1) h13_6 Y2X rfl ?_ (hg := (Y01 rfl rfl (Y02 rfl hc29)).trans rfl)
  refine WL.loadF (z := x19.Kind) Y12 hs 3 rfl 6 rfl rfl TI3 (.inr rfl) rfl rfl (fun v31 hs => ?_) (hg := (Y01 rfl rfl (Y02 rfl hc29)).trans rfl)
  obtain rfl := hs.int 0 rfl
  refine WL.bin (v := .bool (x15.Kind == x19.Kind)) rfl rfl (Y1P _ _ _) ?_ (hg := (Y01 rfl rfl (Y02 rfl hc29)).trans rfl)
  refine WL.pickT (v := .bool (x15.Kind == x19.Kind)) (Y02 rfl hc29) rfl ?_
  refine WL.move (v := .bool (x15.Kind == x19.Kind)) rfl ?_
  rcases iteE hf with ⟨hc32, hf⟩ | ⟨hc32, hf⟩
  {
  refine WL.fieldAddr (m := 2) h13_5 Y3s rfl ?_ (hg := (Y01 rfl rfl (Y02 rfl hc32)).trans rfl)
  refine WL.loadF (z := x15.f_Type) Y11 hs 2 rfl 6 rfl rfl TI3 (.inr rfl) rfl rfl (fun v33 hs => ?_) (hg := (Y01 rfl rfl (Y02 rfl hc32)).trans rfl)
  obtain rfl := hs.int 0 rfl
  refine WL.fieldAddr (m := 2) h13_6 Y3s rfl ?_ (hg := (Y01 rfl rfl (Y02 rfl hc32)).trans rfl)
  refine WL.loadF (z := x19.f_Type) Y11 hs 3 rfl 8 rfl rfl TI3 (.inr rfl) rfl rfl (fun v34 hs => ?_) (hg := (Y01 rfl rfl (Y02 rfl hc32)).trans rfl)
  obtain rfl := hs.int 0 rfl
  refine WL.bin (v := .bool (x15.f_Type == x19.f_Type)) rfl rfl (Y1P _ _ _) ?_ (hg := (Y01 rfl rfl (Y02 rfl hc32)).trans rfl)
  refine WL.pickT (v := .bool (x15.f_Type == x19.f_Type)) (Y02 rfl hc32) rfl ?_
  refine WL.move (v := .bool (x15.f_Type == x19.f_Type)) rfl ?_
  rcases iteE hf with ⟨hc35, hf⟩ | ⟨hc35, hf⟩
  {
  refine WL.fieldAddr (m := 4) h13_2 Y4X rfl ?_ (hg := (Y01 rfl rfl (Y02 rfl hc35)).trans rfl)
  refine WL.loadF (z := x1.Entries) Y1S hs 1 rfl 7 rfl rfl TI33 (.inr rfl) rfl rfl (fun v36 hs => ?_) (hg := (Y01 rfl rfl (Y02 rfl hc35)).trans rfl)
  obtain ⟨a37, c38, rfl⟩ := hs.slice 0 rfl
  refine WL.fieldAddr (m := 4) h13_3 Y4X rfl ?_ (hg := (Y01 rfl rfl (Y02 rfl hc35)).trans rfl)
  refine WL.loadF (z := x5.Entries) Y1S hs 0 rfl 7 rfl rfl TI33 (.inr rfl) rfl rfl (fun v39 hs => ?_) (hg := (Y01 rfl rfl (Y02 rfl hc35)).trans rfl)
  obtain ⟨a40, c41, rfl⟩ := hs.slice 0 rfl
  have hs := hs.add (it := vl (tFun Tryz.prog (argK2 Y0i Y0i) (fun r : Bool => .bool r)) (fun p : Y0a × Y0a => Y13 p.1 p.2) (.func (.func 46) #[] #[])) fun ok hA => tFun_V.2 ⟨46, _, rfl, FN46, fun ok' w' hm p r vs hF har => by
   obtain ⟨u1, u2, rfl, h1, h2⟩ := har
   exact (Y13.calls (x1 := p.1) (x5 := p.2) hF h1 h2).mono (by rintro e w2 ⟨v, h1, y, h2, h3⟩; exact ⟨v, h1, h2, h3⟩)⟩
  obtain ⟨x42, hxx42, hf⟩ := Y0s hf
  refine WL.call (vs := [.slice a37 (x1.Entries).length c38, .slice a40 (x5.Entries).length c41, (.func (.func 46) #[] #[])]) hs FN45 ⟨rfl, ⟨rfl, ⟨rfl, trivial⟩⟩⟩ (fun ok hA => Y0x.calls (x1 := x1.Entries) (x4 := x5.Entries) (x7 := (fun p : Y0a × Y0a => Y13 p.1 p.2)) hxx42 (hA.get 2 rfl) (hA.get 1 rfl) (hA.get 0 rfl)) ?_ (hg := (Y01 rfl rfl (Y02 rfl hc35)).trans rfl)
  rintro _ w hs
  refine WL.pickT (v := .bool x42) (Y02 rfl hc35) rfl ?_
  refine WL.assign (v := .bool x42) rfl ?_
  refine WL.nil ?_
  exact Jk26 x42 _ _ rfl ((hs.mask []).pick []) hf }
  {
  refine WL.pass ((Y01 rfl rfl (Y02 rfl hc35)).trans rfl) rfl ?_
  refine WL.pass ((Y01 rfl rfl (Y02 rfl hc35)).trans rfl) rfl ?_
  refine WL.pass ((Y01 rfl rfl (Y02 rfl hc35)).trans rfl) rfl ?_
  refine WL.pass ((Y01 rfl rfl (Y02 rfl hc35)).trans rfl) rfl ?_
  refine WL.pass ((Y01 rfl rfl (Y02 rfl hc35)).trans rfl) rfl ?_
  refine WL.pickF (v := .bool false) (Y02 rfl hc35) rfl ?_
  refine WL.assign (v := .bool false) rfl ?_
  refine WL.nil ?_
  exact Jk26 false _ _ rfl ((hs.mask []).pick []) hf } }
  {
  refine WL.pass ((Y01 rfl rfl (Y02 rfl hc32)).trans rfl) rfl ?_
  refine WL.pass ((Y01 rfl rfl (Y02 rfl hc32)).trans rfl) rfl ?_
  refine WL.pass ((Y01 rfl rfl (Y02 rfl hc32)).trans rfl) rfl ?_
  refine WL.pass ((Y01 rfl rfl (Y02 rfl hc32)).trans rfl) rfl ?_
  refine WL.pass ((Y01 rfl rfl (Y02 rfl hc32)).trans rfl) rfl ?_
  refine WL.pickF (v := .bool false) (Y02 rfl hc32) rfl ?_
  refine WL.move (v := .bool false) rfl ?_
  refine WL.pass ((Y01 rfl rfl rfl).trans rfl) rfl ?_
  refine WL.pass ((Y01 rfl rfl rfl).trans rfl) rfl ?_
  refine WL.pass ((Y01 rfl rfl rfl).trans rfl) rfl ?_
  refine WL.pass ((Y01 rfl rfl rfl).trans rfl) rfl ?_
  refine WL.pass ((Y01 rfl rfl rfl).trans rfl) rfl ?_
  refine WL.pickF (v := .bool false) rfl rfl ?_
  refine WL.assign (v := .bool false) rfl ?_
  refine WL.nil ?_
  exact Jk26 false _ _ rfl ((hs.mask []).pick []) hf } }
  {
  refine WL.pass ((Y01 rfl rfl (Y02 rfl hc29)).trans rfl) rfl ?_
  refine WL.pass ((Y01 rfl rfl (Y02 rfl hc29)).trans rfl) rfl ?_
  refine WL.pass ((Y01 rfl rfl (Y02 rfl hc29)).trans rfl) rfl ?_
  refine WL.pass ((Y01 rfl rfl (Y02 rfl hc29)).trans rfl) rfl ?_
  refine WL.pass ((Y01 rfl rfl (Y02 rfl hc29)).trans rfl) rfl ?_
  refine WL.pickF (v := .bool false) (Y02 rfl hc29) rfl ?_
  refine WL.move (v := .bool false) rfl ?_
  refine WL.pass ((Y01 rfl rfl rfl).trans rfl) rfl ?_
  refine WL.pass ((Y01 rfl rfl rfl).trans rfl) rfl ?_
  refine WL.pass ((Y01 rfl rfl rfl).trans rfl) rfl ?_
  refine WL.pass ((Y01 rfl rfl rfl).trans rfl) rfl ?_
  refine WL.pass ((Y01 rfl rfl rfl).trans rfl) rfl ?_
  refine WL.pickF (v := .bool false) rfl rfl ?_
  refine WL.move (v := .bool false) rfl ?_
  refine WL.pass ((Y01 rfl rfl rfl).trans rfl) rfl ?_
  refine WL.pass ((Y01 rfl rfl rfl).trans rfl) rfl ?_
  refine WL.pass ((Y01 rfl rfl rfl).trans rfl) rfl ?_
  refine WL.pass ((Y01 rfl rfl rfl).trans rfl) rfl ?_
  refine WL.pass ((Y01 rfl rfl rfl).trans rfl) rfl ?_
  refine WL.pickF (v := .bool false) rfl rfl ?_
  refine WL.assign (v := .bool false) rfl ?_
  refine WL.nil ?_
  exact Jk26 false _ _ rfl ((hs.mask []).pick []) hf }
 refine W.anyU (by kernel_rfl) 7 1 [true, true, true, true, true, true, true, false] rfl rfl (poAt [pv (.pointer (some ⟨g10, 0, none⟩)), pq (fun y : List Value => .agg y.toArray) (fun v => [vl Y08 x1.Field v]) (fun v => []), pv (.pointer (some ⟨g11, 0, none⟩)), pq (fun y : List Value => .agg y.toArray) (fun v => [vl Y08 x5.Field v]) (fun v => []), pq (fun y : Nat => .pointer (some ⟨y, 0, none⟩)) (fun v => []) (fun v => [blk (gOf v) 31 ([bstr [], .int .i64 0, .int .i64 0, .int .i64 0])]), pq (fun y : Nat => .pointer (some ⟨y, 0, none⟩)) (fun v => []) (fun v => [blk (gOf v) 31 ([bstr [], .int .i64 0, .int .i64 0, .int .i64 0])]), pT]) (tkAt [[], [], [], [], [], [], [4]]) (tlAt [fun _ => [], fun _ => [], fun _ => [], fun _ => [], fun v => [tbx Y08 x1.Field (gOf v) 31], fun _ => [], fun _ => []]) (Λ := [blk g11 35 cs7, blk g10 35 cs3]) hs (by kernel_rfl) (by kernel_rfl) (by kernel_rfl) (by kernel_rfl) ⟨⟨⟨⟨⟨⟨⟨trivial, ?_⟩, ?_⟩, ?_⟩, ?_⟩, ?_⟩, ?_⟩, ?_⟩ ?_
 {
 intro ρ w Γx Λx hs hu hu2 hp
 refine WL.fieldAddr (m := 0) (hu 2 rfl) FA35_0 rfl ?_
 exact WL.nil ⟨rfl, _, rfl, rfl, hs.cutG 0 0⟩ }
 {
 intro ρ w Γx Λx hs hu hu2 hp
 have e51 : ρ 7 = .pointer (some ⟨g10, 0, none⟩) := (hp 0 rfl).1
 refine WL.loadF (z := x1.Field) Y3c hs (Λx.length + 1) (Y0q rfl) (Γx.length + 0) (Y0q rfl) rfl TI31 (.inl rfl) e51 rfl (fun v43 hs => ?_)
 obtain ⟨cs44, hl45, rfl⟩ := hs.aggv (n := 4) 0 rfl rfl rfl
 have hs := hs.add (it := vl Y08 x1.Field (.agg cs44.toArray)) fun ok hA => hA.get 0 rfl
 exact WL.nil ⟨rfl, _, rfl, ⟨cs44, rfl⟩, hs.cutG 1 1⟩ }
 {
 intro ρ w Γx Λx hs hu hu2 hp
 refine WL.fieldAddr (m := 0) (hu 3 rfl) FA35_0 rfl ?_
 exact WL.nil ⟨rfl, _, rfl, rfl, hs.cutG 0 0⟩ }
 {
 intro ρ w Γx Λx hs hu hu2 hp
 have e52 : ρ 9 = .pointer (some ⟨g11, 0, none⟩) := (hp 2 rfl).1
 refine WL.loadF (z := x5.Field) Y3c hs (Λx.length + 0) (Y0q rfl) (Γx.length + 1) (Y0q rfl) rfl TI31 (.inl rfl) e52 rfl (fun v46 hs => ?_)
 obtain ⟨cs47, hl48, rfl⟩ := hs.aggv (n := 4) 0 rfl rfl rfl
 have hs := hs.add (it := vl Y08 x5.Field (.agg cs47.toArray)) fun ok hA => hA.get 0 rfl
 exact WL.nil ⟨rfl, _, rfl, ⟨cs47, rfl⟩, hs.cutG 1 1⟩ }
 {
 intro ρ w Γx Λx hs hu hu2 hp
 refine WL.alloc hs ZV31 (fun g49 w hs => ?_)
 exact WL.nil ⟨rfl, _, rfl, ⟨g49, rfl⟩, hs.cutG 0 0⟩ }
 {
 intro ρ w Γx Λx hs hu hu2 hp
 refine WL.alloc hs ZV31 (fun g50 w hs => ?_)
 exact WL.nil ⟨rfl, _, rfl, ⟨g50, rfl⟩, hs.cutG 0 0⟩ }
 {
 intro ρ w Γx Λx hs hu hu2 hp
 have hs : St ok (bz w0) w (Γx ++ [vl Y0m x1 (.agg cs3.toArray), vl Y0m x5 (.agg cs7.toArray)]) (Λx ++ ([blk (gOf ((ρ 5))) 31 ([bstr [], .int .i64 0, .int .i64 0, .int .i64 0])] ++ [blk g11 35 cs7, blk g10 35 cs3])) := hs
 have e53 : ρ 5 = .pointer (some ⟨gOf (ρ 5), 0, none⟩) := by obtain ⟨⟨y, hy⟩, _⟩ := hp 4 rfl; have hy : ρ 5 = .pointer (some ⟨y, 0, none⟩) := hy; rw [hy]; rfl
 obtain ⟨⟨cs54, e56r⟩, hm57⟩ := hp 1 rfl
 have e56 : ρ 8 = .agg cs54.toArray := e56r
 rw [e56r] at hm57
 have hs := hs.memo1 (it := vl Y08 x1.Field (.agg cs54.toArray)) (List.mem_append.2 (.inl (hm57 _ (List.mem_of_getElem? (i := 0) rfl))))
 have hl55 := hs.agglen (n := 4) 0 rfl rfl rfl
 refine WL.storeAll (vs := cs54) hs (Λx.length + 0) (Y0q rfl) TI31 e53 e56 rfl hl55 (hs.ones 0 rfl rfl) rfl (fun w hs => ?_)
 have hs := hs.backP
 have hs := hs.toT (A := Y08) 0 rfl fun ok hA => (Y3F (hA.get 0 rfl) rfl)
 exact WL.nil ⟨rfl, _, rfl, trivial, hs.cutG 0 1⟩ }
 {
 intro ρ w hs hu58 hp
 obtain ⟨⟨⟨⟨⟨⟨⟨_, hp0_⟩, hp1_⟩, hp2_⟩, hp3_⟩, hp4_⟩, hp5_⟩, hp6_⟩ := hp
 have hs : St ok (bz w0) w [vl Y08 x5.Field (ρ 10), vl Y08 x1.Field (ρ 8), vl Y0m x1 (.agg cs3.toArray), vl Y0m x5 (.agg cs7.toArray)] [blk (gOf ((ρ 6))) 31 ([bstr [], .int .i64 0, .int .i64 0, .int .i64 0]), tbx Y08 x1.Field (gOf (ρ 5)) 31, blk g11 35 cs7, blk g10 35 cs3] := hs
 obtain ⟨g59, e60⟩ := hp5_
 have e60 : ρ 6 = .pointer (some ⟨g59, 0, none⟩) := e60
 try rw [e60] at hs
 obtain ⟨g61, e62⟩ := hp4_
 have e62 : ρ 5 = .pointer (some ⟨g61, 0, none⟩) := e62
 try rw [e62] at hs
 obtain ⟨cs63, e65⟩ := hp3_
 have e65 : ρ 10 = .agg cs63.toArray := e65
 try rw [e65] at hs
 have e66 : ρ 9 = .pointer (some ⟨g11, 0, none⟩) := hp2_
 obtain ⟨cs67, e69⟩ := hp1_
 have e69 : ρ 8 = .agg cs67.toArray := e69
 try rw [e69] at hs
 have e70 : ρ 7 = .pointer (some ⟨g10, 0, none⟩) := hp0_
 have hl68 := hs.agglen (n := 4) 1 rfl rfl rfl
 have hl64 := hs.agglen (n := 4) 0 rfl rfl rfl
 obtain ⟨cs71, hl72, hs⟩ := hs.ofT (n := 4) 1 rfl rfl rfl
 refine WA.step [7] (by kernel_rfl) (by simp) ⟨?_, trivial⟩
 refine WL.storeAll (vs := cs63) hs 0 rfl TI31 e60 e65 rfl hl64 (hs.ones 1 rfl rfl) rfl (fun w hs => ?_)
 refine WL.nil ⟨rfl, _, rfl, ?_⟩
 refine WA.done (by kernel_rfl) ?_
 have hs := hs.front 0 rfl
 have hs := hs.front 1 rfl
 have hs := hs.front 3 rfl
 have hs := hs.front 3 rfl
 exact Jk22 x1.Field x5.Field g61 cs71 g59 cs63 _ _ hl72 hl64 (hu58 2 rfl) (hu58 3 rfl) e62 e60 ((hs.mask [true, true, true, true]).pick [4, 3, 0, 1]) hf }
theorem Y0E.calls {ok : Nat → Prop} {w0 : World} {x1 : List Int} {x4 : List Int} {x7 : Int} {x8 : Int} {a2 : Option Addr} {c3 : Nat} {a5 : Option Addr} {c6 : Nat} {r : Bool} (hf : Y0E x1 x4 x7 x8 = some r) (i0 : (vl (Y0b (tInt .i64)) x1 (.slice a2 x1.length c3)).holds ok w0) (i1 : (vl (Y0b (tInt .i64)) x4 (.slice a5 x4.length c6)).holds ok w0) :
  Calls Tryz.prog 7 #[.slice a2 x1.length c3, .slice a5 x4.length c6, .int .i64 x7, .int .i64 x8] w0 fun e w' => ∃ v, e = .returned v ∧ ∃ y : Unit, v = .bool r ∧ St ok (bz w0) w' [] [] := by
 unfold Y0E at hf
 refine Y0t (fn := Tryz.f7) (N := 79) Tryz.func7 rfl Tryz.ntmps7 rfl ?_
 have hs : St ok (bz w0) w0 [vl (Y0b (tInt .i64)) x1 (.slice a2 x1.length c3), vl (Y0b (tInt .i64)) x4 (.slice a5 x4.length c6)] [] := St.init (All.cons i0 (All.cons i1 All.nil))
 clear i0 i1
 refine W.seqK fun K9 hK9 => ?_
 refine W.region ?_
 refine WL.assign (v := .bool false) rfl ?_
 refine WL.nil ?_
 refine hK9 _ _ ?_
 refine W.seqK fun K10 hK10 => ?_
 refine W.region ?_
 refine WL.move (v := .int .i64 x7) rfl ?_
 obtain ⟨x11, hxx11, hf⟩ := Y0s hf
 refine WL.call (vs := [.int .i64 x7]) hs FN11 ⟨rfl, trivial⟩ (fun ok hA => Y0V.calls (x1 := x7) hxx11) ?_
 rintro cs12 w hs
 have hl13 := hs.agglen (n := 4) 0 rfl rfl rfl
 refine WL.move (v := .int .i64 x8) rfl ?_
 obtain ⟨x14, hxx14, hf⟩ := Y0s hf
 refine WL.call (vs := [.int .i64 x8]) hs FN11 ⟨rfl, trivial⟩ (fun ok hA => Y0V.calls (x1 := x8) hxx14) ?_
 rintro cs15 w hs
 have hl16 := hs.agglen (n := 4) 0 rfl rfl rfl
 refine WL.alloc hs ZV31 (fun g17 w hs => ?_)
 refine WL.alloc hs ZV31 (fun g18 w hs => ?_)
 refine WL.storeAll (vs := cs12) hs 1 rfl TI31 rfl rfl rfl hl13 (hs.ones 1 rfl rfl) rfl (fun w hs => ?_)
 obtain rfl := Y2T hs 0 rfl
 refine WL.storeAll (vs := [bstr x14.Name, .int .i64 x14.Kind, .int .i64 x14.f_Type, .int .i64 x14.At]) hs 0 rfl TI31 rfl rfl rfl rfl (Y0P rfl) rfl (fun w hs => ?_)
 refine WL.nil ?_
 refine hK10 _ _ ?_
 refine W.seqK fun K19 hK19 => ?_
 refine W.region ?_
 refine WL.move (v := .slice a2 x1.length c3) rfl ?_
 obtain ⟨x20, hxx20, hf⟩ := Y0s hf
 refine WL.call (vs := [.slice a2 x1.length c3]) hs FN10 ⟨rfl, trivial⟩ (fun ok hA => Y0k.calls (x1 := x1) hxx20 (hA.get 2 rfl)) ?_
 rintro ⟨a21, n22, c23⟩ w hs
 obtain rfl := hs.ownLen 0 rfl
 have hs := hs.freezeOwn 0 rfl
 obtain ⟨x24, hxx24, hf⟩ := Y0s hf
 refine WL.call (vs := [.slice a21 x20.length c23]) hs FN9 ⟨rfl, trivial⟩ (fun ok hA => Y1X.calls (x1 := x20) hxx24 (hA.get 0 rfl)) ?_
 rintro cs25 w hs
 have hl26 := hs.agglen (n := 1) 0 rfl rfl rfl
 refine WL.move (v := .slice a5 x4.length c6) rfl ?_
 obtain ⟨x27, hxx27, hf⟩ := Y0s hf
 refine WL.call (vs := [.slice a5 x4.length c6]) hs FN10 ⟨rfl, trivial⟩ (fun ok hA => Y0k.calls (x1 := x4) hxx27 (hA.get 5 rfl)) ?_
 rintro ⟨a28, n29, c30⟩ w hs
 obtain rfl := hs.ownLen 0 rfl
 have hs := hs.freezeOwn 0 rfl
 obtain ⟨x31, hxx31, hf⟩ := Y0s hf
 refine WL.call (vs := [.slice a28 x27.length c30]) hs FN9 ⟨rfl, trivial⟩ (fun ok hA => Y1X.calls (x1 := x27) hxx31 (hA.get 0 rfl)) ?_
 rintro cs32 w hs
 have hl33 := hs.agglen (n := 1) 0 rfl rfl rfl
 refine WL.alloc hs ZV25 (fun g34 w hs => ?_)
 refine WL.alloc hs ZV25 (fun g35 w hs => ?_)
 refine WL.storeAll (vs := cs25) hs 1 rfl TI25 rfl rfl rfl hl26 (hs.ones 2 rfl rfl) rfl (fun w hs => ?_)
 refine WL.storeAll (vs := cs32) hs 0 rfl TI25 rfl rfl rfl hl33 (hs.ones 0 rfl rfl) rfl (fun w hs => ?_)
 refine WL.nil ?_
 refine hK19 _ _ ?_
 refine W.seqK fun K36 hK36 => ?_
 obtain ⟨x37, hxx37, hf⟩ := Y0s hf
 obtain ⟨x40, hxx40, hf⟩ := Y0s hf
 refine W.any (by kernel_rfl) 8 2 [true, true, true, true, true, true, true, true, false, false] rfl rfl (poAt [pv (.agg cs12.toArray), pv (.agg cs25.toArray), pq (fun y : List Value => .agg y.toArray) (fun v => [vl Y0m x37 v]) (fun v => []), pv (.agg ([bstr x14.Name, .int .i64 x14.Kind, .int .i64 x14.f_Type, .int .i64 x14.At] : List Value).toArray), pv (.agg cs32.toArray), pq (fun y : List Value => .agg y.toArray) (fun v => [vl Y0m x40 v]) (fun v => []), pq (fun y : Nat => .pointer (some ⟨y, 0, none⟩)) (fun v => []) (fun v => [blk (gOf v) 35 ([bstr [], .int .i64 0, .int .i64 0, .int .i64 0, .slice none 0 0])]), pq (fun y : Nat => .pointer (some ⟨y, 0, none⟩)) (fun v => []) (fun v => [blk (gOf v) 35 ([bstr [], .int .i64 0, .int .i64 0, .int .i64 0, .slice none 0 0])])]) (Λ := [blk g35 25 cs32, blk g34 25 cs25, blk g18 31 [bstr x14.Name, .int .i64 x14.Kind, .int .i64 x14.f_Type, .int .i64 x14.At], blk g17 31 cs12]) hs (by kernel_rfl) (by kernel_rfl) (by kernel_rfl) ⟨⟨⟨⟨⟨⟨⟨⟨trivial, ?_⟩, ?_⟩, ?_⟩, ?_⟩, ?_⟩, ?_⟩, ?_⟩, ?_⟩ ?_
 {
 intro ρ w Γx Λx hs hu hp
 refine WL.loadAll hs (Λx.length + 3) (Y0q rfl) TI31 (hu 9 rfl) hl13 ?_
 exact WL.nil ⟨rfl, _, rfl, rfl, hs.cutG 0 0⟩ }
 {
 intro ρ w Γx Λx hs hu hp
 refine WL.loadAll hs (Λx.length + 1) (Y0q rfl) TI25 (hu 11 rfl) hl26 ?_
 exact WL.nil ⟨rfl, _, rfl, rfl, hs.cutG 0 0⟩ }
 {
 intro ρ w Γx Λx hs hu hp
 have e45 : ρ 27 = .agg cs12.toArray := (hp 0 rfl).1
 have e46 : ρ 28 = .agg cs25.toArray := (hp 1 rfl).1
 refine WL.call (vs := [.agg cs12.toArray, .agg cs25.toArray]) hs FN12 ⟨e45, ⟨e46, trivial⟩⟩ (fun ok hA => Y1s.calls (x1 := x11) (x5 := x24) hxx37 (hA.get (Γx.length + 5) (Y0q rfl)) (hA.get (Γx.length + 2) (Y0q rfl))) ?_
 rintro cs38 w hs
 have hl39 := hs.agglen (n := 5) 0 rfl rfl rfl
 have hs := hs.add (it := vl Y0m x37 (.agg cs38.toArray)) fun ok hA => hA.get 0 rfl
 exact WL.nil ⟨rfl, _, rfl, ⟨cs38, rfl⟩, hs.cutG 1 1⟩ }
 {
 intro ρ w Γx Λx hs hu hp
 refine WL.loadN (vs := [bstr x14.Name, .int .i64 x14.Kind, .int .i64 x14.f_Type, .int .i64 x14.At]) hs (Λx.length + 2) (Y0q rfl) TI31 (hu 10 rfl) rfl rfl ?_
 exact WL.nil ⟨rfl, _, rfl, rfl, hs.cutG 0 0⟩ }
 {
 intro ρ w Γx Λx hs hu hp
 refine WL.loadAll hs (Λx.length + 0) (Y0q rfl) TI25 (hu 12 rfl) hl33 ?_
 exact WL.nil ⟨rfl, _, rfl, rfl, hs.cutG 0 0⟩ }
 {
 intro ρ w Γx Λx hs hu hp
 have e47 : ρ 30 = .agg ([bstr x14.Name, .int .i64 x14.Kind, .int .i64 x14.f_Type, .int .i64 x14.At] : List Value).toArray := (hp 3 rfl).1
 have e48 : ρ 31 = .agg cs32.toArray := (hp 4 rfl).1
 have hs := hs.add (it := vl Y08 (⟨x14.Name, x14.Kind, x14.f_Type, x14.At⟩ : Y0c) (.agg [bstr x14.Name, .int .i64 x14.Kind, .int .i64 x14.f_Type, .int .i64 x14.At].toArray)) fun ok hA => Y2W (show Y08.R ok _ _ _ from ⟨[bstr x14.Name], [.int .i64 x14.Kind, .int .i64 x14.f_Type, .int .i64 x14.At], rfl, rfl, ⟨[.int .i64 x14.Kind], [.int .i64 x14.f_Type, .int .i64 x14.At], rfl, rfl, ⟨[.int .i64 x14.f_Type], [.int .i64 x14.At], rfl, rfl, rfl⟩⟩⟩) rfl
 refine WL.call (vs := [.agg ([bstr x14.Name, .int .i64 x14.Kind, .int .i64 x14.f_Type, .int .i64 x14.At] : List Value).toArray, .agg cs32.toArray]) hs FN12 ⟨e47, ⟨e48, trivial⟩⟩ (fun ok hA => Y1s.calls (x1 := (⟨x14.Name, x14.Kind, x14.f_Type, x14.At⟩ : Y0c)) (x5 := x31) hxx40 (hA.get 0 rfl) (hA.get (Γx.length + 0 + 1) (Y3k rfl))) ?_
 rintro cs41 w hs
 have hl42 := hs.agglen (n := 5) 0 rfl rfl rfl
 have hs := hs.add (it := vl Y0m x40 (.agg cs41.toArray)) fun ok hA => hA.get 0 rfl
 exact WL.nil ⟨rfl, _, rfl, ⟨cs41, rfl⟩, hs.cutG 1 2⟩ }
 {
 intro ρ w Γx Λx hs hu hp
 refine WL.alloc hs ZV35 (fun g43 w hs => ?_)
 exact WL.nil ⟨rfl, _, rfl, ⟨g43, rfl⟩, hs.cutG 0 0⟩ }
 {
 intro ρ w Γx Λx hs hu hp
 refine WL.alloc hs ZV35 (fun g44 w hs => ?_)
 exact WL.nil ⟨rfl, _, rfl, ⟨g44, rfl⟩, hs.cutG 0 0⟩ }
 {
 intro ρ w hs hu49 hp
 obtain ⟨⟨⟨⟨⟨⟨⟨⟨_, hp0_⟩, hp1_⟩, hp2_⟩, hp3_⟩, hp4_⟩, hp5_⟩, hp6_⟩, hp7_⟩ := hp
 have hs : St ok (bz w0) w [vl Y0m x40 (ρ 32), vl Y0m x37 (ρ 29), vl Y0p x31 (.agg cs32.toArray), vl (Y0b Y0r) x27 (.slice a28 x27.length c30), vl Y0p x24 (.agg cs25.toArray), vl (Y0b Y0r) x20 (.slice a21 x20.length c23), vl Y08 x14 (.agg [bstr x14.Name, .int .i64 x14.Kind, .int .i64 x14.f_Type, .int .i64 x14.At].toArray), vl Y08 x11 (.agg cs12.toArray), vl (Y0b (tInt .i64)) x1 (.slice a2 x1.length c3), vl (Y0b (tInt .i64)) x4 (.slice a5 x4.length c6)] [blk (gOf ((ρ 14))) 35 ([bstr [], .int .i64 0, .int .i64 0, .int .i64 0, .slice none 0 0]), blk (gOf ((ρ 13))) 35 ([bstr [], .int .i64 0, .int .i64 0, .int .i64 0, .slice none 0 0]), blk g35 25 cs32, blk g34 25 cs25, blk g18 31 [bstr x14.Name, .int .i64 x14.Kind, .int .i64 x14.f_Type, .int .i64 x14.At], blk g17 31 cs12] := hs
 obtain ⟨g50, e51⟩ := hp7_
 have e51 : ρ 14 = .pointer (some ⟨g50, 0, none⟩) := e51
 try rw [e51] at hs
 obtain ⟨g52, e53⟩ := hp6_
 have e53 : ρ 13 = .pointer (some ⟨g52, 0, none⟩) := e53
 try rw [e53] at hs
 obtain ⟨cs54, e56⟩ := hp5_
 have e56 : ρ 32 = .agg cs54.toArray := e56
 try rw [e56] at hs
 have e57 : ρ 31 = .agg cs32.toArray := hp4_
 have e58 : ρ 30 = .agg ([bstr x14.Name, .int .i64 x14.Kind, .int .i64 x14.f_Type, .int .i64 x14.At] : List Value).toArray := hp3_
 obtain ⟨cs59, e61⟩ := hp2_
 have e61 : ρ 29 = .agg cs59.toArray := e61
 try rw [e61] at hs
 have e62 : ρ 28 = .agg cs25.toArray := hp1_
 have e63 : ρ 27 = .agg cs12.toArray := hp0_
 have hl60 := hs.agglen (n := 5) 1 rfl rfl rfl
 have hl55 := hs.agglen (n := 5) 0 rfl rfl rfl
 refine WA.step [8] (by kernel_rfl) (by simp) ⟨?_, trivial⟩
 refine WL.storeAll (vs := cs59) hs 1 rfl TI35 e53 e61 rfl hl60 (hs.ones 1 rfl rfl) rfl (fun w hs => ?_)
 refine WL.nil ⟨rfl, _, rfl, ?_⟩
 refine WA.step [9] (by kernel_rfl) (by simp) ⟨?_, trivial⟩
 refine WL.storeAll (vs := cs54) hs 0 rfl TI35 e51 e56 rfl hl55 (hs.ones 0 rfl rfl) rfl (fun w hs => ?_)
 refine WL.nil ⟨rfl, _, rfl, ?_⟩
 refine WA.done (by kernel_rfl) ?_
 refine hK36 _ _ ?_
 refine W.seqK fun K64 hK64 => ?_
 refine W.region ?_
 refine WL.move (v := .int .i64 x8) (hu49 3 rfl) ?_
 refine WL.fieldAddr (m := 3) (hu49 10 rfl) FA31_3 rfl ?_
 refine WL.store (vs := [.int .i64 x8]) (cs' := [bstr x14.Name, .int .i64 x14.Kind, .int .i64 x14.f_Type, .int .i64 x8]) hs 4 rfl TI3 rfl rfl rfl rfl (Y0P rfl) (Nat.le_of_ble_eq_true rfl) rfl (fun w hs => ?_)
 refine WL.nil ?_
 refine hK64 _ _ ?_
 refine W.seqK fun K65 hK65 => ?_
 have Jk68 : ∀ (x67 : Bool) (ρ : Env) (w : World), ρ 9 = .pointer (some ⟨g17, 0, none⟩) → ρ 11 = .pointer (some ⟨g34, 0, none⟩) → ρ 13 = .pointer (some ⟨g52, 0, none⟩) → ρ 14 = .pointer (some ⟨g50, 0, none⟩) → ρ 15 = .bool x67 → St ok (bz w0) w [vl Y0m x40 (.agg cs54.toArray), vl Y0m x37 (.agg cs59.toArray), vl Y0p x24 (.agg cs25.toArray), vl Y08 x11 (.agg cs12.toArray)] [blk g50 35 cs54, blk g52 35 cs59, blk g34 25 cs25, blk g17 31 cs12] → Y0E.j2 x11 x24 x37 x40 x67 = some r → K65 ρ w := by
  intro x67 ρ w h66_9 h66_11 h66_13 h66_14 h66_15 hs hf
  refine hK65 _ _ ?_
  unfold Y0E.j2 at hf
  refine W.seqK fun K69 hK69 => ?_
  refine W.region ?_
  refine WL.loadAll hs 3 rfl TI31 h66_9 hl13 ?_
  refine WL.alloc hs ZV31 (fun g70 w hs => ?_)
  obtain rfl := Y2T hs 3 rfl
  refine WL.storeAll (vs := [bstr x11.Name, .int .i64 x11.Kind, .int .i64 x11.f_Type, .int .i64 x11.At]) hs 0 rfl TI31 rfl rfl rfl rfl (Y0P rfl) rfl (fun w hs => ?_)
  refine WL.nil ?_
  refine hK69 _ _ ?_
  refine W.seqK fun K71 hK71 => ?_
  refine W.region ?_
  refine WL.fieldAddr (m := 3) rfl FA31_3 rfl ?_
  refine WL.store (vs := [.int .i64 9]) (cs' := [bstr x11.Name, .int .i64 x11.Kind, .int .i64 x11.f_Type, .int .i64 9]) hs 0 rfl TI3 rfl rfl rfl rfl (Y0P rfl) (Nat.le_of_ble_eq_true rfl) rfl (fun w hs => ?_)
  refine WL.nil ?_
  refine hK71 _ _ ?_
  refine W.seqK fun K72 hK72 => ?_
  have Jk75 : ∀ (x74 : Bool) (ρ : Env) (w : World), ρ 8 = .bool x74 → St ok (bz w0) w [] [] → Y0E.j1 x74 = some r → K72 ρ w := by
   intro x74 ρ w h73_8 hs hf
   refine hK72 _ _ ?_
   unfold Y0E.j1 at hf
   refine W.ret ?_
   have hr := Option.some.inj hf; subst hr
   exact ⟨_, Y0e rfl h73_8, (), rfl, (hs.mask []).pick []⟩
  obtain ⟨x76, hxx76, hf⟩ := Y0s hf
  rcases iteE hf with ⟨hc77, hf⟩ | ⟨hc77, hf⟩
  {
  obtain ⟨x78, hxx78, hf⟩ := Y0s hf
  obtain ⟨x81, hxx81, hf⟩ := Y0s hf
  rcases iteE hf with ⟨hc82, hf⟩ | ⟨hc82, hf⟩
  {
  obtain ⟨x83, hxx83, hf⟩ := Y0s hf
  refine W.any (by kernel_rfl) 15 1 [true, true, true, true, true, true, true, true, true, true, true, true, true, true, true, false] rfl rfl (poAt [pv (.agg cs59.toArray), pv (.agg cs54.toArray), pv (.bool x76), pv (.bool x67), pv (.bool (x76 == x67)), pv (.bool (x76 == x67)), pv (.agg cs59.toArray), pv (.agg ([bstr x11.Name, .int .i64 x11.Kind, .int .i64 x11.f_Type, .int .i64 9] : List Value).toArray), pv (.agg cs25.toArray), pq (fun y : List Value => .agg y.toArray) (fun v => [vl Y0m x78 v]) (fun v => []), pv (.bool x81), pv (.bool x81), pv (.bool x81), pv (.bool x83), pv (.bool x83)]) (Λ := [blk g70 31 [bstr x11.Name, .int .i64 x11.Kind, .int .i64 x11.f_Type, .int .i64 9], blk g50 35 cs54, blk g52 35 cs59, blk g34 25 cs25, blk g17 31 [bstr x11.Name, .int .i64 x11.Kind, .int .i64 x11.f_Type, .int .i64 x11.At]]) hs (by kernel_rfl) (by kernel_rfl) (by kernel_rfl) ⟨⟨⟨⟨⟨⟨⟨⟨⟨⟨⟨⟨⟨⟨⟨trivial, ?_⟩, ?_⟩, ?_⟩, ?_⟩, ?_⟩, ?_⟩, ?_⟩, ?_⟩, ?_⟩, ?_⟩, ?_⟩, ?_⟩, ?_⟩, ?_⟩, ?_⟩ ?_
  {
  intro ρ w Γx Λx hs hu hp
  refine WL.loadAll hs (Λx.length + 2) (Y0q rfl) TI35 ((hu 13 rfl).trans h66_13) hl60 ?_
  exact WL.nil ⟨rfl, _, rfl, rfl, hs.cutG 0 0⟩ }
  {
  intro ρ w Γx Λx hs hu hp
  refine WL.loadAll hs (Λx.length + 1) (Y0q rfl) TI35 ((hu 14 rfl).trans h66_14) hl55 ?_
  exact WL.nil ⟨rfl, _, rfl, rfl, hs.cutG 0 0⟩ }
  {
  intro ρ w Γx Λx hs hu hp
  have e84 : ρ 64 = .agg cs59.toArray := (hp 0 rfl).1
  have e85 : ρ 65 = .agg cs54.toArray := (hp 1 rfl).1
  refine WL.call (vs := [.agg cs59.toArray, .agg cs54.toArray]) hs FN27 ⟨e84, ⟨e85, trivial⟩⟩ (fun ok hA => Y0Q.calls (x1 := x37) (x5 := x40) hxx76 (hA.get (Γx.length + 1) (Y0q rfl)) (hA.get (Γx.length + 0) (Y0q rfl))) ?_
  rintro _ w hs
  exact WL.nil ⟨rfl, _, rfl, rfl, hs.cutG 0 0⟩ }
  {
  intro ρ w Γx Λx hs hu hp
  refine WL.move (v := .bool x67) ((hu 15 rfl).trans h66_15) ?_
  exact WL.nil ⟨rfl, _, rfl, rfl, hs.cutG 0 0⟩ }
  {
  intro ρ w Γx Λx hs hu hp
  have e86 : ρ 66 = .bool x76 := (hp 2 rfl).1
  have e87 : ρ 67 = .bool x67 := (hp 3 rfl).1
  refine WL.eqB UN4 e86 e87 ?_
  exact WL.nil ⟨rfl, _, rfl, rfl, hs.cutG 0 0⟩ }
  {
  intro ρ w Γx Λx hs hu hp
  have e88 : ρ 68 = .bool (x76 == x67) := (hp 4 rfl).1
  refine WL.move (v := .bool (x76 == x67)) e88 ?_
  exact WL.nil ⟨rfl, _, rfl, rfl, hs.cutG 0 0⟩ }
  {
  intro ρ w Γx Λx hs hu hp
  have e89 : ρ 69 = .bool (x76 == x67) := (hp 5 rfl).1
  refine WL.loadAll hs (Λx.length + 2) (Y0q rfl) TI35 ((hu 13 rfl).trans h66_13) hl60 ?_ (hg := (Y01 rfl rfl (Y02 e89 hc77)).trans rfl)
  exact WL.nil ⟨rfl, _, rfl, rfl, hs.cutG 0 0⟩ }
  {
  intro ρ w Γx Λx hs hu hp
  have e90 : ρ 69 = .bool (x76 == x67) := (hp 5 rfl).1
  refine WL.loadN (vs := [bstr x11.Name, .int .i64 x11.Kind, .int .i64 x11.f_Type, .int .i64 9]) hs (Λx.length + 0) (Y0q rfl) TI31 (hu 16 rfl) rfl rfl ?_ (hg := (Y01 rfl rfl (Y02 e90 hc77)).trans rfl)
  exact WL.nil ⟨rfl, _, rfl, rfl, hs.cutG 0 0⟩ }
  {
  intro ρ w Γx Λx hs hu hp
  have e91 : ρ 69 = .bool (x76 == x67) := (hp 5 rfl).1
  refine WL.loadAll hs (Λx.length + 3) (Y0q rfl) TI25 ((hu 11 rfl).trans h66_11) hl26 ?_ (hg := (Y01 rfl rfl (Y02 e91 hc77)).trans rfl)
  exact WL.nil ⟨rfl, _, rfl, rfl, hs.cutG 0 0⟩ }
  {
  intro ρ w Γx Λx hs hu hp
  have e92 : ρ 71 = .agg ([bstr x11.Name, .int .i64 x11.Kind, .int .i64 x11.f_Type, .int .i64 9] : List Value).toArray := (hp 7 rfl).1
  have e93 : ρ 72 = .agg cs25.toArray := (hp 8 rfl).1
  have e94 : ρ 69 = .bool (x76 == x67) := (hp 5 rfl).1
  have hs := hs.add (it := vl Y08 (⟨x11.Name, x11.Kind, x11.f_Type, 9⟩ : Y0c) (.agg [bstr x11.Name, .int .i64 x11.Kind, .int .i64 x11.f_Type, .int .i64 9].toArray)) fun ok hA => Y2W (show Y08.R ok _ _ _ from ⟨[bstr x11.Name], [.int .i64 x11.Kind, .int .i64 x11.f_Type, .int .i64 9], rfl, rfl, ⟨[.int .i64 x11.Kind], [.int .i64 x11.f_Type, .int .i64 9], rfl, rfl, ⟨[.int .i64 x11.f_Type], [.int .i64 9], rfl, rfl, rfl⟩⟩⟩) rfl
  refine WL.call (vs := [.agg ([bstr x11.Name, .int .i64 x11.Kind, .int .i64 x11.f_Type, .int .i64 9] : List Value).toArray, .agg cs25.toArray]) hs FN12 ⟨e92, ⟨e93, trivial⟩⟩ (fun ok hA => Y1s.calls (x1 := (⟨x11.Name, x11.Kind, x11.f_Type, 9⟩ : Y0c)) (x5 := x24) hxx78 (hA.get 0 rfl) (hA.get (Γx.length + 2 + 1) (Y3k rfl))) ?_ (hg := (Y01 rfl rfl (Y02 e94 hc77)).trans rfl)
  rintro cs79 w hs
  have hl80 := hs.agglen (n := 5) 0 rfl rfl rfl
  have hs := hs.add (it := vl Y0m x78 (.agg cs79.toArray)) fun ok hA => hA.get 0 rfl
  exact WL.nil ⟨rfl, _, rfl, ⟨cs79, rfl⟩, hs.cutG 1 2⟩ }
  {
  intro ρ w Γx Λx hs hu hp
  have e95 : ρ 70 = .agg cs59.toArray := (hp 6 rfl).1
  obtain ⟨⟨cs96, e98r⟩, hm99⟩ := hp 9 rfl
  have e98 : ρ 73 = .agg cs96.toArray := e98r
  rw [e98r] at hm99
  have hs := hs.memo1 (it := vl Y0m x78 (.agg cs96.toArray)) (List.mem_append.2 (.inl (hm99 _ (List.mem_of_getElem? (i := 0) rfl))))
  have hl97 := hs.agglen (n := 5) 0 rfl rfl rfl
  have e100 : ρ 69 = .bool (x76 == x67) := (hp 5 rfl).1
  refine WL.call (vs := [.agg cs59.toArray, .agg cs96.toArray]) hs FN27 ⟨e95, ⟨e98, trivial⟩⟩ (fun ok hA => Y0Q.calls (x1 := x37) (x5 := x78) hxx81 (hA.get (Γx.length + 1 + 1) (Y3k rfl)) (hA.get 0 rfl)) ?_ (hg := (Y01 rfl rfl (Y02 e100 hc77)).trans rfl)
  rintro _ w hs
  exact WL.nil ⟨rfl, _, rfl, rfl, hs.cutG 0 1⟩ }
  {
  intro ρ w Γx Λx hs hu hp
  have e101 : ρ 69 = .bool (x76 == x67) := (hp 5 rfl).1
  have e102 : ρ 74 = .bool x81 := (hp 10 rfl).1
  refine WL.pickT (v := .bool x81) (Y02 e101 hc77) e102 ?_
  exact WL.nil ⟨rfl, _, rfl, rfl, hs.cutG 0 0⟩ }
  {
  intro ρ w Γx Λx hs hu hp
  have e103 : ρ 75 = .bool x81 := (hp 11 rfl).1
  refine WL.move (v := .bool x81) e103 ?_
  exact WL.nil ⟨rfl, _, rfl, rfl, hs.cutG 0 0⟩ }
  {
  intro ρ w Γx Λx hs hu hp
  have e104 : ρ 76 = .bool x81 := (hp 12 rfl).1
  refine WL.call (vs := []) hs FN18 trivial (fun ok hA => Y0I.calls hxx83) ?_ (hg := (Y01 rfl rfl (Y02 e104 hc82)).trans rfl)
  rintro _ w hs
  exact WL.nil ⟨rfl, _, rfl, rfl, hs.cutG 0 0⟩ }
  {
  intro ρ w Γx Λx hs hu hp
  have e105 : ρ 76 = .bool x81 := (hp 12 rfl).1
  have e106 : ρ 77 = .bool x83 := (hp 13 rfl).1
  refine WL.pickT (v := .bool x83) (Y02 e105 hc82) e106 ?_
  exact WL.nil ⟨rfl, _, rfl, rfl, hs.cutG 0 0⟩ }
  {
  intro ρ w hs hu107 hp
  obtain ⟨⟨⟨⟨⟨⟨⟨⟨⟨⟨⟨⟨⟨⟨⟨_, hp0_⟩, hp1_⟩, hp2_⟩, hp3_⟩, hp4_⟩, hp5_⟩, hp6_⟩, hp7_⟩, hp8_⟩, hp9_⟩, hp10_⟩, hp11_⟩, hp12_⟩, hp13_⟩, hp14_⟩ := hp
  have hs : St ok (bz w0) w [vl Y0m x78 (ρ 73), vl Y0m x40 (.agg cs54.toArray), vl Y0m x37 (.agg cs59.toArray), vl Y0p x24 (.agg cs25.toArray), vl Y08 x11 (.agg [bstr x11.Name, .int .i64 x11.Kind, .int .i64 x11.f_Type, .int .i64 x11.At].toArray)] [blk g70 31 [bstr x11.Name, .int .i64 x11.Kind, .int .i64 x11.f_Type, .int .i64 9], blk g50 35 cs54, blk g52 35 cs59, blk g34 25 cs25, blk g17 31 [bstr x11.Name, .int .i64 x11.Kind, .int .i64 x11.f_Type, .int .i64 x11.At]] := hs
  have e108 : ρ 78 = .bool x83 := hp14_
  have e109 : ρ 77 = .bool x83 := hp13_
  have e110 : ρ 76 = .bool x81 := hp12_
  have e111 : ρ 75 = .bool x81 := hp11_
  have e112 : ρ 74 = .bool x81 := hp10_
  obtain ⟨cs113, e115⟩ := hp9_
  have e115 : ρ 73 = .agg cs113.toArray := e115
  try rw [e115] at hs
  have e116 : ρ 72 = .agg cs25.toArray := hp8_
  have e117 : ρ 71 = .agg ([bstr x11.Name, .int .i64 x11.Kind, .int .i64 x11.f_Type, .int .i64 9] : List Value).toArray := hp7_
  have e118 : ρ 70 = .agg cs59.toArray := hp6_
  have e119 : ρ 69 = .bool (x76 == x67) := hp5_
  have e120 : ρ 68 = .bool (x76 == x67) := hp4_
  have e121 : ρ 67 = .bool x67 := hp3_
  have e122 : ρ 66 = .bool x76 := hp2_
  have e123 : ρ 65 = .agg cs54.toArray := hp1_
  have e124 : ρ 64 = .agg cs59.toArray := hp0_
  have hl114 := hs.agglen (n := 5) 0 rfl rfl rfl
  refine WA.step [15] (by kernel_rfl) (by simp) ⟨?_, trivial⟩
  refine WL.assign (v := .bool x83) e108 ?_
  refine WL.nil ⟨rfl, _, rfl, ?_⟩
  refine WA.done (by kernel_rfl) ?_
  exact Jk75 x83 _ _ rfl ((hs.mask []).pick []) hf } }
  {
  refine W.any (by kernel_rfl) 15 1 [true, true, true, true, true, true, true, true, true, true, true, true, true, true, true, false] rfl rfl (poAt [pv (.agg cs59.toArray), pv (.agg cs54.toArray), pv (.bool x76), pv (.bool x67), pv (.bool (x76 == x67)), pv (.bool (x76 == x67)), pv (.agg cs59.toArray), pv (.agg ([bstr x11.Name, .int .i64 x11.Kind, .int .i64 x11.f_Type, .int .i64 9] : List Value).toArray), pv (.agg cs25.toArray), pq (fun y : List Value => .agg y.toArray) (fun v => [vl Y0m x78 v]) (fun v => []), pv (.bool x81), pv (.bool x81), pv (.bool x81), pv (undef), pv (.bool false)]) (Λ := [blk g70 31 [bstr x11.Name, .int .i64 x11.Kind, .int .i64 x11.f_Type, .int .i64 9], blk g50 35 cs54, blk g52 35 cs59, blk g34 25 cs25, blk g17 31 [bstr x11.Name, .int .i64 x11.Kind, .int .i64 x11.f_Type, .int .i64 x11.At]]) hs (by kernel_rfl) (by kernel_rfl) (by kernel_rfl) ⟨⟨⟨⟨⟨⟨⟨⟨⟨⟨⟨⟨⟨⟨⟨trivial, ?_⟩, ?_⟩, ?_⟩, ?_⟩, ?_⟩, ?_⟩, ?_⟩, ?_⟩, ?_⟩, ?_⟩, ?_⟩, ?_⟩, ?_⟩, ?_⟩, ?_⟩ ?_
  {
  intro ρ w Γx Λx hs hu hp
  refine WL.loadAll hs (Λx.length + 2) (Y0q rfl) TI35 ((hu 13 rfl).trans h66_13) hl60 ?_
  exact WL.nil ⟨rfl, _, rfl, rfl, hs.cutG 0 0⟩ }
  {
  intro ρ w Γx Λx hs hu hp
  refine WL.loadAll hs (Λx.length + 1) (Y0q rfl) TI35 ((hu 14 rfl).trans h66_14) hl55 ?_
  exact WL.nil ⟨rfl, _, rfl, rfl, hs.cutG 0 0⟩ }
  {
  intro ρ w Γx Λx hs hu hp
  have e125 : ρ 64 = .agg cs59.toArray := (hp 0 rfl).1
  have e126 : ρ 65 = .agg cs54.toArray := (hp 1 rfl).1
  refine WL.call (vs := [.agg cs59.toArray, .agg cs54.toArray]) hs FN27 ⟨e125, ⟨e126, trivial⟩⟩ (fun ok hA => Y0Q.calls (x1 := x37) (x5 := x40) hxx76 (hA.get (Γx.length + 1) (Y0q rfl)) (hA.get (Γx.length + 0) (Y0q rfl))) ?_
  rintro _ w hs
  exact WL.nil ⟨rfl, _, rfl, rfl, hs.cutG 0 0⟩ }
  {
  intro ρ w Γx Λx hs hu hp
  refine WL.move (v := .bool x67) ((hu 15 rfl).trans h66_15) ?_
  exact WL.nil ⟨rfl, _, rfl, rfl, hs.cutG 0 0⟩ }
  {
  intro ρ w Γx Λx hs hu hp
  have e127 : ρ 66 = .bool x76 := (hp 2 rfl).1
  have e128 : ρ 67 = .bool x67 := (hp 3 rfl).1
  refine WL.eqB UN4 e127 e128 ?_
  exact WL.nil ⟨rfl, _, rfl, rfl, hs.cutG 0 0⟩ }
  {
  intro ρ w Γx Λx hs hu hp
  have e129 : ρ 68 = .bool (x76 == x67) := (hp 4 rfl).1
  refine WL.move (v := .bool (x76 == x67)) e129 ?_
  exact WL.nil ⟨rfl, _, rfl, rfl, hs.cutG 0 0⟩ }
  {
  intro ρ w Γx Λx hs hu hp
  have e130 : ρ 69 = .bool (x76 == x67) := (hp 5 rfl).1
  refine WL.loadAll hs (Λx.length + 2) (Y0q rfl) TI35 ((hu 13 rfl).trans h66_13) hl60 ?_ (hg := (Y01 rfl rfl (Y02 e130 hc77)).trans rfl)
  exact WL.nil ⟨rfl, _, rfl, rfl, hs.cutG 0 0⟩ }
  {
  intro ρ w Γx Λx hs hu hp
  have e131 : ρ 69 = .bool (x76 == x67) := (hp 5 rfl).1
  refine WL.loadN (vs := [bstr x11.Name, .int .i64 x11.Kind, .int .i64 x11.f_Type, .int .i64 9]) hs (Λx.length + 0) (Y0q rfl) TI31 (hu 16 rfl) rfl rfl ?_ (hg := (Y01 rfl rfl (Y02 e131 hc77)).trans rfl)
  exact WL.nil ⟨rfl, _, rfl, rfl, hs.cutG 0 0⟩ }
  {
  intro ρ w Γx Λx hs hu hp
  have e132 : ρ 69 = .bool (x76 == x67) := (hp 5 rfl).1
  refine WL.loadAll hs (Λx.length + 3) (Y0q rfl) TI25 ((hu 11 rfl).trans h66_11) hl26 ?_ (hg := (Y01 rfl rfl (Y02 e132 hc77)).trans rfl)
  exact WL.nil ⟨rfl, _, rfl, rfl, hs.cutG 0 0⟩ }
  {
  intro ρ w Γx Λx hs hu hp
  have e133 : ρ 71 = .agg ([bstr x11.Name, .int .i64 x11.Kind, .int .i64 x11.f_Type, .int .i64 9] : List Value).toArray := (hp 7 rfl).1
  have e134 : ρ 72 = .agg cs25.toArray := (hp 8 rfl).1
  have e135 : ρ 69 = .bool (x76 == x67) := (hp 5 rfl).1
  have hs := hs.add (it := vl Y08 (⟨x11.Name, x11.Kind, x11.f_Type, 9⟩ : Y0c) (.agg [bstr x11.Name, .int .i64 x11.Kind, .int .i64 x11.f_Type, .int .i64 9].toArray)) fun ok hA => Y2W (show Y08.R ok _ _ _ from ⟨[bstr x11.Name], [.int .i64 x11.Kind, .int .i64 x11.f_Type, .int .i64 9], rfl, rfl, ⟨[.int .i64 x11.Kind], [.int .i64 x11.f_Type, .int .i64 9], rfl, rfl, ⟨[.int .i64 x11.f_Type], [.int .i64 9], rfl, rfl, rfl⟩⟩⟩) rfl
  refine WL.call (vs := [.agg ([bstr x11.Name, .int .i64 x11.Kind, .int .i64 x11.f_Type, .int .i64 9] : List Value).toArray, .agg cs25.toArray]) hs FN12 ⟨e133, ⟨e134, trivial⟩⟩ (fun ok hA => Y1s.calls (x1 := (⟨x11.Name, x11.Kind, x11.f_Type, 9⟩ : Y0c)) (x5 := x24) hxx78 (hA.get 0 rfl) (hA.get (Γx.length + 2 + 1) (Y3k rfl))) ?_ (hg := (Y01 rfl rfl (Y02 e135 hc77)).trans rfl)
  rintro cs79 w hs
  have hl80 := hs.agglen (n := 5) 0 rfl rfl rfl
  have hs := hs.add (it := vl Y0m x78 (.agg cs79.toArray)) fun ok hA => hA.get 0 rfl
  exact WL.nil ⟨rfl, _, rfl, ⟨cs79, rfl⟩, hs.cutG 1 2⟩ }
  {
  intro ρ w Γx Λx hs hu hp
  have e136 : ρ 70 = .agg cs59.toArray := (hp 6 rfl).1
  obtain ⟨⟨cs137, e139r⟩, hm140⟩ := hp 9 rfl
  have e139 : ρ 73 = .agg cs137.toArray := e139r
  rw [e139r] at hm140
  have hs := hs.memo1 (it := vl Y0m x78 (.agg cs137.toArray)) (List.mem_append.2 (.inl (hm140 _ (List.mem_of_getElem? (i := 0) rfl))))
  have hl138 := hs.agglen (n := 5) 0 rfl rfl rfl
  have e141 : ρ 69 = .bool (x76 == x67) := (hp 5 rfl).1
  refine WL.call (vs := [.agg cs59.toArray, .agg cs137.toArray]) hs FN27 ⟨e136, ⟨e139, trivial⟩⟩ (fun ok hA => Y0Q.calls (x1 := x37) (x5 := x78) hxx81 (hA.get (Γx.length + 1 + 1) (Y3k rfl)) (hA.get 0 rfl)) ?_ (hg := (Y01 rfl rfl (Y02 e141 hc77)).trans rfl)
  rintro _ w hs
  exact WL.nil ⟨rfl, _, rfl, rfl, hs.cutG 0 1⟩ }
  {
  intro ρ w Γx Λx hs hu hp
  have e142 : ρ 69 = .bool (x76 == x67) := (hp 5 rfl).1
  have e143 : ρ 74 = .bool x81 := (hp 10 rfl).1
  refine WL.pickT (v := .bool x81) (Y02 e142 hc77) e143 ?_
  exact WL.nil ⟨rfl, _, rfl, rfl, hs.cutG 0 0⟩ }
  {
  intro ρ w Γx Λx hs hu hp
  have e144 : ρ 75 = .bool x81 := (hp 11 rfl).1
  refine WL.move (v := .bool x81) e144 ?_
  exact WL.nil ⟨rfl, _, rfl, rfl, hs.cutG 0 0⟩ }
  {
  intro ρ w Γx Λx hs hu hp
  have e145 : ρ 76 = .bool x81 := (hp 12 rfl).1
  refine WL.pass ((Y01 rfl rfl (Y02 e145 hc82)).trans rfl) rfl ?_
  exact WL.nil ⟨rfl, _, rfl, rfl, hs.cutG 0 0⟩ }
  {
  intro ρ w Γx Λx hs hu hp
  have e146 : ρ 76 = .bool x81 := (hp 12 rfl).1
  have e147 : ρ 77 = undef := (hp 13 rfl).1
  refine WL.pickF (v := .bool false) (Y02 e146 hc82) rfl ?_
  exact WL.nil ⟨rfl, _, rfl, rfl, hs.cutG 0 0⟩ }
  {
  intro ρ w hs hu148 hp
  obtain ⟨⟨⟨⟨⟨⟨⟨⟨⟨⟨⟨⟨⟨⟨⟨_, hp0_⟩, hp1_⟩, hp2_⟩, hp3_⟩, hp4_⟩, hp5_⟩, hp6_⟩, hp7_⟩, hp8_⟩, hp9_⟩, hp10_⟩, hp11_⟩, hp12_⟩, hp13_⟩, hp14_⟩ := hp
  have hs : St ok (bz w0) w [vl Y0m x78 (ρ 73), vl Y0m x40 (.agg cs54.toArray), vl Y0m x37 (.agg cs59.toArray), vl Y0p x24 (.agg cs25.toArray), vl Y08 x11 (.agg [bstr x11.Name, .int .i64 x11.Kind, .int .i64 x11.f_Type, .int .i64 x11.At].toArray)] [blk g70 31 [bstr x11.Name, .int .i64 x11.Kind, .int .i64 x11.f_Type, .int .i64 9], blk g50 35 cs54, blk g52 35 cs59, blk g34 25 cs25, blk g17 31 [bstr x11.Name, .int .i64 x11.Kind, .int .i64 x11.f_Type, .int .i64 x11.At]] := hs
  have e149 : ρ 78 = .bool false := hp14_
  have e150 : ρ 77 = undef := hp13_
  have e151 : ρ 76 = .bool x81 := hp12_
  have e152 : ρ 75 = .bool x81 := hp11_
  have e153 : ρ 74 = .bool x81 := hp10_
  obtain ⟨cs154, e156⟩ := hp9_
  have e156 : ρ 73 = .agg cs154.toArray := e156
  try rw [e156] at hs
  have e157 : ρ 72 = .agg cs25.toArray := hp8_
  have e158 : ρ 71 = .agg ([bstr x11.Name, .int .i64 x11.Kind, .int .i64 x11.f_Type, .int .i64 9] : List Value).toArray := hp7_
  have e159 : ρ 70 = .agg cs59.toArray := hp6_
  have e160 : ρ 69 = .bool (x76 == x67) := hp5_
  have e161 : ρ 68 = .bool (x76 == x67) := hp4_
  have e162 : ρ 67 = .bool x67 := hp3_
  have e163 : ρ 66 = .bool x76 := hp2_
  have e164 : ρ 65 = .agg cs54.toArray := hp1_
  have e165 : ρ 64 = .agg cs59.toArray := hp0_
  have hl155 := hs.agglen (n := 5) 0 rfl rfl rfl
  refine WA.step [15] (by kernel_rfl) (by simp) ⟨?_, trivial⟩
  refine WL.assign (v := .bool false) e149 ?_
  refine WL.nil ⟨rfl, _, rfl, ?_⟩
  refine WA.done (by kernel_rfl) ?_
  exact Jk75 false _ _ rfl ((hs.mask []).pick []) hf } } }
  {
  refine W.any (by kernel_rfl) 15 1 [true, true, true, true, true, true, true, true, true, true, true, true, true, true, true, false] rfl rfl (poAt [pv (.agg cs59.toArray), pv (.agg cs54.toArray), pv (.bool x76), pv (.bool x67), pv (.bool (x76 == x67)), pv (.bool (x76 == x67)), pv (undef), pv (undef), pv (undef), pv (undef), pv (undef), pv (.bool false), pv (.bool false), pv (undef), pv (.bool false)]) (Λ := [blk g70 31 [bstr x11.Name, .int .i64 x11.Kind, .int .i64 x11.f_Type, .int .i64 9], blk g50 35 cs54, blk g52 35 cs59, blk g34 25 cs25, blk g17 31 [bstr x11.Name, .int .i64 x11.Kind, .int .i64 x11.f_Type, .int .i64 x11.At]]) hs (by kernel_rfl) (by kernel_rfl) (by kernel_rfl) ⟨⟨⟨⟨⟨⟨⟨⟨⟨⟨⟨⟨⟨⟨⟨trivial, ?_⟩, ?_⟩, ?_⟩, ?_⟩, ?_⟩, ?_⟩, ?_⟩, ?_⟩, ?_⟩, ?_⟩, ?_⟩, ?_⟩, ?_⟩, ?_⟩, ?_⟩ ?_
  {
  intro ρ w Γx Λx hs hu hp
  refine WL.loadAll hs (Λx.length + 2) (Y0q rfl) TI35 ((hu 13 rfl).trans h66_13) hl60 ?_
  exact WL.nil ⟨rfl, _, rfl, rfl, hs.cutG 0 0⟩ }
  {
  intro ρ w Γx Λx hs hu hp
  refine WL.loadAll hs (Λx.length + 1) (Y0q rfl) TI35 ((hu 14 rfl).trans h66_14) hl55 ?_
  exact WL.nil ⟨rfl, _, rfl, rfl, hs.cutG 0 0⟩ }
  {
  intro ρ w Γx Λx hs hu hp
  have e166 : ρ 64 = .agg cs59.toArray := (hp 0 rfl).1
  have e167 : ρ 65 = .agg cs54.toArray := (hp 1 rfl).1
  refine WL.call (vs := [.agg cs59.toArray, .agg cs54.toArray]) hs FN27 ⟨e166, ⟨e167, trivial⟩⟩ (fun ok hA => Y0Q.calls (x1 := x37) (x5 := x40) hxx76 (hA.get (Γx.length + 1) (Y0q rfl)) (hA.get (Γx.length + 0) (Y0q rfl))) ?_
  rintro _ w hs
  exact WL.nil ⟨rfl, _, rfl, rfl, hs.cutG 0 0⟩ }
  {
  intro ρ w Γx Λx hs hu hp
  refine WL.move (v := .bool x67) ((hu 15 rfl).trans h66_15) ?_
  exact WL.nil ⟨rfl, _, rfl, rfl, hs.cutG 0 0⟩ }
  {
  intro ρ w Γx Λx hs hu hp
  have e168 : ρ 66 = .bool x76 := (hp 2 rfl).1
  have e169 : ρ 67 = .bool x67 := (hp 3 rfl).1
  refine WL.eqB UN4 e168 e169 ?_
  exact WL.nil ⟨rfl, _, rfl, rfl, hs.cutG 0 0⟩ }
  {
  intro ρ w Γx Λx hs hu hp
  have e170 : ρ 68 = .bool (x76 == x67) := (hp 4 rfl).1
  refine WL.move (v := .bool (x76 == x67)) e170 ?_
  exact WL.nil ⟨rfl, _, rfl, rfl, hs.cutG 0 0⟩ }
  {
  intro ρ w Γx Λx hs hu hp
  have e171 : ρ 69 = .bool (x76 == x67) := (hp 5 rfl).1
  refine WL.pass ((Y01 rfl rfl (Y02 e171 hc77)).trans rfl) rfl ?_
  exact WL.nil ⟨rfl, _, rfl, rfl, hs.cutG 0 0⟩ }
  {
  intro ρ w Γx Λx hs hu hp
  have e172 : ρ 69 = .bool (x76 == x67) := (hp 5 rfl).1
  refine WL.pass ((Y01 rfl rfl (Y02 e172 hc77)).trans rfl) rfl ?_
  exact WL.nil ⟨rfl, _, rfl, rfl, hs.cutG 0 0⟩ }
  {
  intro ρ w Γx Λx hs hu hp
  have e173 : ρ 69 = .bool (x76 == x67) := (hp 5 rfl).1
  refine WL.pass ((Y01 rfl rfl (Y02 e173 hc77)).trans rfl) rfl ?_
  exact WL.nil ⟨rfl, _, rfl, rfl, hs.cutG 0 0⟩ }
  {
  intro ρ w Γx Λx hs hu hp
  have e174 : ρ 71 = undef := (hp 7 rfl).1
  have e175 : ρ 72 = undef := (hp 8 rfl).1
  have e176 : ρ 69 = .bool (x76 == x67) := (hp 5 rfl).1
  refine WL.pass ((Y01 rfl rfl (Y02 e176 hc77)).trans rfl) rfl ?_
  exact WL.nil ⟨rfl, _, rfl, rfl, hs.cutG 0 0⟩ }
  {
  intro ρ w Γx Λx hs hu hp
  have e177 : ρ 70 = undef := (hp 6 rfl).1
  have e178 : ρ 73 = undef := (hp 9 rfl).1
  have e179 : ρ 69 = .bool (x76 == x67) := (hp 5 rfl).1
  refine WL.pass ((Y01 rfl rfl (Y02 e179 hc77)).trans rfl) rfl ?_
  exact WL.nil ⟨rfl, _, rfl, rfl, hs.cutG 0 0⟩ }
  {
  intro ρ w Γx Λx hs hu hp
  have e180 : ρ 69 = .bool (x76 == x67) := (hp 5 rfl).1
  have e181 : ρ 74 = undef := (hp 10 rfl).1
  refine WL.pickF (v := .bool false) (Y02 e180 hc77) rfl ?_
  exact WL.nil ⟨rfl, _, rfl, rfl, hs.cutG 0 0⟩ }
  {
  intro ρ w Γx Λx hs hu hp
  have e182 : ρ 75 = .bool false := (hp 11 rfl).1
  refine WL.move (v := .bool false) e182 ?_
  exact WL.nil ⟨rfl, _, rfl, rfl, hs.cutG 0 0⟩ }
  {
  intro ρ w Γx Λx hs hu hp
  have e183 : ρ 76 = .bool false := (hp 12 rfl).1
  refine WL.pass ((Y01 rfl rfl e183).trans rfl) rfl ?_
  exact WL.nil ⟨rfl, _, rfl, rfl, hs.cutG 0 0⟩ }
  {
  intro ρ w Γx Λx hs hu hp
  have e184 : ρ 76 = .bool false := (hp 12 rfl).1
  have e185 : ρ 77 = undef := (hp 13 rfl).1
  refine WL.pickF (v := .bool false) e184 rfl ?_
  exact WL.nil ⟨rfl, _, rfl, rfl, hs.cutG 0 0⟩ }
  {
  intro ρ w hs hu186 hp
  obtain ⟨⟨⟨⟨⟨⟨⟨⟨⟨⟨⟨⟨⟨⟨⟨_, hp0_⟩, hp1_⟩, hp2_⟩, hp3_⟩, hp4_⟩, hp5_⟩, hp6_⟩, hp7_⟩, hp8_⟩, hp9_⟩, hp10_⟩, hp11_⟩, hp12_⟩, hp13_⟩, hp14_⟩ := hp
  have hs : St ok (bz w0) w [vl Y0m x40 (.agg cs54.toArray), vl Y0m x37 (.agg cs59.toArray), vl Y0p x24 (.agg cs25.toArray), vl Y08 x11 (.agg [bstr x11.Name, .int .i64 x11.Kind, .int .i64 x11.f_Type, .int .i64 x11.At].toArray)] [blk g70 31 [bstr x11.Name, .int .i64 x11.Kind, .int .i64 x11.f_Type, .int .i64 9], blk g50 35 cs54, blk g52 35 cs59, blk g34 25 cs25, blk g17 31 [bstr x11.Name, .int .i64 x11.Kind, .int .i64 x11.f_Type, .int .i64 x11.At]] := hs
  have e187 : ρ 78 = .bool false := hp14_
  have e188 : ρ 77 = undef := hp13_
  have e189 : ρ 76 = .bool false := hp12_
  have e190 : ρ 75 = .bool false := hp11_
  have e191 : ρ 74 = undef := hp10_
  have e192 : ρ 73 = undef := hp9_
  have e193 : ρ 72 = undef := hp8_
  have e194 : ρ 71 = undef := hp7_
  have e195 : ρ 70 = undef := hp6_
  have e196 : ρ 69 = .bool (x76 == x67) := hp5_
  have e197 : ρ 68 = .bool (x76 == x67) := hp4_
  have e198 : ρ 67 = .bool x67 := hp3_
  have e199 : ρ 66 = .bool x76 := hp2_
  have e200 : ρ 65 = .agg cs54.toArray := hp1_
  have e201 : ρ 64 = .agg cs59.toArray := hp0_
  refine WA.step [15] (by kernel_rfl) (by simp) ⟨?_, trivial⟩
  refine WL.assign (v := .bool false) e187 ?_
  refine WL.nil ⟨rfl, _, rfl, ?_⟩
  refine WA.done (by kernel_rfl) ?_
  exact Jk75 false _ _ rfl ((hs.mask []).pick []) hf } }
 rcases iteE hf with ⟨hc203, hf⟩ | ⟨hc203, hf⟩
 {
 rcases iteE hf with ⟨hc205, hf⟩ | ⟨hc205, hf⟩
 {
 rcases iteE hf with ⟨hc207, hf⟩ | ⟨hc207, hf⟩
 {
 obtain ⟨x211, hxx211, hf⟩ := Y0s hf
 obtain ⟨x214, hxx214, hf⟩ := Y0s hf
 refine W.any (by kernel_rfl) 27 1 [true, true, true, true, true, true, true, true, true, true, true, true, true, true, true, true, true, true, true, true, true, true, true, true, true, true, true, false] rfl rfl (poAt [pv (.pointer (some ⟨g17, 0, none⟩)), pv (bstr x11.Name), pv (.pointer (some ⟨g18, 0, none⟩)), pv (bstr x14.Name), pv (.bool (x11.Name == x14.Name)), pv (.bool (x11.Name == x14.Name)), pv (.pointer (some ⟨g17, 1, none⟩)), pv (.int .i64 x11.Kind), pv (.pointer (some ⟨g18, 1, none⟩)), pv (.int .i64 x14.Kind), pv (.bool (x11.Kind == x14.Kind)), pv (.bool (x11.Kind == x14.Kind)), pv (.bool (x11.Kind == x14.Kind)), pv (.pointer (some ⟨g17, 2, none⟩)), pv (.int .i64 x11.f_Type), pv (.pointer (some ⟨g18, 2, none⟩)), pv (.int .i64 x14.f_Type), pv (.bool (x11.f_Type == x14.f_Type)), pv (.bool (x11.f_Type == x14.f_Type)), pv (.bool (x11.f_Type == x14.f_Type)), pv (.pointer (some ⟨g52, 4, none⟩)), pq (fun y : (Option Addr × Nat) => .slice y.1 (x37.Entries).length y.2) (fun v => [vl (Y0b Y0i) x37.Entries v]) (fun v => []), pv (.agg ([bstr x14.Name, .int .i64 x14.Kind, .int .i64 x14.f_Type, .int .i64 x8] : List Value).toArray), pv (.agg cs32.toArray), pq (fun y : (Option Addr × Nat) => .slice y.1 x211.length y.2) (fun v => [vl (Y0b Y05) x211 v]) (fun v => []), pv (.bool x214), pv (.bool x214)]) (Λ := [blk g50 35 cs54, blk g52 35 cs59, blk g35 25 cs32, blk g34 25 cs25, blk g18 31 [bstr x14.Name, .int .i64 x14.Kind, .int .i64 x14.f_Type, .int .i64 x8], blk g17 31 cs12]) hs (by kernel_rfl) (by kernel_rfl) (by kernel_rfl) ⟨⟨⟨⟨⟨⟨⟨⟨⟨⟨⟨⟨⟨⟨⟨⟨⟨⟨⟨⟨⟨⟨⟨⟨⟨⟨⟨trivial, ?_⟩, ?_⟩, ?_⟩, ?_⟩, ?_⟩, ?_⟩, ?_⟩, ?_⟩, ?_⟩, ?_⟩, ?_⟩, ?_⟩, ?_⟩, ?_⟩, ?_⟩, ?_⟩, ?_⟩, ?_⟩, ?_⟩, ?_⟩, ?_⟩, ?_⟩, ?_⟩, ?_⟩, ?_⟩, ?_⟩, ?_⟩ ?_
 {
 intro ρ w Γx Λx hs hu hp
 refine WL.fieldAddr (m := 0) ((hu 9 rfl).trans (hu49 9 rfl)) Y3K rfl ?_
 exact WL.nil ⟨rfl, _, rfl, rfl, hs.cutG 0 0⟩ }
 {
 intro ρ w Γx Λx hs hu hp
 have e215 : ρ 35 = .pointer (some ⟨g17, 0, none⟩) := (hp 0 rfl).1
 refine WL.loadF (z := x11.Name) Y1m hs (Λx.length + 5) (Y0q rfl) (Γx.length + 7) (Y0q rfl) rfl TI9 (.inr rfl) e215 rfl (fun v202 hs => ?_)
 obtain rfl := hs.str 0 rfl
 exact WL.nil ⟨rfl, _, rfl, rfl, hs.cutG 0 1⟩ }
 {
 intro ρ w Γx Λx hs hu hp
 refine WL.fieldAddr (m := 0) ((hu 10 rfl).trans (hu49 10 rfl)) Y3K rfl ?_
 exact WL.nil ⟨rfl, _, rfl, rfl, hs.cutG 0 0⟩ }
 {
 intro ρ w Γx Λx hs hu hp
 have e216 : ρ 37 = .pointer (some ⟨g18, 0, none⟩) := (hp 2 rfl).1
 refine WL.load1 (v := bstr x14.Name) hs (Λx.length + 4) (Y0q rfl) TI9 e216 rfl ?_
 exact WL.nil ⟨rfl, _, rfl, rfl, hs.cutG 0 0⟩ }
 {
 intro ρ w Γx Λx hs hu hp
 have e217 : ρ 36 = bstr x11.Name := (hp 1 rfl).1
 have e218 : ρ 38 = bstr x14.Name := (hp 3 rfl).1
 refine WL.binS (v := .bool (x11.Name == x14.Name)) e217 e218 (Y3N _ _) ?_
 exact WL.nil ⟨rfl, _, rfl, rfl, hs.cutG 0 0⟩ }
 {
 intro ρ w Γx Λx hs hu hp
 have e219 : ρ 39 = .bool (x11.Name == x14.Name) := (hp 4 rfl).1
 refine WL.move (v := .bool (x11.Name == x14.Name)) e219 ?_
 exact WL.nil ⟨rfl, _, rfl, rfl, hs.cutG 0 0⟩ }
 {
 intro ρ w Γx Λx hs hu hp
 have e220 : ρ 40 = .bool (x11.Name == x14.Name) := (hp 5 rfl).1
 refine WL.fieldAddr (m := 1) ((hu 9 rfl).trans (hu49 9 rfl)) Y2X rfl ?_ (hg := (Y01 rfl rfl (Y02 e220 hc203)).trans rfl)
 exact WL.nil ⟨rfl, _, rfl, rfl, hs.cutG 0 0⟩ }
 {
 intro ρ w Γx Λx hs hu hp
 have e221 : ρ 41 = .pointer (some ⟨g17, 1, none⟩) := (hp 6 rfl).1
 have e222 : ρ 40 = .bool (x11.Name == x14.Name) := (hp 5 rfl).1
 refine WL.loadF (z := x11.Kind) Y12 hs (Λx.length + 5) (Y0q rfl) (Γx.length + 7) (Y0q rfl) rfl TI3 (.inr rfl) e221 rfl (fun v204 hs => ?_) (hg := (Y01 rfl rfl (Y02 e222 hc203)).trans rfl)
 obtain rfl := hs.int 0 rfl
 exact WL.nil ⟨rfl, _, rfl, rfl, hs.cutG 0 1⟩ }
 {
 intro ρ w Γx Λx hs hu hp
 have e223 : ρ 40 = .bool (x11.Name == x14.Name) := (hp 5 rfl).1
 refine WL.fieldAddr (m := 1) ((hu 10 rfl).trans (hu49 10 rfl)) Y2X rfl ?_ (hg := (Y01 rfl rfl (Y02 e223 hc203)).trans rfl)
 exact WL.nil ⟨rfl, _, rfl, rfl, hs.cutG 0 0⟩ }
 {
 intro ρ w Γx Λx hs hu hp
 have e224 : ρ 43 = .pointer (some ⟨g18, 1, none⟩) := (hp 8 rfl).1
 have e225 : ρ 40 = .bool (x11.Name == x14.Name) := (hp 5 rfl).1
 refine WL.load1 (v := .int .i64 x14.Kind) hs (Λx.length + 4) (Y0q rfl) TI3 e224 rfl ?_ (hg := (Y01 rfl rfl (Y02 e225 hc203)).trans rfl)
 exact WL.nil ⟨rfl, _, rfl, rfl, hs.cutG 0 0⟩ }
 {
 intro ρ w Γx Λx hs hu hp
 have e226 : ρ 42 = .int .i64 x11.Kind := (hp 7 rfl).1
 have e227 : ρ 44 = .int .i64 x14.Kind := (hp 9 rfl).1
 have e228 : ρ 40 = .bool (x11.Name == x14.Name) := (hp 5 rfl).1
 refine WL.bin (v := .bool (x11.Kind == x14.Kind)) e226 e227 (Y1P _ _ _) ?_ (hg := (Y01 rfl rfl (Y02 e228 hc203)).trans rfl)
 exact WL.nil ⟨rfl, _, rfl, rfl, hs.cutG 0 0⟩ }
 {
 intro ρ w Γx Λx hs hu hp
 have e229 : ρ 40 = .bool (x11.Name == x14.Name) := (hp 5 rfl).1
 have e230 : ρ 45 = .bool (x11.Kind == x14.Kind) := (hp 10 rfl).1
 refine WL.pickT (v := .bool (x11.Kind == x14.Kind)) (Y02 e229 hc203) e230 ?_
 exact WL.nil ⟨rfl, _, rfl, rfl, hs.cutG 0 0⟩ }
 {
 intro ρ w Γx Λx hs hu hp
 have e231 : ρ 46 = .bool (x11.Kind == x14.Kind) := (hp 11 rfl).1
 refine WL.move (v := .bool (x11.Kind == x14.Kind)) e231 ?_
 exact WL.nil ⟨rfl, _, rfl, rfl, hs.cutG 0 0⟩ }
 {
 intro ρ w Γx Λx hs hu hp
 have e232 : ρ 47 = .bool (x11.Kind == x14.Kind) := (hp 12 rfl).1
 refine WL.fieldAddr (m := 2) ((hu 9 rfl).trans (hu49 9 rfl)) Y3s rfl ?_ (hg := (Y01 rfl rfl (Y02 e232 hc205)).trans rfl)
 exact WL.nil ⟨rfl, _, rfl, rfl, hs.cutG 0 0⟩ }
 {
 intro ρ w Γx Λx hs hu hp
 have e233 : ρ 48 = .pointer (some ⟨g17, 2, none⟩) := (hp 13 rfl).1
 have e234 : ρ 47 = .bool (x11.Kind == x14.Kind) := (hp 12 rfl).1
 refine WL.loadF (z := x11.f_Type) Y11 hs (Λx.length + 5) (Y0q rfl) (Γx.length + 7) (Y0q rfl) rfl TI3 (.inr rfl) e233 rfl (fun v206 hs => ?_) (hg := (Y01 rfl rfl (Y02 e234 hc205)).trans rfl)
 obtain rfl := hs.int 0 rfl
 exact WL.nil ⟨rfl, _, rfl, rfl, hs.cutG 0 1⟩ }
 {
 intro ρ w Γx Λx hs hu hp
 have e235 : ρ 47 = .bool (x11.Kind == x14.Kind) := (hp 12 rfl).1
 refine WL.fieldAddr (m := 2) ((hu 10 rfl).trans (hu49 10 rfl)) Y3s rfl ?_ (hg := (Y01 rfl rfl (Y02 e235 hc205)).trans rfl)
 exact WL.nil ⟨rfl, _, rfl, rfl, hs.cutG 0 0⟩ }
 {
 intro ρ w Γx Λx hs hu hp
 have e236 : ρ 50 = .pointer (some ⟨g18, 2, none⟩) := (hp 15 rfl).1
 have e237 : ρ 47 = .bool (x11.Kind == x14.Kind) := (hp 12 rfl).1
 refine WL.load1 (v := .int .i64 x14.f_Type) hs (Λx.length + 4) (Y0q rfl) TI3 e236 rfl ?_ (hg := (Y01 rfl rfl (Y02 e237 hc205)).trans rfl)
 exact WL.nil ⟨rfl, _, rfl, rfl, hs.cutG 0 0⟩ }
 {
 intro ρ w Γx Λx hs hu hp
 have e238 : ρ 49 = .int .i64 x11.f_Type := (hp 14 rfl).1
 have e239 : ρ 51 = .int .i64 x14.f_Type := (hp 16 rfl).1
 have e240 : ρ 47 = .bool (x11.Kind == x14.Kind) := (hp 12 rfl).1
 refine WL.bin (v := .bool (x11.f_Type == x14.f_Type)) e238 e239 (Y1P _ _ _) ?_ (hg := (Y01 rfl rfl (Y02 e240 hc205)).trans rfl)
 exact WL.nil ⟨rfl, _, rfl, rfl, hs.cutG 0 0⟩ }
 {
 intro ρ w Γx Λx hs hu hp
 have e241 : ρ 47 = .bool (x11.Kind == x14.Kind) := (hp 12 rfl).1
 have e242 : ρ 52 = .bool (x11.f_Type == x14.f_Type) := (hp 17 rfl).1
 refine WL.pickT (v := .bool (x11.f_Type == x14.f_Type)) (Y02 e241 hc205) e242 ?_
 exact WL.nil ⟨rfl, _, rfl, rfl, hs.cutG 0 0⟩ }
 {
 intro ρ w Γx Λx hs hu hp
 have e243 : ρ 53 = .bool (x11.f_Type == x14.f_Type) := (hp 18 rfl).1
 refine WL.move (v := .bool (x11.f_Type == x14.f_Type)) e243 ?_
 exact WL.nil ⟨rfl, _, rfl, rfl, hs.cutG 0 0⟩ }
 {
 intro ρ w Γx Λx hs hu hp
 have e244 : ρ 54 = .bool (x11.f_Type == x14.f_Type) := (hp 19 rfl).1
 refine WL.fieldAddr (m := 4) ((hu 13 rfl).trans e53) Y4X rfl ?_ (hg := (Y01 rfl rfl (Y02 e244 hc207)).trans rfl)
 exact WL.nil ⟨rfl, _, rfl, rfl, hs.cutG 0 0⟩ }
 {
 intro ρ w Γx Λx hs hu hp
 have e245 : ρ 55 = .pointer (some ⟨g52, 4, none⟩) := (hp 20 rfl).1
 have e246 : ρ 54 = .bool (x11.f_Type == x14.f_Type) := (hp 19 rfl).1
 refine WL.loadF (z := x37.Entries) Y1S hs (Λx.length + 1) (Y0q rfl) (Γx.length + 1) (Y0q rfl) rfl TI33 (.inr rfl) e245 rfl (fun v208 hs => ?_) (hg := (Y01 rfl rfl (Y02 e246 hc207)).trans rfl)
 obtain ⟨a209, c210, rfl⟩ := hs.slice 0 rfl
 have hs := hs.add (it := vl (Y0b Y0i) x37.Entries (.slice a209 (x37.Entries).length c210)) fun ok hA => hA.get 0 rfl
 exact WL.nil ⟨rfl, _, rfl, ⟨(a209, c210), rfl⟩, hs.cutG 1 1⟩ }
 {
 intro ρ w Γx Λx hs hu hp
 have e247 : ρ 54 = .bool (x11.f_Type == x14.f_Type) := (hp 19 rfl).1
 refine WL.loadN (vs := [bstr x14.Name, .int .i64 x14.Kind, .int .i64 x14.f_Type, .int .i64 x8]) hs (Λx.length + 4) (Y0q rfl) TI31 ((hu 10 rfl).trans (hu49 10 rfl)) rfl rfl ?_ (hg := (Y01 rfl rfl (Y02 e247 hc207)).trans rfl)
 exact WL.nil ⟨rfl, _, rfl, rfl, hs.cutG 0 0⟩ }
 {
 intro ρ w Γx Λx hs hu hp
 have e248 : ρ 54 = .bool (x11.f_Type == x14.f_Type) := (hp 19 rfl).1
 refine WL.loadAll hs (Λx.length + 2) (Y0q rfl) TI25 ((hu 12 rfl).trans (hu49 12 rfl)) hl33 ?_ (hg := (Y01 rfl rfl (Y02 e248 hc207)).trans rfl)
 exact WL.nil ⟨rfl, _, rfl, rfl, hs.cutG 0 0⟩ }
 {
 intro ρ w Γx Λx hs hu hp
 have e249 : ρ 57 = .agg ([bstr x14.Name, .int .i64 x14.Kind, .int .i64 x14.f_Type, .int .i64 x8] : List Value).toArray := (hp 22 rfl).1
 have e250 : ρ 58 = .agg cs32.toArray := (hp 23 rfl).1
 have e251 : ρ 54 = .bool (x11.f_Type == x14.f_Type) := (hp 19 rfl).1
 have hs := hs.add (it := vl Y08 (⟨x14.Name, x14.Kind, x14.f_Type, x8⟩ : Y0c) (.agg [bstr x14.Name, .int .i64 x14.Kind, .int .i64 x14.f_Type, .int .i64 x8].toArray)) fun ok hA => Y2W (show Y08.R ok _ _ _ from ⟨[bstr x14.Name], [.int .i64 x14.Kind, .int .i64 x14.f_Type, .int .i64 x8], rfl, rfl, ⟨[.int .i64 x14.Kind], [.int .i64 x14.f_Type, .int .i64 x8], rfl, rfl, ⟨[.int .i64 x14.f_Type], [.int .i64 x8], rfl, rfl, rfl⟩⟩⟩) rfl
 refine WL.call (vs := [.agg ([bstr x14.Name, .int .i64 x14.Kind, .int .i64 x14.f_Type, .int .i64 x8] : List Value).toArray, .agg cs32.toArray]) hs FN17 ⟨e249, ⟨e250, trivial⟩⟩ (fun ok hA => Y0d.callc (x1 := (⟨x14.Name, x14.Kind, x14.f_Type, x8⟩ : Y0c)) (x5 := x31) hxx211 (hA.get 0 rfl) (hA.get (Γx.length + 2 + 1) (Y3k rfl))) ?_ (hg := (Y01 rfl rfl (Y02 e251 hc207)).trans rfl)
 rintro ⟨a212, c213⟩ w hs
 have hs := hs.add (it := vl (Y0b Y05) x211 (.slice a212 x211.length c213)) fun ok hA => hA.get 0 rfl
 exact WL.nil ⟨rfl, _, rfl, ⟨(a212, c213), rfl⟩, hs.cutG 1 2⟩ }
 {
 intro ρ w Γx Λx hs hu hp
 obtain ⟨⟨⟨a252, c253⟩, e254r⟩, hm255⟩ := hp 21 rfl
 have e254 : ρ 56 = .slice a252 (x37.Entries).length c253 := e254r
 rw [e254r] at hm255
 have hs := hs.memo1 (it := vl (Y0b Y0i) x37.Entries (.slice a252 (x37.Entries).length c253)) (List.mem_append.2 (.inl (hm255 _ (List.mem_of_getElem? (i := 0) rfl))))
 obtain ⟨⟨⟨a256, c257⟩, e258r⟩, hm259⟩ := hp 24 rfl
 have e258 : ρ 59 = .slice a256 x211.length c257 := e258r
 rw [e258r] at hm259
 have hs := hs.memo1 (it := vl (Y0b Y05) x211 (.slice a256 x211.length c257)) (List.mem_cons_of_mem _ (List.mem_append.2 (.inl (hm259 _ (List.mem_of_getElem? (i := 0) rfl)))))
 have e260 : ρ 54 = .bool (x11.f_Type == x14.f_Type) := (hp 19 rfl).1
 refine WL.call (vs := [.slice a252 (x37.Entries).length c253, .slice a256 x211.length c257]) hs FN16 ⟨e254, ⟨e258, trivial⟩⟩ (fun ok hA => Y0R.calls (x1 := x37.Entries) (x4 := x211) hxx214 (hA.get 1 rfl) (hA.get 0 rfl)) ?_ (hg := (Y01 rfl rfl (Y02 e260 hc207)).trans rfl)
 rintro _ w hs
 exact WL.nil ⟨rfl, _, rfl, rfl, hs.cutG 0 2⟩ }
 {
 intro ρ w Γx Λx hs hu hp
 have e261 : ρ 54 = .bool (x11.f_Type == x14.f_Type) := (hp 19 rfl).1
 have e262 : ρ 60 = .bool x214 := (hp 25 rfl).1
 refine WL.pickT (v := .bool x214) (Y02 e261 hc207) e262 ?_
 exact WL.nil ⟨rfl, _, rfl, rfl, hs.cutG 0 0⟩ }
 {
 intro ρ w hs hu263 hp
 obtain ⟨⟨⟨⟨⟨⟨⟨⟨⟨⟨⟨⟨⟨⟨⟨⟨⟨⟨⟨⟨⟨⟨⟨⟨⟨⟨⟨_, hp0_⟩, hp1_⟩, hp2_⟩, hp3_⟩, hp4_⟩, hp5_⟩, hp6_⟩, hp7_⟩, hp8_⟩, hp9_⟩, hp10_⟩, hp11_⟩, hp12_⟩, hp13_⟩, hp14_⟩, hp15_⟩, hp16_⟩, hp17_⟩, hp18_⟩, hp19_⟩, hp20_⟩, hp21_⟩, hp22_⟩, hp23_⟩, hp24_⟩, hp25_⟩, hp26_⟩ := hp
 have hs : St ok (bz w0) w [vl (Y0b Y05) x211 (ρ 59), vl (Y0b Y0i) x37.Entries (ρ 56), vl Y0m x40 (.agg cs54.toArray), vl Y0m x37 (.agg cs59.toArray), vl Y0p x31 (.agg cs32.toArray), vl (Y0b Y0r) x27 (.slice a28 x27.length c30), vl Y0p x24 (.agg cs25.toArray), vl (Y0b Y0r) x20 (.slice a21 x20.length c23), vl Y08 x14 (.agg [bstr x14.Name, .int .i64 x14.Kind, .int .i64 x14.f_Type, .int .i64 x14.At].toArray), vl Y08 x11 (.agg cs12.toArray), vl (Y0b (tInt .i64)) x1 (.slice a2 x1.length c3), vl (Y0b (tInt .i64)) x4 (.slice a5 x4.length c6)] [blk g50 35 cs54, blk g52 35 cs59, blk g35 25 cs32, blk g34 25 cs25, blk g18 31 [bstr x14.Name, .int .i64 x14.Kind, .int .i64 x14.f_Type, .int .i64 x8], blk g17 31 cs12] := hs
 have e264 : ρ 61 = .bool x214 := hp26_
 have e265 : ρ 60 = .bool x214 := hp25_
 obtain ⟨⟨a266, c267⟩, e268⟩ := hp24_
 have e268 : ρ 59 = .slice a266 x211.length c267 := e268
 try rw [e268] at hs
 have e269 : ρ 58 = .agg cs32.toArray := hp23_
 have e270 : ρ 57 = .agg ([bstr x14.Name, .int .i64 x14.Kind, .int .i64 x14.f_Type, .int .i64 x8] : List Value).toArray := hp22_
 obtain ⟨⟨a271, c272⟩, e273⟩ := hp21_
 have e273 : ρ 56 = .slice a271 (x37.Entries).length c272 := e273
 try rw [e273] at hs
 have e274 : ρ 55 = .pointer (some ⟨g52, 4, none⟩) := hp20_
 have e275 : ρ 54 = .bool (x11.f_Type == x14.f_Type) := hp19_
 have e276 : ρ 53 = .bool (x11.f_Type == x14.f_Type) := hp18_
 have e277 : ρ 52 = .bool (x11.f_Type == x14.f_Type) := hp17_
 have e278 : ρ 51 = .int .i64 x14.f_Type := hp16_
 have e279 : ρ 50 = .pointer (some ⟨g18, 2, none⟩) := hp15_
 have e280 : ρ 49 = .int .i64 x11.f_Type := hp14_
 have e281 : ρ 48 = .pointer (some ⟨g17, 2, none⟩) := hp13_
 have e282 : ρ 47 = .bool (x11.Kind == x14.Kind) := hp12_
 have e283 : ρ 46 = .bool (x11.Kind == x14.Kind) := hp11_
 have e284 : ρ 45 = .bool (x11.Kind == x14.Kind) := hp10_
 have e285 : ρ 44 = .int .i64 x14.Kind := hp9_
 have e286 : ρ 43 = .pointer (some ⟨g18, 1, none⟩) := hp8_
 have e287 : ρ 42 = .int .i64 x11.Kind := hp7_
 have e288 : ρ 41 = .pointer (some ⟨g17, 1, none⟩) := hp6_
 have e289 : ρ 40 = .bool (x11.Name == x14.Name) := hp5_
 have e290 : ρ 39 = .bool (x11.Name == x14.Name) := hp4_
 have e291 : ρ 38 = bstr x14.Name := hp3_
 have e292 : ρ 37 = .pointer (some ⟨g18, 0, none⟩) := hp2_
 have e293 : ρ 36 = bstr x11.Name := hp1_
 have e294 : ρ 35 = .pointer (some ⟨g17, 0, none⟩) := hp0_
 refine WA.step [27] (by kernel_rfl) (by simp) ⟨?_, trivial⟩
 refine WL.assign (v := .bool x214) e264 ?_
 refine WL.nil ⟨rfl, _, rfl, ?_⟩
 refine WA.done (by kernel_rfl) ?_
 exact Jk68 x214 _ _ ((hu263 9 rfl).trans (hu49 9 rfl)) ((hu263 11 rfl).trans (hu49 11 rfl)) ((hu263 13 rfl).trans e53) ((hu263 14 rfl).trans e51) rfl ((hs.mask [true, true, false, true, false, true]).pick [2, 3, 6, 9]) hf } }
 {
 refine W.any (by kernel_rfl) 27 1 [true, true, true, true, true, true, true, true, true, true, true, true, true, true, true, true, true, true, true, true, true, true, true, true, true, true, true, false] rfl rfl (poAt [pv (.pointer (some ⟨g17, 0, none⟩)), pv (bstr x11.Name), pv (.pointer (some ⟨g18, 0, none⟩)), pv (bstr x14.Name), pv (.bool (x11.Name == x14.Name)), pv (.bool (x11.Name == x14.Name)), pv (.pointer (some ⟨g17, 1, none⟩)), pv (.int .i64 x11.Kind), pv (.pointer (some ⟨g18, 1, none⟩)), pv (.int .i64 x14.Kind), pv (.bool (x11.Kind == x14.Kind)), pv (.bool (x11.Kind == x14.Kind)), pv (.bool (x11.Kind == x14.Kind)), pv (.pointer (some ⟨g17, 2, none⟩)), pv (.int .i64 x11.f_Type), pv (.pointer (some ⟨g18, 2, none⟩)), pv (.int .i64 x14.f_Type), pv (.bool (x11.f_Type == x14.f_Type)), pv (.bool (x11.f_Type == x14.f_Type)), pv (.bool (x11.f_Type == x14.f_Type)), pv (undef), pv (undef), pv (undef), pv (undef), pv (undef), pv (undef), pv (.bool false)]) (Λ := [blk g50 35 cs54, blk g52 35 cs59, blk g35 25 cs32, blk g34 25 cs25, blk g18 31 [bstr x14.Name, .int .i64 x14.Kind, .int .i64 x14.f_Type, .int .i64 x8], blk g17 31 cs12]) hs (by kernel_rfl) (by kernel_rfl) (by kernel_rfl) ⟨⟨⟨⟨⟨⟨⟨⟨⟨⟨⟨⟨⟨⟨⟨⟨⟨⟨⟨⟨⟨⟨⟨⟨⟨⟨⟨trivial, ?_⟩, ?_⟩, ?_⟩, ?_⟩, ?_⟩, ?_⟩, ?_⟩, ?_⟩, ?_⟩, ?_⟩, ?_⟩, ?_⟩, ?_⟩, ?_⟩, ?_⟩, ?_⟩, ?_⟩, ?_⟩, ?_⟩, ?_⟩, ?_⟩, ?_⟩, ?_⟩, ?_⟩, ?_⟩, ?_⟩, ?_⟩ ?_
 {
 intro ρ w Γx Λx hs hu hp
 refine WL.fieldAddr (m := 0) ((hu 9 rfl).trans (hu49 9 rfl)) Y3K rfl ?_
 exact WL.nil ⟨rfl, _, rfl, rfl, hs.cutG 0 0⟩ }
 {
 intro ρ w Γx Λx hs hu hp
 have e295 : ρ 35 = .pointer (some ⟨g17, 0, none⟩) := (hp 0 rfl).1
 refine WL.loadF (z := x11.Name) Y1m hs (Λx.length + 5) (Y0q rfl) (Γx.length + 7) (Y0q rfl) rfl TI9 (.inr rfl) e295 rfl (fun v202 hs => ?_)
 obtain rfl := hs.str 0 rfl
 exact WL.nil ⟨rfl, _, rfl, rfl, hs.cutG 0 1⟩ }
 {
 intro ρ w Γx Λx hs hu hp
 refine WL.fieldAddr (m := 0) ((hu 10 rfl).trans (hu49 10 rfl)) Y3K rfl ?_
 exact WL.nil ⟨rfl, _, rfl, rfl, hs.cutG 0 0⟩ }
 {
 intro ρ w Γx Λx hs hu hp
 have e296 : ρ 37 = .pointer (some ⟨g18, 0, none⟩) := (hp 2 rfl).1
 refine WL.load1 (v := bstr x14.Name) hs (Λx.length + 4) (Y0q rfl) TI9 e296 rfl ?_
 exact WL.nil ⟨rfl, _, rfl, rfl, hs.cutG 0 0⟩ }
 {
 intro ρ w Γx Λx hs hu hp
 have e297 : ρ 36 = bstr x11.Name := (hp 1 rfl).1
 have e298 : ρ 38 = bstr x14.Name := (hp 3 rfl).1
 refine WL.binS (v := .bool (x11.Name == x14.Name)) e297 e298 (Y3N _ _) ?_
 exact WL.nil ⟨rfl, _, rfl, rfl, hs.cutG 0 0⟩ }
 {
 intro ρ w Γx Λx hs hu hp
 have e299 : ρ 39 = .bool (x11.Name == x14.Name) := (hp 4 rfl).1
 refine WL.move (v := .bool (x11.Name == x14.Name)) e299 ?_
 exact WL.nil ⟨rfl, _, rfl, rfl, hs.cutG 0 0⟩ }
 {
 intro ρ w Γx Λx hs hu hp
 have e300 : ρ 40 = .bool (x11.Name == x14.Name) := (hp 5 rfl).1
 refine WL.fieldAddr (m := 1) ((hu 9 rfl).trans (hu49 9 rfl)) Y2X rfl ?_ (hg := (Y01 rfl rfl (Y02 e300 hc203)).trans rfl)
 exact WL.nil ⟨rfl, _, rfl, rfl, hs.cutG 0 0⟩ }
 {
 intro ρ w Γx Λx hs hu hp
 have e301 : ρ 41 = .pointer (some ⟨g17, 1, none⟩) := (hp 6 rfl).1
 have e302 : ρ 40 = .bool (x11.Name == x14.Name) := (hp 5 rfl).1
 refine WL.loadF (z := x11.Kind) Y12 hs (Λx.length + 5) (Y0q rfl) (Γx.length + 7) (Y0q rfl) rfl TI3 (.inr rfl) e301 rfl (fun v204 hs => ?_) (hg := (Y01 rfl rfl (Y02 e302 hc203)).trans rfl)
 obtain rfl := hs.int 0 rfl
 exact WL.nil ⟨rfl, _, rfl, rfl, hs.cutG 0 1⟩ }
 {
 intro ρ w Γx Λx hs hu hp
 have e303 : ρ 40 = .bool (x11.Name == x14.Name) := (hp 5 rfl).1
 refine WL.fieldAddr (m := 1) ((hu 10 rfl).trans (hu49 10 rfl)) Y2X rfl ?_ (hg := (Y01 rfl rfl (Y02 e303 hc203)).trans rfl)
 exact WL.nil ⟨rfl, _, rfl, rfl, hs.cutG 0 0⟩ }
 {
 intro ρ w Γx Λx hs hu hp
 have e304 : ρ 43 = .pointer (some ⟨g18, 1, none⟩) := (hp 8 rfl).1
 have e305 : ρ 40 = .bool (x11.Name == x14.Name) := (hp 5 rfl).1
 refine WL.load1 (v := .int .i64 x14.Kind) hs (Λx.length + 4) (Y0q rfl) TI3 e304 rfl ?_ (hg := (Y01 rfl rfl (Y02 e305 hc203)).trans rfl)
 exact WL.nil ⟨rfl, _, rfl, rfl, hs.cutG 0 0⟩ }
 {
 intro ρ w Γx Λx hs hu hp
 have e306 : ρ 42 = .int .i64 x11.Kind := (hp 7 rfl).1
 have e307 : ρ 44 = .int .i64 x14.Kind := (hp 9 rfl).1
 have e308 : ρ 40 = .bool (x11.Name == x14.Name) := (hp 5 rfl).1
 refine WL.bin (v := .bool (x11.Kind == x14.Kind)) e306 e307 (Y1P _ _ _) ?_ (hg := (Y01 rfl rfl (Y02 e308 hc203)).trans rfl)
 exact WL.nil ⟨rfl, _, rfl, rfl, hs.cutG 0 0⟩ }
 {
 intro ρ w Γx Λx hs hu hp
 have e309 : ρ 40 = .bool (x11.Name == x14.Name) := (hp 5 rfl).1
 have e310 : ρ 45 = .bool (x11.Kind == x14.Kind) := (hp 10 rfl).1
 refine WL.pickT (v := .bool (x11.Kind == x14.Kind)) (Y02 e309 hc203) e310 ?_
 exact WL.nil ⟨rfl, _, rfl, rfl, hs.cutG 0 0⟩ }
 {
 intro ρ w Γx Λx hs hu hp
 have e311 : ρ 46 = .bool (x11.Kind == x14.Kind) := (hp 11 rfl).1
 refine WL.move (v := .bool (x11.Kind == x14.Kind)) e311 ?_
 exact WL.nil ⟨rfl, _, rfl, rfl, hs.cutG 0 0⟩ }
 {
 intro ρ w Γx Λx hs hu hp
 have e312 : ρ 47 = .bool (x11.Kind == x14.Kind) := (hp 12 rfl).1
 refine WL.fieldAddr (m := 2) ((hu 9 rfl).trans (hu49 9 rfl)) Y3s rfl ?_ (hg := (Y01 rfl rfl (Y02 e312 hc205)).trans rfl)
 exact WL.nil ⟨rfl, _, rfl, rfl, hs.cutG 0 0⟩ }
 {
 intro ρ w Γx Λx hs hu hp
 have e313 : ρ 48 = .pointer (some ⟨g17, 2, none⟩) := (hp 13 rfl).1
 have e314 : ρ 47 = .bool (x11.Kind == x14.Kind) := (hp 12 rfl).1
 refine WL.loadF (z := x11.f_Type) Y11 hs (Λx.length + 5) (Y0q rfl) (Γx.length + 7) (Y0q rfl) rfl TI3 (.inr rfl) e313 rfl (fun v206 hs => ?_) (hg := (Y01 rfl rfl (Y02 e314 hc205)).trans rfl)
 obtain rfl := hs.int 0 rfl
 exact WL.nil ⟨rfl, _, rfl, rfl, hs.cutG 0 1⟩ }
 {
 intro ρ w Γx Λx hs hu hp
 have e315 : ρ 47 = .bool (x11.Kind == x14.Kind) := (hp 12 rfl).1
 refine WL.fieldAddr (m := 2) ((hu 10 rfl).trans (hu49 10 rfl)) Y3s rfl ?_ (hg := (Y01 rfl rfl (Y02 e315 hc205)).trans rfl)
 exact WL.nil ⟨rfl, _, rfl, rfl, hs.cutG 0 0⟩ }
 {
 intro ρ w Γx Λx hs hu hp
 have e316 : ρ 50 = .pointer (some ⟨g18, 2, none⟩) := (hp 15 rfl).1
 have e317 : ρ 47 = .bool (x11.Kind == x14.Kind) := (hp 12 rfl).1
 refine WL.load1 (v := .int .i64 x14.f_Type) hs (Λx.length + 4) (Y0q rfl) TI3 e316 rfl ?_ (hg := (Y01 rfl rfl (Y02 e317 hc205)).trans rfl)
 exact WL.nil ⟨rfl, _, rfl, rfl, hs.cutG 0 0⟩ }
 {
 intro ρ w Γx Λx hs hu hp
 have e318 : ρ 49 = .int .i64 x11.f_Type := (hp 14 rfl).1
 have e319 : ρ 51 = .int .i64 x14.f_Type := (hp 16 rfl).1
 have e320 : ρ 47 = .bool (x11.Kind == x14.Kind) := (hp 12 rfl).1
 refine WL.bin (v := .bool (x11.f_Type == x14.f_Type)) e318 e319 (Y1P _ _ _) ?_ (hg := (Y01 rfl rfl (Y02 e320 hc205)).trans rfl)
 exact WL.nil ⟨rfl, _, rfl, rfl, hs.cutG 0 0⟩ }
 {
 intro ρ w Γx Λx hs hu hp
 have e321 : ρ 47 = .bool (x11.Kind == x14.Kind) := (hp 12 rfl).1
 have e322 : ρ 52 = .bool (x11.f_Type == x14.f_Type) := (hp 17 rfl).1
 refine WL.pickT (v := .bool (x11.f_Type == x14.f_Type)) (Y02 e321 hc205) e322 ?_
 exact WL.nil ⟨rfl, _, rfl, rfl, hs.cutG 0 0⟩ }
 {
 intro ρ w Γx Λx hs hu hp
 have e323 : ρ 53 = .bool (x11.f_Type == x14.f_Type) := (hp 18 rfl).1
 refine WL.move (v := .bool (x11.f_Type == x14.f_Type)) e323 ?_
 exact WL.nil ⟨rfl, _, rfl, rfl, hs.cutG 0 0⟩ }
 {
 intro ρ w Γx Λx hs hu hp
 have e324 : ρ 54 = .bool (x11.f_Type == x14.f_Type) := (hp 19 rfl).1
 refine WL.pass ((Y01 rfl rfl (Y02 e324 hc207)).trans rfl) rfl ?_
 exact WL.nil ⟨rfl, _, rfl, rfl, hs.cutG 0 0⟩ }
 {
 intro ρ w Γx Λx hs hu hp
 have e325 : ρ 55 = undef := (hp 20 rfl).1
 have e326 : ρ 54 = .bool (x11.f_Type == x14.f_Type) := (hp 19 rfl).1
 refine WL.pass ((Y01 rfl rfl (Y02 e326 hc207)).trans rfl) rfl ?_
 exact WL.nil ⟨rfl, _, rfl, rfl, hs.cutG 0 0⟩ }
 {
 intro ρ w Γx Λx hs hu hp
 have e327 : ρ 54 = .bool (x11.f_Type == x14.f_Type) := (hp 19 rfl).1
 refine WL.pass ((Y01 rfl rfl (Y02 e327 hc207)).trans rfl) rfl ?_
 exact WL.nil ⟨rfl, _, rfl, rfl, hs.cutG 0 0⟩ }
 {
 intro ρ w Γx Λx hs hu hp
 have e328 : ρ 54 = .bool (x11.f_Type == x14.f_Type) := (hp 19 rfl).1
 refine WL.pass ((Y01 rfl rfl (Y02 e328 hc207)).trans rfl) rfl ?_
 exact WL.nil ⟨rfl, _, rfl, rfl, hs.cutG 0 0⟩ }
 {
 intro ρ w Γx Λx hs hu hp
 have e329 : ρ 57 = undef := (hp 22 rfl).1
 have e330 : ρ 58 = undef := (hp 23 rfl).1
 have e331 : ρ 54 = .bool (x11.f_Type == x14.f_Type) := (hp 19 rfl).1
 refine WL.pass ((Y01 rfl rfl (Y02 e331 hc207)).trans rfl) rfl ?_
 exact WL.nil ⟨rfl, _, rfl, rfl, hs.cutG 0 0⟩ }
 {
 intro ρ w Γx Λx hs hu hp
 have e332 : ρ 56 = undef := (hp 21 rfl).1
 have e333 : ρ 59 = undef := (hp 24 rfl).1
 have e334 : ρ 54 = .bool (x11.f_Type == x14.f_Type) := (hp 19 rfl).1
 refine WL.pass ((Y01 rfl rfl (Y02 e334 hc207)).trans rfl) rfl ?_
 exact WL.nil ⟨rfl, _, rfl, rfl, hs.cutG 0 0⟩ }
 {
 intro ρ w Γx Λx hs hu hp
 have e335 : ρ 54 = .bool (x11.f_Type == x14.f_Type) := (hp 19 rfl).1
 have e336 : ρ 60 = undef := (hp 25 rfl).1
 refine WL.pickF (v := .bool false) (Y02 e335 hc207) rfl ?_
 exact WL.nil ⟨rfl, _, rfl, rfl, hs.cutG 0 0⟩ }
 {
 intro ρ w hs hu337 hp
 obtain ⟨⟨⟨⟨⟨⟨⟨⟨⟨⟨⟨⟨⟨⟨⟨⟨⟨⟨⟨⟨⟨⟨⟨⟨⟨⟨⟨_, hp0_⟩, hp1_⟩, hp2_⟩, hp3_⟩, hp4_⟩, hp5_⟩, hp6_⟩, hp7_⟩, hp8_⟩, hp9_⟩, hp10_⟩, hp11_⟩, hp12_⟩, hp13_⟩, hp14_⟩, hp15_⟩, hp16_⟩, hp17_⟩, hp18_⟩, hp19_⟩, hp20_⟩, hp21_⟩, hp22_⟩, hp23_⟩, hp24_⟩, hp25_⟩, hp26_⟩ := hp
 have hs : St ok (bz w0) w [vl Y0m x40 (.agg cs54.toArray), vl Y0m x37 (.agg cs59.toArray), vl Y0p x31 (.agg cs32.toArray), vl (Y0b Y0r) x27 (.slice a28 x27.length c30), vl Y0p x24 (.agg cs25.toArray), vl (Y0b Y0r) x20 (.slice a21 x20.length c23), vl Y08 x14 (.agg [bstr x14.Name, .int .i64 x14.Kind, .int .i64 x14.f_Type, .int .i64 x14.At].toArray), vl Y08 x11 (.agg cs12.toArray), vl (Y0b (tInt .i64)) x1 (.slice a2 x1.length c3), vl (Y0b (tInt .i64)) x4 (.slice a5 x4.length c6)] [blk g50 35 cs54, blk g52 35 cs59, blk g35 25 cs32, blk g34 25 cs25, blk g18 31 [bstr x14.Name, .int .i64 x14.Kind, .int .i64 x14.f_Type, .int .i64 x8], blk g17 31 cs12] := hs
 have e338 : ρ 61 = .bool false := hp26_
 have e339 : ρ 60 = undef := hp25_
 have e340 : ρ 59 = undef := hp24_
 have e341 : ρ 58 = undef := hp23_
 have e342 : ρ 57 = undef := hp22_
 have e343 : ρ 56 = undef := hp21_
 have e344 : ρ 55 = undef := hp20_
 have e345 : ρ 54 = .bool (x11.f_Type == x14.f_Type) := hp19_
 have e346 : ρ 53 = .bool (x11.f_Type == x14.f_Type) := hp18_
 have e347 : ρ 52 = .bool (x11.f_Type == x14.f_Type) := hp17_
 have e348 : ρ 51 = .int .i64 x14.f_Type := hp16_
 have e349 : ρ 50 = .pointer (some ⟨g18, 2, none⟩) := hp15_
 have e350 : ρ 49 = .int .i64 x11.f_Type := hp14_
 have e351 : ρ 48 = .pointer (some ⟨g17, 2, none⟩) := hp13_
 have e352 : ρ 47 = .bool (x11.Kind == x14.Kind) := hp12_
 have e353 : ρ 46 = .bool (x11.Kind == x14.Kind) := hp11_
 have e354 : ρ 45 = .bool (x11.Kind == x14.Kind) := hp10_
 have e355 : ρ 44 = .int .i64 x14.Kind := hp9_
 have e356 : ρ 43 = .pointer (some ⟨g18, 1, none⟩) := hp8_
 have e357 : ρ 42 = .int .i64 x11.Kind := hp7_
 have e358 : ρ 41 = .pointer (some ⟨g17, 1, none⟩) := hp6_
 have e359 : ρ 40 = .bool (x11.Name == x14.Name) := hp5_
 have e360 : ρ 39 = .bool (x11.Name == x14.Name) := hp4_
 have e361 : ρ 38 = bstr x14.Name := hp3_
 have e362 : ρ 37 = .pointer (some ⟨g18, 0, none⟩) := hp2_
 have e363 : ρ 36 = bstr x11.Name := hp1_
 have e364 : ρ 35 = .pointer (some ⟨g17, 0, none⟩) := hp0_
 refine WA.step [27] (by kernel_rfl) (by simp) ⟨?_, trivial⟩
 refine WL.assign (v := .bool false) e338 ?_
 refine WL.nil ⟨rfl, _, rfl, ?_⟩
 refine WA.done (by kernel_rfl) ?_
 exact Jk68 false _ _ ((hu337 9 rfl).trans (hu49 9 rfl)) ((hu337 11 rfl).trans (hu49 11 rfl)) ((hu337 13 rfl).trans e53) ((hu337 14 rfl).trans e51) rfl ((hs.mask [true, true, false, true, false, true]).pick [0, 1, 4, 7]) hf } } }
 {
 refine W.any (by kernel_rfl) 27 1 [true, true, true, true, true, true, true, true, true, true, true, true, true, true, true, true, true, true, true, true, true, true, true, true, true, true, true, false] rfl rfl (poAt [pv (.pointer (some ⟨g17, 0, none⟩)), pv (bstr x11.Name), pv (.pointer (some ⟨g18, 0, none⟩)), pv (bstr x14.Name), pv (.bool (x11.Name == x14.Name)), pv (.bool (x11.Name == x14.Name)), pv (.pointer (some ⟨g17, 1, none⟩)), pv (.int .i64 x11.Kind), pv (.pointer (some ⟨g18, 1, none⟩)), pv (.int .i64 x14.Kind), pv (.bool (x11.Kind == x14.Kind)), pv (.bool (x11.Kind == x14.Kind)), pv (.bool (x11.Kind == x14.Kind)), pv (undef), pv (undef), pv (undef), pv (undef), pv (undef), pv (.bool false), pv (.bool false), pv (undef), pv (undef), pv (undef), pv (undef), pv (undef), pv (undef), pv (.bool false)]) (Λ := [blk g50 35 cs54, blk g52 35 cs59, blk g35 25 cs32, blk g34 25 cs25, blk g18 31 [bstr x14.Name, .int .i64 x14.Kind, .int .i64 x14.f_Type, .int .i64 x8], blk g17 31 cs12]) hs (by kernel_rfl) (by kernel_rfl) (by kernel_rfl) ⟨⟨⟨⟨⟨⟨⟨⟨⟨⟨⟨⟨⟨⟨⟨⟨⟨⟨⟨⟨⟨⟨⟨⟨⟨⟨⟨trivial, ?_⟩, ?_⟩, ?_⟩, ?_⟩, ?_⟩, ?_⟩, ?_⟩, ?_⟩, ?_⟩, ?_⟩, ?_⟩, ?_⟩, ?_⟩, ?_⟩, ?_⟩, ?_⟩, ?_⟩, ?_⟩, ?_⟩, ?_⟩, ?_⟩, ?_⟩, ?_⟩, ?_⟩, ?_⟩, ?_⟩, ?_⟩ ?_
 {
 intro ρ w Γx Λx hs hu hp
 refine WL.fieldAddr (m := 0) ((hu 9 rfl).trans (hu49 9 rfl)) Y3K rfl ?_
 exact WL.nil ⟨rfl, _, rfl, rfl, hs.cutG 0 0⟩ }
 {
 intro ρ w Γx Λx hs hu hp
 have e365 : ρ 35 = .pointer (some ⟨g17, 0, none⟩) := (hp 0 rfl).1
 refine WL.loadF (z := x11.Name) Y1m hs (Λx.length + 5) (Y0q rfl) (Γx.length + 7) (Y0q rfl) rfl TI9 (.inr rfl) e365 rfl (fun v202 hs => ?_)
 obtain rfl := hs.str 0 rfl
 exact WL.nil ⟨rfl, _, rfl, rfl, hs.cutG 0 1⟩ }
 {
 intro ρ w Γx Λx hs hu hp
 refine WL.fieldAddr (m := 0) ((hu 10 rfl).trans (hu49 10 rfl)) Y3K rfl ?_
 exact WL.nil ⟨rfl, _, rfl, rfl, hs.cutG 0 0⟩ }
 {
 intro ρ w Γx Λx hs hu hp
 have e366 : ρ 37 = .pointer (some ⟨g18, 0, none⟩) := (hp 2 rfl).1
 refine WL.load1 (v := bstr x14.Name) hs (Λx.length + 4) (Y0q rfl) TI9 e366 rfl ?_
 exact WL.nil ⟨rfl, _, rfl, rfl, hs.cutG 0 0⟩ }
 {
 intro ρ w Γx Λx hs hu hp
 have e367 : ρ 36 = bstr x11.Name := (hp 1 rfl).1
 have e368 : ρ 38 = bstr x14.Name := (hp 3 rfl).1
 refine WL.binS (v := .bool (x11.Name == x14.Name)) e367 e368 (Y3N _ _) ?_
 exact WL.nil ⟨rfl, _, rfl, rfl, hs.cutG 0 0⟩ }
 {
 intro ρ w Γx Λx hs hu hp
 have e369 : ρ 39 = .bool (x11.Name == x14.Name) := (hp 4 rfl).1
 refine WL.move (v := .bool (x11.Name == x14.Name)) e369 ?_
 exact WL.nil ⟨rfl, _, rfl, rfl, hs.cutG 0 0⟩ }
 {
 intro ρ w Γx Λx hs hu hp
 have e370 : ρ 40 = .bool (x11.Name == x14.Name) := (hp 5 rfl).1
 refine WL.fieldAddr (m := 1) ((hu 9 rfl).trans (hu49 9 rfl)) Y2X rfl ?_ (hg := (Y01 rfl rfl (Y02 e370 hc203)).trans rfl)
 exact WL.nil ⟨rfl, _, rfl, rfl, hs.cutG 0 0⟩ }
 {
 intro ρ w Γx Λx hs hu hp
 have e371 : ρ 41 = .pointer (some ⟨g17, 1, none⟩) := (hp 6 rfl).1
 have e372 : ρ 40 = .bool (x11.Name == x14.Name) := (hp 5 rfl).1
 refine WL.loadF (z := x11.Kind) Y12 hs (Λx.length + 5) (Y0q rfl) (Γx.length + 7) (Y0q rfl) rfl TI3 (.inr rfl) e371 rfl (fun v204 hs => ?_) (hg := (Y01 rfl rfl (Y02 e372 hc203)).trans rfl)
 obtain rfl := hs.int 0 rfl
 exact WL.nil ⟨rfl, _, rfl, rfl, hs.cutG 0 1⟩ }
 {
 intro ρ w Γx Λx hs hu hp
 have e373 : ρ 40 = .bool (x11.Name == x14.Name) := (hp 5 rfl).1
 refine WL.fieldAddr (m := 1) ((hu 10 rfl).trans (hu49 10 rfl)) Y2X rfl ?_ (hg := (Y01 rfl rfl (Y02 e373 hc203)).trans rfl)
 exact WL.nil ⟨rfl, _, rfl, rfl, hs.cutG 0 0⟩ }
 {
 intro ρ w Γx Λx hs hu hp
 have e374 : ρ 43 = .pointer (some ⟨g18, 1, none⟩) := (hp 8 rfl).1
 have e375 : ρ 40 = .bool (x11.Name == x14.Name) := (hp 5 rfl).1
 refine WL.load1 (v := .int .i64 x14.Kind) hs (Λx.length + 4) (Y0q rfl) TI3 e374 rfl ?_ (hg := (Y01 rfl rfl (Y02 e375 hc203)).trans rfl)
 exact WL.nil ⟨rfl, _, rfl, rfl, hs.cutG 0 0⟩ }
 {
 intro ρ w Γx Λx hs hu hp
 have e376 : ρ 42 = .int .i64 x11.Kind := (hp 7 rfl).1
 have e377 : ρ 44 = .int .i64 x14.Kind := (hp 9 rfl).1
 have e378 : ρ 40 = .bool (x11.Name == x14.Name) := (hp 5 rfl).1
 refine WL.bin (v := .bool (x11.Kind == x14.Kind)) e376 e377 (Y1P _ _ _) ?_ (hg := (Y01 rfl rfl (Y02 e378 hc203)).trans rfl)
 exact WL.nil ⟨rfl, _, rfl, rfl, hs.cutG 0 0⟩ }
 {
 intro ρ w Γx Λx hs hu hp
 have e379 : ρ 40 = .bool (x11.Name == x14.Name) := (hp 5 rfl).1
 have e380 : ρ 45 = .bool (x11.Kind == x14.Kind) := (hp 10 rfl).1
 refine WL.pickT (v := .bool (x11.Kind == x14.Kind)) (Y02 e379 hc203) e380 ?_
 exact WL.nil ⟨rfl, _, rfl, rfl, hs.cutG 0 0⟩ }
 {
 intro ρ w Γx Λx hs hu hp
 have e381 : ρ 46 = .bool (x11.Kind == x14.Kind) := (hp 11 rfl).1
 refine WL.move (v := .bool (x11.Kind == x14.Kind)) e381 ?_
 exact WL.nil ⟨rfl, _, rfl, rfl, hs.cutG 0 0⟩ }
 {
 intro ρ w Γx Λx hs hu hp
 have e382 : ρ 47 = .bool (x11.Kind == x14.Kind) := (hp 12 rfl).1
 refine WL.pass ((Y01 rfl rfl (Y02 e382 hc205)).trans rfl) rfl ?_
 exact WL.nil ⟨rfl, _, rfl, rfl, hs.cutG 0 0⟩ }
 {
 intro ρ w Γx Λx hs hu hp
 have e383 : ρ 48 = undef := (hp 13 rfl).1
 have e384 : ρ 47 = .bool (x11.Kind == x14.Kind) := (hp 12 rfl).1
 refine WL.pass ((Y01 rfl rfl (Y02 e384 hc205)).trans rfl) rfl ?_
 exact WL.nil ⟨rfl, _, rfl, rfl, hs.cutG 0 0⟩ }
 {
 intro ρ w Γx Λx hs hu hp
 have e385 : ρ 47 = .bool (x11.Kind == x14.Kind) := (hp 12 rfl).1
 refine WL.pass ((Y01 rfl rfl (Y02 e385 hc205)).trans rfl) rfl ?_
 exact WL.nil ⟨rfl, _, rfl, rfl, hs.cutG 0 0⟩ }
 {
 intro ρ w Γx Λx hs hu hp
 have e386 : ρ 50 = undef := (hp 15 rfl).1
 have e387 : ρ 47 = .bool (x11.Kind == x14.Kind) := (hp 12 rfl).1
 refine WL.pass ((Y01 rfl rfl (Y02 e387 hc205)).trans rfl) rfl ?_
 exact WL.nil ⟨rfl, _, rfl, rfl, hs.cutG 0 0⟩ }
 {
 intro ρ w Γx Λx hs hu hp
 have e388 : ρ 49 = undef := (hp 14 rfl).1
 have e389 : ρ 51 = undef := (hp 16 rfl).1
 have e390 : ρ 47 = .bool (x11.Kind == x14.Kind) := (hp 12 rfl).1
 refine WL.pass ((Y01 rfl rfl (Y02 e390 hc205)).trans rfl) rfl ?_
 exact WL.nil ⟨rfl, _, rfl, rfl, hs.cutG 0 0⟩ }
 {
 intro ρ w Γx Λx hs hu hp
 have e391 : ρ 47 = .bool (x11.Kind == x14.Kind) := (hp 12 rfl).1
 have e392 : ρ 52 = undef := (hp 17 rfl).1
 refine WL.pickF (v := .bool false) (Y02 e391 hc205) rfl ?_
 exact WL.nil ⟨rfl, _, rfl, rfl, hs.cutG 0 0⟩ }
 {
 intro ρ w Γx Λx hs hu hp
 have e393 : ρ 53 = .bool false := (hp 18 rfl).1
 refine WL.move (v := .bool false) e393 ?_
 exact WL.nil ⟨rfl, _, rfl, rfl, hs.cutG 0 0⟩ }
 {
 intro ρ w Γx Λx hs hu hp
 have e394 : ρ 54 = .bool false := (hp 19 rfl).1
 refine WL.pass ((Y01 rfl rfl e394).trans rfl) rfl ?_
 exact WL.nil ⟨rfl, _, rfl, rfl, hs.cutG 0 0⟩ }
 {
 intro ρ w Γx Λx hs hu hp
 have e395 : ρ 55 = undef := (hp 20 rfl).1
 have e396 : ρ 54 = .bool false := (hp 19 rfl).1
 refine WL.pass ((Y01 rfl rfl e396).trans rfl) rfl ?_
 exact WL.nil ⟨rfl, _, rfl, rfl, hs.cutG 0 0⟩ }
 {
 intro ρ w Γx Λx hs hu hp
 have e397 : ρ 54 = .bool false := (hp 19 rfl).1
 refine WL.pass ((Y01 rfl rfl e397).trans rfl) rfl ?_
 exact WL.nil ⟨rfl, _, rfl, rfl, hs.cutG 0 0⟩ }
 {
 intro ρ w Γx Λx hs hu hp
 have e398 : ρ 54 = .bool false := (hp 19 rfl).1
 refine WL.pass ((Y01 rfl rfl e398).trans rfl) rfl ?_
 exact WL.nil ⟨rfl, _, rfl, rfl, hs.cutG 0 0⟩ }
 {
 intro ρ w Γx Λx hs hu hp
 have e399 : ρ 57 = undef := (hp 22 rfl).1
 have e400 : ρ 58 = undef := (hp 23 rfl).1
 have e401 : ρ 54 = .bool false := (hp 19 rfl).1
 refine WL.pass ((Y01 rfl rfl e401).trans rfl) rfl ?_
 exact WL.nil ⟨rfl, _, rfl, rfl, hs.cutG 0 0⟩ }
 {
 intro ρ w Γx Λx hs hu hp
 have e402 : ρ 56 = undef := (hp 21 rfl).1
 have e403 : ρ 59 = undef := (hp 24 rfl).1
 have e404 : ρ 54 = .bool false := (hp 19 rfl).1
 refine WL.pass ((Y01 rfl rfl e404).trans rfl) rfl ?_
 exact WL.nil ⟨rfl, _, rfl, rfl, hs.cutG 0 0⟩ }
 {
 intro ρ w Γx Λx hs hu hp
 have e405 : ρ 54 = .bool false := (hp 19 rfl).1
 have e406 : ρ 60 = undef := (hp 25 rfl).1
 refine WL.pickF (v := .bool false) e405 rfl ?_
 exact WL.nil ⟨rfl, _, rfl, rfl, hs.cutG 0 0⟩ }
 {
 intro ρ w hs hu407 hp
 obtain ⟨⟨⟨⟨⟨⟨⟨⟨⟨⟨⟨⟨⟨⟨⟨⟨⟨⟨⟨⟨⟨⟨⟨⟨⟨⟨⟨_, hp0_⟩, hp1_⟩, hp2_⟩, hp3_⟩, hp4_⟩, hp5_⟩, hp6_⟩, hp7_⟩, hp8_⟩, hp9_⟩, hp10_⟩, hp11_⟩, hp12_⟩, hp13_⟩, hp14_⟩, hp15_⟩, hp16_⟩, hp17_⟩, hp18_⟩, hp19_⟩, hp20_⟩, hp21_⟩, hp22_⟩, hp23_⟩, hp24_⟩, hp25_⟩, hp26_⟩ := hp
 have hs : St ok (bz w0) w [vl Y0m x40 (.agg cs54.toArray), vl Y0m x37 (.agg cs59.toArray), vl Y0p x31 (.agg cs32.toArray), vl (Y0b Y0r) x27 (.slice a28 x27.length c30), vl Y0p x24 (.agg cs25.toArray), vl (Y0b Y0r) x20 (.slice a21 x20.length c23), vl Y08 x14 (.agg [bstr x14.Name, .int .i64 x14.Kind, .int .i64 x14.f_Type, .int .i64 x14.At].toArray), vl Y08 x11 (.agg cs12.toArray), vl (Y0b (tInt .i64)) x1 (.slice a2 x1.length c3), vl (Y0b (tInt .i64)) x4 (.slice a5 x4.length c6)] [blk g50 35 cs54, blk g52 35 cs59, blk g35 25 cs32, blk g34 25 cs25, blk g18 31 [bstr x14.Name, .int .i64 x14.Kind, .int .i64 x14.f_Type, .int .i64 x8], blk g17 31 cs12] := hs
 have e408 : ρ 61 = .bool false := hp26_
 have e409 : ρ 60 = undef := hp25_
 have e410 : ρ 59 = undef := hp24_
 have e411 : ρ 58 = undef := hp23_
 have e412 : ρ 57 = undef := hp22_
 have e413 : ρ 56 = undef := hp21_
 have e414 : ρ 55 = undef := hp20_
 have e415 : ρ 54 = .bool false := hp19_
 have e416 : ρ 53 = .bool false := hp18_
 have e417 : ρ 52 = undef := hp17_
 have e418 : ρ 51 = undef := hp16_
 have e419 : ρ 50 = undef := hp15_
 have e420 : ρ 49 = undef := hp14_
 have e421 : ρ 48 = undef := hp13_
 have e422 : ρ 47 = .bool (x11.Kind == x14.Kind) := hp12_
 have e423 : ρ 46 = .bool (x11.Kind == x14.Kind) := hp11_
 have e424 : ρ 45 = .bool (x11.Kind == x14.Kind) := hp10_
 have e425 : ρ 44 = .int .i64 x14.Kind := hp9_
 have e426 : ρ 43 = .pointer (some ⟨g18, 1, none⟩) := hp8_
 have e427 : ρ 42 = .int .i64 x11.Kind := hp7_
 have e428 : ρ 41 = .pointer (some ⟨g17, 1, none⟩) := hp6_
 have e429 : ρ 40 = .bool (x11.Name == x14.Name) := hp5_
 have e430 : ρ 39 = .bool (x11.Name == x14.Name) := hp4_
 have e431 : ρ 38 = bstr x14.Name := hp3_
 have e432 : ρ 37 = .pointer (some ⟨g18, 0, none⟩) := hp2_
 have e433 : ρ 36 = bstr x11.Name := hp1_
 have e434 : ρ 35 = .pointer (some ⟨g17, 0, none⟩) := hp0_
 refine WA.step [27] (by kernel_rfl) (by simp) ⟨?_, trivial⟩
 refine WL.assign (v := .bool false) e408 ?_
 refine WL.nil ⟨rfl, _, rfl, ?_⟩
 refine WA.done (by kernel_rfl) ?_
 exact Jk68 false _ _ ((hu407 9 rfl).trans (hu49 9 rfl)) ((hu407 11 rfl).trans (hu49 11 rfl)) ((hu407 13 rfl).trans e53) ((hu407 14 rfl).trans e51) rfl ((hs.mask [true, true, false, true, false, true]).pick [0, 1, 4, 7]) hf } } }
 {
 refine W.any (by kernel_rfl) 27 1 [true, true, true, true, true, true, true, true, true, true, true, true, true, true, true, true, true, true, true, true, true, true, true, true, true, true, true, false] rfl rfl (poAt [pv (.pointer (some ⟨g17, 0, none⟩)), pv (bstr x11.Name), pv (.pointer (some ⟨g18, 0, none⟩)), pv (bstr x14.Name), pv (.bool (x11.Name == x14.Name)), pv (.bool (x11.Name == x14.Name)), pv (undef), pv (undef), pv (undef), pv (undef), pv (undef), pv (.bool false), pv (.bool false), pv (undef), pv (undef), pv (undef), pv (undef), pv (undef), pv (.bool false), pv (.bool false), pv (undef), pv (undef), pv (undef), pv (undef), pv (undef), pv (undef), pv (.bool false)]) (Λ := [blk g50 35 cs54, blk g52 35 cs59, blk g35 25 cs32, blk g34 25 cs25, blk g18 31 [bstr x14.Name, .int .i64 x14.Kind, .int .i64 x14.f_Type, .int .i64 x8], blk g17 31 cs12]) hs (by kernel_rfl) (by kernel_rfl) (by kernel_rfl) ⟨⟨⟨⟨⟨⟨⟨⟨⟨⟨⟨⟨⟨⟨⟨⟨⟨⟨⟨⟨⟨⟨⟨⟨⟨⟨⟨trivial, ?_⟩, ?_⟩, ?_⟩, ?_⟩, ?_⟩, ?_⟩, ?_⟩, ?_⟩, ?_⟩, ?_⟩, ?_⟩, ?_⟩, ?_⟩, ?_⟩, ?_⟩, ?_⟩, ?_⟩, ?_⟩, ?_⟩, ?_⟩, ?_⟩, ?_⟩, ?_⟩, ?_⟩, ?_⟩, ?_⟩, ?_⟩ ?_
 {
 intro ρ w Γx Λx hs hu hp
 refine WL.fieldAddr (m := 0) ((hu 9 rfl).trans (hu49 9 rfl)) Y3K rfl ?_
 exact WL.nil ⟨rfl, _, rfl, rfl, hs.cutG 0 0⟩ }
 {
 intro ρ w Γx Λx hs hu hp
 have e435 : ρ 35 = .pointer (some ⟨g17, 0, none⟩) := (hp 0 rfl).1
 refine WL.loadF (z := x11.Name) Y1m hs (Λx.length + 5) (Y0q rfl) (Γx.length + 7) (Y0q rfl) rfl TI9 (.inr rfl) e435 rfl (fun v202 hs => ?_)
 obtain rfl := hs.str 0 rfl
 exact WL.nil ⟨rfl, _, rfl, rfl, hs.cutG 0 1⟩ }
 {
 intro ρ w Γx Λx hs hu hp
 refine WL.fieldAddr (m := 0) ((hu 10 rfl).trans (hu49 10 rfl)) Y3K rfl ?_
 exact WL.nil ⟨rfl, _, rfl, rfl, hs.cutG 0 0⟩ }
 {
 intro ρ w Γx Λx hs hu hp
 have e436 : ρ 37 = .pointer (some ⟨g18, 0, none⟩) := (hp 2 rfl).1
 refine WL.load1 (v := bstr x14.Name) hs (Λx.length + 4) (Y0q rfl) TI9 e436 rfl ?_
 exact WL.nil ⟨rfl, _, rfl, rfl, hs.cutG 0 0⟩ }
 {
 intro ρ w Γx Λx hs hu hp
 have e437 : ρ 36 = bstr x11.Name := (hp 1 rfl).1
 have e438 : ρ 38 = bstr x14.Name := (hp 3 rfl).1
 refine WL.binS (v := .bool (x11.Name == x14.Name)) e437 e438 (Y3N _ _) ?_
 exact WL.nil ⟨rfl, _, rfl, rfl, hs.cutG 0 0⟩ }
 {
 intro ρ w Γx Λx hs hu hp
 have e439 : ρ 39 = .bool (x11.Name == x14.Name) := (hp 4 rfl).1
 refine WL.move (v := .bool (x11.Name == x14.Name)) e439 ?_
 exact WL.nil ⟨rfl, _, rfl, rfl, hs.cutG 0 0⟩ }
 {
 intro ρ w Γx Λx hs hu hp
 have e440 : ρ 40 = .bool (x11.Name == x14.Name) := (hp 5 rfl).1
 refine WL.pass ((Y01 rfl rfl (Y02 e440 hc203)).trans rfl) rfl ?_
 exact WL.nil ⟨rfl, _, rfl, rfl, hs.cutG 0 0⟩ }
 {
 intro ρ w Γx Λx hs hu hp
 have e441 : ρ 41 = undef := (hp 6 rfl).1
 have e442 : ρ 40 = .bool (x11.Name == x14.Name) := (hp 5 rfl).1
 refine WL.pass ((Y01 rfl rfl (Y02 e442 hc203)).trans rfl) rfl ?_
 exact WL.nil ⟨rfl, _, rfl, rfl, hs.cutG 0 0⟩ }
 {
 intro ρ w Γx Λx hs hu hp
 have e443 : ρ 40 = .bool (x11.Name == x14.Name) := (hp 5 rfl).1
 refine WL.pass ((Y01 rfl rfl (Y02 e443 hc203)).trans rfl) rfl ?_
 exact WL.nil ⟨rfl, _, rfl, rfl, hs.cutG 0 0⟩ }
 {
 intro ρ w Γx Λx hs hu hp
 have e444 : ρ 43 = undef := (hp 8 rfl).1
 have e445 : ρ 40 = .bool (x11.Name == x14.Name) := (hp 5 rfl).1
 refine WL.pass ((Y01 rfl rfl (Y02 e445 hc203)).trans rfl) rfl ?_
 exact WL.nil ⟨rfl, _, rfl, rfl, hs.cutG 0 0⟩ }
 {
 intro ρ w Γx Λx hs hu hp
 have e446 : ρ 42 = undef := (hp 7 rfl).1
 have e447 : ρ 44 = undef := (hp 9 rfl).1
 have e448 : ρ 40 = .bool (x11.Name == x14.Name) := (hp 5 rfl).1
 refine WL.pass ((Y01 rfl rfl (Y02 e448 hc203)).trans rfl) rfl ?_
 exact WL.nil ⟨rfl, _, rfl, rfl, hs.cutG 0 0⟩ }
 {
 intro ρ w Γx Λx hs hu hp
 have e449 : ρ 40 = .bool (x11.Name == x14.Name) := (hp 5 rfl).1
 have e450 : ρ 45 = undef := (hp 10 rfl).1
 refine WL.pickF (v := .bool false) (Y02 e449 hc203) rfl ?_
 exact WL.nil ⟨rfl, _, rfl, rfl, hs.cutG 0 0⟩ }
 {
 intro ρ w Γx Λx hs hu hp
 have e451 : ρ 46 = .bool false := (hp 11 rfl).1
 refine WL.move (v := .bool false) e451 ?_
 exact WL.nil ⟨rfl, _, rfl, rfl, hs.cutG 0 0⟩ }
 {
 intro ρ w Γx Λx hs hu hp
 have e452 : ρ 47 = .bool false := (hp 12 rfl).1
 refine WL.pass ((Y01 rfl rfl e452).trans rfl) rfl ?_
 exact WL.nil ⟨rfl, _, rfl, rfl, hs.cutG 0 0⟩ }
 {
 intro ρ w Γx Λx hs hu hp
 have e453 : ρ 48 = undef := (hp 13 rfl).1
 have e454 : ρ 47 = .bool false := (hp 12 rfl).1
 refine WL.pass ((Y01 rfl rfl e454).trans rfl) rfl ?_
 exact WL.nil ⟨rfl, _, rfl, rfl, hs.cutG 0 0⟩ }
 {
 intro ρ w Γx Λx hs hu hp
 have e455 : ρ 47 = .bool false := (hp 12 rfl).1
 refine WL.pass ((Y01 rfl rfl e455).trans rfl) rfl ?_
 exact WL.nil ⟨rfl, _, rfl, rfl, hs.cutG 0 0⟩ }
 {
 intro ρ w Γx Λx hs hu hp
 have e456 : ρ 50 = undef := (hp 15 rfl).1
 have e457 : ρ 47 = .bool false := (hp 12 rfl).1
 refine WL.pass ((Y01 rfl rfl e457).trans rfl) rfl ?_
 exact WL.nil ⟨rfl, _, rfl, rfl, hs.cutG 0 0⟩ }
 {
 intro ρ w Γx Λx hs hu hp
 have e458 : ρ 49 = undef := (hp 14 rfl).1
 have e459 : ρ 51 = undef := (hp 16 rfl).1
 have e460 : ρ 47 = .bool false := (hp 12 rfl).1
 refine WL.pass ((Y01 rfl rfl e460).trans rfl) rfl ?_
 exact WL.nil ⟨rfl, _, rfl, rfl, hs.cutG 0 0⟩ }
 {
 intro ρ w Γx Λx hs hu hp
 have e461 : ρ 47 = .bool false := (hp 12 rfl).1
 have e462 : ρ 52 = undef := (hp 17 rfl).1
 refine WL.pickF (v := .bool false) e461 rfl ?_
 exact WL.nil ⟨rfl, _, rfl, rfl, hs.cutG 0 0⟩ }
 {
 intro ρ w Γx Λx hs hu hp
 have e463 : ρ 53 = .bool false := (hp 18 rfl).1
 refine WL.move (v := .bool false) e463 ?_
 exact WL.nil ⟨rfl, _, rfl, rfl, hs.cutG 0 0⟩ }
 {
 intro ρ w Γx Λx hs hu hp
 have e464 : ρ 54 = .bool false := (hp 19 rfl).1
 refine WL.pass ((Y01 rfl rfl e464).trans rfl) rfl ?_
 exact WL.nil ⟨rfl, _, rfl, rfl, hs.cutG 0 0⟩ }
 {
 intro ρ w Γx Λx hs hu hp
 have e465 : ρ 55 = undef := (hp 20 rfl).1
 have e466 : ρ 54 = .bool false := (hp 19 rfl).1
 refine WL.pass ((Y01 rfl rfl e466).trans rfl) rfl ?_
 exact WL.nil ⟨rfl, _, rfl, rfl, hs.cutG 0 0⟩ }
 {
 intro ρ w Γx Λx hs hu hp
 have e467 : ρ 54 = .bool false := (hp 19 rfl).1
 refine WL.pass ((Y01 rfl rfl e467).trans rfl) rfl ?_
 exact WL.nil ⟨rfl, _, rfl, rfl, hs.cutG 0 0⟩ }
 {
 intro ρ w Γx Λx hs hu hp
 have e468 : ρ 54 = .bool false := (hp 19 rfl).1
 refine WL.pass ((Y01 rfl rfl e468).trans rfl) rfl ?_
 exact WL.nil ⟨rfl, _, rfl, rfl, hs.cutG 0 0⟩ }
 {
 intro ρ w Γx Λx hs hu hp
 have e469 : ρ 57 = undef := (hp 22 rfl).1
 have e470 : ρ 58 = undef := (hp 23 rfl).1
 have e471 : ρ 54 = .bool false := (hp 19 rfl).1
 refine WL.pass ((Y01 rfl rfl e471).trans rfl) rfl ?_
 exact WL.nil ⟨rfl, _, rfl, rfl, hs.cutG 0 0⟩ }
 {
 intro ρ w Γx Λx hs hu hp
 have e472 : ρ 56 = undef := (hp 21 rfl).1
 have e473 : ρ 59 = undef := (hp 24 rfl).1
 have e474 : ρ 54 = .bool false := (hp 19 rfl).1
 refine WL.pass ((Y01 rfl rfl e474).trans rfl) rfl ?_
 exact WL.nil ⟨rfl, _, rfl, rfl, hs.cutG 0 0⟩ }
 {
 intro ρ w Γx Λx hs hu hp
 have e475 : ρ 54 = .bool false := (hp 19 rfl).1
 have e476 : ρ 60 = undef := (hp 25 rfl).1
 refine WL.pickF (v := .bool false) e475 rfl ?_
 exact WL.nil ⟨rfl, _, rfl, rfl, hs.cutG 0 0⟩ }
 {
 intro ρ w hs hu477 hp
 obtain ⟨⟨⟨⟨⟨⟨⟨⟨⟨⟨⟨⟨⟨⟨⟨⟨⟨⟨⟨⟨⟨⟨⟨⟨⟨⟨⟨_, hp0_⟩, hp1_⟩, hp2_⟩, hp3_⟩, hp4_⟩, hp5_⟩, hp6_⟩, hp7_⟩, hp8_⟩, hp9_⟩, hp10_⟩, hp11_⟩, hp12_⟩, hp13_⟩, hp14_⟩, hp15_⟩, hp16_⟩, hp17_⟩, hp18_⟩, hp19_⟩, hp20_⟩, hp21_⟩, hp22_⟩, hp23_⟩, hp24_⟩, hp25_⟩, hp26_⟩ := hp
 have hs : St ok (bz w0) w [vl Y0m x40 (.agg cs54.toArray), vl Y0m x37 (.agg cs59.toArray), vl Y0p x31 (.agg cs32.toArray), vl (Y0b Y0r) x27 (.slice a28 x27.length c30), vl Y0p x24 (.agg cs25.toArray), vl (Y0b Y0r) x20 (.slice a21 x20.length c23), vl Y08 x14 (.agg [bstr x14.Name, .int .i64 x14.Kind, .int .i64 x14.f_Type, .int .i64 x14.At].toArray), vl Y08 x11 (.agg cs12.toArray), vl (Y0b (tInt .i64)) x1 (.slice a2 x1.length c3), vl (Y0b (tInt .i64)) x4 (.slice a5 x4.length c6)] [blk g50 35 cs54, blk g52 35 cs59, blk g35 25 cs32, blk g34 25 cs25, blk g18 31 [bstr x14.Name, .int .i64 x14.Kind, .int .i64 x14.f_Type, .int .i64 x8], blk g17 31 cs12] := hs
 have e478 : ρ 61 = .bool false := hp26_
 have e479 : ρ 60 = undef := hp25_
 have e480 : ρ 59 = undef := hp24_
 have e481 : ρ 58 = undef := hp23_
 have e482 : ρ 57 = undef := hp22_
 have e483 : ρ 56 = undef := hp21_
 have e484 : ρ 55 = undef := hp20_
 have e485 : ρ 54 = .bool false := hp19_
 have e486 : ρ 53 = .bool false := hp18_
 have e487 : ρ 52 = undef := hp17_
 have e488 : ρ 51 = undef := hp16_
 have e489 : ρ 50 = undef := hp15_
 have e490 : ρ 49 = undef := hp14_
 have e491 : ρ 48 = undef := hp13_
 have e492 : ρ 47 = .bool false := hp12_
 have e493 : ρ 46 = .bool false := hp11_
 have e494 : ρ 45 = undef := hp10_
 have e495 : ρ 44 = undef := hp9_
 have e496 : ρ 43 = undef := hp8_
 have e497 : ρ 42 = undef := hp7_
 have e498 : ρ 41 = undef := hp6_
 have e499 : ρ 40 = .bool (x11.Name == x14.Name) := hp5_
 have e500 : ρ 39 = .bool (x11.Name == x14.Name) := hp4_
 have e501 : ρ 38 = bstr x14.Name := hp3_
 have e502 : ρ 37 = .pointer (some ⟨g18, 0, none⟩) := hp2_
 have e503 : ρ 36 = bstr x11.Name := hp1_
 have e504 : ρ 35 = .pointer (some ⟨g17, 0, none⟩) := hp0_
 refine WA.step [27] (by kernel_rfl) (by simp) ⟨?_, trivial⟩
 refine WL.assign (v := .bool false) e478 ?_
 refine WL.nil ⟨rfl, _, rfl, ?_⟩
 refine WA.done (by kernel_rfl) ?_
 exact Jk68 false _ _ ((hu477 9 rfl).trans (hu49 9 rfl)) ((hu477 11 rfl).trans (hu49 11 rfl)) ((hu477 13 rfl).trans e53) ((hu477 14 rfl).trans e51) rfl ((hs.mask [true, true, false, true, false, true]).pick [0, 1, 4, 7]) hf } } }
end
section
open Go Go.Proofs.YtpfgdjfiimknlaaGreatL
structure GD (n : Nat) (objs : List Y0f) : Prop where
 asc : SA ON_ objs
 len : objs.length ≤ n
 name : ∀ o ∈ objs, o.Name.length ≤ 1000
 ne : ∀ o ∈ objs, o.Fields ≠ []
 fasc : ∀ o ∈ objs, SA FN_ o.Fields
 flen : ∀ o ∈ objs, o.Fields.length ≤ n
 good : ∀ o ∈ objs, ∀ y ∈ o.Fields, GF n y
theorem GD.mono {n m : Nat} {objs : List Y0f} (h : GD n objs) (hm : n ≤ m) : GD m objs :=
 ⟨h.asc, Nat.le_trans h.len hm, h.name, h.ne, h.fasc, fun o ho => Nat.le_trans (h.flen o ho) hm, fun o ho y hy => (h.good o ho y hy).mono hm⟩
theorem GD_nil (n : Nat) : GD n [] := ⟨List.Pairwise.nil, Nat.zero_le _, by simp, by simp, by simp, by simp, by simp⟩
def appT (u : Y0l) (objs : List Y0f) : List Y0f := u.Effects.foldl (effT u) objs
def Y5L (s : List Y0l) (objs : List Y0f) : List Y0f := s.foldl (fun o u => appT u o) objs
theorem Y80 {u : Y0l} {n : Nat} {x : Y1u} (h : BI n x) (he : ∀ e ∈ u.Effects, EF e) (hn : n + u.Effects.length ≤ 1000000) :
  ∃ x', Y1T u x = some x' ∧ BI (n + u.Effects.length) x' ∧ Y2J x' = appT u (Y2J x) := by
 unfold Y1T
 refine Y2L (I := fun k s => s.1 = (k : Int) ∧ BI (n + k) s.2 ∧ Y2J s.2 = (u.Effects.take k).foldl (effT u) (Y2J x)) u.Effects.length ⟨rfl, h, rfl⟩ ?_ ?_
 ·rintro k ⟨i, y⟩ hk ⟨hi, h1, h2⟩
  simp only at hi h1 h2
  subst hi
  obtain ⟨x', e1, e2, e3⟩ := eff_eq (u := u) h1 (he _ (List.getElem_mem hk)) (by omega)
  refine ⟨(((k + 1 : Nat) : Int), x'), ?_, rfl, e2, ?_⟩
  ·unfold Y1T.l1
   simp only [Y1r hk, if_true, Y1g hk, Option.bind_some, e1, letV, Y33 hk (by omega)]
  ·rw [Y1w hk, List.foldl_append, ← h2, e3]
   rfl
 ·rintro ⟨i, y⟩ ⟨hi, h1, h2⟩
  simp only at hi h1 h2
  subst hi
  rw [List.take_length] at h2
  refine ⟨y, ?_, h1, h2⟩
  unfold Y1T.l1
  simp only [Y1j, Bool.false_eq_true, if_false]
theorem Y7X {l : List (List UInt8)} (h : l.length ≤ 1000000) : Y1k l = some l := by
 unfold Y1k
 rw [Y2R (by simp; omega)]
 rfl
theorem Y67 {α : Type} {key : α → List UInt8} {l : List α} (h : SA key l) : (l.map key).Nodup := by
 refine List.pairwise_map.2 (h.imp fun {a b} hab e => ?_)
 rw [e, Y2a] at hab
 cases hab
def Y3m (objs : List Y0f) : Y1u := objs.map fun o => (o.Name, o.Fields)
theorem Y7h {n : Nat} {o : Y0f} (h1 : SA FN_ o.Fields) (h2 : o.Fields.length ≤ n) (h3 : ∀ y ∈ o.Fields, GF n y) (hn : n ≤ 1000000) : Y18 (Y1D.l1 o) (0, []) = some o.Fields := by
 have := Y3f (step := Y1D.l1 o) (fun k => ((k : Int), o.Fields.take k)) o.Fields.length (b := o.Fields) (fun k hk => ?_) ?_
 ·exact this
 ·have hg := h3 _ (List.getElem_mem hk)
  unfold Y1D.l1
  simp only [Y1r hk, if_true, Y1g hk, Option.bind_some]
  rw [Y7X (by have := hg.len; omega), Option.bind_some, letV, Y33 hk (by omega)]
  have e : fput Y07.Name o.Fields[k] (o.Fields.take k) = o.Fields.take (k + 1) := by
   rw [Y1w hk, Y4w]
   rw [List.find?_eq_none]
   intro y hy
   obtain ⟨j, hj, rfl⟩ := List.getElem_of_mem hy
   rw [List.length_take] at hj
   have := List.pairwise_iff_getElem.1 h1 j k (by omega) hk (by omega)
   rw [List.getElem_take]
   intro he
   have he : o.Fields[k].Name = (o.Fields[j]'(by omega)).Name := by simpa using he
   have this : Op.bytesLess (o.Fields[j]'(by omega)).Name o.Fields[k].Name = true := this
   rw [he, Y2a] at this
   cases this
  rw [show ({ o.Fields[k] with Elems := o.Fields[k].Elems } : Y07) = o.Fields[k] from rfl, e]
 ·unfold Y1D.l1
  simp only [Y1j, Bool.false_eq_true, if_false, List.take_length]
theorem load_eq {n : Nat} {t : Y0N} (h : GD n t.Objects) (hn : n ≤ 1000000) : Y1D t = some (Y3m t.Objects) := by
 unfold Y1D
 have hlen := h.len
 have := Y3f (step := Y1D.l2 t) (fun k => ((k : Int), Y3m (t.Objects.take k))) t.Objects.length (b := Y3m t.Objects) (fun k hk => ?_) ?_
 ·exact this
 ·have hm := List.getElem_mem hk
  unfold Y1D.l2
  simp only [Y1r hk, if_true, Y1g hk, Option.bind_some]
  rw [Y7h (h.fasc _ hm) (h.flen _ hm) (h.good _ hm) hn, Option.bind_some, letV, Y33 hk (by omega)]
  have e : mset (Y3m (t.Objects.take k)) t.Objects[k].Name t.Objects[k].Fields = Y3m (t.Objects.take (k + 1)) := by
   unfold Y3m
   rw [Y1w hk, List.map_append, Y2w]
   ·rfl
   ·cases hl : (List.map (fun o : Y0f => (o.Name, o.Fields)) (List.take k t.Objects)).lookup t.Objects[k].Name with
    | none => rfl
    | some fs =>
     exfalso
     obtain ⟨o, ho, he⟩ := List.mem_map.1 (Y2l hl)
     have he : o.Name = t.Objects[k].Name := congrArg Prod.fst he
     obtain ⟨j, hj, rfl⟩ := List.getElem_of_mem ho
     rw [List.length_take] at hj
     have := List.pairwise_iff_getElem.1 h.asc j k (by omega) hk (by omega)
     rw [List.getElem_take] at he
     have this : Op.bytesLess (t.Objects[j]'(by omega)).Name t.Objects[k].Name = true := this
     rw [he, Y2a] at this
     cases this
  rw [e]
 ·unfold Y1D.l2
  simp only [Y1j, Bool.false_eq_true, if_false, List.take_length]
theorem Y74 {n : Nat} {objs : List Y0f} (h : GD n objs) : BI n (Y3m objs) := by
 have hm : ∀ o ∈ Y3m objs, ∃ p ∈ objs, o = (p.Name, p.Fields) := fun o ho => by
  obtain ⟨p, hp, rfl⟩ := List.mem_map.1 ho
  exact ⟨p, hp, rfl⟩
 refine ⟨?_, by unfold Y3m; rw [List.length_map]; exact h.len, fun o ho => ?_, fun o ho => ?_, fun o ho => ?_, fun o ho => ?_, fun o ho => ?_⟩
 ·unfold Y3m
  rw [List.map_map]
  exact Y67 h.asc
 all_goals obtain ⟨p, hp, rfl⟩ := hm o ho
 ·exact h.name p hp
 ·exact h.ne p hp
 ·exact Y67 (h.fasc p hp)
 ·exact h.flen p hp
 ·exact h.good p hp
theorem Y7v {fs : List Y07} (h : SA FN_ fs) : Y2I fs = fs := Y5Z (Y3r (Y67 h)) h fun k => Y41 fs k
theorem Y69 (objs : List Y0f) (k : List UInt8) : (Y3m objs).lookup k = (get ON_ objs k).map (·.Fields) := by
 induction objs with
 | nil => rfl
 | cons a objs ih =>
  unfold Y3m at ih ⊢
  rw [List.map_cons, List.lookup_cons, Y1l]
  by_cases h : ON_ a = k
  ·rw [if_pos h, show (k == a.Name) = true by rw [← h]; simp]
   rfl
  ·rw [if_neg h, show (k == a.Name) = false by rw [beq_eq_false_iff_ne]; exact fun e => h e.symm]
   exact ih
theorem Y6R {n : Nat} {objs : List Y0f} (h : GD n objs) : Y2J (Y3m objs) = objs := by
 refine Y5Z (Y3b (Y74 h).keys) h.asc fun k => ?_
 rw [Y32, Y69]
 cases hg : get ON_ objs k with
 | none => rfl
 | some o =>
  show some (⟨k, Y2I o.Fields⟩ : Y0f) = some o
  rw [Y7v (h.fasc o (Y6h hg)), ← Y7n hg]
theorem Y8s {fs : List Y07} {y : Y07} (h : y ∈ Y2I fs) : y ∈ fs := by
 unfold Y2I at h
 obtain ⟨n, hn, rfl⟩ := List.mem_map.1 h
 rw [Y4h, Y4u] at hn
 cases hg : get FN_ fs n with
 | none => rw [hg] at hn; cases hn
 | some y => exact Y6h hg
theorem Y83 {n : Nat} {x : Y1u} (h : BI n x) : GD n (Y2J x) := by
 have hm : ∀ o ∈ Y2J x, ∃ fs, (o.Name, fs) ∈ x ∧ o.Fields = Y2I fs := by
  intro o ho
  have hg := Y6G (Y3b h.keys) ho
  rw [Y32] at hg
  cases hl : x.lookup (ON_ o) with
  | none => rw [hl] at hg; cases hg
  | some fs =>
   rw [hl] at hg
   have := Option.some.inj hg
   exact ⟨fs, Y2l hl, by rw [← this]⟩
 refine ⟨Y3b h.keys, ?_, fun o ho => ?_, fun o ho => ?_, fun o ho => ?_, fun o ho => ?_, fun o ho y hy => ?_⟩
 ·unfold Y2J
  rw [List.length_map, List.length_mergeSort, List.length_map]
  exact h.len
 all_goals obtain ⟨fs, h1, h2⟩ := hm o ho
 ·exact h.name _ h1
 ·rw [h2]
  intro he
  have := congrArg List.length he
  unfold Y2I at this
  rw [List.length_map, List.length_mergeSort, List.length_map] at this
  exact h.ne _ h1 (List.length_eq_zero_iff.1 this)
 ·rw [h2]; exact Y3r (h.names _ h1)
 ·rw [h2]
  unfold Y2I
  rw [List.length_map, List.length_mergeSort, List.length_map]
  exact h.flen _ h1
 ·rw [h2] at hy
  exact h.good _ h1 y (Y8s hy)
theorem Y6m {n : Nat} {t : Y0N} {u : Y0l} (h : GD n t.Objects) (he : ∀ e ∈ u.Effects, EF e) (hn : n + u.Effects.length ≤ 1000000) :
  Y2m t u = some ⟨appT u t.Objects⟩ ∧ GD (n + u.Effects.length) (appT u t.Objects) := by
 unfold Y2m
 obtain ⟨x', e1, e2, e3⟩ := Y80 (u := u) (Y74 h) he hn
 rw [Y6R h] at e3
 rw [load_eq h (by omega), Option.bind_some, e1, Option.bind_some, Y4y e2 hn, e3]
 exact ⟨rfl, e3 ▸ Y83 e2⟩
end
section
open Go Go.Proofs.YtpfgdjfiimknlaaGreatL
def effN (s : List Y0l) : Nat := (s.map fun u => u.Effects.length).sum
theorem Fold_eq {s : List Y0l} (he : ∀ u ∈ s, ∀ e ∈ u.Effects, EF e) (hn : effN s ≤ 1000000) (hl : s.length ≤ 1000000) :
  Y1X s = some ⟨Y5L s []⟩ ∧ GD (effN s) (Y5L s []) := by
 unfold Y1X
 have key : ∃ b, Y18 (Y1X.l1 s) (0, []) = some b ∧ BI (effN s) b ∧ Y2J b = Y5L s [] := by
  have hsum : ∀ k, k ≤ s.length → effN (s.take k) ≤ effN s := by
   intro k hk
   unfold effN
   have : s.map (fun u => u.Effects.length) = (s.take k).map (fun u => u.Effects.length) ++ (s.drop k).map (fun u => u.Effects.length) := by rw [← List.map_append, List.take_append_drop]
   rw [this, List.sum_append]
   omega
  refine Y2L (I := fun k s' => s'.1 = (k : Int) ∧ BI (effN (s.take k)) s'.2 ∧ Y2J s'.2 = Y5L (s.take k) []) s.length ⟨rfl, ?_, ?_⟩ ?_ ?_
  ·exact ⟨List.nodup_nil, Nat.zero_le _, by simp, by simp, by simp, by simp, by simp⟩
  ·simp [Y2J, srtN, Y5L]
  ·rintro k ⟨i, y⟩ hk ⟨hi, h1, h2⟩
   simp only at hi h1 h2
   subst hi
   have hs := hsum (k + 1) hk
   have es : effN (s.take (k + 1)) = effN (s.take k) + s[k].Effects.length := by
    unfold effN
    rw [Y1w hk, List.map_append, List.sum_append]
    simp
   obtain ⟨x', e1, e2, e3⟩ := Y80 (u := s[k]) h1 (he _ (List.getElem_mem hk)) (by omega)
   refine ⟨(((k + 1 : Nat) : Int), x'), ?_, rfl, by rw [es]; exact e2, ?_⟩
   ·unfold Y1X.l1
    simp only [Y1r hk, if_true, Y1g hk, Option.bind_some, e1, letV, Y33 hk (by omega)]
   ·show Y2J x' = _
    rw [e3, h2, Y1w hk]
    unfold Y5L
    rw [List.foldl_append]
    rfl
  ·rintro ⟨i, y⟩ ⟨hi, h1, h2⟩
   simp only at hi h1 h2
   subst hi
   rw [List.take_length] at h1 h2
   refine ⟨y, ?_, h1, h2⟩
   unfold Y1X.l1
   simp only [Y1j, Bool.false_eq_true, if_false]
 obtain ⟨b, e1, e2, e3⟩ := key
 rw [e1, Option.bind_some, Y4y e2 hn, e3]
 exact ⟨rfl, e3 ▸ Y83 e2⟩
end
section
open Go Go.Proofs.YtpfgdjfiimknlaaGreatL
theorem Y4n {α : Type} {P : List α → Prop} (h0 : P []) (hs : ∀ l a, P l → P (l ++ [a])) (l : List α) : P l := by
 rw [← l.reverse_reverse]
 induction l.reverse with
 | nil => exact h0
 | cons a m ih => rw [List.reverse_cons]; exact hs _ _ ih
section
variable {α : Type} {lt : α → α → Prop}
theorem Y76 (irr : ∀ a, ¬ lt a a) (tr : ∀ a b c, lt a b → lt b c → lt a c) : ∀ {l l' : List α}, l.Pairwise lt → l'.Pairwise lt → (∀ x, x ∈ l ↔ x ∈ l') → l = l'
 | [], [], _, _, _ => rfl
 | [], b :: l', _, _, h => by have := (h b).2 (by simp); simp at this
 | a :: l, [], _, _, h => by have := (h a).1 (by simp); simp at this
 | a :: l, b :: l', h1, h2, h => by
  have a1 := (List.pairwise_cons.1 h1).1
  have b1 := (List.pairwise_cons.1 h2).1
  have e : a = b := by
   rcases List.mem_cons.1 ((h a).1 (by simp)) with e | e
   ·exact e
   ·rcases List.mem_cons.1 ((h b).2 (by simp)) with e' | e'
    ·exact e'.symm
    ·exact absurd (tr _ _ _ (a1 b e') (b1 a e)) (irr a)
  subst e
  have : l = l' := by
   refine Y76 irr tr (List.pairwise_cons.1 h1).2 (List.pairwise_cons.1 h2).2 fun x => ?_
   have hx := h x
   rw [List.mem_cons, List.mem_cons] at hx
   constructor
   ·intro hm
    rcases hx.1 (.inr hm) with e | e
    ·rw [e] at hm; exact absurd (a1 a hm) (irr a)
    ·exact e
   ·intro hm
    rcases hx.2 (.inr hm) with e | e
    ·rw [e] at hm; exact absurd (b1 a hm) (irr a)
    ·exact e
  rw [this]
end
section
variable {α : Type} [DecidableEq α]
def dd (l : List α) : List α := l.foldl (fun r a => if r.getLast? = some a then r else r ++ [a]) []
theorem Y3S (l : List α) (a : α) : dd (l ++ [a]) = if (dd l).getLast? = some a then dd l else dd l ++ [a] := by
 unfold dd
 rw [List.foldl_append]
 rfl
theorem dd_last (l : List α) : (dd l).getLast? = l.getLast? := by
 refine Y4n (P := fun l => (dd l).getLast? = l.getLast?) ?_ (fun l a ih => ?_) l
 ·rfl
 ·rw [Y3S, List.getLast?_concat]
  split
  ·rename_i h; exact h
  ·rw [List.getLast?_concat]
theorem Y95 (l : List α) : ∀ x, x ∈ dd l ↔ x ∈ l := by
 refine Y4n (P := fun l => ∀ x, x ∈ dd l ↔ x ∈ l) ?_ (fun l a ih => ?_) l
 ·intro x; rfl
 ·intro x
  rw [Y3S, List.mem_append, List.mem_singleton]
  split
  ·rename_i h
   rw [ih]
   have : a ∈ l := (ih a).1 (List.mem_of_getLast? h)
   constructor
   ·exact .inl
   ·rintro (h | rfl)
    ·exact h
    ·exact this
  ·rw [List.mem_append, List.mem_singleton, ih]
theorem Y6M (l : List α) : (dd l).length ≤ l.length := by
 refine Y4n (P := fun l => (dd l).length ≤ l.length) (Nat.le_refl _) (fun l a ih => ?_) l
 rw [Y3S, List.length_append, List.length_singleton]
 split
 ·omega
 ·rw [List.length_append, List.length_singleton]; omega
theorem dd_self {l : List α} : l.Pairwise (· ≠ ·) → dd l = l := by
 refine Y4n (P := fun l => l.Pairwise (· ≠ ·) → dd l = l) (fun _ => rfl) (fun l a ih h => ?_) l
 rw [List.pairwise_append] at h
 rw [Y3S, ih h.1, if_neg]
 intro e
 exact h.2.2 a (List.mem_of_getLast? e) a (by simp) rfl
omit [DecidableEq α] in
theorem last_max {lt : α → α → Prop} {m : List α} {z x : α} (h : m.Pairwise lt) (hz : m.getLast? = some z) (hx : x ∈ m) : x = z ∨ lt x z := by
 obtain ⟨m', rfl⟩ : ∃ m', m = m' ++ [z] := by
  rw [List.getLast?_eq_some_iff] at hz
  exact hz
 rcases List.mem_append.1 hx with hx | hx
 ·exact .inr ((List.pairwise_append.1 h).2.2 x hx z (by simp))
 ·exact .inl (by simpa using hx)
theorem dd_srt {lt : α → α → Prop} (tri : ∀ a b, ¬ lt a b → ¬ lt b a → a = b) {l : List α} : l.Pairwise (fun a b => ¬ lt b a) → (dd l).Pairwise lt := by
 refine Y4n (P := fun l => l.Pairwise (fun a b => ¬ lt b a) → (dd l).Pairwise lt) (fun _ => .nil) (fun l a ih h => ?_) l
 rw [List.pairwise_append] at h
 have h1 := ih h.1
 rw [Y3S]
 split
 ·exact h1
 ·rename_i hn
  rw [List.pairwise_append]
  refine ⟨h1, List.pairwise_singleton _ _, fun x hx b hb => ?_⟩
  have hb : b = a := by simpa using hb
  subst hb
  refine Classical.byContradiction fun hc => ?_
  have ha := h.2.2
  have e := tri _ _ hc (ha x ((Y95 l x).1 hx) b (by simp))
  subst e
  cases hz : (dd l).getLast? with
  | none =>
   rw [List.getLast?_eq_none_iff] at hz
   rw [hz] at hx
   simp at hx
  | some z =>
   rcases last_max h1 hz hx with e | e
   ·exact hn (by rw [hz, e])
   ·exact ha z ((Y95 l z).1 (List.mem_of_getLast? hz)) x (by simp) e
end
section
variable {α : Type} (eq : α → α → Bool) (z : α)
noncomputable def gj2 (x24 : List α) (x26 : Int) : Option ((List α × Int) ⊕ (List α ⊕ List α)) :=
 (letV (IntKind.i64.wrap (x26 + 1)) fun x28 => some (.inl (x24, x28)))
noncomputable def gj3 (x61 : List α) (x63 : Int) : Option ((List α × Int) ⊕ (List α ⊕ List α)) :=
 (if 0 ≤ x63 ∧ x63 ≤ (x61.length : Int) then ((clr x61 x63 z).bind fun x67 => ((cut x67 0 x63).bind fun x69 => some (.inr (.inr x69)))) else none)
noncomputable def gj4 (x74 : Int) (x80 : List α) (x82 : Int) : Option ((List α × Int × Int) ⊕ (List α × Int)) :=
 (letV (IntKind.i64.wrap (x74 + 1)) fun x84 => some (.inl (x80, x82, x84)))
noncomputable def gl1 (x18 : Int) : (List α × Int × Int) → Option ((List α × Int × Int) ⊕ (List α × Int)) := fun (x71, x73, x74) =>
 (if (decide (x74 < ((x71.length - (x18).toNat : Nat) : Int))) then ((idx (List.drop ((x18).toNat) x71) x74).bind fun x86 =>
 (letV (IntKind.i64.wrap (x74 - 1)) fun x89 =>
 ((idx (List.drop ((x18).toNat) x71) x89).bind fun x90 =>
 (if (!eq x86 x90) then ((idx (List.drop ((x18).toNat) x71) x74).bind fun x115 =>
 ((idx x71 x73).bind fun x118 =>
 (letV (x71.set (x73).toNat x115) fun x120 =>
 (letV (IntKind.i64.wrap (x73 + 1)) fun x121 =>
 gj4 x74 x120 x121)))) else gj4 x74 x71 x73)))) else some (.inr (x71, x73)))
noncomputable def gl2 : (List α × Int) → Option ((List α × Int) ⊕ (List α ⊕ List α)) := fun (x16, x18) =>
 (if (decide (x18 < (x16.length : Int))) then ((idx x16 x18).bind fun x30 =>
 (letV (IntKind.i64.wrap (x18 - 1)) fun x33 =>
 ((idx x16 x33).bind fun x34 =>
 (if (eq x30 x34) then (if 0 ≤ x18 ∧ x18 ≤ (x16.length : Int) then ((Y18 (gl1 eq x18) (x16, x18, 1)).bind fun (x122, x123) => gj3 z x122 x123) else none) else gj2 x16 x18)))) else some (.inr (.inl x16)))
noncomputable def gC (x1 : List α) : Option (List α) :=
 (if (decide ((x1.length : Int) < 2)) then some x1 else ((Y18 (gl2 eq z) (x1, 1)).bind fun b => match b with | .inl x124 => some x124 | .inr x125 => some x125))
end
theorem w64s {k : Nat} (h : k ≤ 4611686018427387904) : IntKind.i64.wrap (((k + 1 : Nat) : Int) - 1) = (k : Int) := by
 rw [w64 (by omega) (by omega)]; omega
theorem Y5b {α : Type} {l : List α} {k : Nat} (h : k < l.length) : (l.take (k + 1)).getLast? = some l[k] := by
 rw [Y1w h, List.getLast?_concat]
theorem drop1 {α : Type} {x y : List α} {k : Nat} (h : y.drop k = x.drop k) : y.drop (k + 1) = x.drop (k + 1) := by
 have : ∀ l : List α, l.drop (k + 1) = (l.drop k).drop 1 := fun l => by rw [List.drop_drop]
 rw [this, this, h]
theorem gC1_eq {α : Type} [DecidableEq α] {eq : α → α → Bool} (heq : ∀ a b, eq a b = true ↔ a = b) {x : List α} (hl : x.length ≤ 4611686018427387903) {k0 : Nat} (h1 : 1 ≤ k0) (h2 : k0 < x.length)
  (hd : dd (x.take (k0 + 1)) = x.take k0) :
  ∃ b : List α × Int, Y18 (gl1 eq (k0 : Int)) (x, (k0 : Int), 1) = some b ∧ b.1.length = x.length ∧ b.2 = ((dd x).length : Int) ∧ b.1.take (dd x).length = dd x := by
 refine Y2L (fun n s => ∃ (y : List α) (i : Nat), s = (y, (i : Int), ((n + 1 : Nat) : Int)) ∧ y.length = x.length ∧ i ≤ k0 + n ∧ i = (dd (x.take (k0 + n + 1))).length ∧ y.take i = dd (x.take (k0 + n + 1)) ∧ y.drop (k0 + n) = x.drop (k0 + n)) (x.length - k0 - 1) ?_ ?_ ?_
 ·refine ⟨x, k0, rfl, rfl, Nat.le_refl _, ?_, ?_, rfl⟩
  ·show k0 = (dd (x.take (k0 + 1))).length
   rw [hd, List.length_take]
   omega
  ·show x.take k0 = dd (x.take (k0 + 1))
   rw [hd]
 ·rintro n s hn ⟨y, i, rfl, e1, e2, e3, e4, e5⟩
  have hi : i < y.length := by omega
  have hb : k0 + n + 1 < x.length := by omega
  have ey : ∀ j, k0 + n ≤ j → (hj : j < x.length) → y[j]'(by omega) = x[j] := by
   intro j hj1 hj
   have := congrArg (fun l => l[j - (k0 + n)]?) e5
   simp only [List.getElem?_drop] at this
   rw [show k0 + n + (j - (k0 + n)) = j by omega, List.getElem?_eq_getElem (by omega), List.getElem?_eq_getElem hj] at this
   exact Option.some.inj this
  have d1 : idx (List.drop ((k0 : Int).toNat) y) ((n + 1 : Nat) : Int) = some (x[k0 + n + 1]'hb) := by
   rw [Int.toNat_natCast, Y1g (by rw [List.length_drop]; omega), List.getElem_drop]
   congr 1
   have := ey (k0 + (n + 1)) (by omega) (by omega)
   rw [this]
   congr 1
  have d0 : idx (List.drop ((k0 : Int).toNat) y) (n : Int) = some (x[k0 + n]'(by omega)) := by
   rw [Int.toNat_natCast, Y1g (by rw [List.length_drop]; omega), List.getElem_drop]
   congr 1
   exact ey (k0 + n) (by omega) (by omega)
  have snoc : dd (x.take (k0 + n + 1 + 1)) = if x[k0 + n]'(by omega) = x[k0 + n + 1]'hb then dd (x.take (k0 + n + 1)) else dd (x.take (k0 + n + 1)) ++ [x[k0 + n + 1]'hb] := by
   rw [Y1w hb, Y3S, dd_last, Y5b (by omega)]
   simp only [Option.some.injEq]
  unfold gl1
  simp only
  rw [if_pos (by rw [Int.toNat_natCast, e1]; simp; omega), d1, Option.bind_some, Y1f, w64s (by omega), d0, Option.bind_some]
  have nx : IntKind.i64.wrap (((n + 1 : Nat) : Int) + 1) = ((n + 1 + 1 : Nat) : Int) := w64n (by omega)
  by_cases hc : x[k0 + n + 1]'hb = x[k0 + n]'(by omega)
  ·rw [if_neg (by rw [(heq _ _).2 hc]; simp)]
   unfold gj4
   rw [Y1f, nx]
   refine ⟨_, rfl, y, i, rfl, e1, by omega, ?_, ?_, ?_⟩
   ·rw [show k0 + (n + 1) + 1 = k0 + n + 1 + 1 by omega, snoc, if_pos hc.symm]; exact e3
   ·rw [show k0 + (n + 1) + 1 = k0 + n + 1 + 1 by omega, snoc, if_pos hc.symm]; exact e4
   ·exact drop1 e5
  ·rw [if_pos (by
    cases h : eq (x[k0 + n + 1]'hb) (x[k0 + n]'(by omega)) with
    | true => exact absurd ((heq _ _).1 h) hc
    | false => rfl), Option.bind_some, Y1g hi, Option.bind_some, Y1f, Y1f]
   unfold gj4
   rw [Y1f, nx, w64n (by omega)]
   have e6 : dd (x.take (k0 + n + 1 + 1)) = dd (x.take (k0 + n + 1)) ++ [x[k0 + n + 1]'hb] := by
    rw [snoc, if_neg (fun e => hc e.symm)]
   refine ⟨_, rfl, y.set i (x[k0 + n + 1]'hb), i + 1, rfl, by rw [List.length_set]; exact e1, by omega, ?_, ?_, ?_⟩
   ·rw [show k0 + (n + 1) + 1 = k0 + n + 1 + 1 by omega, e6, List.length_append, ← e3]; rfl
   ·rw [show k0 + (n + 1) + 1 = k0 + n + 1 + 1 by omega, e6, ← e4, Y1w (by rw [List.length_set]; exact hi), List.getElem_set_self, List.take_set_of_le (Nat.le_refl _)]
   ·rw [List.drop_set_of_lt (by omega)]; exact drop1 e5
 ·rintro s ⟨y, i, rfl, e1, e2, e3, e4, e5⟩
  have e7 : x.take (k0 + (x.length - k0 - 1) + 1) = x := List.take_of_length_le (by omega)
  rw [e7] at e3 e4
  unfold gl1
  simp only
  rw [if_neg (by rw [Int.toNat_natCast, e1]; simp; omega)]
  exact ⟨_, rfl, e1, by rw [e3], by rw [← e3]; exact e4⟩
theorem gC_eq {α : Type} [DecidableEq α] {eq : α → α → Bool} {z : α} (heq : ∀ a b, eq a b = true ↔ a = b) {x : List α} (hl : x.length ≤ 4611686018427387903) : gC eq z x = some (dd x) := by
 unfold gC
 by_cases h0 : x.length < 2
 ·rw [if_pos (by simp; omega)]
  have : dd x = x := by
   match x, h0 with
   | [], _ => rfl
   | [a], _ => rfl
  rw [this]
 ·rw [if_neg (by simp; omega)]
  have key : ∃ b : List α ⊕ List α, Y18 (gl2 eq z) (x, 1) = some b ∧ (match b with | .inl y => y = dd x | .inr y => y = dd x) := by
   refine Y7N (fun n s => s = (x, ((n + 1 : Nat) : Int)) ∧ dd (x.take (n + 1)) = x.take (n + 1)) (x.length - 1) ⟨rfl, ?_⟩ ?_ ?_
   ·cases x with
    | nil => simp at h0
    | cons a l => rfl
   ·rintro n s hn ⟨rfl, hd⟩
    unfold gl2
    simp only
    rw [if_pos (by simp; omega), Y1g (show n + 1 < x.length by omega), Option.bind_some, Y1f, w64s (by omega), Y1g (show n < x.length by omega), Option.bind_some]
    by_cases hc : x[n + 1]'(by omega) = x[n]'(by omega)
    ·rw [if_pos ((heq _ _).2 hc), if_pos (by omega)]
     refine .inr ?_
     obtain ⟨b, b1, b2, b3, b4⟩ := gC1_eq heq hl (k0 := n + 1) (by omega) (by omega) (by
      rw [Y1w (by omega), Y3S, hd, Y5b (by omega), if_pos (by rw [hc])])
     rw [b1, Option.bind_some]
     obtain ⟨y, i⟩ := b
     simp only at b2 b3 b4
     subst b3
     unfold gj3
     have hle : (dd x).length ≤ y.length := by rw [b2]; exact Y6M x
     simp only
     rw [if_pos (by omega)]
     unfold clr
     rw [if_pos (by omega), Option.bind_some, Int.toNat_natCast, cut_of (by omega) (by omega) (by rw [List.length_append, List.length_take, List.length_replicate]; omega), Option.bind_some]
     refine ⟨_, rfl, ?_⟩
     simp only [Int.toNat_zero, List.drop_zero, Int.toNat_natCast]
     rw [List.take_append_of_le_length (by rw [List.length_take]; omega), b4, List.take_of_length_le (by omega)]
    ·rw [if_neg (by rw [heq]; exact hc)]
     unfold gj2
     rw [Y1f]
     refine .inl ⟨_, rfl, by rw [w64n (by omega)], ?_⟩
     rw [Y1w (show n + 1 < x.length by omega), Y3S, hd, Y5b (show n < x.length by omega), if_neg (fun e => hc (Option.some.inj e).symm)]
   ·rintro s ⟨rfl, hd⟩
    unfold gl2
    simp only
    rw [if_neg (by simp; omega)]
    refine ⟨_, rfl, ?_⟩
    rw [show x.length - 1 + 1 = x.length by omega, List.take_length] at hd
    exact hd.symm
  obtain ⟨b, b1, b2⟩ := key
  rw [b1, Option.bind_some]
  cases b with
  | inl y => simp only at b2; rw [b2]
  | inr y => simp only at b2; rw [b2]
theorem Y7t {x : List (List UInt8)} (hl : x.length ≤ 4611686018427387903) : Y0j x = some (dd x) := by
 rw [← gC_eq (eq := fun a b => a == b) (z := ([] : List UInt8)) (fun a b => by simp) hl]
 have e1 : ∀ k, Y0j.l1 k = gl1 (fun a b : List UInt8 => a == b) k := fun k => rfl
 have e2 : Y0j.l2 = gl2 (fun a b : List UInt8 => a == b) [] := by
  funext s
  unfold Y0j.l2 gl2
  simp only [e1]
  rfl
 unfold Y0j gC
 rw [e2]
 congr 1
 cases Y18 (gl2 (fun a b : List UInt8 => a == b) []) (x, 1) with
 | none => rfl
 | some b => cases b <;> rfl
theorem Y7u {x : List Y04} (hl : x.length ≤ 4611686018427387903) : Y0n x = some (dd x) := by
 have heq : ∀ a b : Y04, decide ((⟨a.f_Type, a.N, a.S⟩ : Y04) = (⟨b.f_Type, b.N, b.S⟩ : Y04)) = true ↔ a = b := fun a b => by rw [decide_eq_true_eq]
 rw [← gC_eq (eq := fun a b : Y04 => decide ((⟨a.f_Type, a.N, a.S⟩ : Y04) = (⟨b.f_Type, b.N, b.S⟩ : Y04))) (z := (⟨0, 0, []⟩ : Y04)) heq hl]
 have e1 : ∀ k, Y0n.l1 k = gl1 (fun a b : Y04 => decide ((⟨a.f_Type, a.N, a.S⟩ : Y04) = (⟨b.f_Type, b.N, b.S⟩ : Y04))) k := fun k => rfl
 have e2 : Y0n.l2 = gl2 (fun a b : Y04 => decide ((⟨a.f_Type, a.N, a.S⟩ : Y04) = (⟨b.f_Type, b.N, b.S⟩ : Y04))) (⟨0, 0, []⟩ : Y04) := by
  funext s
  unfold Y0n.l2 gl2
  simp only [e1]
  rfl
 unfold Y0n gC
 rw [e2]
 congr 1
 cases Y18 (gl2 (fun a b : Y04 => decide ((⟨a.f_Type, a.N, a.S⟩ : Y04) = (⟨b.f_Type, b.N, b.S⟩ : Y04))) (⟨0, 0, []⟩ : Y04)) (x, 1) with
 | none => rfl
 | some b => cases b <;> rfl
def ascL (l : List (List UInt8)) : List (List UInt8) := dd (l.mergeSort fun a b => decide (a ≤ b))
theorem Y58 (l : List (List UInt8)) (x : List UInt8) : x ∈ ascL l ↔ x ∈ l := by
 unfold ascL
 rw [Y95, (List.mergeSort_perm l _).mem_iff]
theorem Y5F (l : List (List UInt8)) : (ascL l).length ≤ l.length := by
 unfold ascL
 refine Nat.le_trans (Y6M _) ?_
 rw [(List.mergeSort_perm l _).length_eq]
 exact Nat.le_refl _
theorem Y7Z (l : List (List UInt8)) : Asc (ascL l) := by
 have tr : ∀ a b c : List UInt8, (decide (a ≤ b)) = true → (decide (b ≤ c)) = true → (decide (a ≤ c)) = true := fun a b c h1 h2 => by simp only [decide_eq_true_eq] at *; exact List.le_trans h1 h2
 have to : ∀ a b : List UInt8, ((decide (a ≤ b)) || (decide (b ≤ a))) = true := fun a b => by simp only [Bool.or_eq_true, decide_eq_true_eq]; exact List.le_total a b
 refine dd_srt (lt := fun a b => Op.bytesLess a b = true) (fun a b h1 h2 => Y4T (by simpa using h1) (by simpa using h2)) ?_
 refine (List.pairwise_mergeSort tr to l).imp fun {a b} h => ?_
 rw [Go.Proofs.bytesLess_eq, decide_eq_true_eq]
 rw [decide_eq_true_eq] at h
 exact fun h' => absurd h (by simpa using h')
theorem Y4U {l : List (List UInt8)} (h : l.length * 16 ≤ 140737488355328) : Y1G l = some (ascL l) := by
 unfold Y1G
 rw [if_pos h]
 exact Y7t (by rw [(List.mergeSort_perm l _).length_eq]; omega)
theorem Y57 {l l' : List (List UInt8)} (h : Asc l) (h' : Asc l') (hm : ∀ x, x ∈ l ↔ x ∈ l') : l = l' :=
 Y76 (lt := fun a b => Op.bytesLess a b = true) (fun a => by rw [Y2a]; simp) (fun a b c h1 h2 => Y3E h1 h2) h h' hm
end
section
open Go Go.Proofs.YtpfgdjfiimknlaaGreatL
theorem Y8v {n : Nat} {o : Y0f} (h1 : o.Fields.length ≤ n) (h2 : ∀ y ∈ o.Fields, GF n y) (hn : n ≤ 1000000) (k : List UInt8) :
  Y1a o k = some ((get FN_ o.Fields k).getD { Y19 with Name := k }) := by
 unfold Y1a
 have key : Y18 (Y1a.l1 o k) (0, (⟨[], (⟨false, 0, 0, 0, 0, []⟩ : Y0L), false, 0, 0, [], false⟩ : Y07)) = some (match get FN_ o.Fields k with | some y => .inr y | none => .inl ⟨[], ⟨false, 0, 0, 0, 0, []⟩, false, 0, 0, [], false⟩) := by
  have h1 := Y5V (step := Y1a.l1 o k) (fun i (z : Y07) => ((i : Int), z)) (fun _ y (z : Y07) => if y.Name = k then some (.inr (.inr y)) else some (.inl z)) (fun z => some (.inl z)) o.Fields (fun i hi z => ?_) (fun z => ?_) ⟨[], ⟨false, 0, 0, 0, 0, []⟩, false, 0, 0, [], false⟩
  ·have h2 : ∀ (l : List Y07) (i : Nat) (z : Y07), runL (fun _ (y : Y07) (z : Y07) => if y.Name = k then some (.inr (.inr y : Y07 ⊕ Y07)) else some (.inl z)) (fun z => some (.inl z)) i l z = some (match get FN_ l k with | some y => .inr y | none => .inl z) := by
    intro l
    induction l with
    | nil => intro i z; rfl
    | cons o l ih =>
     intro i z
     rw [runL, Y1l]
     by_cases he : o.Name = k
     ·rw [if_pos he, if_pos he]
     ·rw [if_neg he, if_neg he]
      exact ih _ z
   rw [← h2 o.Fields 0]
   exact h1
  ·have hm := List.getElem_mem hi
   unfold Y1a.l1
   simp only [Y1r hi, if_true, Y1g hi, Option.bind_some]
   by_cases he : o.Fields[i].Name = k
   ·rw [if_pos (by simp [he]), if_pos he, Y7X (by have := (h2 _ hm).len; omega)]
    rfl
   ·rw [if_neg (by simpa using he), if_neg he, letV, Y33 hi (by omega)]
  ·unfold Y1a.l1
   simp only [Y1j, Bool.false_eq_true, if_false]
   rfl
 rw [key, Option.bind_some]
 cases get FN_ o.Fields k with
 | none => rfl
 | some o => rfl
theorem Y7b {o : Y0f} (h1 : o.Fields.length ≤ 1000000) (k : List UInt8) : Y0T o k = some ((get FN_ o.Fields k).getD { Y19 with Name := k }) := by
 unfold Y0T
 have key : Y18 (Y0T.l1 o k) (0, (⟨[], (⟨false, 0, 0, 0, 0, []⟩ : Y0L), false, 0, 0, [], false⟩ : Y07)) = some (match get FN_ o.Fields k with | some y => .inr y | none => .inl ⟨[], ⟨false, 0, 0, 0, 0, []⟩, false, 0, 0, [], false⟩) := by
  have h1 := Y5V (step := Y0T.l1 o k) (fun i (z : Y07) => ((i : Int), z)) (fun _ y (z : Y07) => if y.Name = k then some (.inr (.inr y)) else some (.inl z)) (fun z => some (.inl z)) o.Fields (fun i hi z => ?_) (fun z => ?_) ⟨[], ⟨false, 0, 0, 0, 0, []⟩, false, 0, 0, [], false⟩
  ·have h2 : ∀ (l : List Y07) (i : Nat) (z : Y07), runL (fun _ (y : Y07) (z : Y07) => if y.Name = k then some (.inr (.inr y : Y07 ⊕ Y07)) else some (.inl z)) (fun z => some (.inl z)) i l z = some (match get FN_ l k with | some y => .inr y | none => .inl z) := by
    intro l
    induction l with
    | nil => intro i z; rfl
    | cons o l ih =>
     intro i z
     rw [runL, Y1l]
     by_cases he : o.Name = k
     ·rw [if_pos he, if_pos he]
     ·rw [if_neg he, if_neg he]
      exact ih _ z
   rw [← h2 o.Fields 0]
   exact h1
  ·unfold Y0T.l1
   simp only [Y1r hi, if_true, Y1g hi, Option.bind_some]
   by_cases he : o.Fields[i].Name = k
   ·rw [if_pos (by simp [he]), if_pos he]
   ·rw [if_neg (by simpa using he), if_neg he, letV, Y33 hi (by omega)]
  ·unfold Y0T.l1
   simp only [Y1j, Bool.false_eq_true, if_false]
   rfl
 rw [key, Option.bind_some]
 cases get FN_ o.Fields k with
 | none => rfl
 | some o => rfl
structure GO (o : Y0f) : Prop where
 len : o.Fields.length ≤ 100
 good : ∀ y ∈ o.Fields, GF 100 y
theorem GD.go {objs : List Y0f} (h : GD 100 objs) : ∀ o ∈ objs, GO o := fun o ho => ⟨h.flen o ho, h.good o ho⟩
def Y5y (o : Y0f) (k : List UInt8) : Y07 := (get FN_ o.Fields k).getD { Y19 with Name := k }
theorem Y3A {o : Y0f} (g : GO o) (k : List UInt8) : Asc (Y5y o k).Elems ∧ (Y5y o k).Elems.length ≤ 100 := by
 unfold Y5y
 cases h : get FN_ o.Fields k with
 | none => exact ⟨List.Pairwise.nil, Nat.zero_le _⟩
 | some y =>
  have := g.good y (Y6h h)
  exact ⟨this.asc, this.len⟩
def Y5J (f : Y0c) (y : Y07) : List Y04 :=
 if f.Kind = 1 ∧ y.Register.Set = true ∧ f.f_Type = 1 then [⟨1, y.Register.N, []⟩]
 else if f.Kind = 1 ∧ y.Register.Set = true ∧ f.f_Type = 2 then [⟨2, 0, y.Register.S⟩]
 else if f.Kind = 4 then y.Elems.map fun s => ⟨2, 0, s⟩ else []
def Y28 (f : Y0c) (o : Y0f) : List Y04 := Y5J f (Y5y o f.Name)
theorem Y8Q {f : Y0c} {y : Y07} (h : Asc y.Elems) : (Y5J f y).Pairwise Y1L := by
 unfold Y5J
 split
 ·exact List.pairwise_singleton _ _
 ·split
  ·exact List.pairwise_singleton _ _
  ·split
   ·refine List.pairwise_map.2 (h.imp fun {a b} hab => ?_)
    exact .inr ⟨rfl, .inr ⟨rfl, hab⟩⟩
   ·exact List.Pairwise.nil
theorem Y6B {f : Y0c} {y : Y07} (h : y.Elems.length ≤ 100) : (Y5J f y).length ≤ 100 := by
 unfold Y5J
 split
 ·simp
 ·split
  ·simp
  ·split
   ·rw [List.length_map]; exact h
   ·simp
theorem Y5W {f : Y0c} {o : Y0f} (g : GO o) : (Y28 f o).Pairwise Y1L := Y8Q (Y3A g f.Name).1
theorem Y30 {f : Y0c} {o : Y0f} (g : GO o) : (Y28 f o).length ≤ 100 := Y6B (Y3A g f.Name).2
theorem Y6c {a b : Y04} (h : Y1L a b) : a ≠ b := fun e => Y2q a (by rw [← e] at h; exact h)
theorem Y7j {a b : Y04} (h : Y1L a b) : ¬ Y1L b a := fun k => Y2q a (Y3a h k)
theorem Y64 {l : List Y04} (h : l.Pairwise Y1L) (hl : l.length ≤ 1000000) : Y1N l = some l := by
 unfold Y1N Y79
 rw [if_pos ⟨h.imp fun {a b} hab => .inl (by rw [decide_eq_true_eq, Y2f]; exact hab), by omega⟩]
 congr 1
 refine List.mergeSort_of_pairwise (h.imp fun {a b} hab => ?_)
 have : ¬ Y1W b a < 0 := by rw [Y2f]; exact Y7j hab
 simpa using this
theorem Y5m {l : List Y04} (h : l.Pairwise Y1L) (hl : l.length ≤ 1000000) : Y0H.j1 l = some l := by
 unfold Y0H.j1
 rw [Y64 h hl, Option.bind_some, Y7u (by omega), Option.bind_some, dd_self (h.imp fun {a b} hab => Y6c hab)]
theorem Y6e {f : Y0c} {o : Y0f} (g : GO o) : Y0H f o = some (Y28 f o) := by
 unfold Y0H
 rw [Y8v g.len g.good (by decide), Option.bind_some]
 obtain ⟨h1, h2⟩ := Y3A g f.Name
 have hs : (Y28 f o).Pairwise Y1L := Y5W g
 have hlen : (Y28 f o).length ≤ 100 := Y30 g
 unfold Y28 at hs hlen ⊢
 change (let y := Y5y o f.Name; _) = _
 obtain ⟨y, hy⟩ : ∃ y, y = Y5y o f.Name := ⟨_, rfl⟩
 have hy' : (get FN_ o.Fields f.Name).getD { Y19 with Name := f.Name } = y := hy.symm
 rw [← hy] at h1 h2 hs hlen ⊢
 simp only [hy']
 have fin : ∀ l, l = Y5J f y → Y0H.j1 l = some (Y5J f y) := fun l hl => by
  rw [hl]; exact Y5m hs (by omega)
 have loop : Y18 (Y0H.l1 y) ([], 0) = some (y.Elems.map fun s => (⟨2, 0, s⟩ : Y04)) := by
  have := Y3f (step := Y0H.l1 y) (fun k => ((y.Elems.take k).map fun s => (⟨2, 0, s⟩ : Y04), (k : Int))) y.Elems.length (b := y.Elems.map fun s => (⟨2, 0, s⟩ : Y04)) (fun k hk => ?_) ?_
  ·exact this
  ·unfold Y0H.l1
   simp only [Y1r hk, if_true, Y1g hk, Option.bind_some]
   rw [Y2R (by simp; omega), Option.bind_some, Y1f, Y33 hk (by omega), Y1w hk, List.map_append]
   rfl
  ·unfold Y0H.l1
   simp only [Y1j, Bool.false_eq_true, if_false, List.take_length]
 have hf2 : Y0H.j2 f y false = some (if f.Kind = 4 then y.Elems.map fun s => (⟨2, 0, s⟩ : Y04) else []) := by
  unfold Y0H.j2
  rw [if_neg (by simp)]
  by_cases hk : f.Kind = 4
  ·rw [if_pos (by simpa using hk), if_pos hk, loop, Option.bind_some]
   refine Y5m ?_ (by rw [List.length_map]; omega)
   exact List.pairwise_map.2 (h1.imp fun {a b} hab => .inr ⟨rfl, .inr ⟨rfl, hab⟩⟩)
  ·rw [if_neg (by simpa using hk), if_neg hk]
   exact Y5m .nil (by simp)
 have hf3 : Y0H.j3 f y false = some (if f.Kind = 1 ∧ y.Register.Set = true ∧ f.f_Type = 2 then [⟨2, 0, y.Register.S⟩] else if f.Kind = 4 then y.Elems.map fun s => (⟨2, 0, s⟩ : Y04) else []) := by
  unfold Y0H.j3
  rw [if_neg (by simp)]
  by_cases hk : f.Kind = 1
  ·rw [if_pos (by simpa using hk)]
   cases hS : y.Register.Set with
   | false => rw [if_neg (by simp), hf2]; simp
   | true =>
    rw [if_pos rfl]
    by_cases ht : f.f_Type = 2
    ·rw [if_pos ⟨hk, rfl, ht⟩]
     unfold Y0H.j2
     rw [if_pos (by simpa using ht), Y2R (by simp), Option.bind_some, ht]
     exact Y5m (List.pairwise_singleton _ _) (by simp)
    ·rw [if_neg (fun h => ht h.2.2), show (f.f_Type == 2) = false by simpa using ht, hf2]
  ·rw [if_neg (by simpa using hk), hf2]; simp [hk]
 unfold Y5J
 by_cases hk : f.Kind = 1
 ·rw [if_pos (by simpa using hk)]
  cases hS : y.Register.Set with
  | false => rw [if_neg (by simp), hf3]; simp [hS]
  | true =>
   rw [if_pos rfl]
   by_cases ht : f.f_Type = 1
   ·rw [if_pos ⟨hk, rfl, ht⟩]
    unfold Y0H.j3
    rw [if_pos (by simpa using ht), Y2R (by simp), Option.bind_some, ht]
    exact Y5m (List.pairwise_singleton _ _) (by simp)
   ·rw [if_neg (fun h => ht h.2.2), show (f.f_Type == 1) = false by simpa using ht, hf3, hS]
 ·rw [if_neg (by simpa using hk), hf3]; simp [hk]
def kc (k : Y04) : Y00 := ⟨k.f_Type, k.N, k.S⟩
theorem Y8R {a b : Y04} (h : kc a = kc b) : a = b := by
 obtain ⟨t, n, s⟩ := a
 obtain ⟨t', n', s'⟩ := b
 unfold kc at h
 simp only [Y00.mk.injEq] at h
 obtain ⟨rfl, rfl, rfl⟩ := h
 rfl
theorem rKeys_eq {f : Y0c} {o : Y0f} (g : GO o) : Y0B f o = some ((Y28 f o).map kc) := by
 unfold Y0B
 have hgl := g.len
 rw [Y7b (by omega), Option.bind_some]
 obtain ⟨h1, h2⟩ := Y3A g f.Name
 unfold Y28
 obtain ⟨y, hy⟩ : ∃ y, y = Y5y o f.Name := ⟨_, rfl⟩
 have hy' : (get FN_ o.Fields f.Name).getD { Y19 with Name := f.Name } = y := hy.symm
 rw [← hy] at h1 h2 ⊢
 simp only [hy']
 have loop : Y18 (Y0B.l1 y) ([], 0) = some (y.Elems.map fun s => (⟨2, 0, s⟩ : Y00)) := by
  have := Y3f (step := Y0B.l1 y) (fun k => ((y.Elems.take k).map fun s => (⟨2, 0, s⟩ : Y00), (k : Int))) y.Elems.length (b := y.Elems.map fun s => (⟨2, 0, s⟩ : Y00)) (fun k hk => ?_) ?_
  ·exact this
  ·unfold Y0B.l1
   simp only [Y1r hk, if_true, Y1g hk, Option.bind_some]
   rw [Y2R (by simp; omega), Option.bind_some, Y1f, Y33 hk (by omega), Y1w hk, List.map_append]
   rfl
  ·unfold Y0B.l1
   simp only [Y1j, Bool.false_eq_true, if_false, List.take_length]
 have hm : (y.Elems.map fun s => (⟨2, 0, s⟩ : Y04)).map kc = y.Elems.map fun s => (⟨2, 0, s⟩ : Y00) := by rw [List.map_map]; rfl
 have hf2 : Y0B.j2 f y false = some ((if f.Kind = 4 then y.Elems.map fun s => (⟨2, 0, s⟩ : Y04) else []).map kc) := by
  unfold Y0B.j2
  rw [if_neg (by simp)]
  by_cases hk : f.Kind = 4
  ·rw [if_pos (by simpa using hk), if_pos hk, loop, Option.bind_some, hm]
   rfl
  ·rw [if_neg (by simpa using hk), if_neg hk]
   rfl
 have hf3 : Y0B.j3 f y false = some ((if f.Kind = 1 ∧ y.Register.Set = true ∧ f.f_Type = 2 then [⟨2, 0, y.Register.S⟩] else if f.Kind = 4 then y.Elems.map fun s => (⟨2, 0, s⟩ : Y04) else []).map kc) := by
  unfold Y0B.j3
  rw [if_neg (by simp)]
  by_cases hk : f.Kind = 1
  ·rw [if_pos (by simpa using hk)]
   cases hS : y.Register.Set with
   | false => rw [if_neg (by simp), hf2]; simp
   | true =>
    rw [if_pos rfl]
    by_cases ht : f.f_Type = 2
    ·rw [if_pos ⟨hk, rfl, ht⟩]
     unfold Y0B.j2
     rw [if_pos (by simpa using ht), Y2R (by simp), Option.bind_some]
     rfl
    ·rw [if_neg (fun h => ht h.2.2), show (f.f_Type == 2) = false by simpa using ht, hf2]
  ·rw [if_neg (by simpa using hk), hf2]; simp [hk]
 unfold Y5J
 by_cases hk : f.Kind = 1
 ·rw [if_pos (by simpa using hk)]
  cases hS : y.Register.Set with
  | false => rw [if_neg (by simp), hf3]; simp [hS]
  | true =>
   rw [if_pos rfl]
   by_cases ht : f.f_Type = 1
   ·rw [if_pos ⟨hk, rfl, ht⟩]
    unfold Y0B.j3
    rw [if_pos (by simpa using ht), Y2R (by simp), Option.bind_some]
    rfl
   ·rw [if_neg (fun h => ht h.2.2), show (f.f_Type == 1) = false by simpa using ht, hf3, hS]
 ·rw [if_neg (by simpa using hk), hf3]; simp [hk]
def Y2t (f : Y0c) (objs : List Y0f) : List Y0u := objs.flatMap fun o => (Y28 f o).map fun k => ⟨k, o.Name⟩
theorem Y7e {f : Y0c} {objs : List Y0f} {p : Y0u} : p ∈ Y2t f objs ↔ ∃ o ∈ objs, o.Name = p.f_object ∧ p.f_key ∈ Y28 f o := by
 unfold Y2t
 rw [List.mem_flatMap]
 constructor
 ·rintro ⟨o, ho, hp⟩
  obtain ⟨k, hk, rfl⟩ := List.mem_map.1 hp
  exact ⟨o, ho, rfl, hk⟩
 ·rintro ⟨o, ho, hn, hk⟩
  refine ⟨o, ho, List.mem_map.2 ⟨p.f_key, hk, ?_⟩⟩
  rw [hn]
theorem Y3j {f : Y0c} : ∀ {objs : List Y0f}, (∀ o ∈ objs, GO o) → (Y2t f objs).length ≤ 100 * objs.length
 | [], _ => Nat.zero_le _
 | o :: objs, h => by
  have h1 := Y30 (f := f) (h o (by simp))
  have h2 := Y3j (f := f) (objs := objs) fun q hq => h q (by simp [hq])
  unfold Y2t at h2 ⊢
  rw [List.flatMap_cons, List.length_append, List.length_map, List.length_cons]
  omega
theorem Y6u (f : Y0c) (objs : List Y0f) (o : Y0f) : Y2t f (objs ++ [o]) = Y2t f objs ++ (Y28 f o).map fun k => ⟨k, o.Name⟩ := by
 unfold Y2t
 rw [List.flatMap_append, List.flatMap_cons, List.flatMap_nil, List.append_nil]
theorem pairs_eq {f : Y0c} {objs : List Y0f} (h : ∀ o ∈ objs, GO o) (hl : objs.length ≤ 1000) : Y0O f objs = some (Y2t f objs) := by
 unfold Y0O
 have := Y3f (step := Y0O.l2 f objs) (fun k => (Y2t f (objs.take k), (k : Int))) objs.length (b := Y2t f objs) (fun k hk => ?_) ?_
 ·have this : Y18 (Y0O.l2 f objs) ([], 0) = some (Y2t f objs) := this
  rw [this]
  rfl
 ·have hg := h _ (List.getElem_mem hk)
  have hkl := Y30 (f := f) hg
  have hpl : (Y2t f (objs.take k)).length ≤ 100 * 1000 := by
   have := Y3j (f := f) (objs := objs.take k) fun q hq => h q (List.mem_of_mem_take hq)
   rw [List.length_take] at this
   omega
  unfold Y0O.l2
  simp only [Y1r hk, if_true, Y1g hk, Option.bind_some]
  rw [Y6e hg, Option.bind_some]
  have inner := Y3f (step := Y0O.l1 objs[k] (Y28 f objs[k])) (fun j => (Y2t f (objs.take k) ++ ((Y28 f objs[k]).take j).map fun q => ⟨q, objs[k].Name⟩, (j : Int))) (Y28 f objs[k]).length (b := Y2t f (objs.take k) ++ (Y28 f objs[k]).map fun q => ⟨q, objs[k].Name⟩) (fun j hj => ?_) ?_
  ·have inner : Y18 (Y0O.l1 objs[k] (Y28 f objs[k])) (Y2t f (objs.take k) ++ [], 0) = _ := inner
   rw [List.append_nil] at inner
   rw [inner, Option.bind_some]
   unfold Y0O.j2
   rw [Y1f, Y33 hk (by omega), Y1w hk, Y6u]
  ·unfold Y0O.l1
   simp only [Y1r hj, if_true, Y1g hj, Option.bind_some]
   rw [Y2R (by simp only [List.length_append, List.length_map, List.length_take, List.length_singleton]; omega), Option.bind_some, Y1f, Y33 hj (by omega), Y1w hj, List.map_append, List.append_assoc]
   rfl
  ·unfold Y0O.l1
   simp only [Y1j, Bool.false_eq_true, if_false, List.take_length]
 ·unfold Y0O.l2
  simp only [Y1j, Bool.false_eq_true, if_false, List.take_length]
end
section
open Go Go.Proofs.YtpfgdjfiimknlaaGreatL
structure IsIx (P : Y04 → List UInt8 → Prop) (es : List Y0a) : Prop where
 srt : es.Pairwise fun a b => Y1L a.Key b.Key
 asc : ∀ e ∈ es, Asc e.Objects
 ne : ∀ e ∈ es, e.Objects ≠ []
 mem : ∀ k s, (∃ e ∈ es, e.Key = k ∧ s ∈ e.Objects) ↔ P k s
theorem ix_key {es : List Y0a} (h : es.Pairwise fun a b => Y1L a.Key b.Key) {a b : Y0a} (ha : a ∈ es) (hb : b ∈ es) (e : a.Key = b.Key) : a = b := by
 induction es with
 | nil => simp at ha
 | cons c es ih =>
  have h1 := (List.pairwise_cons.1 h).1
  have h2 := (List.pairwise_cons.1 h).2
  rcases List.mem_cons.1 ha with p | p <;> rcases List.mem_cons.1 hb with q | q
  ·rw [p, q]
  ·rw [p] at e; exact absurd e (Y6c (h1 b q))
  ·rw [q] at e; exact absurd e.symm (Y6c (h1 a p))
  ·exact ih h2 p q
theorem IsIx.obj {P : Y04 → List UInt8 → Prop} {es : List Y0a} (h : IsIx P es) {e : Y0a} (he : e ∈ es) (s : List UInt8) : s ∈ e.Objects ↔ P e.Key s := by
 rw [← h.mem]
 constructor
 ·exact fun hs => ⟨e, he, rfl, hs⟩
 ·rintro ⟨e', he', hk, hs⟩
  rw [← ix_key h.srt he' he hk]
  exact hs
theorem IsIx.sub {P : Y04 → List UInt8 → Prop} {es es' : List Y0a} (h : IsIx P es) (h' : IsIx P es') {e : Y0a} (he : e ∈ es) : e ∈ es' := by
 obtain ⟨s, hs⟩ : ∃ s, s ∈ e.Objects := by
  cases ho : e.Objects with
  | nil => exact absurd ho (h.ne e he)
  | cons s l => exact ⟨s, by simp⟩
 obtain ⟨e', he', hk, _⟩ := (h'.mem e.Key s).2 ((h.obj he s).1 hs)
 have : e.Objects = e'.Objects := Y57 (h.asc e he) (h'.asc e' he') fun x => by rw [h.obj he, h'.obj he', hk]
 have e2 : e = e' := by
  obtain ⟨k, o⟩ := e
  obtain ⟨k', o'⟩ := e'
  simp only at this hk
  rw [this, hk]
 rw [e2]
 exact he'
theorem IsIx.uniq {P : Y04 → List UInt8 → Prop} {es es' : List Y0a} (h : IsIx P es) (h' : IsIx P es') : es = es' :=
 Y76 (lt := fun a b => Y1L a.Key b.Key) (fun _ => Y2q _) (fun _ _ _ => Y3a) h.srt h'.srt fun x => ⟨fun hx => h.sub h' hx, fun hx => h'.sub h hx⟩
theorem IsIx.congr {P Q : Y04 → List UInt8 → Prop} {es : List Y0a} (h : IsIx P es) (hpq : ∀ k s, P k s ↔ Q k s) : IsIx Q es := ⟨h.srt, h.asc, h.ne, fun k s => by rw [h.mem, hpq]⟩
section
variable {κ β : Type} [BEq κ] [LawfulBEq κ]
theorem Y4o : ∀ {x : List (κ × β)}, (x.map (·.1)).Nodup → ∀ o ∈ x, x.lookup o.1 = some o.2
 | [], _, o, h => by simp at h
 | a :: x, hn, o, h => by
  rw [List.map_cons, List.nodup_cons] at hn
  rw [List.lookup_cons]
  rcases List.mem_cons.1 h with rfl | h
  ·simp
  ·have : (o.1 == a.1) = false := by
    rw [beq_eq_false_iff_ne]
    exact fun e => hn.1 (List.mem_map.2 ⟨o, h, e⟩)
   rw [this]
   exact Y4o hn.2 o h
theorem Y7g {x : List (κ × β)} {k : κ} {b : β} (h : x.lookup k = some b) : (k, b) ∈ x := by
 induction x with
 | nil => cases h
 | cons a x ih =>
  rw [List.lookup_cons] at h
  cases hk : k == a.1 with
  | true =>
   rw [hk] at h
   have e : k = a.1 := by simpa using hk
   have : a = (k, b) := by rw [e]; exact Prod.ext rfl (Option.some.inj h)
   rw [this]; simp
  | false => rw [hk] at h; exact List.mem_cons_of_mem _ (ih h)
end
structure Grp (l : List Y0u) (gs : List (Y04 × List Y0u)) : Prop where
 nd : (gs.map (·.1)).Nodup
 len : gs.length ≤ l.length
 at_ : ∀ k, gs.lookup k = if l.filter (fun p => decide (p.f_key = k)) = [] then none else some (l.filter fun p => decide (p.f_key = k))
theorem Y8o {l : List Y0u} (hl : l.length ≤ 1000000000) : ∃ gs, Y1x l = some gs ∧ Grp l gs := by
 unfold Y1x
 refine Y2L (fun n s => s.1 = (n : Int) ∧ Grp (l.take n) s.2) l.length ⟨rfl, ⟨by simp, by simp, fun k => by simp⟩⟩ ?_ ?_
 ·rintro n ⟨i, gs⟩ hn ⟨hi, g⟩
  simp only at hi g
  subst hi
  have glen := g.len
  rw [List.length_take] at glen
  unfold Y1x.l1
  simp only [Y1r hn, if_true, Y1g hn, Option.bind_some]
  have e1 : Y1U l[n] = some l[n].f_key := rfl
  have hfl : ((gs.lookup l[n].f_key).getD []) = (l.take n).filter fun p => decide (p.f_key = l[n].f_key) := by
   rw [g.at_]
   split
   ·rename_i h; rw [h]; rfl
   ·rfl
  have hfl2 := List.length_filter_le (fun p => decide (p.f_key = l[n].f_key)) (l.take n)
  rw [List.length_take] at hfl2
  rw [e1, Option.bind_some, hfl, Y2R (by rw [List.length_singleton]; omega), Option.bind_some, Y1f, Y33 hn (by omega)]
  refine ⟨_, rfl, rfl, ?_⟩
  simp only
  refine ⟨(Y5i _ _ _ g.nd).1, ?_, fun k => ?_⟩
  ·have := Y4g l[n].f_key ((l.take n).filter (fun p => decide (p.f_key = l[n].f_key)) ++ [l[n]]) gs
   rw [List.length_take]
   omega
  ·rw [Y4f, Y1w hn, List.filter_append]
   by_cases hk : k = l[n].f_key
   ·rw [if_pos (by simp [hk]), ← hk, if_neg]
    ·congr 2
     rw [List.filter_cons, if_pos (by simp [hk])]
     rfl
    ·rw [List.filter_cons, if_pos (by simp [hk])]
     simp
   ·have e2 : [l[n]].filter (fun p => decide (p.f_key = k)) = [] := by
     rw [List.filter_cons, if_neg (by simpa using fun e => hk e.symm)]
     rfl
    rw [if_neg (by simpa using hk), g.at_, e2, List.append_nil]
 ·rintro ⟨i, gs⟩ ⟨hi, g⟩
  simp only at hi g
  subst hi
  unfold Y1x.l1
  simp only [Y1j, Bool.false_eq_true, if_false]
  rw [List.take_length] at g
  exact ⟨gs, rfl, g⟩
def ent (p : Y04 × List Y0u) : Y0a := ⟨p.1, ascL (p.2.map fun q => q.f_object)⟩
def srtE (es : List Y0a) : List Y0a := es.mergeSort fun a b => !decide (Y1W b.Key a.Key < 0)
theorem Y8I {g : List Y0u} (hl : g.length ≤ 1000000000) : Y18 (Y0z.l1 g) (0, []) = some (g.map fun q => q.f_object) := by
 have := Y3f (step := Y0z.l1 g) (fun k => ((k : Int), (g.take k).map fun q => q.f_object)) g.length (b := g.map fun q => q.f_object) (fun k hk => ?_) ?_
 ·exact this
 ·unfold Y0z.l1
  simp only [Y1r hk, if_true, Y1g hk, Option.bind_some]
  rw [Y2R (by simp only [List.length_map, List.length_take, List.length_singleton]; omega), Option.bind_some, Y1f, Y33 hk (by omega), Y1w hk, List.map_append]
  rfl
 ·unfold Y0z.l1
  simp only [Y1j, Bool.false_eq_true, if_false, List.take_length]
theorem Y6K : ∀ (t : List (Y04 × List Y0u)) (es : List Y0a), (∀ p ∈ t, p.2.length ≤ 1000000000) → es.length + t.length ≤ 1000000000 →
  Y5w (fun p : Y04 × (List Y0u) => Y0z.l2 p.1 p.2) t es = some (.inl (es ++ t.map ent))
 | [], es, _, _ => by rw [Y5w, List.map_nil, List.append_nil]
 | p :: t, es, h, hl => by
  have hp := h p (by simp)
  rw [List.length_cons] at hl
  have step : Y0z.l2 p.1 p.2 es = some (.inl (es ++ [ent p])) := by
   unfold Y0z.l2 Y0z.j2
   rw [Y8I hp, Option.bind_some, Y4U (by rw [List.length_map]; omega), Option.bind_some, Y2R (by rw [List.length_singleton]; omega), Option.bind_some]
   rfl
  rw [Y5w, step]
  have := Y6K t (es ++ [ent p]) (fun q hq => h q (by simp [hq])) (by rw [List.length_append, List.length_singleton]; omega)
  simp only
  rw [this, List.map_cons, List.append_assoc]
  rfl
theorem Y34 (es : List Y0a) : (srtE es).Perm es := List.mergeSort_perm _ _
theorem sortE_eq {es : List Y0a} (h : (es.map (·.Key)).Nodup) (hl : es.length ≤ 1000000000) : Y1h es = some (srtE es) ∧ (srtE es).Pairwise fun a b => Y1L a.Key b.Key := by
 have hp : es.Pairwise fun a b => decide (Y1W a.Key b.Key < 0) = true ∨ decide (Y1W b.Key a.Key < 0) = true := by
  refine (List.pairwise_map.1 h).imp fun {a b} hab => ?_
  simp only [decide_eq_true_eq, Y2f]
  refine Classical.byContradiction fun hc => ?_
  rw [not_or] at hc
  exact hab (Y5n hc.1 hc.2)
 have e1 : Y1h es = some (srtE es) := by
  unfold Y1h Y79
  rw [if_pos ⟨hp, by omega⟩]
  rfl
 refine ⟨e1, ?_⟩
 have h1 := Y4Q (Y63 fun e : Y0a => e.Key) (xs := es) (ys := srtE es) e1
 have h2 := Y3v (fun a b h => h.symm) (Y34 es).symm hp
 refine (h1.and h2).imp fun {a b} hab => ?_
 obtain ⟨a1, a2⟩ := hab
 simp only [decide_eq_true_eq, decide_eq_false_iff_not, Y2f] at a1 a2
 exact a2.resolve_right a1
theorem Y8r {f : Y0c} {l : List Y0u} (hl : l.length ≤ 1000000000) :
  ∃ es, Y0z f l = some ⟨f, es⟩ ∧ IsIx (fun k s => (⟨k, s⟩ : Y0u) ∈ l) es ∧ es.length ≤ l.length ∧ ∀ e ∈ es, e.Objects.length ≤ l.length := by
 obtain ⟨gs, e1, g⟩ := Y8o hl
 have glen := g.len
 have gmem : ∀ p : Y04 × List Y0u, p ∈ gs → p.2 = (l.filter fun q => decide (q.f_key = p.1)) ∧ p.2 ≠ [] := by
  intro p hp
  have h1 := Y4o g.nd p hp
  rw [g.at_] at h1
  split at h1
  ·cases h1
  ·rename_i hne
   have := Option.some.inj h1
   exact ⟨this.symm, by rw [← this]; exact hne⟩
 have facts : ∀ t : List (Y04 × List Y0u), t.Perm gs → (Y5w (fun p : Y04 × (List Y0u) => Y0z.l2 p.1 p.2) t []) = some (.inl (t.map ent)) ∧ Y1h (t.map ent) = some (srtE (t.map ent)) ∧ IsIx (fun k s => (⟨k, s⟩ : Y0u) ∈ l) (srtE (t.map ent)) := by
  intro t ht
  have tl : t.length ≤ 1000000000 := by rw [ht.length_eq]; omega
  have tm : ∀ p ∈ t, p.2.length ≤ l.length := fun p hp => by
   rw [(gmem p (ht.mem_iff.1 hp)).1]
   exact List.length_filter_le _ _
  have f1 := Y6K t [] (fun p hp => Nat.le_trans (tm p hp) hl) (by simpa using tl)
  rw [List.nil_append] at f1
  have nd : ((t.map ent).map (·.Key)).Nodup := by
   rw [List.map_map]
   exact ((ht.map (·.1)).nodup_iff).2 g.nd
  obtain ⟨s1, s2⟩ := sortE_eq nd (by rw [List.length_map]; exact tl)
  refine ⟨f1, s1, s2, fun e he => ?_, fun e he => ?_, fun k s => ?_⟩
  ·obtain ⟨p, _, rfl⟩ := List.mem_map.1 ((Y34 _).mem_iff.1 he)
   exact Y7Z _
  ·obtain ⟨p, hp, rfl⟩ := List.mem_map.1 ((Y34 _).mem_iff.1 he)
   obtain ⟨q, hq⟩ : ∃ q, q ∈ p.2 := by
    cases h2 : p.2 with
    | nil => exact absurd h2 (gmem p (ht.mem_iff.1 hp)).2
    | cons q _ => exact ⟨q, by simp⟩
   intro h0
   have : q.f_object ∈ (ent p).Objects := (Y58 _ _).2 (List.mem_map.2 ⟨q, hq, rfl⟩)
   rw [h0] at this
   simp at this
  ·constructor
   ·rintro ⟨e, he, hk, hs⟩
    obtain ⟨p, hp, rfl⟩ := List.mem_map.1 ((Y34 _).mem_iff.1 he)
    obtain ⟨q, hq, rfl⟩ := List.mem_map.1 ((Y58 _ _).1 hs)
    rw [(gmem p (ht.mem_iff.1 hp)).1, List.mem_filter] at hq
    have hk2 : q.f_key = p.1 := by simpa using hq.2
    have hk : p.1 = k := hk
    rw [← hk, ← hk2]
    exact hq.1
   ·intro hm
    have hf : (⟨k, s⟩ : Y0u) ∈ l.filter fun q => decide (q.f_key = k) := List.mem_filter.2 ⟨hm, by simp⟩
    have hlk : gs.lookup k = some (l.filter fun q => decide (q.f_key = k)) := by
     rw [g.at_, if_neg]
     intro h0
     rw [h0] at hf
     simp at hf
    have hg := Y7g hlk
    refine ⟨ent (k, l.filter fun q => decide (q.f_key = k)), (Y34 _).mem_iff.2 (List.mem_map.2 ⟨_, ht.mem_iff.2 hg, rfl⟩), rfl, ?_⟩
    exact (Y58 _ _).2 (List.mem_map.2 ⟨_, hf, rfl⟩)
 obtain ⟨_, _, ix0⟩ := facts gs (.refl _)
 refine ⟨srtE (gs.map ent), ?_, ix0, ?_, fun e he => ?_⟩
 ·unfold Y0z
  rw [e1, Option.bind_some]
  refine permI fun t ht => ?_
  obtain ⟨f1, f2, f3⟩ := facts t ht
  rw [f1, Option.bind_some]
  simp only
  unfold Y0z.j1
  rw [f2, Option.bind_some, f3.uniq ix0]
 ·rw [(Y34 _).length_eq, List.length_map]
  exact glen
 ·obtain ⟨p, hp, rfl⟩ := List.mem_map.1 ((Y34 _).mem_iff.1 he)
  refine Nat.le_trans (Y5F _) ?_
  rw [List.length_map, (gmem p hp).1]
  exact List.length_filter_le _ _
def PB (f : Y0c) (objs : List Y0f) (k : Y04) (s : List UInt8) : Prop := ∃ o ∈ objs, o.Name = s ∧ k ∈ Y28 f o
structure GX (P : Y04 → List UInt8 → Prop) (es : List Y0a) : Prop where
 ix : IsIx P es
 len : es.length ≤ 10000
 olen : ∀ e ∈ es, e.Objects.length ≤ 10000
theorem Y5a (f : Y0c) {objs : List Y0f} (h : ∀ o ∈ objs, GO o) (hl : objs.length ≤ 100) : ∃ es, Y1s f ⟨objs⟩ = some ⟨f, es⟩ ∧ GX (PB f objs) es := by
 have hpl := Y3j (f := f) h
 obtain ⟨es, e1, e2, e3, e4⟩ := Y8r (f := f) (l := Y2t f objs) (by omega)
 refine ⟨es, ?_, e2.congr fun k s => Y7e, by omega, fun e he => by have := e4 e he; omega⟩
 unfold Y1s
 rw [pairs_eq h (by omega), Option.bind_some, e1, Option.bind_some]
end
section
open Go Go.Proofs.YtpfgdjfiimknlaaGreatL
theorem Y8w (a b : Y04) : Y1Z a b = some (Y1W a b) := by
 unfold Y1Z
 rw [Y4K, Option.bind_some, Y4S, Option.bind_some, Y5D, Option.bind_some, or_eq, Option.bind_some]
 rfl
theorem Y6O (x y : Int) : cmpI y x = - cmpI x y := by
 unfold cmpI
 split <;> split <;> omega
theorem Y96 (x y : List UInt8) : cmpS y x = - cmpS x y := by
 unfold cmpS
 cases h1 : Op.bytesLess x y with
 | true => rw [bl_asymm h1]; rfl
 | false => cases h2 : Op.bytesLess y x <;> rfl
theorem Y5p (a b : Y04) : Y1W b a = - Y1W a b := by
 unfold Y1W
 rw [Y6O a.f_Type, Y6O a.N, Y96 a.S]
 by_cases h1 : cmpI a.f_Type b.f_Type = 0
 ·by_cases h2 : cmpI a.N b.N = 0
  ·simp [h1, h2]
  ·simp [h1, h2]
 ·simp [h1]
theorem Y6C (a b : Y04) : 0 < Y1W a b ↔ Y1L b a := by
 rw [← Y2f, Y5p b a]
 omega
theorem Y4r (a b : Y04) : Y1W a b ≤ 0 ↔ ¬ Y1L b a := by
 rw [← Y6C]
 omega
theorem Y5o (a b : Y04) : Y1W a b = 0 ↔ a = b := by
 constructor
 ·intro h
  refine Y5n ?_ ?_
  ·rw [← Y2f]; omega
  ·rw [← Y6C]; omega
 ·rintro rfl
  have := Y5p a a
  omega
theorem Y7k (a b : Y04) : Y1W a b = -1 ∨ Y1W a b = 0 ∨ Y1W a b = 1 := by
 have hI : ∀ x y : Int, cmpI x y = -1 ∨ cmpI x y = 0 ∨ cmpI x y = 1 := fun x y => by
  unfold cmpI; split
  ·exact .inl rfl
  ·split
   ·exact .inr (.inr rfl)
   ·exact .inr (.inl rfl)
 unfold Y1W
 split
 ·exact hI _ _
 ·split
  ·exact hI _ _
  ·unfold cmpS
   split
   ·exact .inl rfl
   ·split
    ·exact .inr (.inr rfl)
    ·exact .inr (.inl rfl)
theorem Y7c (a b : Y04) : Y0M (kc a) (kc b) = some (Y1W a b) := by
 have hj : ∀ c : Bool, (c = true ↔ Y1L a b) → Y0M.j1 (kc a) (kc b) c = some (Y1W a b) := by
  intro c hc
  unfold Y0M.j1
  have hv := Y7k a b
  cases c with
  | true =>
   have := (Y2f a b).2 (hc.1 rfl)
   rw [if_pos rfl]
   congr 1
   omega
  | false =>
   have hn : ¬ Y1W a b < 0 := fun h => by
    have := hc.2 ((Y2f a b).1 h)
    cases this
   rw [if_neg (by simp)]
   by_cases he : a = b
   ·subst he
    rw [if_pos (by simp), (Y5o a a).2 rfl]
   ·rw [if_neg (by
     rw [decide_eq_true_eq]
     exact fun h => he (Y8R h))]
    have : Y1W a b ≠ 0 := fun h => he ((Y5o a b).1 h)
    congr 1
    omega
 unfold Y0M
 show (if decide (a.f_Type < b.f_Type) = true then Y0M.j1 (kc a) (kc b) true else if (a.f_Type == b.f_Type) = true then (if decide (a.N < b.N) = true then Y0M.j1 (kc a) (kc b) true else if (a.N == b.N) = true then Y0M.j1 (kc a) (kc b) (Op.bytesLess a.S b.S) else Y0M.j1 (kc a) (kc b) false) else Y0M.j1 (kc a) (kc b) false) = _
 by_cases h1 : a.f_Type < b.f_Type
 ·rw [if_pos (by simpa using h1)]
  exact hj true (by simp [Y1L, h1])
 ·rw [if_neg (by simpa using h1)]
  by_cases h2 : a.f_Type = b.f_Type
  ·rw [if_pos (by simpa using h2)]
   by_cases h3 : a.N < b.N
   ·rw [if_pos (by simpa using h3)]
    exact hj true (by simp [Y1L, h2, h3])
   ·rw [if_neg (by simpa using h3)]
    by_cases h4 : a.N = b.N
    ·rw [if_pos (by simpa using h4)]
     exact hj _ (by simp [Y1L, h2, h4])
    ·rw [if_neg (by simpa using h4)]
     exact hj false (by simp [Y1L, h2, h3, h4])
  ·rw [if_neg (by simpa using h2)]
   exact hj false (by simp [Y1L, h1, h2])
theorem Y7W {α β : Type} [DecidableEq β] {step : Int → Option (Int ⊕ (Unit ⊕ Bool))} (c : α → β) (xs : List α) (ys : List β) (hl : xs.length = ys.length)
  (hs : ∀ (k : Nat) (h : k < xs.length), step (k : Int) = if c xs[k] = ys[k]'(by omega) then some (.inl ((k + 1 : Nat) : Int)) else some (.inr (.inr false))) (he : step (xs.length : Int) = some (.inr (.inl ()))) :
  Y18 step 0 = some (if xs.map c = ys then .inl () else .inr false) := by
 have : ∀ m k, k + m = xs.length → Y18 step (k : Int) = some (if (xs.drop k).map c = ys.drop k then .inl () else .inr false) := by
  intro m
  induction m with
  | zero =>
   intro k hk
   have hk : k = xs.length := by omega
   subst hk
   rw [Y22 he, List.drop_length, hl, List.drop_length]
   rfl
  | succ m ih =>
   intro k hk
   have hk' : k < xs.length := by omega
   rw [List.drop_eq_getElem_cons hk', List.drop_eq_getElem_cons (show k < ys.length by omega), List.map_cons]
   have h1 := hs k hk'
   by_cases hc : c xs[k] = ys[k]'(by omega)
   ·rw [if_pos hc] at h1
    rw [Y2e h1, ih (k + 1) (by omega), hc]
    simp only [List.cons.injEq, true_and]
   ·rw [if_neg hc] at h1
    rw [Y22 h1, if_neg (fun h => hc (List.cons.inj h).1)]
 have h := this xs.length 0 (by omega)
 rw [List.drop_zero, List.drop_zero] at h
 exact h
theorem Y7a {a b : List (List UInt8)} (hl : a.length ≤ 4611686018427387904) : Y0F a b = some (decide (a = b)) := by
 unfold Y0F
 by_cases h : a.length = b.length
 ·rw [if_neg (by simp [h])]
  have key : Y18 (Y0F.l1 a b) 0 = some (if a.map (fun x => x) = b then .inl () else .inr false) := by
   refine Y7W (fun x => x) a b h (fun k hk => ?_) ?_
   ·unfold Y0F.l1
    simp only [Y1r hk, if_true, Y1g hk, Y1g (show k < b.length by omega), Option.bind_some]
    by_cases he : a[k] = b[k]'(by omega)
    ·rw [if_neg (by simpa using he), if_pos he, Y1f, Y33 hk (by omega)]
    ·rw [if_pos (by simpa using he), if_neg he]
   ·unfold Y0F.l1
    simp only [Y1j, Bool.false_eq_true, if_false]
  rw [key, Option.bind_some, List.map_id']
  by_cases he : a = b
  ·rw [if_pos he]; simp [he, Y0F.j1]
  ·rw [if_neg he]; simp [he]
 ·rw [if_pos (by simp; omega)]
  have : a ≠ b := fun e => h (by rw [e])
  simp [this]
def ke (e : Y0a) : Y06 := ⟨kc e.Key, e.Objects⟩
theorem ke_inj {a b : Y0a} (h : ke a = ke b) : a = b := by
 obtain ⟨k, o⟩ := a
 obtain ⟨k', o'⟩ := b
 unfold ke at h
 simp only [Y06.mk.injEq] at h
 rw [Y8R h.1, h.2]
theorem Y8i {a b : List Y0a} (h : a.map ke = b.map ke) : a = b := List.map_inj_right (fun _ _ => ke_inj) |>.1 h
theorem same_eq {a b : List Y0a} (hl : a.length ≤ 4611686018427387904) (ho : ∀ e ∈ a, e.Objects.length ≤ 4611686018427387904) : Y0R a (b.map ke) = some (decide (a = b)) := by
 unfold Y0R
 by_cases h : a.length = b.length
 ·rw [if_neg (by simp [h])]
  have key : Y18 (Y0R.l1 a (b.map ke)) 0 = some (if a.map ke = b.map ke then .inl () else .inr false) := by
   refine Y7W ke a (b.map ke) (by simpa using h) (fun k hk => ?_) ?_
   ·have hkb : k < (b.map ke).length := by rw [List.length_map]; omega
    unfold Y0R.l1
    simp only [Y1r hk, if_true, Y1g hk, Y1g hkb, Option.bind_some, Y26]
    rw [List.getElem_map]
    by_cases hc : kc a[k].Key = kc (b[k]'(by omega)).Key
    ·rw [if_neg (by
      have : (⟨a[k].Key.f_Type, a[k].Key.N, a[k].Key.S⟩ : Y00) = (⟨(ke (b[k]'(by omega))).Key.f_Type, (ke (b[k]'(by omega))).Key.N, (ke (b[k]'(by omega))).Key.S⟩ : Y00) := hc
      rw [decide_eq_true this]; simp), Y7a (ho _ (List.getElem_mem hk)), Option.bind_some]
     unfold Y0R.j2
     by_cases hd : a[k].Objects = (ke (b[k]'(by omega))).Objects
     ·rw [decide_eq_true hd, if_neg (by simp), Y1f, Y33 hk (by omega), if_pos]
      show (⟨kc a[k].Key, a[k].Objects⟩ : Y06) = ⟨kc (b[k]'(by omega)).Key, (b[k]'(by omega)).Objects⟩
      rw [hc, show a[k].Objects = (b[k]'(by omega)).Objects from hd]
     ·rw [decide_eq_false hd, if_pos (by simp), if_neg (fun h => hd (congrArg Y06.Objects h))]
    ·rw [if_pos (by
      have : ¬ (⟨a[k].Key.f_Type, a[k].Key.N, a[k].Key.S⟩ : Y00) = (⟨(ke (b[k]'(by omega))).Key.f_Type, (ke (b[k]'(by omega))).Key.N, (ke (b[k]'(by omega))).Key.S⟩ : Y00) := hc
      rw [decide_eq_false this]; simp)]
     unfold Y0R.j2
     rw [if_pos rfl, if_neg (fun h => hc (congrArg Y06.Key h))]
   ·unfold Y0R.l1
    simp only [Y1j, Bool.false_eq_true, if_false]
  rw [key, Option.bind_some]
  by_cases he : a = b
  ·rw [if_pos (by rw [he])]; simp [he, Y0R.j1]
  ·rw [if_neg (fun h => he (Y8i h))]; simp [he]
 ·rw [if_pos (by simp; omega)]
  have : a ≠ b := fun e => h (by rw [e])
  simp [this]
theorem Y8S {P : Y04 → List UInt8 → Prop} {A B : List Y0a} {k : Y04} {n : List UInt8} (h : IsIx P (A ++ B)) (ha : ∀ a ∈ A, Y1L a.Key k) (hb : ∀ b ∈ B, Y1L k b.Key) :
  IsIx (fun k' s => P k' s ∨ (k' = k ∧ s = n)) (A ++ ⟨k, [n]⟩ :: B) := by
 have hs := List.pairwise_append.1 h.srt
 refine ⟨?_, fun e he => ?_, fun e he => ?_, fun k' s => ?_⟩
 ·refine List.pairwise_append.2 ⟨hs.1, List.pairwise_cons.2 ⟨fun b hb' => hb b hb', hs.2.1⟩, fun a ha' b hb' => ?_⟩
  rcases List.mem_cons.1 hb' with rfl | hb'
  ·exact ha a ha'
  ·exact hs.2.2 a ha' b hb'
 ·rcases List.mem_append.1 he with he | he
  ·exact h.asc e (List.mem_append.2 (.inl he))
  ·rcases List.mem_cons.1 he with rfl | he
   ·exact List.pairwise_singleton _ _
   ·exact h.asc e (List.mem_append.2 (.inr he))
 ·rcases List.mem_append.1 he with he | he
  ·exact h.ne e (List.mem_append.2 (.inl he))
  ·rcases List.mem_cons.1 he with rfl | he
   ·simp
   ·exact h.ne e (List.mem_append.2 (.inr he))
 ·constructor
  ·rintro ⟨e, he, hk, hx⟩
   rcases List.mem_append.1 he with he | he
   ·exact .inl ((h.mem _ _).1 ⟨e, List.mem_append.2 (.inl he), hk, hx⟩)
   ·rcases List.mem_cons.1 he with rfl | he
    ·exact .inr ⟨hk.symm, by simpa using hx⟩
    ·exact .inl ((h.mem _ _).1 ⟨e, List.mem_append.2 (.inr he), hk, hx⟩)
  ·rintro (h0 | ⟨rfl, rfl⟩)
   ·obtain ⟨e, he, hk, hx⟩ := (h.mem _ _).2 h0
    rcases List.mem_append.1 he with he | he
    ·exact ⟨e, List.mem_append.2 (.inl he), hk, hx⟩
    ·exact ⟨e, List.mem_append.2 (.inr (List.mem_cons_of_mem _ he)), hk, hx⟩
   ·exact ⟨⟨k', [s]⟩, by simp, rfl, by simp⟩
theorem Y8T {P : Y04 → List UInt8 → Prop} {A B : List Y0a} {k : Y04} {o : List (List UInt8)} {n : List UInt8} (h : IsIx P (A ++ ⟨k, o⟩ :: B)) (hn : ∀ s, P k s → Op.bytesLess s n = true) :
  IsIx (fun k' s => P k' s ∨ (k' = k ∧ s = n)) (A ++ ⟨k, o ++ [n]⟩ :: B) := by
 have hs := List.pairwise_append.1 h.srt
 have hc := List.pairwise_cons.1 hs.2.1
 have hm : (⟨k, o⟩ : Y0a) ∈ A ++ ⟨k, o⟩ :: B := by simp
 refine ⟨?_, fun e he => ?_, fun e he => ?_, fun k' s => ?_⟩
 ·refine List.pairwise_append.2 ⟨hs.1, List.pairwise_cons.2 ⟨fun b hb' => hc.1 b hb', hc.2⟩, fun a ha' b hb' => ?_⟩
  rcases List.mem_cons.1 hb' with rfl | hb'
  ·exact hs.2.2 a ha' ⟨k, o⟩ (by simp)
  ·exact hs.2.2 a ha' b (by simp [hb'])
 ·rcases List.mem_append.1 he with he | he
  ·exact h.asc e (List.mem_append.2 (.inl he))
  ·rcases List.mem_cons.1 he with rfl | he
   ·refine List.pairwise_append.2 ⟨h.asc _ hm, List.pairwise_singleton _ _, fun a ha b hb => ?_⟩
    have : b = n := by simpa using hb
    rw [this]
    exact hn a ((h.obj hm a).1 ha)
   ·exact h.asc e (List.mem_append.2 (.inr (List.mem_cons_of_mem _ he)))
 ·rcases List.mem_append.1 he with he | he
  ·exact h.ne e (List.mem_append.2 (.inl he))
  ·rcases List.mem_cons.1 he with rfl | he
   ·simp
   ·exact h.ne e (List.mem_append.2 (.inr (List.mem_cons_of_mem _ he)))
 ·constructor
  ·rintro ⟨e, he, hk, hx⟩
   rcases List.mem_append.1 he with he | he
   ·exact .inl ((h.mem _ _).1 ⟨e, List.mem_append.2 (.inl he), hk, hx⟩)
   ·rcases List.mem_cons.1 he with rfl | he
    ·rcases List.mem_append.1 hx with hx | hx
     ·exact .inl ((h.mem _ _).1 ⟨_, hm, hk, hx⟩)
     ·exact .inr ⟨hk.symm, by simpa using hx⟩
    ·exact .inl ((h.mem _ _).1 ⟨e, List.mem_append.2 (.inr (List.mem_cons_of_mem _ he)), hk, hx⟩)
  ·rintro (h0 | ⟨rfl, rfl⟩)
   ·obtain ⟨e, he, hk, hx⟩ := (h.mem _ _).2 h0
    rcases List.mem_append.1 he with he | he
    ·exact ⟨e, List.mem_append.2 (.inl he), hk, hx⟩
    ·rcases List.mem_cons.1 he with rfl | he
     ·exact ⟨_, List.mem_append.2 (.inr (List.mem_cons_self ..)), hk, List.mem_append.2 (.inl hx)⟩
     ·exact ⟨e, List.mem_append.2 (.inr (List.mem_cons_of_mem _ he)), hk, hx⟩
   ·exact ⟨⟨k', o ++ [s]⟩, by simp, rfl, by simp⟩
theorem cpy_set {α : Type} {xs : List α} {z v : α} {p : Nat} (hp : p ≤ xs.length) : (cpyN (xs ++ [z]) (p + 1) p).set p v = xs.take p ++ v :: xs.drop p := by
 have e0 : (xs ++ [z]).length = xs.length + 1 := by simp
 have e1 : cpyN (xs ++ [z]) (p + 1) p = (xs ++ [z]).take (p + 1) ++ xs.drop p := by
  unfold cpyN
  rw [e0, show Nat.min (xs.length + 1 - p) (xs.length + 1 - (p + 1)) = xs.length - p by
   show min (xs.length + 1 - p) (xs.length + 1 - (p + 1)) = _
   omega]
  rw [List.drop_eq_nil_of_le (show (xs ++ [z]).length ≤ p + 1 + (xs.length - p) by omega), List.append_nil]
  have e3 : (xs.drop p ++ [z]).take (xs.length - p) = xs.drop p := List.take_left' (by rw [List.length_drop])
  rw [List.drop_append_of_le_length hp, e3]
 rw [e1, List.set_append_left _ _ (by rw [List.length_take]; omega)]
 have e2 : (xs ++ [z]).take (p + 1) = xs.take p ++ [(xs ++ [z])[p]'(by omega)] := by
  rw [Y1w (by omega), List.take_append_of_le_length hp]
 rw [e2, List.set_append_right _ _ (by rw [List.length_take]; omega)]
 rw [show p - (xs.take p).length = 0 by rw [List.length_take]; omega]
 simp
end
section
open Go Go.Proofs.YtpfgdjfiimknlaaGreatL
theorem split_at {α : Type} {xs : List α} {p : Nat} (hp : p < xs.length) : xs = xs.take p ++ xs[p] :: xs.drop (p + 1) := by
 rw [← List.drop_eq_getElem_cons hp, List.take_append_drop]
theorem find_key {es : List Y0a} {ks : List Y04} {q : Nat} (hq : q < ks.length) (hl : es.length ≤ 1000000) :
  ∃ b : Int, Y18 (Y0d.l1 (ks.map kc) (es.map ke) (q : Int)) 0 = some b ∧ ∃ p : Nat, b = (p : Int) ∧ p ≤ es.length ∧ (∀ i, (h : i < p) → (h2 : i < es.length) → Y1L es[i].Key ks[q]) ∧ ∀ h : p < es.length, ¬ Y1L es[p].Key ks[q] := by
 have hqm : q < (ks.map kc).length := by rw [List.length_map]; exact hq
 refine Y7N (fun n s => s = (n : Int) ∧ n ≤ es.length ∧ ∀ i, (h : i < n) → (h2 : i < es.length) → Y1L es[i].Key ks[q]) es.length ⟨rfl, Nat.zero_le _, fun i h => absurd h (by omega)⟩ ?_ ?_
 ·rintro n s hn ⟨rfl, _, h⟩
  have hnm : n < (es.map ke).length := by rw [List.length_map]; exact hn
  unfold Y0d.l1
  simp only [Y1r hnm, if_true, Y1g hnm, Y1g hqm, Option.bind_some]
  rw [List.getElem_map, List.getElem_map]
  rw [show (ke es[n]).Key = kc es[n].Key from rfl, Y7c, Option.bind_some]
  unfold Y0d.j7
  by_cases hc : Y1L es[n].Key ks[q]
  ·rw [if_pos (by rw [decide_eq_true_eq, Y2f]; exact hc), Y1f, Y33 hn (by omega)]
   refine .inl ⟨_, rfl, rfl, hn, fun i hi h2 => ?_⟩
   by_cases he : i = n
   ·subst he; exact hc
   ·exact h i (by omega) h2
  ·rw [if_neg (by rw [decide_eq_true_eq, Y2f]; exact hc)]
   exact .inr ⟨_, rfl, n, rfl, by omega, h, fun _ => hc⟩
 ·rintro s ⟨rfl, _, h⟩
  have e0 : (es.map ke).length = es.length := List.length_map _
  unfold Y0d.l1 Y0d.j7
  rw [e0]
  simp only [Y1j, Bool.false_eq_true, if_false]
  exact ⟨_, rfl, es.length, rfl, Nat.le_refl _, h, fun h => absurd h (Nat.lt_irrefl _)⟩
theorem put_key {P : Y04 → List UInt8 → Prop} {objs : List Y0f} {i : Nat} (hi : i < objs.length) {ks : List Y04} {q : Nat} (hq : q < ks.length) (hks : ks.length ≤ 1000) {B : Nat} (hB : B + q ≤ 100000) {es : List Y0a}
  (hx : IsIx P es) (h1 : es.length ≤ B + q) (h2 : ∀ e ∈ es, e.Objects.length ≤ B + q) (hn : ∀ s, P ks[q] s → Op.bytesLess s objs[i].Name = true) :
  ∃ s', Y0d.l2 ⟨objs⟩ (i : Int) (ks.map kc) (es.map ke, (q : Int)) = some (.inl s') ∧ ∃ es' : List Y0a, s' = (es'.map ke, ((q + 1 : Nat) : Int)) ∧ IsIx (fun k s => P k s ∨ (k = ks[q] ∧ s = objs[i].Name)) es' ∧ es'.length ≤ B + (q + 1) ∧ ∀ e ∈ es', e.Objects.length ≤ B + (q + 1) := by
 have hqm : q < (ks.map kc).length := by rw [List.length_map]; exact hq
 have ekq : (ks.map kc)[q] = kc ks[q] := List.getElem_map _
 obtain ⟨_, f1, p, rfl, f2, f3, f4⟩ := find_key hq (es := es) (by omega)
 unfold Y0d.l2
 simp only [Y1r hqm, if_true]
 rw [f1, Option.bind_some]
 have j4 : ∀ (es' : List Y0a) (hp : p < es'.length), es'[p].Objects.length ≤ B + q → Y0d.j4 ⟨objs⟩ (i : Int) (q : Int) (p : Int) (es'.map ke) = some (.inl ((es'.set p ⟨es'[p].Key, es'[p].Objects ++ [objs[i].Name]⟩).map ke, ((q + 1 : Nat) : Int))) := by
  intro es' hp ho
  have hpm : p < (es'.map ke).length := by rw [List.length_map]; exact hp
  unfold Y0d.j4
  rw [Y1g hpm, Option.bind_some, List.getElem_map, show (ke es'[p]).Objects = es'[p].Objects from rfl, Y2R (by rw [List.length_nil]; omega), Option.bind_some, Y1g (show i < (⟨objs⟩ : Y0N).Objects.length from hi), Option.bind_some, List.nil_append, Y2R (by rw [List.length_singleton]; omega), Option.bind_some, Option.bind_some]
  unfold Y0d.j3
  rw [Y1f, Y1f, Y33 hq (by omega), Int.toNat_natCast, List.map_set]
  rfl
 have j5f : ∀ hp : p < es.length, es[p].Key = ks[q] → ∃ s', Y0d.j5 ⟨objs⟩ (i : Int) (ks.map kc) (es.map ke) (q : Int) (p : Int) false = some (.inl s') ∧ ∃ es' : List Y0a, s' = (es'.map ke, ((q + 1 : Nat) : Int)) ∧ IsIx (fun k s => P k s ∨ (k = ks[q] ∧ s = objs[i].Name)) es' ∧ es'.length ≤ B + (q + 1) ∧ ∀ e ∈ es', e.Objects.length ≤ B + (q + 1) := by
  intro hp hk
  unfold Y0d.j5
  rw [if_neg (by simp), j4 es hp (h2 _ (List.getElem_mem hp))]
  refine ⟨_, rfl, _, rfl, ?_, by rw [List.length_set]; omega, fun e he => ?_⟩
  ·have e1 : es.set p ⟨es[p].Key, es[p].Objects ++ [objs[i].Name]⟩ = es.take p ++ ⟨es[p].Key, es[p].Objects ++ [objs[i].Name]⟩ :: es.drop (p + 1) := by
    rw [List.set_eq_take_append_cons_drop, if_pos hp]
   rw [e1, hk]
   refine Y8T (o := es[p].Objects) ?_ hn
   have e2 : (⟨ks[q], es[p].Objects⟩ : Y0a) = es[p] := by rw [← hk]
   rw [e2, ← split_at hp]
   exact hx
  ·rcases List.mem_or_eq_of_mem_set he with he | rfl
   ·have := h2 e he; omega
   ·have := h2 _ (List.getElem_mem hp)
    rw [List.length_append, List.length_singleton]
    omega
 have j5t : (∀ hp : p < es.length, es[p].Key ≠ ks[q]) → ∃ s', Y0d.j5 ⟨objs⟩ (i : Int) (ks.map kc) (es.map ke) (q : Int) (p : Int) true = some (.inl s') ∧ ∃ es' : List Y0a, s' = (es'.map ke, ((q + 1 : Nat) : Int)) ∧ IsIx (fun k s => P k s ∨ (k = ks[q] ∧ s = objs[i].Name)) es' ∧ es'.length ≤ B + (q + 1) ∧ ∀ e ∈ es', e.Objects.length ≤ B + (q + 1) := by
  intro hne
  unfold Y0d.j5
  have em : es.map ke ++ [(⟨(⟨0, 0, []⟩ : Y00), []⟩ : Y06)] = (es ++ [(⟨⟨0, 0, []⟩, []⟩ : Y0a)]).map ke := by rw [List.map_append]; rfl
  rw [if_pos rfl, Y2R (by rw [List.length_map, List.length_singleton]; omega), Option.bind_some, em, Y1f, w64n (by omega)]
  have el : ((es ++ [(⟨⟨0, 0, []⟩, []⟩ : Y0a)]).map ke).length = es.length + 1 := by simp
  rw [if_pos (by rw [el]; omega), if_pos (by rw [el]; omega), Y1f, Y1g hqm, Option.bind_some, Int.toNat_natCast, Int.toNat_natCast]
  have hcl := Y5B ((es ++ [(⟨⟨0, 0, []⟩, []⟩ : Y0a)]).map ke) (p + 1) p (by rw [el]; omega) (by rw [el]; omega)
  rw [Y1g (by rw [hcl, el]; omega), Option.bind_some, Y1f, ekq]
  have e3 : ((cpyN ((es ++ [(⟨⟨0, 0, []⟩, []⟩ : Y0a)]).map ke) (p + 1) p).set p (⟨kc ks[q], []⟩ : Y06)) = (es.take p ++ (⟨ks[q], []⟩ : Y0a) :: es.drop p).map ke := by
   rw [← em, cpy_set (by rw [List.length_map]; exact f2), List.map_append, List.map_cons, List.map_take, List.map_drop]
   rfl
  rw [e3]
  have hlt : (es.take p).length = p := by rw [List.length_take]; omega
  have hpe : p < (es.take p ++ (⟨ks[q], []⟩ : Y0a) :: es.drop p).length := by rw [List.length_append, List.length_cons, hlt]; omega
  have hge : (es.take p ++ (⟨ks[q], []⟩ : Y0a) :: es.drop p)[p] = ⟨ks[q], []⟩ := by
   rw [List.getElem_append_right (by omega)]
   simp [hlt]
  rw [j4 _ hpe (by rw [hge]; exact Nat.zero_le _), hge]
  have e4 : (es.take p ++ (⟨ks[q], []⟩ : Y0a) :: es.drop p).set p ⟨(⟨ks[q], []⟩ : Y0a).Key, (⟨ks[q], []⟩ : Y0a).Objects ++ [objs[i].Name]⟩ = es.take p ++ ⟨ks[q], [objs[i].Name]⟩ :: es.drop p := by
   rw [List.set_append_right _ _ (by omega), hlt, Nat.sub_self]
   rfl
  rw [e4]
  refine ⟨_, rfl, _, rfl, ?_, by rw [List.length_append, List.length_cons, hlt, List.length_drop]; omega, fun e he => ?_⟩
  ·refine Y8S (by rw [List.take_append_drop]; exact hx) (fun a ha => ?_) (fun b hb => ?_)
   ·obtain ⟨r, hr, rfl⟩ := List.getElem_of_mem ha
    rw [List.length_take] at hr
    rw [List.getElem_take]
    exact f3 r (by omega) (by omega)
   ·obtain ⟨r, hr, rfl⟩ := List.getElem_of_mem hb
    rw [List.length_drop] at hr
    rw [List.getElem_drop]
    have hp : p < es.length := by omega
    have c1 : Y1L ks[q] es[p].Key := by
     refine Classical.byContradiction fun hc => hne hp (Y5n (f4 hp) hc)
    by_cases hr0 : r = 0
    ·subst hr0; exact c1
    ·exact Y3a c1 (List.pairwise_iff_getElem.1 hx.srt p (p + r) hp (by omega) (by omega))
  ·rcases List.mem_append.1 he with he | he
   ·have := h2 e (List.mem_of_mem_take he); omega
   ·rcases List.mem_cons.1 he with rfl | he
    ·simp; omega
    ·have := h2 e (List.mem_of_mem_drop he); omega
 unfold Y0d.j6
 have el : (es.map ke).length = es.length := List.length_map _
 by_cases hp : p = es.length
 ·rw [if_pos (by rw [el]; simp [hp])]
  exact j5t fun h => absurd h (by omega)
 ·have hp : p < es.length := by omega
  rw [if_neg (by rw [el]; simp; omega), Y1g (show p < (es.map ke).length by omega), Option.bind_some, Y1g hqm, Option.bind_some, List.getElem_map, ekq]
  by_cases hk : es[p].Key = ks[q]
  ·have e5 : (⟨(ke es[p]).Key.f_Type, (ke es[p]).Key.N, (ke es[p]).Key.S⟩ : Y00) = (⟨(kc ks[q]).f_Type, (kc ks[q]).N, (kc ks[q]).S⟩ : Y00) := by
    show kc es[p].Key = kc ks[q]
    rw [hk]
   rw [decide_eq_true e5]
   exact j5f hp hk
  ·have e5 : ¬ (⟨(ke es[p]).Key.f_Type, (ke es[p]).Key.N, (ke es[p]).Key.S⟩ : Y00) = (⟨(kc ks[q]).f_Type, (kc ks[q]).N, (kc ks[q]).S⟩ : Y00) := fun h => hk (Y8R h)
   rw [decide_eq_false e5]
   exact j5t fun _ => hk
theorem Y8D (f : Y0c) {objs : List Y0f} (h : ∀ o ∈ objs, GO o) (hs : SA ON_ objs) (hl : objs.length ≤ 100) : ∃ es, Y0d f ⟨objs⟩ = some (es.map ke) ∧ IsIx (PB f objs) es := by
 unfold Y0d
 have key : ∃ b : List Y06, Y18 (Y0d.l3 f ⟨objs⟩) ([], 0) = some b ∧ ∃ es, b = es.map ke ∧ IsIx (PB f objs) es := by
  refine Y2L (fun n s => ∃ es, s = (es.map ke, (n : Int)) ∧ IsIx (PB f (objs.take n)) es ∧ es.length ≤ 100 * n ∧ ∀ e ∈ es, e.Objects.length ≤ 100 * n) objs.length ?_ ?_ ?_
  ·exact ⟨[], rfl, ⟨.nil, by simp, by simp, fun k s => by simp [PB]⟩, by simp, by simp⟩
  ·rintro n s hn ⟨es, rfl, hx, h1, h2⟩
   have hg := h _ (List.getElem_mem hn)
   have hkl := Y30 (f := f) hg
   have hksrt := Y5W (f := f) hg
   unfold Y0d.l3
   simp only [Y1r hn, if_true]
   rw [Y1g (show n < (⟨objs⟩ : Y0N).Objects.length from hn), Option.bind_some, rKeys_eq hg, Option.bind_some]
   have inner : ∃ b : List Y06, Y18 (Y0d.l2 ⟨objs⟩ (n : Int) ((Y28 f objs[n]).map kc)) (es.map ke, 0) = some b ∧ ∃ es', b = es'.map ke ∧ IsIx (fun k s => PB f (objs.take n) k s ∨ (s = objs[n].Name ∧ k ∈ Y28 f objs[n])) es' ∧ es'.length ≤ 100 * n + 100 ∧ ∀ e ∈ es', e.Objects.length ≤ 100 * n + 100 := by
    refine Y2L (fun q s => ∃ es', s = (es'.map ke, (q : Int)) ∧ IsIx (fun k s => PB f (objs.take n) k s ∨ (s = objs[n].Name ∧ k ∈ (Y28 f objs[n]).take q)) es' ∧ es'.length ≤ 100 * n + q ∧ ∀ e ∈ es', e.Objects.length ≤ 100 * n + q) (Y28 f objs[n]).length ?_ ?_ ?_
    ·exact ⟨es, rfl, hx.congr fun k s => by simp, by omega, fun e he => by have := h2 e he; omega⟩
    ·rintro q s hq ⟨es', rfl, hx', h1', h2'⟩
     obtain ⟨s', g1, es'', g2, g3, g4, g5⟩ := put_key (objs := objs) hn hq (by omega) (B := 100 * n) (by omega) hx' h1' h2' (by
      intro s hs'
      rcases hs' with ⟨o, ho, rfl, _⟩ | ⟨_, hm⟩
      ·obtain ⟨r, hr, rfl⟩ := List.getElem_of_mem ho
       rw [List.length_take] at hr
       rw [List.getElem_take]
       exact List.pairwise_iff_getElem.1 hs r n (by omega) hn (by omega)
      ·obtain ⟨r, hr, he⟩ := List.getElem_of_mem hm
       rw [List.length_take] at hr
       rw [List.getElem_take] at he
       have := List.pairwise_iff_getElem.1 hksrt r q (by omega) hq (by omega)
       rw [he] at this
       exact absurd this (Y2q _))
     refine ⟨s', g1, es'', g2, g3.congr fun k s => ?_, g4, g5⟩
     rw [Y1w hq, List.mem_append, List.mem_singleton]
     constructor
     ·rintro ((h | ⟨a, b⟩) | ⟨a, b⟩)
      ·exact .inl h
      ·exact .inr ⟨a, .inl b⟩
      ·exact .inr ⟨b, .inr a⟩
     ·rintro (h | ⟨a, b | b⟩)
      ·exact .inl (.inl h)
      ·exact .inl (.inr ⟨a, b⟩)
      ·exact .inr ⟨b, a⟩
    ·rintro s ⟨es', rfl, hx', h1', h2'⟩
     have e0 : ((Y28 f objs[n]).map kc).length = (Y28 f objs[n]).length := List.length_map _
     unfold Y0d.l2
     simp only
     rw [e0]
     simp only [Y1j, Bool.false_eq_true, if_false]
     refine ⟨_, rfl, es', rfl, ?_, by omega, fun e he => by have := h2' e he; omega⟩
     rw [List.take_length] at hx'
     exact hx'
   obtain ⟨b, b1, es', rfl, b3, b4, b5⟩ := inner
   rw [b1, Option.bind_some]
   unfold Y0d.j2
   rw [Y1f, Y33 hn (by omega)]
   refine ⟨_, rfl, es', rfl, b3.congr fun k s => ?_, by omega, fun e he => by have := b5 e he; omega⟩
   rw [Y1w hn]
   unfold PB
   constructor
   ·rintro (⟨o, ho, a, b⟩ | ⟨a, b⟩)
    ·exact ⟨o, List.mem_append.2 (.inl ho), a, b⟩
    ·exact ⟨objs[n], List.mem_append.2 (.inr (by simp)), a.symm, b⟩
   ·rintro ⟨o, ho, a, b⟩
    rcases List.mem_append.1 ho with ho | ho
    ·exact .inl ⟨o, ho, a, b⟩
    ·have : o = objs[n] := by simpa using ho
     rw [this] at a b
     exact .inr ⟨a.symm, b⟩
  ·rintro s ⟨es, rfl, hx, _, _⟩
   unfold Y0d.l3
   simp only [Y1j, Bool.false_eq_true, if_false]
   rw [List.take_length] at hx
   exact ⟨_, rfl, es, rfl, hx⟩
 obtain ⟨b, b1, es, b2, b3⟩ := key
 rw [b1, Option.bind_some]
 exact ⟨es, by rw [b2]; rfl, b3⟩
end
section
open Go Go.Proofs.YtpfgdjfiimknlaaGreatL
theorem Y59 (n k : Int) (h1 : 1 ≤ k) (h2 : k ≤ 4611686018427387904) : ∃ d, Y1p n k = some d ∧ 0 ≤ d ∧ d < k := by
 unfold Y1p
 rw [if_neg (by simp; omega), if_pos (by omega)]
 have e1 : Int.tmod n k < k := Int.tmod_lt_of_pos _ (by omega)
 have e2 : -k < Int.tmod n k := by
  have : Int.tmod (-n) k < k := Int.tmod_lt_of_pos _ (by omega)
  rw [Int.neg_tmod] at this
  omega
 simp only [Y1f]
 rw [w64 (by omega) (by omega), if_pos (by omega)]
 exact ⟨_, rfl, Int.tmod_nonneg _ (by omega), Int.tmod_lt_of_pos _ (by omega)⟩
theorem Y2o (n b : Int) (i : Nat) (h1 : 2 ≤ b) (h2 : b ≤ 16) (hi : i ≤ 100000) : ∃ d, Y0h n b (i : Int) = some d ∧ 0 ≤ d ∧ d < b := by
 obtain ⟨x, hx, hx0, hx1⟩ := Y59 n 1099511627776 (by decide) (by decide)
 unfold Y0h
 rw [hx]
 simp only [Option.bind_some]
 have key : ∃ r, Y18 (Y0h.l1 b (i : Int)) (x, 0) = some r ∧ 0 ≤ r := by
  refine Y2L (fun k s => ∃ y : Int, s = (y, (k : Int)) ∧ 0 ≤ y ∧ y < 1099511627776) i ⟨x, rfl, hx0, hx1⟩ (fun k s hk hI => ?_) (fun s hI => ?_)
  ·obtain ⟨y, rfl, h3, h4⟩ := hI
   simp only [Y0h.l1]
   rw [if_pos (by simpa using hk), if_pos (by omega)]
   have h5 : 0 ≤ Int.tdiv y b := Int.tdiv_nonneg h3 (by omega)
   have h6 : Int.tdiv y b ≤ y := by
    rw [Int.tdiv_eq_ediv_of_nonneg h3]
    exact Int.ediv_le_self _ h3
   simp only [Y1f]
   rw [w64 (x := Int.tdiv y b) (by omega) (by omega), Y33 hk (by omega)]
   exact ⟨_, rfl, _, rfl, h5, by omega⟩
  ·obtain ⟨y, rfl, h3, h4⟩ := hI
   simp only [Y0h.l1]
   rw [if_neg (by simp)]
   exact ⟨_, rfl, h3⟩
 obtain ⟨r, hr, hr0⟩ := key
 rw [hr]
 simp only [Option.bind_some, Y0h.j1]
 rw [if_pos (by omega)]
 exact ⟨_, rfl, Int.tmod_nonneg _ hr0, Int.tmod_lt_of_pos _ (by omega)⟩
theorem Y7f (d : Int) : ∃ s, Y1E d = some s ∧ s.length ≤ 2 ∧ s ≠ [] := by
 unfold Y1E
 obtain ⟨x, hx, h0, h1⟩ := Y59 d 4 (by decide) (by decide)
 rw [hx, Option.bind_some]
 have : x = 0 ∨ x = 1 ∨ x = 2 ∨ x = 3 := by omega
 rcases this with rfl | rfl | rfl | rfl
 ·exact ⟨[97], rfl, by decide, by decide⟩
 ·exact ⟨[98], rfl, by decide, by decide⟩
 ·exact ⟨[99], rfl, by decide, by decide⟩
 ·exact ⟨[120, 49], rfl, by decide, by decide⟩
end
section
open Go Go.Proofs.YtpfgdjfiimknlaaGreatL
theorem Y73 (n : Int) (b : Bool) : ∃ e, Y0X n b = some e ∧ EF e ∧ (b = false → e.Kind ≠ 1) := by
 unfold Y0X
 obtain ⟨d1, e1, _⟩ := Y2o n 4 1 (by decide) (by decide) (by decide)
 obtain ⟨s1, f1, l1, _⟩ := Y7f d1
 obtain ⟨d2, e2, _⟩ := Y2o n 4 2 (by decide) (by decide) (by decide)
 obtain ⟨s2, f2, l2, _⟩ := Y7f d2
 obtain ⟨d3, e3, _⟩ := Y2o n 16 3 (by decide) (by decide) (by decide)
 obtain ⟨d5, e5, _⟩ := Y2o n 4 5 (by decide) (by decide) (by decide)
 obtain ⟨s5, f5, l5, _⟩ := Y7f d5
 obtain ⟨d0, e0, _⟩ := Y2o n 4 0 (by decide) (by decide) (by decide)
 have e1 : Y0h n 4 1 = some d1 := e1
 have e2 : Y0h n 4 2 = some d2 := e2
 have e3 : Y0h n 16 3 = some d3 := e3
 have e5 : Y0h n 4 5 = some d5 := e5
 have e0 : Y0h n 4 0 = some d0 := e0
 simp only [e1, f1, e2, f2, e3, e5, f5, e0, Option.bind_some, Y1f, Y0X.j1]
 have m1 : s1.length ≤ 1000 := by omega
 have m2 : s2.length ≤ 1000 := by omega
 have m5 : s5.length ≤ 1000 := by omega
 cases b with
 | true => exact ⟨_, rfl, ⟨m1, m2, m5⟩, by simp⟩
 | false =>
  simp only [Bool.false_eq_true, if_false]
  split
  ·exact ⟨_, rfl, ⟨m1, m2, by simp⟩, by simp⟩
  ·split
   ·exact ⟨_, rfl, ⟨m1, m2, by simp⟩, by simp⟩
   ·split
    ·exact ⟨_, rfl, ⟨m1, m2, m5⟩, by simp⟩
    ·exact ⟨_, rfl, ⟨m1, m2, by simp⟩, by simp⟩
structure UOK (u : Y0l) : Prop where
 len : u.Effects.length ≤ 4
 ef : ∀ e ∈ u.Effects, EF e
 one : u.Effects.length ≤ 1 ∨ ∀ e ∈ u.Effects, e.Kind ≠ 1
theorem Y9a (c s n : Int) : ∃ u, Y15 c s n = some u ∧ u.Client = c ∧ u.Seq = s ∧ UOK u := by
 unfold Y15
 obtain ⟨d8, e8, _⟩ := Y2o n 3 8 (by decide) (by decide) (by decide)
 obtain ⟨d4, e4, _⟩ := Y2o n 16 4 (by decide) (by decide) (by decide)
 obtain ⟨ef, hef, hE, _⟩ := Y73 n true
 have e8 : Y0h n 3 8 = some d8 := e8
 have e4 : Y0h n 16 4 = some d4 := e4
 simp only [e8, Option.bind_some]
 split
 ·simp only [e4, hef, Option.bind_some]
  refine ⟨_, rfl, rfl, rfl, ⟨by simp, fun e he => ?_, .inl (by simp)⟩⟩
  simp at he
  subst he
  exact hE
 ·obtain ⟨d9, e9, h90, h91⟩ := Y2o n 3 9 (by decide) (by decide) (by decide)
  have e9 : Y0h n 3 9 = some d9 := e9
  have key : ∃ l, Y18 (Y15.l1 n) (0, []) = some l ∧ (l.length ≤ 4 ∧ ∀ e ∈ l, EF e ∧ e.Kind ≠ 1) := by
   refine Y7M (fun s : Int × List Y0y => 0 ≤ s.1 ∧ s.1 ≤ 3 ∧ s.2.length ≤ s.1.toNat ∧ ∀ e ∈ s.2, EF e ∧ e.Kind ≠ 1) (fun s => (4 - s.1).toNat) ⟨by decide, by decide, by simp, by simp⟩ ?_
   rintro ⟨i, l⟩ ⟨h0, h1, h2, h3⟩
   simp only at h0 h1 h2 h3
   unfold Y15.l1
   simp only [e9, Option.bind_some]
   by_cases hc : i ≤ d9
   ·rw [if_pos (by simpa using hc)]
    obtain ⟨x, hx, hx0, hx1⟩ := Y59 n 1099511627776 (by decide) (by decide)
    simp only [hx, Option.bind_some, Y1f]
    rw [w64 (x := i + 1) (by omega) (by omega), if_pos (by omega)]
    obtain ⟨e, he, hE, hk⟩ := Y73 (IntKind.i64.wrap (Int.tdiv x (i + 1))) false
    rw [he, Option.bind_some, Y2R (by simp only [List.length_singleton]; omega), Option.bind_some]
    refine .inl ⟨_, rfl, ⟨by omega, by omega, ?_, fun q hq => ?_⟩, by simp only; omega⟩
    ·simp only [List.length_append, List.length_singleton]; omega
    ·rcases List.mem_append.1 hq with hq | hq
     ·exact h3 q hq
     ·simp at hq; subst hq; exact ⟨hE, hk rfl⟩
   ·rw [if_neg (by simpa using hc)]
    exact .inr ⟨l, rfl, by omega, h3⟩
  obtain ⟨l, hl, h1, h2⟩ := key
  rw [hl, Option.bind_some]
  exact ⟨_, rfl, rfl, rfl, ⟨h1, fun e he => (h2 e he).1, .inr fun e he => (h2 e he).2⟩⟩
def ult (a b : Y0l) : Prop := a.Client < b.Client ∨ a.Client = b.Client ∧ a.Seq < b.Seq
structure US (c q : Int) (s : List Y0l) : Prop where
 ok : ∀ u ∈ s, UOK u
 cl : ∀ u ∈ s, 101 ≤ u.Client ∧ (u.Client < 101 + c ∨ u.Client = 101 + c ∧ u.Seq ≤ q)
 sq : ∀ u ∈ s, 1 ≤ u.Seq ∧ u.Seq ≤ 8
 asc : s.Pairwise ult
 len : (s.length : Int) ≤ 8 * c + q
theorem Y5Y (l : List Int) : ∃ s, Y0k l = some s ∧ US 3 0 s := by
 unfold Y0k
 have key : ∃ s, Y18 (Y0k.l2 l) ([], 0) = some s ∧ US 3 0 s := by
  refine Y2L (I := fun k s => s.2 = (k : Int) ∧ US (k : Int) 0 s.1) 3 ⟨rfl, ⟨by simp, by simp, by simp, List.Pairwise.nil, by simp⟩⟩ ?_ ?_
  ·rintro k ⟨s, c⟩ hk ⟨hc, hU⟩
   simp only at hc hU
   subst hc
   unfold Y0k.l2
   simp only
   rw [if_pos (by rw [decide_eq_true_eq]; omega)]
   have inner : ∃ s', Y18 (Y0k.l1 l (k : Int)) (s, 0, 0) = some s' ∧ US ((k : Int) + 1) 0 s' := by
    refine Y7M (fun t : List Y0l × Int × Int => 0 ≤ t.2.2 ∧ t.2.2 ≤ 24 ∧ 0 ≤ t.2.1 ∧ t.2.1 ≤ 8 ∧ US (k : Int) t.2.1 t.1) (fun t => (25 - t.2.2).toNat) ⟨Int.le_refl 0, (by decide : (0 : Int) ≤ 24), Int.le_refl 0, (by decide : (0 : Int) ≤ 8), hU⟩ ?_
    rintro ⟨s, q, i⟩ ⟨h0, h1, h2, h3, hU⟩
    simp only at h0 h1 h2 h3 hU
    have stop : US ((k : Int) + 1) 0 s := ⟨hU.ok, fun u hu => ⟨(hU.cl u hu).1, .inl (by rcases (hU.cl u hu).2 with h | h <;> omega)⟩, hU.sq, hU.asc, by have := hU.len; omega⟩
    unfold Y0k.l1
    simp only
    have next : ∀ (s' : List Y0l) (q' : Int), 0 ≤ q' → q' ≤ 8 → US (k : Int) q' s' → i < 24 → (∃ t, Y0k.j3 i s' q' = some (.inl t) ∧ (0 ≤ t.2.2 ∧ t.2.2 ≤ 24 ∧ 0 ≤ t.2.1 ∧ t.2.1 ≤ 8 ∧ US (k : Int) t.2.1 t.1) ∧ (25 - t.2.2).toNat < (25 - i).toNat) := by
     intro s' q' hq0 hq1 hU' hi
     unfold Y0k.j3
     rw [Y1f, w64 (x := i + 1) (by omega) (by omega)]
     exact ⟨_, rfl, ⟨by simp only; omega, by simp only; omega, hq0, hq1, hU'⟩, by simp only; omega⟩
    by_cases hi1 : i < (l.length : Int)
    ·rw [if_pos (by simpa using hi1)]
     by_cases hi2 : i < 24
     ·rw [show decide (i < 24) = true by simpa using hi2]
      unfold Y0k.j5
      rw [if_pos rfl]
      obtain ⟨j, rfl⟩ : ∃ j : Nat, i = j := ⟨i.toNat, by omega⟩
      have hj : j < l.length := by omega
      rw [Y1g hj, Option.bind_some]
      obtain ⟨d, hd, hd0, hd1⟩ := Y2o l[j] 3 0 (by decide) (by decide) (by decide)
      have hd : Y0h l[j] 3 0 = some d := hd
      rw [hd, Option.bind_some]
      have skip := next s q h2 h3 hU hi2
      have j4f : Y0k.j4 l (k : Int) s q (j : Int) false = Y0k.j3 (j : Int) s q := by
       unfold Y0k.j4
       rw [if_neg (by simp)]
      split
      ·by_cases hq : q < 8
       ·rw [show decide (q < 8) = true by simpa using hq]
        unfold Y0k.j4
        rw [if_pos rfl, Y1f, Y1f, Y1g hj, Option.bind_some]
        obtain ⟨x, hx, hx0, hx1⟩ := Y59 l[j] 1099511627776 (by decide) (by decide)
        rw [hx, Option.bind_some, Y1f]
        rw [w64 (x := 101 + (k : Int)) (by omega) (by omega), w64 (x := q + 1) (by omega) (by omega)]
        obtain ⟨u, hu, huc, hus, hok⟩ := Y9a (101 + (k : Int)) (q + 1) (IntKind.i64.wrap (Int.tdiv x 3))
        have hlen := hU.len
        rw [hu, Option.bind_some, Y2R (by simp only [List.length_singleton]; omega), Option.bind_some]
        refine .inl (next _ (q + 1) (by omega) (by omega) ?_ hi2)
        have eu : (⟨u.Client, u.Seq, u.Tag, u.Effects⟩ : Y0l) = u := rfl
        rw [eu]
        refine ⟨fun v hv => ?_, fun v hv => ?_, fun v hv => ?_, ?_, by simp only [List.length_append, List.length_singleton]; omega⟩
        ·rcases List.mem_append.1 hv with hv | hv
         ·exact hU.ok v hv
         ·simp at hv; subst hv; exact hok
        ·rcases List.mem_append.1 hv with hv | hv
         ·obtain ⟨a, b⟩ := hU.cl v hv
          exact ⟨a, by rcases b with b | b <;> omega⟩
         ·simp at hv; subst hv; rw [huc, hus]; omega
        ·rcases List.mem_append.1 hv with hv | hv
         ·exact hU.sq v hv
         ·simp at hv; subst hv; rw [hus]; omega
        ·rw [List.pairwise_append]
         refine ⟨hU.asc, List.pairwise_singleton _ _, fun a ha b hb => ?_⟩
         simp at hb; subst hb
         unfold ult
         rw [huc, hus]
         rcases (hU.cl a ha).2 with h | h <;> omega
       ·rw [show decide (q < 8) = false by simpa using hq, j4f]
        exact .inl skip
      ·rw [j4f]
       exact .inl skip
     ·rw [show decide (i < 24) = false by simpa using hi2]
      exact .inr ⟨s, rfl, stop⟩
    ·rw [if_neg (by simpa using hi1)]
     exact .inr ⟨s, rfl, stop⟩
   obtain ⟨s', e1, e2⟩ := inner
   rw [e1, Option.bind_some]
   unfold Y0k.j2
   rw [Y1f, w64n (by omega)]
   refine ⟨_, rfl, rfl, ?_⟩
   have : ((k + 1 : Nat) : Int) = (k : Int) + 1 := by omega
   rw [this]
   exact e2
  ·rintro ⟨s, c⟩ ⟨hc, hU⟩
   simp only at hc hU
   subst hc
   exact ⟨s, rfl, hU⟩
 obtain ⟨s, e1, e2⟩ := key
 rw [e1]
 exact ⟨s, rfl, e2⟩
theorem US_effN {c q : Int} {s : List Y0l} (h : US c q s) : effN s ≤ 4 * s.length := by
 have : ∀ l : List Y0l, (∀ u ∈ l, UOK u) → effN l ≤ 4 * l.length := by
  intro l
  induction l with
  | nil => intro _; exact Nat.zero_le _
  | cons u l ih =>
   intro h
   have h1 := (h u (by simp)).len
   have h2 := ih fun v hv => h v (by simp [hv])
   unfold effN at h2 ⊢
   rw [List.map_cons, List.sum_cons, List.length_cons]
   omega
 exact this s h.ok
end
section
open Go Go.Proofs.YtpfgdjfiimknlaaGreatL
structure RG (es : List Y0a) (lo hi : Y04) (r : List (List UInt8)) : Prop where
 asc : Asc r
 len : r.length ≤ 100000000
 mem : ∀ x, x ∈ r ↔ ∃ e ∈ es, ¬ Y1L e.Key lo ∧ ¬ Y1L hi e.Key ∧ x ∈ e.Objects
structure EB (es : List Y0a) : Prop where
 len : es.length ≤ 10000
 olen : ∀ e ∈ es, e.Objects.length ≤ 10000
theorem GX.eb {P : Y04 → List UInt8 → Prop} {es : List Y0a} (h : GX P es) : EB es := ⟨h.len, h.olen⟩
theorem Y81 {f : Y0c} {es : List Y0a} (hb : EB es) (lo hi : Y04) : ∃ r, Y0J ⟨f, es⟩ lo hi = some r ∧ RG es lo hi r := by
 unfold Y0J
 have hlen := hb.len
 have key : ∃ b : List (List UInt8), Y18 (Y0J.l1 ⟨f, es⟩ lo hi) ([], 0) = some b ∧ b.length ≤ 100000000 ∧ ∀ x, x ∈ b ↔ ∃ e ∈ es, ¬ Y1L e.Key lo ∧ ¬ Y1L hi e.Key ∧ x ∈ e.Objects := by
  refine Y2L (fun n s => s.2 = (n : Int) ∧ s.1.length ≤ 10000 * n ∧ ∀ x, x ∈ s.1 ↔ ∃ e ∈ es.take n, ¬ Y1L e.Key lo ∧ ¬ Y1L hi e.Key ∧ x ∈ e.Objects) es.length ⟨rfl, Nat.le_refl _, by simp⟩ ?_ ?_
  ·rintro n ⟨r, i⟩ hn ⟨hi', h1, h2⟩
   simp only at hi' h1 h2
   subst hi'
   have ho := hb.olen _ (List.getElem_mem hn)
   unfold Y0J.l1
   simp only [Y1r hn, if_true, Y1g hn, Option.bind_some, Y8w]
   have tk : ∀ x, (∃ e ∈ es.take (n + 1), ¬ Y1L e.Key lo ∧ ¬ Y1L hi e.Key ∧ x ∈ e.Objects) ↔ (x ∈ r ∨ (¬ Y1L es[n].Key lo ∧ ¬ Y1L hi es[n].Key ∧ x ∈ es[n].Objects)) := by
    intro x
    rw [Y1w hn, h2]
    constructor
    ·rintro ⟨e, he, h⟩
     rcases List.mem_append.1 he with he | he
     ·exact .inl ⟨e, he, h⟩
     ·have : e = es[n] := by simpa using he
      rw [this] at h
      exact .inr h
    ·rintro (⟨e, he, h⟩ | h)
     ·exact ⟨e, List.mem_append.2 (.inl he), h⟩
     ·exact ⟨es[n], List.mem_append.2 (.inr (by simp)), h⟩
   have skip : (¬ (¬ Y1L es[n].Key lo ∧ ¬ Y1L hi es[n].Key)) → ∃ s', Y0J.j3 r (n : Int) es[n] false = some (.inl s') ∧ s'.2 = ((n + 1 : Nat) : Int) ∧ s'.1.length ≤ 10000 * (n + 1) ∧ ∀ x, x ∈ s'.1 ↔ ∃ e ∈ es.take (n + 1), ¬ Y1L e.Key lo ∧ ¬ Y1L hi e.Key ∧ x ∈ e.Objects := by
    intro hc
    unfold Y0J.j3 Y0J.j2
    rw [if_neg (by simp), Y1f, Y33 hn (by omega)]
    refine ⟨_, rfl, rfl, by simp only; omega, fun x => ?_⟩
    rw [tk]
    constructor
    ·exact .inl
    ·rintro (h | h)
     ·exact h
     ·exact absurd ⟨h.1, h.2.1⟩ hc
   by_cases c1 : Y1L es[n].Key lo
   ·rw [if_neg (by rw [decide_eq_true_eq, Y4r]; exact fun h => h c1)]
    exact skip fun h => h.1 c1
   ·rw [if_pos (by rw [decide_eq_true_eq, Y4r]; exact c1)]
    by_cases c2 : Y1L hi es[n].Key
    ·rw [decide_eq_false (by rw [Y4r]; exact fun h => h c2)]
     exact skip fun h => h.2 c2
    ·rw [decide_eq_true (by rw [Y4r]; exact c2)]
     unfold Y0J.j3 Y0J.j2
     rw [if_pos rfl, Y2R (by omega), Option.bind_some, Y1f, Y33 hn (by omega)]
     refine ⟨_, rfl, rfl, by simp only [List.length_append]; omega, fun x => ?_⟩
     rw [tk, List.mem_append]
     constructor
     ·rintro (h | h)
      ·exact .inl h
      ·exact .inr ⟨c1, c2, h⟩
     ·rintro (h | h)
      ·exact .inl h
      ·exact .inr h.2.2
  ·rintro ⟨r, i⟩ ⟨hi', h1, h2⟩
   simp only at hi' h1 h2
   subst hi'
   unfold Y0J.l1
   simp only [Y1j, Bool.false_eq_true, if_false]
   rw [List.take_length] at h2
   exact ⟨r, rfl, by omega, h2⟩
 obtain ⟨b, b1, b2, b3⟩ := key
 rw [b1, Option.bind_some]
 unfold Y0J.j1
 rw [Y4U (by omega), Option.bind_some]
 exact ⟨_, rfl, Y7Z b, by have := Y5F b; omega, fun x => by rw [Y58, b3]⟩
theorem Y6X {f : Y0c} {es : List Y0a} (hb : EB es) (k : Y04) : ∃ r, Y21 ⟨f, es⟩ k = some r ∧ RG es k k r := by
 unfold Y21
 obtain ⟨r, h1, h2⟩ := Y81 (f := f) hb k k
 rw [h1, Option.bind_some]
 exact ⟨r, rfl, h2⟩
theorem RG.look {es : List Y0a} {k : Y04} {r : List (List UInt8)} (h : RG es k k r) (x : List UInt8) : x ∈ r ↔ ∃ e ∈ es, e.Key = k ∧ x ∈ e.Objects := by
 rw [h.mem]
 constructor
 ·rintro ⟨e, he, h1, h2, h3⟩
  exact ⟨e, he, Y5n h1 h2, h3⟩
 ·rintro ⟨e, he, rfl, h3⟩
  exact ⟨e, he, Y2q _, Y2q _, h3⟩
theorem idx_ex {α : Type} {l : List α} {d : Int} (h0 : 0 ≤ d) (h1 : d < l.length) : ∃ x, idx l d = some x := by
 obtain ⟨k, rfl⟩ : ∃ k : Nat, d = k := ⟨d.toNat, by omega⟩
 exact ⟨_, Y1g (show k < l.length by omega)⟩
theorem Y7V (n : Int) : ∃ f, Y0V n = some f := by
 unfold Y0V
 obtain ⟨d, e1, a1, a2⟩ := Y2o n 5 0 (by decide) (by decide) (by decide)
 have e1 : Y0h n 5 0 = some d := e1
 rw [e1, Option.bind_some]
 obtain ⟨x, e2⟩ := idx_ex (l := ([([97] : List UInt8), ([98] : List UInt8), ([99] : List UInt8), ([120, 49] : List UInt8), ([110, 111, 110, 101] : List UInt8)])) a1 (by simpa using a2)
 rw [e2, Option.bind_some]
 obtain ⟨d2, e3, b1, b2⟩ := Y2o n 5 1 (by decide) (by decide) (by decide)
 have e3 : Y0h n 5 1 = some d2 := e3
 rw [e3, Option.bind_some, Y1f]
 obtain ⟨d3, e4, c1, c2⟩ := Y2o n 3 4 (by decide) (by decide) (by decide)
 have e4 : Y0h n 3 4 = some d3 := e4
 rw [e4, Option.bind_some]
 obtain ⟨d5, e7, g1, g2⟩ := Y2o n 2 8 (by decide) (by decide) (by decide)
 have e7 : Y0h n 2 8 = some d5 := e7
 have j2 : ∀ y, ∃ f, Y0V.j2 n x y = some f := by
  intro y
  unfold Y0V.j2
  split
  ·rw [e7, Option.bind_some, Y1f]
   exact ⟨_, rfl⟩
  ·exact ⟨_, rfl⟩
 split
 ·obtain ⟨d4, e5, f1, f2⟩ := Y2o n 2 6 (by decide) (by decide) (by decide)
  have e5 : Y0h n 2 6 = some d4 := e5
  rw [e5, Option.bind_some]
  obtain ⟨y, e6⟩ := idx_ex (l := [(1 : Int), 4]) f1 (by simpa using f2)
  rw [e6, Option.bind_some]
  exact j2 y
 ·exact j2 _
end
section
open Go Go.Proofs.YtpfgdjfiimknlaaGreatL
theorem Y6x {s : List Y0l} (h : US 3 0 s) : Y1X s = some ⟨Y5L s []⟩ ∧ GD 100 (Y5L s []) := by
 have h1 := h.len
 have h2 := US_effN h
 obtain ⟨a, b⟩ := Fold_eq (s := s) (fun u hu => (h.ok u hu).ef) (by omega) (by omega)
 exact ⟨a, b.mono (by omega)⟩
end
end Go.Proofs.YtpfgdjfiimknlaaGreat
