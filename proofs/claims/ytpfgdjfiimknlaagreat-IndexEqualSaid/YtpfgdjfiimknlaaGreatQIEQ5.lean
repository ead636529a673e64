/- What the row leans on, as few texts. -/
import Derived.Test.YtpfgdjfiimknlaaGreatQIEQ2
import Derived.Test.YtpfgdjfiimknlaaGreatQIEQ3
import Derived.Test.YtpfgdjfiimknlaaGreatQIEQ1
import Derived.Test.YtpfgdjfiimknlaaGreatQIEQ4
set_option linter.unusedVariables false
set_option linter.unusedSimpArgs false
namespace Go.Proofs.YtpfgdjfiimknlaaGreat
section
open Go Go.RowKit Go.Proofs.YtpfgdjfiimknlaaGreatL
set_option maxRecDepth 100000
set_option maxHeartbeats 4000000
theorem Y0F.calls {ok : Nat → Prop} {w0 : World} {x1 : List (List UInt8)} {x4 : List (List UInt8)} {a2 : Option Addr} {c3 : Nat} {a5 : Option Addr} {c6 : Nat} {r : Bool} (hf : Y0F x1 x4 = some r) (i0 : (vl (Y0b tStr) x1 (.slice a2 x1.length c3)).holds ok w0) (i1 : (vl (Y0b tStr) x4 (.slice a5 x4.length c6)).holds ok w0) :
  Calls Tryz.prog 21 #[.slice a2 x1.length c3, .slice a5 x4.length c6] w0 fun e w' => ∃ v, e = .returned v ∧ ∃ y : Unit, v = .bool r ∧ St ok (bz w0) w' [] [] := by
 unfold Y0F at hf
 refine Y0t (fn := Tryz.f21) (N := 26) Tryz.func21 rfl Tryz.ntmps21 rfl ?_
 have hs : St ok (bz w0) w0 [vl (Y0b tStr) x1 (.slice a2 x1.length c3), vl (Y0b tStr) x4 (.slice a5 x4.length c6)] [] := St.init (All.cons i0 (All.cons i1 All.nil))
 clear i0 i1
 refine W.seqK fun K7 hK7 => ?_
 refine W.region ?_
 refine WL.assign (v := .bool false) rfl ?_
 refine WL.nil ?_
 refine hK7 _ _ ?_
 refine W.seqK fun K8 hK8 => ?_
 refine W.seqK fun K9 hK9 => ?_
 refine W.region ?_
 refine WL.move (v := .slice a2 x1.length c3) rfl ?_
 refine WL.len (v := .slice a2 x1.length c3) rfl (Y10 UN56) ?_
 refine WL.move (v := .slice a5 x4.length c6) rfl ?_
 refine WL.len (v := .slice a5 x4.length c6) rfl (Y10 UN56) ?_
 refine WL.bin (v := .bool ((x1.length : Int) != (x4.length : Int))) rfl rfl (Y48 _ _ _) ?_
 refine WL.nil ?_
 refine hK9 _ _ ?_
 rcases iteE hf with ⟨hc10, hf⟩ | ⟨hc10, hf⟩
 {
 refine W.cond_true (Y02 rfl hc10) ?_
 refine W.seqK fun K11 hK11 => ?_
 refine W.region ?_
 refine WL.assign (v := .bool false) rfl ?_
 refine WL.nil ?_
 refine hK11 _ _ ?_
 refine W.ret ?_
 have hr := Option.some.inj hf; subst hr
 exact ⟨_, Y0e rfl rfl, (), rfl, (hs.mask []).pick []⟩ }
 {
 refine W.cond_false (Y02 rfl hc10) ?_
 refine W.skip ?_
 refine hK8 _ _ ?_
 refine W.seqK fun K12 hK12 => ?_
 have Jk14 : ∀  (ρ : Env) (w : World), St ok (bz w0) w [] [] → Y0F.j1 = some r → K12 ρ w := by
  intro  ρ w  hs hf
  refine hK12 _ _ ?_
  unfold Y0F.j1 at hf
  refine W.seqK fun K15 hK15 => ?_
  refine W.region ?_
  refine WL.assign (v := .bool true) rfl ?_
  refine WL.nil ?_
  refine hK15 _ _ ?_
  refine W.ret ?_
  have hr := Option.some.inj hf; subst hr
  exact ⟨_, Y0e rfl rfl, (), rfl, (hs.mask []).pick []⟩
 refine W.seqK fun K16 hK16 => ?_
 refine W.region ?_
 refine WL.assign (v := .int .i64 0) rfl ?_
 refine WL.nil ?_
 refine hK16 _ _ ?_
 refine W.block ?_
 obtain ⟨bs19, hbs19, hfs19⟩ := Y0s hf
 refine W.loop hbs19 (fun s ρ w => match s with | x18 => ρ 0 = .slice a2 x1.length c3 ∧ ρ 1 = .slice a5 x4.length c6 ∧ ρ 5 = .int .i64 x18 ∧ St ok (bz w0) w [vl (Y0b tStr) x1 (.slice a2 x1.length c3), vl (Y0b tStr) x4 (.slice a5 x4.length c6)] []) ⟨rfl, rfl, rfl, (hs.mask []).pick [0, 1]⟩ ?_
 intro x18 ρ w os19 hI hf hbbs19
 obtain ⟨h17_0, h17_1, h17_5, hs⟩ := hI
 unfold Y0F.l1 at hf
 refine W.seqK fun K20 hK20 => ?_
 refine W.seqK fun K21 hK21 => ?_
 refine W.region ?_
 refine WL.move (v := .int .i64 x18) h17_5 ?_
 refine WL.move (v := .slice a2 x1.length c3) h17_0 ?_
 refine WL.len (v := .slice a2 x1.length c3) rfl (Y10 UN56) ?_
 refine WL.bin (v := .bool (decide (x18 < (x1.length : Int)))) rfl rfl (Y1n _ _ _) ?_
 refine WL.nil ?_
 refine hK21 _ _ ?_
 rcases iteE hf with ⟨hc22, hf⟩ | ⟨hc22, hf⟩
 {
 refine W.cond_true (Y02 rfl hc22) ?_
 refine W.skip ?_
 refine hK20 _ _ ?_
 refine W.seqK fun K23 hK23 => ?_
 refine W.block ?_
 refine W.seqK fun K24 hK24 => ?_
 obtain ⟨x25, hxx25, hf⟩ := Y0s hf
 obtain ⟨x28, hxx28, hf⟩ := Y0s hf
 refine W.any (by kernel_rfl) 9 0 [true, true, true, true, true, true, true, true, true] rfl rfl (poAt [pv (.slice a2 x1.length c3), pv (.int .i64 x18), pq (fun y : Addr => .pointer (some y)) (fun v => [pl tStr x25 (adOf v)]) (fun v => []), pv (bstr x25), pv (.slice a5 x4.length c6), pv (.int .i64 x18), pq (fun y : Addr => .pointer (some y)) (fun v => [pl tStr x28 (adOf v)]) (fun v => []), pv (bstr x28), pv (.bool (x25 != x28))]) (Λ := []) hs (by kernel_rfl) (by kernel_rfl) (by kernel_rfl) ⟨⟨⟨⟨⟨⟨⟨⟨⟨trivial, ?_⟩, ?_⟩, ?_⟩, ?_⟩, ?_⟩, ?_⟩, ?_⟩, ?_⟩, ?_⟩ ?_
 {
 intro ρ w Γx Λx hs hu hp
 refine WL.move (v := .slice a2 x1.length c3) ((hu 0 rfl).trans h17_0) ?_
 exact WL.nil ⟨rfl, _, rfl, rfl, hs.cutG 0 0⟩ }
 {
 intro ρ w Γx Λx hs hu hp
 refine WL.move (v := .int .i64 x18) ((hu 5 rfl).trans h17_5) ?_
 exact WL.nil ⟨rfl, _, rfl, rfl, hs.cutG 0 0⟩ }
 {
 intro ρ w Γx Λx hs hu hp
 have e31 : ρ 17 = .slice a2 x1.length c3 := (hp 0 rfl).1
 have e32 : ρ 18 = .int .i64 x18 := (hp 1 rfl).1
 refine WL.indexAddr hs (Γx.length + 0) (Y0q rfl) UN56 TI9 e31 e32 hxx25 (fun ad26 hs => ?_)
 have hs := hs.add (it := pl tStr x25 ad26) fun ok hA => hA.get 0 rfl
 exact WL.nil ⟨rfl, _, rfl, ⟨ad26, rfl⟩, hs.cutG 1 1⟩ }
 {
 intro ρ w Γx Λx hs hu hp
 obtain ⟨⟨ad33, e34r⟩, hm35⟩ := hp 2 rfl
 have e34 : ρ 19 = .pointer (some ad33) := e34r
 rw [e34r] at hm35
 have hs := hs.memo1 (it := pl tStr x25 ad33) (List.mem_append.2 (.inl (hm35 _ (List.mem_of_getElem? (i := 0) rfl))))
 refine WL.loadP hs 0 rfl TI9 (.inr rfl) e34 (fun v27 hs => ?_)
 obtain rfl := hs.str 0 rfl
 exact WL.nil ⟨rfl, _, rfl, rfl, hs.cutG 0 2⟩ }
 {
 intro ρ w Γx Λx hs hu hp
 refine WL.move (v := .slice a5 x4.length c6) ((hu 1 rfl).trans h17_1) ?_
 exact WL.nil ⟨rfl, _, rfl, rfl, hs.cutG 0 0⟩ }
 {
 intro ρ w Γx Λx hs hu hp
 refine WL.move (v := .int .i64 x18) ((hu 5 rfl).trans h17_5) ?_
 exact WL.nil ⟨rfl, _, rfl, rfl, hs.cutG 0 0⟩ }
 {
 intro ρ w Γx Λx hs hu hp
 have e36 : ρ 21 = .slice a5 x4.length c6 := (hp 4 rfl).1
 have e37 : ρ 22 = .int .i64 x18 := (hp 5 rfl).1
 refine WL.indexAddr hs (Γx.length + 1) (Y0q rfl) UN56 TI9 e36 e37 hxx28 (fun ad29 hs => ?_)
 have hs := hs.add (it := pl tStr x28 ad29) fun ok hA => hA.get 0 rfl
 exact WL.nil ⟨rfl, _, rfl, ⟨ad29, rfl⟩, hs.cutG 1 1⟩ }
 {
 intro ρ w Γx Λx hs hu hp
 obtain ⟨⟨ad38, e39r⟩, hm40⟩ := hp 6 rfl
 have e39 : ρ 23 = .pointer (some ad38) := e39r
 rw [e39r] at hm40
 have hs := hs.memo1 (it := pl tStr x28 ad38) (List.mem_append.2 (.inl (hm40 _ (List.mem_of_getElem? (i := 0) rfl))))
 refine WL.loadP hs 0 rfl TI9 (.inr rfl) e39 (fun v30 hs => ?_)
 obtain rfl := hs.str 0 rfl
 exact WL.nil ⟨rfl, _, rfl, rfl, hs.cutG 0 2⟩ }
 {
 intro ρ w Γx Λx hs hu hp
 have e41 : ρ 20 = bstr x25 := (hp 3 rfl).1
 have e42 : ρ 24 = bstr x28 := (hp 7 rfl).1
 refine WL.binS (v := .bool (x25 != x28)) e41 e42 (Y6t _ _) ?_
 exact WL.nil ⟨rfl, _, rfl, rfl, hs.cutG 0 0⟩ }
 {
 intro ρ w hs hu43 hp
 obtain ⟨⟨⟨⟨⟨⟨⟨⟨⟨_, hp0_⟩, hp1_⟩, hp2_⟩, hp3_⟩, hp4_⟩, hp5_⟩, hp6_⟩, hp7_⟩, hp8_⟩ := hp
 have hs : St ok (bz w0) w [pl tStr x28 (adOf (ρ 23)), pl tStr x25 (adOf (ρ 19)), vl (Y0b tStr) x1 (.slice a2 x1.length c3), vl (Y0b tStr) x4 (.slice a5 x4.length c6)] [] := hs
 have e44 : ρ 25 = .bool (x25 != x28) := hp8_
 have e45 : ρ 24 = bstr x28 := hp7_
 obtain ⟨ad46, e47⟩ := hp6_
 have e47 : ρ 23 = .pointer (some ad46) := e47
 try rw [e47] at hs
 have e48 : ρ 22 = .int .i64 x18 := hp5_
 have e49 : ρ 21 = .slice a5 x4.length c6 := hp4_
 have e50 : ρ 20 = bstr x25 := hp3_
 obtain ⟨ad51, e52⟩ := hp2_
 have e52 : ρ 19 = .pointer (some ad51) := e52
 try rw [e52] at hs
 have e53 : ρ 18 = .int .i64 x18 := hp1_
 have e54 : ρ 17 = .slice a2 x1.length c3 := hp0_
 refine WA.done (by kernel_rfl) ?_
 refine hK24 _ _ ?_
 rcases iteE hf with ⟨hc55, hf⟩ | ⟨hc55, hf⟩
 {
 refine W.cond_true (Y02 e44 hc55) ?_
 refine W.seqK fun K56 hK56 => ?_
 refine W.region ?_
 refine WL.assign (v := .bool false) rfl ?_
 refine WL.nil ?_
 refine hK56 _ _ ?_
 refine W.ret ?_
 have hr := Option.some.inj hf; subst hr
 have hr := hbbs19 _ rfl; subst hr
 have hf := hfs19
 have hr := Option.some.inj hf; subst hr
 exact ⟨_, Y0e rfl rfl, (), rfl, (hs.mask []).pick []⟩ }
 {
 refine W.cond_false (Y02 e44 hc55) ?_
 refine W.skip ?_
 refine hK23 _ _ ?_
 refine W.region ?_
 refine WL.move (v := .int .i64 x18) ((hu43 5 rfl).trans h17_5) ?_
 obtain ⟨x57, ex57, hf⟩ := letE hf
 refine WL.bin (v := .int .i64 x57) rfl rfl (Y1V ex57 (Y1t _ _ _)) ?_
 refine WL.assign (v := .int .i64 x57) rfl ?_
 refine WL.nil ?_
 exact ⟨_, (Option.some.inj hf).symm, ((hu43 0 rfl).trans h17_0), ((hu43 1 rfl).trans h17_1), rfl, (hs.mask []).pick [2, 3]⟩ } } }
 {
 refine W.cond_false (Y02 rfl hc22) ?_
 refine W.exit ?_
 have hr := Option.some.inj hf; subst hr
 have hr := hbbs19 _ rfl; subst hr
 have hf := hfs19
 exact Jk14  _ _  ((hs.mask []).pick []) hf } }
end
section
open Go Go.RowKit Go.Proofs.YtpfgdjfiimknlaaGreatL
set_option maxRecDepth 100000
set_option maxHeartbeats 4000000
theorem Y0T.calls {ok : Nat → Prop} {w0 : World} {x1 : Y0f} {x5 : List UInt8} {v2 : Value} {r : Y07} (hf : Y0T x1 x5 = some r) (i0 : (vl Y0g x1 v2).holds ok w0) :
  Calls Tryz.prog 40 #[v2, bstr x5] w0 fun e w' => ∃ v, e = .returned v ∧ ∃ y : List Value, v = .agg y.toArray ∧ St ok (bz w0) w' [vl Y0w r (.agg y.toArray)] [] := by
 unfold Y0T at hf
 refine Y0t (fn := Tryz.f40) (N := 28) Tryz.func40 rfl Tryz.ntmps40 rfl ?_
 have hs : St ok (bz w0) w0 [vl Y0g x1 v2] [] := St.init (All.cons i0 All.nil)
 clear i0
 obtain ⟨cs3, hl4, rfl⟩ := hs.aggv (n := 2) 0 rfl rfl rfl
 refine W.seqK fun K6 hK6 => ?_
 refine W.region ?_
 refine WL.box (vs := cs3) hs rfl rfl (fun g7 w hs => ?_)
 refine WL.alloc hs ZV86 (fun g8 w hs => ?_)
 refine WL.nil ?_
 refine hK6 _ _ ?_
 refine W.seqK fun K9 hK9 => ?_
 have Jk14 : ∀ (x11 : Y07) (cs12 : List Value) (ρ : Env) (w : World), cs12.length = 12 → ρ 1 = bstr x5 → ρ 4 = .pointer (some ⟨g8, 0, none⟩) → St ok (bz w0) w [vl Y0w x11 (.agg cs12.toArray)] [blk g8 86 cs12] → Y0T.j1 x5 x11 = some r → K9 ρ w := by
  intro x11 cs12 ρ w hl13 h10_1 h10_4 hs hf
  refine hK9 _ _ ?_
  unfold Y0T.j1 at hf
  refine W.seqK fun K15 hK15 => ?_
  refine W.region ?_
  refine WL.move (v := bstr x5) h10_1 ?_
  refine WL.build (vs := [(0, bstr x5)]) (cs := [bstr x5, .bool false, .int .i64 0, .int .i64 0, .int .i64 0, .int .i64 0, bstr [], .bool false, .int .i64 0, .int .i64 0, .slice none 0 0, .bool false]) ⟨⟨rfl, rfl⟩, trivial⟩ (bld PL86 rfl) ?_
  refine WL.storeAll (vs := [bstr x5, .bool false, .int .i64 0, .int .i64 0, .int .i64 0, .int .i64 0, bstr [], .bool false, .int .i64 0, .int .i64 0, .slice none 0 0, .bool false]) hs 0 rfl TI86 h10_4 rfl rfl rfl (Y0P rfl) hl13 (fun w hs => ?_)
  refine WL.nil ?_
  refine hK15 _ _ ?_
  refine W.ret ?_
  have hr := Option.some.inj hf; subst hr
  have hs := hs.add (it := vl Y0w (⟨x5, (⟨false, 0, 0, 0, 0, []⟩ : Y0L), false, 0, 0, [], false⟩ : Y07) (.agg ([bstr x5, .bool false, .int .i64 0, .int .i64 0, .int .i64 0, .int .i64 0, bstr [], .bool false, .int .i64 0, .int .i64 0, .slice none 0 0, .bool false]).toArray)) fun ok hA => Y2W (show Y0w.R ok _ _ _ from ⟨[bstr x5], ([.bool false, .int .i64 0, .int .i64 0, .int .i64 0, .int .i64 0, bstr [], .bool false, .int .i64 0, .int .i64 0, .slice none 0 0, .bool false]), rfl, rfl, ⟨([.bool false, .int .i64 0, .int .i64 0, .int .i64 0, .int .i64 0, bstr []]), [.bool false, .int .i64 0, .int .i64 0, .slice none 0 0, .bool false], rfl, ⟨[.bool false], ([.int .i64 0, .int .i64 0, .int .i64 0, .int .i64 0, bstr []]), rfl, rfl, ⟨[.int .i64 0], ([.int .i64 0, .int .i64 0, .int .i64 0, bstr []]), rfl, rfl, ⟨[.int .i64 0], ([.int .i64 0, .int .i64 0, bstr []]), rfl, rfl, ⟨[.int .i64 0], ([.int .i64 0, bstr []]), rfl, rfl, ⟨[.int .i64 0], ([bstr []]), rfl, rfl, rfl⟩⟩⟩⟩⟩, ⟨[.bool false], [.int .i64 0, .int .i64 0, .slice none 0 0, .bool false], rfl, rfl, ⟨[.int .i64 0], [.int .i64 0, .slice none 0 0, .bool false], rfl, rfl, ⟨[.int .i64 0], [.slice none 0 0, .bool false], rfl, rfl, ⟨[.slice none 0 0], [.bool false], rfl, Y7z, rfl⟩⟩⟩⟩⟩⟩) rfl
  exact ⟨_, Y0e rfl (Y2B hs 0 rfl TI86 h10_4 rfl), [bstr x5, .bool false, .int .i64 0, .int .i64 0, .int .i64 0, .int .i64 0, bstr [], .bool false, .int .i64 0, .int .i64 0, .slice none 0 0, .bool false], rfl, (hs.mask []).pick [0]⟩
 refine W.seqK fun K16 hK16 => ?_
 refine W.region ?_
 refine WL.assign (v := .int .i64 0) rfl ?_
 refine WL.nil ?_
 refine hK16 _ _ ?_
 refine W.block ?_
 obtain ⟨bs22, hbs22, hfs22⟩ := Y0s hf
 have hs := hs.add (it := vl Y0w (⟨[], (⟨false, 0, 0, 0, 0, []⟩ : Y0L), false, 0, 0, [], false⟩ : Y07) (.agg ([bstr [], .bool false, .int .i64 0, .int .i64 0, .int .i64 0, .int .i64 0, bstr [], .bool false, .int .i64 0, .int .i64 0, .slice none 0 0, .bool false]).toArray)) fun ok hA => Y2W (show Y0w.R ok _ _ _ from ⟨([bstr []]), ([.bool false, .int .i64 0, .int .i64 0, .int .i64 0, .int .i64 0, bstr [], .bool false, .int .i64 0, .int .i64 0, .slice none 0 0, .bool false]), rfl, rfl, ⟨([.bool false, .int .i64 0, .int .i64 0, .int .i64 0, .int .i64 0, bstr []]), [.bool false, .int .i64 0, .int .i64 0, .slice none 0 0, .bool false], rfl, ⟨[.bool false], ([.int .i64 0, .int .i64 0, .int .i64 0, .int .i64 0, bstr []]), rfl, rfl, ⟨[.int .i64 0], ([.int .i64 0, .int .i64 0, .int .i64 0, bstr []]), rfl, rfl, ⟨[.int .i64 0], ([.int .i64 0, .int .i64 0, bstr []]), rfl, rfl, ⟨[.int .i64 0], ([.int .i64 0, bstr []]), rfl, rfl, ⟨[.int .i64 0], ([bstr []]), rfl, rfl, rfl⟩⟩⟩⟩⟩, ⟨[.bool false], [.int .i64 0, .int .i64 0, .slice none 0 0, .bool false], rfl, rfl, ⟨[.int .i64 0], [.int .i64 0, .slice none 0 0, .bool false], rfl, rfl, ⟨[.int .i64 0], [.slice none 0 0, .bool false], rfl, rfl, ⟨[.slice none 0 0], [.bool false], rfl, Y7z, rfl⟩⟩⟩⟩⟩⟩) rfl
 have hs := hs.add (it := vl Y0w (⟨[], (⟨false, 0, 0, 0, 0, []⟩ : Y0L), false, 0, 0, [], false⟩ : Y07) (.agg ([bstr [], .bool false, .int .i64 0, .int .i64 0, .int .i64 0, .int .i64 0, bstr [], .bool false, .int .i64 0, .int .i64 0, .slice none 0 0, .bool false]).toArray)) fun ok hA => Y2W (show Y0w.R ok _ _ _ from ⟨([bstr []]), ([.bool false, .int .i64 0, .int .i64 0, .int .i64 0, .int .i64 0, bstr [], .bool false, .int .i64 0, .int .i64 0, .slice none 0 0, .bool false]), rfl, rfl, ⟨([.bool false, .int .i64 0, .int .i64 0, .int .i64 0, .int .i64 0, bstr []]), [.bool false, .int .i64 0, .int .i64 0, .slice none 0 0, .bool false], rfl, ⟨[.bool false], ([.int .i64 0, .int .i64 0, .int .i64 0, .int .i64 0, bstr []]), rfl, rfl, ⟨[.int .i64 0], ([.int .i64 0, .int .i64 0, .int .i64 0, bstr []]), rfl, rfl, ⟨[.int .i64 0], ([.int .i64 0, .int .i64 0, bstr []]), rfl, rfl, ⟨[.int .i64 0], ([.int .i64 0, bstr []]), rfl, rfl, ⟨[.int .i64 0], ([bstr []]), rfl, rfl, rfl⟩⟩⟩⟩⟩, ⟨[.bool false], [.int .i64 0, .int .i64 0, .slice none 0 0, .bool false], rfl, rfl, ⟨[.int .i64 0], [.int .i64 0, .slice none 0 0, .bool false], rfl, rfl, ⟨[.int .i64 0], [.slice none 0 0, .bool false], rfl, rfl, ⟨[.slice none 0 0], [.bool false], rfl, Y7z, rfl⟩⟩⟩⟩⟩⟩) rfl
 refine W.loop hbs22 (fun s ρ w => match s with | (x18, x19) => ∃ (cs20 : List Value), cs20.length = 12 ∧ ρ 1 = bstr x5 ∧ ρ 2 = .pointer (some ⟨g7, 0, none⟩) ∧ ρ 4 = .pointer (some ⟨g8, 0, none⟩) ∧ ρ 5 = .int .i64 x18 ∧ St ok (bz w0) w [vl Y0w x19 (.agg cs20.toArray), vl Y0g x1 (.agg cs3.toArray)] [blk g8 86 cs20, blk g7 41 cs3]) ⟨[bstr [], .bool false, .int .i64 0, .int .i64 0, .int .i64 0, .int .i64 0, bstr [], .bool false, .int .i64 0, .int .i64 0, .slice none 0 0, .bool false], rfl, rfl, rfl, rfl, rfl, (hs.mask [true, true]).pick [0, 2]⟩ ?_
 intro s ρ w os22 hI hf hbbs22
 obtain ⟨x18, x19⟩ := s
 obtain ⟨cs20, hl21, h17_1, h17_2, h17_4, h17_5, hs⟩ := hI
 unfold Y0T.l1 at hf
 refine W.seqK fun K23 hK23 => ?_
 refine W.seqK fun K24 hK24 => ?_
 refine W.region ?_
 refine WL.move (v := .int .i64 x18) h17_5 ?_
 refine WL.fieldAddr (m := 1) h17_2 Y5H rfl ?_
 refine WL.loadF (z := x1.Fields) Y1Y hs 1 rfl 1 rfl rfl TI39 (.inr rfl) rfl rfl (fun v25 hs => ?_)
 obtain ⟨a26, c27, rfl⟩ := hs.slice 0 rfl
 refine WL.len (v := .slice a26 (x1.Fields).length c27) rfl (Y10 UN39) ?_
 refine WL.bin (v := .bool (decide (x18 < ((x1.Fields).length : Int)))) rfl rfl (Y1n _ _ _) ?_
 refine WL.nil ?_
 refine hK24 _ _ ?_
 rcases iteE hf with ⟨hc28, hf⟩ | ⟨hc28, hf⟩
 {
 refine W.cond_true (Y02 rfl hc28) ?_
 refine W.skip ?_
 refine hK23 _ _ ?_
 refine W.seqK fun K29 hK29 => ?_
 refine W.block ?_
 refine W.seqK fun K30 hK30 => ?_
 refine W.region ?_
 refine WL.fieldAddr (m := 1) h17_2 Y5H rfl ?_
 refine WL.loadF (z := x1.Fields) Y1Y hs 1 rfl 2 rfl rfl TI39 (.inr rfl) rfl rfl (fun v31 hs => ?_)
 obtain ⟨a32, c33, rfl⟩ := hs.slice 0 rfl
 refine WL.move (v := .int .i64 x18) h17_5 ?_
 obtain ⟨x34, hxx34, hf⟩ := Y0s hf
 refine WL.indexAddr hs 0 rfl UN39 TI86 rfl rfl hxx34 (fun ad35 hs => ?_)
 refine WL.fieldAddrP (z := x34.Name) Y4N hs 0 rfl rfl Y87 rfl (fun ad36 hs => ?_)
 refine WL.loadP hs 0 rfl TI9 (.inr rfl) rfl (fun v37 hs => ?_)
 obtain rfl := hs.str 0 rfl
 refine WL.move (v := bstr x5) h17_1 ?_
 refine WL.binS (v := .bool (x34.Name == x5)) rfl rfl (Y3N _ _) ?_
 refine WL.nil ?_
 refine hK30 _ _ ?_
 rcases iteE hf with ⟨hc38, hf⟩ | ⟨hc38, hf⟩
 {
 refine W.cond_true (Y02 rfl hc38) ?_
 refine W.seqK fun K39 hK39 => ?_
 refine W.region ?_
 refine WL.fieldAddr (m := 1) h17_2 Y5H rfl ?_
 refine WL.loadF (z := x1.Fields) Y1Y hs 1 rfl 6 rfl rfl TI39 (.inr rfl) rfl rfl (fun v40 hs => ?_)
 obtain ⟨a41, c42, rfl⟩ := hs.slice 0 rfl
 refine WL.move (v := .int .i64 x18) h17_5 ?_
 obtain ⟨x43, hxx43, hf⟩ := Y0s hf
 refine WL.indexAddr hs 0 rfl UN39 TI86 rfl rfl hxx43 (fun ad44 hs => ?_)
 refine WL.loadP hs 0 rfl TI86 (.inl rfl) rfl (fun v45 hs => ?_)
 obtain ⟨cs46, hl47, rfl⟩ := hs.aggv (n := 12) 0 rfl rfl rfl
 refine WL.storeAll (vs := cs46) hs 0 rfl TI86 h17_4 rfl rfl hl47 (hs.ones 0 rfl rfl) hl21 (fun w hs => ?_)
 refine WL.nil ?_
 refine hK39 _ _ ?_
 refine W.ret ?_
 have hr := Option.some.inj hf; subst hr
 have hr := hbbs22 _ rfl; subst hr
 have hf := hfs22
 have hr := Option.some.inj hf; subst hr
 exact ⟨_, Y0e rfl (Y2B hs 0 rfl TI86 h17_4 hl47), cs46, rfl, (hs.mask []).pick [0]⟩ }
 {
 refine W.cond_false (Y02 rfl hc38) ?_
 refine W.skip ?_
 refine hK29 _ _ ?_
 refine W.region ?_
 refine WL.move (v := .int .i64 x18) h17_5 ?_
 obtain ⟨x48, ex48, hf⟩ := letE hf
 refine WL.bin (v := .int .i64 x48) rfl rfl (Y1V ex48 (Y1t _ _ _)) ?_
 refine WL.assign (v := .int .i64 x48) rfl ?_
 refine WL.nil ?_
 exact ⟨_, (Option.some.inj hf).symm, cs20, hl21, h17_1, h17_2, h17_4, rfl, (hs.mask [true, true]).pick [5, 6]⟩ } }
 {
 refine W.cond_false (Y02 rfl hc28) ?_
 refine W.exit ?_
 have hr := Option.some.inj hf; subst hr
 have hr := hbbs22 _ rfl; subst hr
 have hf := hfs22
 exact Jk14 x19 cs20 _ _ hl21 h17_1 h17_4 ((hs.mask [true]).pick [1]) hf }
theorem Y0B.calls {ok : Nat → Prop} {w0 : World} {x1 : Y0c} {x5 : Y0f} {v2 : Value} {v6 : Value} {r : List Y00} (hf : Y0B x1 x5 = some r) (i0 : (vl Y08 x1 v2).holds ok w0) (i1 : (vl Y0g x5 v6).holds ok w0) :
  Calls Tryz.prog 14 #[v2, v6] w0 fun e w' => ∃ v, e = .returned v ∧ ∃ y : (Option Addr × Nat × Nat), v = .slice y.1 y.2.1 y.2.2 ∧ St ok (bz w0) w' [] [own Y03 45 (.slice y.1 y.2.1 y.2.2) r] := by
 unfold Y0B at hf
 refine Y0t (fn := Tryz.f14) (N := 75) Tryz.func14 rfl Tryz.ntmps14 rfl ?_
 have hs : St ok (bz w0) w0 [vl Y08 x1 v2, vl Y0g x5 v6] [] := St.init (All.cons i0 (All.cons i1 All.nil))
 clear i0 i1
 obtain ⟨cs3, hl4, rfl⟩ := hs.aggv (n := 4) 0 rfl rfl rfl
 obtain ⟨cs7, hl8, rfl⟩ := hs.aggv (n := 2) 1 rfl rfl rfl
 refine W.seqK fun K9 hK9 => ?_
 refine W.region ?_
 refine WL.box (vs := cs3) hs rfl rfl (fun g10 w hs => ?_)
 refine WL.box (vs := cs7) hs rfl rfl (fun g11 w hs => ?_)
 refine WL.assign (v := .slice none 0 0) rfl ?_
 refine WL.nil ?_
 refine hK9 _ _ ?_
 refine W.seqK fun K12 hK12 => ?_
 refine W.region ?_
 refine WL.loadAll hs 0 rfl TI41 rfl hl8 ?_
 refine WL.fieldAddr (m := 0) rfl Y3K rfl ?_
 refine WL.loadF (z := x1.Name) Y1m hs 1 rfl 0 rfl rfl TI9 (.inr rfl) rfl rfl (fun v13 hs => ?_)
 obtain rfl := hs.str 0 rfl
 obtain ⟨x14, hxx14, hf⟩ := Y0s hf
 refine WL.call (vs := [.agg cs7.toArray, bstr x1.Name]) hs FN40 ⟨rfl, ⟨rfl, trivial⟩⟩ (fun ok hA => Y0T.calls (x1 := x5) (x5 := x1.Name) hxx14 (hA.get 2 rfl)) ?_
 rintro cs15 w hs
 have hl16 := hs.agglen (n := 12) 0 rfl rfl rfl
 refine WL.alloc hs ZV86 (fun g17 w hs => ?_)
 refine WL.storeAll (vs := cs15) hs 0 rfl TI86 rfl rfl rfl hl16 (hs.ones 0 rfl rfl) rfl (fun w hs => ?_)
 refine WL.nil ?_
 refine hK12 _ _ ?_
 refine W.seqK fun K18 hK18 => ?_
 refine W.region ?_
 refine WL.assign (v := .slice none 0 0) rfl ?_
 refine WL.nil ?_
 refine hK18 _ _ ?_
 refine W.seqK fun K19 hK19 => ?_
 have hs := hs.ownNil Y03 45
 have Jk25 : ∀ (x21 : List Y00) (a22 : Option Addr) (c23 : Nat) (n24 : Nat) (ρ : Env) (w : World), ρ 6 = .slice a22 n24 c23 → St ok (bz w0) w [] [own Y03 45 (.slice a22 n24 c23) x21] → Y0B.j1 x21 = some r → K19 ρ w := by
  intro x21 a22 c23 n24 ρ w h20_6 hs hf
  refine hK19 _ _ ?_
  unfold Y0B.j1 at hf
  refine W.seqK fun K26 hK26 => ?_
  refine W.region ?_
  refine WL.move (v := .slice a22 n24 c23) h20_6 ?_
  refine WL.assign (v := .slice a22 n24 c23) rfl ?_
  refine WL.nil ?_
  refine hK26 _ _ ?_
  refine W.ret ?_
  have hr := Option.some.inj hf; subst hr
  exact ⟨_, Y0e rfl rfl, (a22, n24, c23), rfl, (hs.mask [true]).pick []⟩
 refine W.block ?_
 refine W.seqK fun K27 hK27 => ?_
 have Jk30 : ∀ (x29 : Bool) (ρ : Env) (w : World), ρ 2 = .pointer (some ⟨g10, 0, none⟩) → ρ 5 = .pointer (some ⟨g17, 0, none⟩) → ρ 6 = .slice none 0 0 → ρ 12 = .bool x29 → St ok (bz w0) w [vl Y0w x14 (.agg cs15.toArray), vl Y08 x1 (.agg cs3.toArray)] [own Y03 45 (.slice none 0 0) [], blk g17 86 cs15, blk g10 31 cs3] → Y0B.j3 x1 x14 x29 = some r → K27 ρ w := by
  intro x29 ρ w h28_2 h28_5 h28_6 h28_12 hs hf
  refine hK27 _ _ ?_
  unfold Y0B.j3 at hf
  rcases iteE hf with ⟨hc31, hf⟩ | ⟨hc31, hf⟩
  {
  refine W.cond_true (Y02 h28_12 hc31) ?_
  refine W.region ?_
  refine WL.move (v := .slice none 0 0) h28_6 ?_
  refine WL.fieldAddr (m := 1) h28_5 Y4c rfl ?_
  refine WL.fieldAddr (m := 5) rfl FA84_4 rfl ?_
  refine WL.loadF (z := x14.Register.N) (Y2c.comp Y4M) hs 1 rfl 0 rfl rfl TI2 (.inr rfl) rfl rfl (fun v32 hs => ?_)
  obtain rfl := hs.int 0 rfl
  refine WL.build (vs := [(0, .int .i64 1), (1, .int .i64 x14.Register.N)]) (cs := [.int .i64 1, .int .i64 x14.Register.N, bstr []]) ⟨⟨rfl, rfl⟩, ⟨⟨rfl, rfl⟩, trivial⟩⟩ (bld PL45 rfl) ?_
  refine WL.buildSlice (n := 1) (vs := [(0, .agg ([.int .i64 1, .int .i64 x14.Register.N, bstr []] : List Value).toArray)]) (cs := [.int .i64 1, .int .i64 x14.Register.N, bstr []]) hs ⟨⟨rfl, rfl⟩, trivial⟩ (bls PS42 (by decide) rfl) (fun g33 w hs => ?_)
  obtain ⟨x34, hxx34, hf⟩ := Y0s hf
  obtain ⟨hbx34, hex34⟩ := appE hxx34
  refine WL.append (ys := [(⟨1, x14.Register.N, []⟩ : Y00)]) (zs := x34) hs 1 rfl 0 rfl UN42 EI45 rfl rfl (fun ok hA => (Y0U.one (T := Y03) (show Y03.R ok _ (⟨1, x14.Register.N, []⟩ : Y00) _ from ⟨[.int .i64 1], ([.int .i64 x14.Register.N, bstr []]), rfl, rfl, ⟨[.int .i64 x14.Register.N], ([bstr []]), rfl, rfl, rfl⟩⟩))) hbx34 (by omega) hex34 (fun v35 w hs => ?_)
  obtain ⟨a36, n38, c37, rfl⟩ := hs.ownv3 1 rfl
  refine WL.assign (v := .slice a36 n38 c37) rfl ?_
  refine WL.nil ?_
  exact Jk25 x34 a36 c37 n38 _ _ rfl ((hs.mask [false, true]).pick []) hf }
  {
  refine W.cond_false (Y02 h28_12 hc31) ?_
  refine W.seqK fun K39 hK39 => ?_
  have Jk42 : ∀ (x41 : Bool) (ρ : Env) (w : World), ρ 2 = .pointer (some ⟨g10, 0, none⟩) → ρ 5 = .pointer (some ⟨g17, 0, none⟩) → ρ 6 = .slice none 0 0 → ρ 33 = .bool x41 → St ok (bz w0) w [vl Y0w x14 (.agg cs15.toArray), vl Y08 x1 (.agg cs3.toArray)] [own Y03 45 (.slice none 0 0) [], blk g17 86 cs15, blk g10 31 cs3] → Y0B.j2 x1 x14 x41 = some r → K39 ρ w := by
   intro x41 ρ w h40_2 h40_5 h40_6 h40_33 hs hf
   refine hK39 _ _ ?_
   unfold Y0B.j2 at hf
   rcases iteE hf with ⟨hc43, hf⟩ | ⟨hc43, hf⟩
   {
   refine W.cond_true (Y02 h40_33 hc43) ?_
   refine W.region ?_
   refine WL.move (v := .slice none 0 0) h40_6 ?_
   refine WL.fieldAddr (m := 1) h40_5 Y4c rfl ?_
   refine WL.fieldAddr (m := 6) rfl FA84_5 rfl ?_
   refine WL.loadF (z := x14.Register.S) (Y2c.comp Y4L) hs 1 rfl 0 rfl rfl TI9 (.inr rfl) rfl rfl (fun v44 hs => ?_)
   obtain rfl := hs.str 0 rfl
   refine WL.build (vs := [(0, .int .i64 2), (2, bstr x14.Register.S)]) (cs := [.int .i64 2, .int .i64 0, bstr x14.Register.S]) ⟨⟨rfl, rfl⟩, ⟨⟨rfl, rfl⟩, trivial⟩⟩ (bld PL45 rfl) ?_
   refine WL.buildSlice (n := 1) (vs := [(0, .agg ([.int .i64 2, .int .i64 0, bstr x14.Register.S] : List Value).toArray)]) (cs := [.int .i64 2, .int .i64 0, bstr x14.Register.S]) hs ⟨⟨rfl, rfl⟩, trivial⟩ (bls PS42 (by decide) rfl) (fun g45 w hs => ?_)
   obtain ⟨x46, hxx46, hf⟩ := Y0s hf
   obtain ⟨hbx46, hex46⟩ := appE hxx46
   refine WL.append (ys := [(⟨2, 0, x14.Register.S⟩ : Y00)]) (zs := x46) hs 1 rfl 0 rfl UN42 EI45 rfl rfl (fun ok hA => (Y0U.one (T := Y03) (show Y03.R ok _ (⟨2, 0, x14.Register.S⟩ : Y00) _ from ⟨[.int .i64 2], [.int .i64 0, bstr x14.Register.S], rfl, rfl, ⟨[.int .i64 0], [bstr x14.Register.S], rfl, rfl, rfl⟩⟩))) hbx46 (by omega) hex46 (fun v47 w hs => ?_)
   obtain ⟨a48, n50, c49, rfl⟩ := hs.ownv3 1 rfl
   refine WL.assign (v := .slice a48 n50 c49) rfl ?_
   refine WL.nil ?_
   exact Jk25 x46 a48 c49 n50 _ _ rfl ((hs.mask [false, true]).pick []) hf }
   {
   refine W.cond_false (Y02 h40_33 hc43) ?_
   refine W.seqK fun K51 hK51 => ?_
   refine W.region ?_
   refine WL.fieldAddr (m := 1) h40_2 Y2X rfl ?_
   refine WL.loadF (z := x1.Kind) Y12 hs 2 rfl 1 rfl rfl TI3 (.inr rfl) rfl rfl (fun v52 hs => ?_)
   obtain rfl := hs.int 0 rfl
   refine WL.bin (v := .bool (x1.Kind == 4)) rfl rfl (Y1P _ _ _) ?_
   refine WL.assign (v := .bool (x1.Kind == 4)) rfl ?_
   refine WL.nil ?_
   refine hK51 _ _ ?_
   rcases iteE hf with ⟨hc53, hf⟩ | ⟨hc53, hf⟩
   {
   refine W.cond_true (Y02 rfl hc53) ?_
   refine W.seqK fun K54 hK54 => ?_
   refine W.region ?_
   refine WL.assign (v := .int .i64 0) rfl ?_
   refine WL.nil ?_
   refine hK54 _ _ ?_
   refine W.block ?_
   obtain ⟨bs61, hbs61, hfs61⟩ := Y0s hf
   refine W.loop hbs61 (fun s ρ w => match s with | (x56, x60) => ∃ (a57 : Option Addr), ∃ (c58 : Nat), ∃ (n59 : Nat), ρ 5 = .pointer (some ⟨g17, 0, none⟩) ∧ ρ 6 = .slice a57 n59 c58 ∧ ρ 7 = .int .i64 x60 ∧ St ok (bz w0) w [vl Y0w x14 (.agg cs15.toArray)] [own Y03 45 (.slice a57 n59 c58) x56, blk g17 86 cs15]) ⟨none, 0, 0, h40_5, h40_6, rfl, (hs.mask [true, true]).pick [1]⟩ ?_
   intro s ρ w os61 hI hf hbbs61
   obtain ⟨x56, x60⟩ := s
   obtain ⟨a57, c58, n59, h55_5, h55_6, h55_7, hs⟩ := hI
   unfold Y0B.l1 at hf
   refine W.seqK fun K62 hK62 => ?_
   refine W.seqK fun K63 hK63 => ?_
   refine W.region ?_
   refine WL.move (v := .int .i64 x60) h55_7 ?_
   refine WL.fieldAddr (m := 10) h55_5 Y4b rfl ?_
   refine WL.loadF (z := x14.Elems) Y2n hs 1 rfl 0 rfl rfl TI56 (.inr rfl) rfl rfl (fun v64 hs => ?_)
   obtain ⟨a65, c66, rfl⟩ := hs.slice 0 rfl
   refine WL.len (v := .slice a65 (x14.Elems).length c66) rfl (Y10 UN56) ?_
   refine WL.bin (v := .bool (decide (x60 < ((x14.Elems).length : Int)))) rfl rfl (Y1n _ _ _) ?_
   refine WL.nil ?_
   refine hK63 _ _ ?_
   rcases iteE hf with ⟨hc67, hf⟩ | ⟨hc67, hf⟩
   {
   refine W.cond_true (Y02 rfl hc67) ?_
   refine W.skip ?_
   refine hK62 _ _ ?_
   refine W.seqK fun K68 hK68 => ?_
   refine W.block ?_
   refine W.region ?_
   refine WL.move (v := .slice a57 n59 c58) h55_6 ?_
   refine WL.fieldAddr (m := 10) h55_5 Y4b rfl ?_
   refine WL.loadF (z := x14.Elems) Y2n hs 1 rfl 1 rfl rfl TI56 (.inr rfl) rfl rfl (fun v69 hs => ?_)
   obtain ⟨a70, c71, rfl⟩ := hs.slice 0 rfl
   refine WL.move (v := .int .i64 x60) h55_7 ?_
   obtain ⟨x72, hxx72, hf⟩ := Y0s hf
   refine WL.indexAddr hs 0 rfl UN56 TI9 rfl rfl hxx72 (fun ad73 hs => ?_)
   refine WL.loadP hs 0 rfl TI9 (.inr rfl) rfl (fun v74 hs => ?_)
   obtain rfl := hs.str 0 rfl
   refine WL.build (vs := [(0, .int .i64 2), (2, bstr x72)]) (cs := [.int .i64 2, .int .i64 0, bstr x72]) ⟨⟨rfl, rfl⟩, ⟨⟨rfl, rfl⟩, trivial⟩⟩ (bld PL45 rfl) ?_
   refine WL.buildSlice (n := 1) (vs := [(0, .agg ([.int .i64 2, .int .i64 0, bstr x72] : List Value).toArray)]) (cs := [.int .i64 2, .int .i64 0, bstr x72]) hs ⟨⟨rfl, rfl⟩, trivial⟩ (bls PS42 (by decide) rfl) (fun g75 w hs => ?_)
   obtain ⟨x76, hxx76, hf⟩ := Y0s hf
   obtain ⟨hbx76, hex76⟩ := appE hxx76
   refine WL.append (ys := [(⟨2, 0, x72⟩ : Y00)]) (zs := x76) hs 1 rfl 0 rfl UN42 EI45 rfl rfl (fun ok hA => (Y0U.one (T := Y03) (show Y03.R ok _ (⟨2, 0, x72⟩ : Y00) _ from ⟨[.int .i64 2], [.int .i64 0, bstr x72], rfl, rfl, ⟨[.int .i64 0], [bstr x72], rfl, rfl, rfl⟩⟩))) hbx76 (by omega) hex76 (fun v77 w hs => ?_)
   obtain ⟨a78, n80, c79, rfl⟩ := hs.ownv3 1 rfl
   refine WL.assign (v := .slice a78 n80 c79) rfl ?_
   refine WL.nil ?_
   refine hK68 _ _ ?_
   refine W.region ?_
   refine WL.move (v := .int .i64 x60) h55_7 ?_
   obtain ⟨x81, ex81, hf⟩ := letE hf
   refine WL.bin (v := .int .i64 x81) rfl rfl (Y1V ex81 (Y1t _ _ _)) ?_
   refine WL.assign (v := .int .i64 x81) rfl ?_
   refine WL.nil ?_
   exact ⟨_, (Option.some.inj hf).symm, a78, c79, n80, h55_5, rfl, rfl, (hs.mask [false, true, true]).pick [4]⟩ }
   {
   refine W.cond_false (Y02 rfl hc67) ?_
   refine W.exit ?_
   have hr := Option.some.inj hf; subst hr
   have hr := hbbs61 _ rfl; subst hr
   have hf := hfs61
   exact Jk25 x56 a57 c58 n59 _ _ h55_6 ((hs.mask [true]).pick []) hf } }
   {
   refine W.cond_false (Y02 rfl hc53) ?_
   refine W.skip ?_
   exact Jk25 [] none 0 0 _ _ h40_6 ((hs.mask [true]).pick []) hf } }
  refine W.region ?_
  refine WL.fieldAddr (m := 1) h28_2 Y2X rfl ?_
  refine WL.loadF (z := x1.Kind) Y12 hs 2 rfl 1 rfl rfl TI3 (.inr rfl) rfl rfl (fun v83 hs => ?_)
  obtain rfl := hs.int 0 rfl
  refine WL.bin (v := .bool (x1.Kind == 1)) rfl rfl (Y1P _ _ _) ?_
  refine WL.move (v := .bool (x1.Kind == 1)) rfl ?_
  rcases iteE hf with ⟨hc84, hf⟩ | ⟨hc84, hf⟩
  {
  refine WL.fieldAddr (m := 1) h28_5 Y4c rfl ?_ (hg := (Y01 rfl rfl (Y02 rfl hc84)).trans rfl)
  refine WL.fieldAddr (m := 1) rfl Y61 rfl ?_ (hg := (Y01 rfl rfl (Y02 rfl hc84)).trans rfl)
  refine WL.loadF (z := x14.Register.Set) (Y2c.comp Y2k) hs 1 rfl 1 rfl rfl TI4 (.inr rfl) rfl rfl (fun v85 hs => ?_) (hg := (Y01 rfl rfl (Y02 rfl hc84)).trans rfl)
  obtain rfl := hs.bool 0 rfl
  refine WL.pickT (v := .bool x14.Register.Set) (Y02 rfl hc84) rfl ?_
  refine WL.move (v := .bool x14.Register.Set) rfl ?_
  rcases iteE hf with ⟨hc86, hf⟩ | ⟨hc86, hf⟩
  {
  refine WL.fieldAddr (m := 2) h28_2 Y3s rfl ?_ (hg := (Y01 rfl rfl (Y02 rfl hc86)).trans rfl)
  refine WL.loadF (z := x1.f_Type) Y11 hs 2 rfl 3 rfl rfl TI3 (.inr rfl) rfl rfl (fun v87 hs => ?_) (hg := (Y01 rfl rfl (Y02 rfl hc86)).trans rfl)
  obtain rfl := hs.int 0 rfl
  refine WL.bin (v := .bool (x1.f_Type == 2)) rfl rfl (Y1P _ _ _) ?_ (hg := (Y01 rfl rfl (Y02 rfl hc86)).trans rfl)
  refine WL.pickT (v := .bool (x1.f_Type == 2)) (Y02 rfl hc86) rfl ?_
  refine WL.assign (v := .bool (x1.f_Type == 2)) rfl ?_
  refine WL.nil ?_
  exact Jk42 (x1.f_Type == 2) _ _ h28_2 h28_5 h28_6 rfl ((hs.mask [true, true, true]).pick [3, 4]) hf }
  {
  refine WL.pass ((Y01 rfl rfl (Y02 rfl hc86)).trans rfl) rfl ?_
  refine WL.pass ((Y01 rfl rfl (Y02 rfl hc86)).trans rfl) rfl ?_
  refine WL.pass ((Y01 rfl rfl (Y02 rfl hc86)).trans rfl) rfl ?_
  refine WL.pickF (v := .bool false) (Y02 rfl hc86) rfl ?_
  refine WL.assign (v := .bool false) rfl ?_
  refine WL.nil ?_
  exact Jk42 false _ _ h28_2 h28_5 h28_6 rfl ((hs.mask [true, true, true]).pick [2, 3]) hf } }
  {
  refine WL.pass ((Y01 rfl rfl (Y02 rfl hc84)).trans rfl) rfl ?_
  refine WL.pass ((Y01 rfl rfl (Y02 rfl hc84)).trans rfl) rfl ?_
  refine WL.pass ((Y01 rfl rfl (Y02 rfl hc84)).trans rfl) rfl ?_
  refine WL.pickF (v := .bool false) (Y02 rfl hc84) rfl ?_
  refine WL.move (v := .bool false) rfl ?_
  refine WL.pass ((Y01 rfl rfl rfl).trans rfl) rfl ?_
  refine WL.pass ((Y01 rfl rfl rfl).trans rfl) rfl ?_
  refine WL.pass ((Y01 rfl rfl rfl).trans rfl) rfl ?_
  refine WL.pickF (v := .bool false) rfl rfl ?_
  refine WL.assign (v := .bool false) rfl ?_
  refine WL.nil ?_
  exact Jk42 false _ _ h28_2 h28_5 h28_6 rfl ((hs.mask [true, true, true]).pick [1, 2]) hf } }
 refine W.region ?_
 refine WL.fieldAddr (m := 1) rfl Y2X rfl ?_
 refine WL.loadF (z := x1.Kind) Y12 hs 3 rfl 2 rfl rfl TI3 (.inr rfl) rfl rfl (fun v88 hs => ?_)
 obtain rfl := hs.int 0 rfl
 refine WL.bin (v := .bool (x1.Kind == 1)) rfl rfl (Y1P _ _ _) ?_
 refine WL.move (v := .bool (x1.Kind == 1)) rfl ?_
 rcases iteE hf with ⟨hc89, hf⟩ | ⟨hc89, hf⟩
 {
 refine WL.fieldAddr (m := 1) rfl Y4c rfl ?_ (hg := (Y01 rfl rfl (Y02 rfl hc89)).trans rfl)
 refine WL.fieldAddr (m := 1) rfl Y61 rfl ?_ (hg := (Y01 rfl rfl (Y02 rfl hc89)).trans rfl)
 refine WL.loadF (z := x14.Register.Set) (Y2c.comp Y2k) hs 1 rfl 1 rfl rfl TI4 (.inr rfl) rfl rfl (fun v90 hs => ?_) (hg := (Y01 rfl rfl (Y02 rfl hc89)).trans rfl)
 obtain rfl := hs.bool 0 rfl
 refine WL.pickT (v := .bool x14.Register.Set) (Y02 rfl hc89) rfl ?_
 refine WL.move (v := .bool x14.Register.Set) rfl ?_
 rcases iteE hf with ⟨hc91, hf⟩ | ⟨hc91, hf⟩
 {
 refine WL.fieldAddr (m := 2) rfl Y3s rfl ?_ (hg := (Y01 rfl rfl (Y02 rfl hc91)).trans rfl)
 refine WL.loadF (z := x1.f_Type) Y11 hs 3 rfl 4 rfl rfl TI3 (.inr rfl) rfl rfl (fun v92 hs => ?_) (hg := (Y01 rfl rfl (Y02 rfl hc91)).trans rfl)
 obtain rfl := hs.int 0 rfl
 refine WL.bin (v := .bool (x1.f_Type == 1)) rfl rfl (Y1P _ _ _) ?_ (hg := (Y01 rfl rfl (Y02 rfl hc91)).trans rfl)
 refine WL.pickT (v := .bool (x1.f_Type == 1)) (Y02 rfl hc91) rfl ?_
 refine WL.assign (v := .bool (x1.f_Type == 1)) rfl ?_
 refine WL.nil ?_
 exact Jk30 (x1.f_Type == 1) _ _ rfl rfl rfl rfl ((hs.mask [true, true, false, true]).pick [3, 5]) hf }
 {
 refine WL.pass ((Y01 rfl rfl (Y02 rfl hc91)).trans rfl) rfl ?_
 refine WL.pass ((Y01 rfl rfl (Y02 rfl hc91)).trans rfl) rfl ?_
 refine WL.pass ((Y01 rfl rfl (Y02 rfl hc91)).trans rfl) rfl ?_
 refine WL.pickF (v := .bool false) (Y02 rfl hc91) rfl ?_
 refine WL.assign (v := .bool false) rfl ?_
 refine WL.nil ?_
 exact Jk30 false _ _ rfl rfl rfl rfl ((hs.mask [true, true, false, true]).pick [2, 4]) hf } }
 {
 refine WL.pass ((Y01 rfl rfl (Y02 rfl hc89)).trans rfl) rfl ?_
 refine WL.pass ((Y01 rfl rfl (Y02 rfl hc89)).trans rfl) rfl ?_
 refine WL.pass ((Y01 rfl rfl (Y02 rfl hc89)).trans rfl) rfl ?_
 refine WL.pickF (v := .bool false) (Y02 rfl hc89) rfl ?_
 refine WL.move (v := .bool false) rfl ?_
 refine WL.pass ((Y01 rfl rfl rfl).trans rfl) rfl ?_
 refine WL.pass ((Y01 rfl rfl rfl).trans rfl) rfl ?_
 refine WL.pass ((Y01 rfl rfl rfl).trans rfl) rfl ?_
 refine WL.pickF (v := .bool false) rfl rfl ?_
 refine WL.assign (v := .bool false) rfl ?_
 refine WL.nil ?_
 exact Jk30 false _ _ rfl rfl rfl rfl ((hs.mask [true, true, false, true]).pick [1, 3]) hf }
theorem Y0d.calls {ok : Nat → Prop} {w0 : World} {x1 : Y0c} {x5 : Y0N} {v2 : Value} {v6 : Value} {r : List Y06} (hf : Y0d x1 x5 = some r) (i0 : (vl Y08 x1 v2).holds ok w0) (i1 : (vl Y0p x5 v6).holds ok w0) :
  Calls Tryz.prog 17 #[v2, v6] w0 fun e w' => ∃ v, e = .returned v ∧ ∃ y : (Option Addr × Nat × Nat), v = .slice y.1 y.2.1 y.2.2 ∧ St ok (bz w0) w' [] [own Y05 92 (.slice y.1 y.2.1 y.2.2) r] := by
 unfold Y0d at hf
 refine Y0t (fn := Tryz.f17) (N := 105) Tryz.func17 rfl Tryz.ntmps17 rfl ?_
 have hs : St ok (bz w0) w0 [vl Y08 x1 v2, vl Y0p x5 v6] [] := St.init (All.cons i0 (All.cons i1 All.nil))
 clear i0 i1
 obtain ⟨cs3, hl4, rfl⟩ := hs.aggv (n := 4) 0 rfl rfl rfl
 obtain ⟨cs7, hl8, rfl⟩ := hs.aggv (n := 1) 1 rfl rfl rfl
 refine W.seqK fun K9 hK9 => ?_
 refine W.region ?_
 refine WL.box (vs := cs3) hs rfl rfl (fun g10 w hs => ?_)
 refine WL.box (vs := cs7) hs rfl rfl (fun g11 w hs => ?_)
 refine WL.assign (v := .slice none 0 0) rfl ?_
 refine WL.nil ?_
 refine hK9 _ _ ?_
 refine W.seqK fun K12 hK12 => ?_
 refine W.region ?_
 refine WL.assign (v := .slice none 0 0) rfl ?_
 refine WL.nil ?_
 refine hK12 _ _ ?_
 refine W.seqK fun K13 hK13 => ?_
 have hs := hs.ownNil Y05 92
 have Jk19 : ∀ (x15 : List Y06) (a16 : Option Addr) (c17 : Nat) (n18 : Nat) (ρ : Env) (w : World), ρ 5 = .slice a16 n18 c17 → St ok (bz w0) w [] [own Y05 92 (.slice a16 n18 c17) x15] → Y0d.j1 x15 = some r → K13 ρ w := by
  intro x15 a16 c17 n18 ρ w h14_5 hs hf
  refine hK13 _ _ ?_
  unfold Y0d.j1 at hf
  refine W.seqK fun K20 hK20 => ?_
  refine W.region ?_
  refine WL.move (v := .slice a16 n18 c17) h14_5 ?_
  refine WL.assign (v := .slice a16 n18 c17) rfl ?_
  refine WL.nil ?_
  refine hK20 _ _ ?_
  refine W.ret ?_
  have hr := Option.some.inj hf; subst hr
  exact ⟨_, Y0e rfl rfl, (a16, n18, c17), rfl, (hs.mask [true]).pick []⟩
 refine W.seqK fun K21 hK21 => ?_
 refine W.region ?_
 refine WL.assign (v := .int .i64 0) rfl ?_
 refine WL.nil ?_
 refine hK21 _ _ ?_
 refine W.block ?_
 obtain ⟨bs28, hbs28, hfs28⟩ := Y0s hf
 refine W.loop hbs28 (fun s ρ w => match s with | (x23, x27) => ∃ (a24 : Option Addr), ∃ (c25 : Nat), ∃ (n26 : Nat), ρ 2 = .pointer (some ⟨g10, 0, none⟩) ∧ ρ 3 = .pointer (some ⟨g11, 0, none⟩) ∧ ρ 5 = .slice a24 n26 c25 ∧ ρ 6 = .int .i64 x27 ∧ St ok (bz w0) w [vl Y0p x5 (.agg cs7.toArray), vl Y08 x1 (.agg cs3.toArray)] [own Y05 92 (.slice a24 n26 c25) x23, blk g11 25 cs7, blk g10 31 cs3]) ⟨none, 0, 0, rfl, rfl, rfl, rfl, (hs.mask [true, true, true]).pick [1, 0]⟩ ?_
 intro s ρ w os28 hI hf hbbs28
 obtain ⟨x23, x27⟩ := s
 obtain ⟨a24, c25, n26, h22_2, h22_3, h22_5, h22_6, hs⟩ := hI
 unfold Y0d.l3 at hf
 refine W.seqK fun K29 hK29 => ?_
 refine W.seqK fun K30 hK30 => ?_
 refine W.region ?_
 refine WL.move (v := .int .i64 x27) h22_6 ?_
 refine WL.fieldAddr (m := 0) h22_3 Y5I rfl ?_
 refine WL.loadF (z := x5.Objects) Y1I hs 1 rfl 0 rfl rfl TI23 (.inr rfl) rfl rfl (fun v31 hs => ?_)
 obtain ⟨a32, c33, rfl⟩ := hs.slice 0 rfl
 refine WL.len (v := .slice a32 (x5.Objects).length c33) rfl (Y10 UN23) ?_
 refine WL.bin (v := .bool (decide (x27 < ((x5.Objects).length : Int)))) rfl rfl (Y1n _ _ _) ?_
 refine WL.nil ?_
 refine hK30 _ _ ?_
 rcases iteE hf with ⟨hc34, hf⟩ | ⟨hc34, hf⟩
 {
 refine W.cond_true (Y02 rfl hc34) ?_
 refine W.skip ?_
 refine hK29 _ _ ?_
 refine W.seqK fun K35 hK35 => ?_
 have Jk41 : ∀ (x37 : List Y06) (a38 : Option Addr) (c39 : Nat) (n40 : Nat) (ρ : Env) (w : World), ρ 2 = .pointer (some ⟨g10, 0, none⟩) → ρ 3 = .pointer (some ⟨g11, 0, none⟩) → ρ 5 = .slice a38 n40 c39 → ρ 6 = .int .i64 x27 → St ok (bz w0) w [vl Y0p x5 (.agg cs7.toArray), vl Y08 x1 (.agg cs3.toArray)] [own Y05 92 (.slice a38 n40 c39) x37, blk g11 25 cs7, blk g10 31 cs3] → Y0d.j2 x27 x37 = some os28 → K35 ρ w := by
  intro x37 a38 c39 n40 ρ w h36_2 h36_3 h36_5 h36_6 hs hf
  refine hK35 _ _ ?_
  unfold Y0d.j2 at hf
  refine W.region ?_
  refine WL.move (v := .int .i64 x27) h36_6 ?_
  obtain ⟨x42, ex42, hf⟩ := letE hf
  refine WL.bin (v := .int .i64 x42) rfl rfl (Y1V ex42 (Y1t _ _ _)) ?_
  refine WL.assign (v := .int .i64 x42) rfl ?_
  refine WL.nil ?_
  exact ⟨_, (Option.some.inj hf).symm, a38, c39, n40, h36_2, h36_3, h36_5, rfl, (hs.mask [true, true, true]).pick [0, 1]⟩
 refine W.block ?_
 refine W.seqK fun K43 hK43 => ?_
 obtain ⟨x47, hxx47, hf⟩ := Y0s hf
 obtain ⟨x52, hxx52, hf⟩ := Y0s hf
 refine W.any (by kernel_rfl) 7 1 [true, true, true, true, true, true, true, false] rfl rfl (poAt [pv (.agg cs3.toArray), pv (.pointer (some ⟨g11, 0, none⟩)), pq (fun y : (Option Addr × Nat) => .slice y.1 (x5.Objects).length y.2) (fun v => [vl (Y0b Y0g) x5.Objects v]) (fun v => []), pv (.int .i64 x27), pq (fun y : Addr => .pointer (some y)) (fun v => [pl Y0g x47 (adOf v)]) (fun v => []), pq (fun y : List Value => .agg y.toArray) (fun v => [vl Y0g x47 v]) (fun v => []), pq (fun y : (Option Addr × Nat × Nat) => .slice y.1 y.2.1 y.2.2) (fun v => []) (fun v => [own Y03 45 v x52])]) (Λ := [own Y05 92 (.slice a24 n26 c25) x23, blk g11 25 cs7, blk g10 31 cs3]) hs (by kernel_rfl) (by kernel_rfl) (by kernel_rfl) ⟨⟨⟨⟨⟨⟨⟨trivial, ?_⟩, ?_⟩, ?_⟩, ?_⟩, ?_⟩, ?_⟩, ?_⟩ ?_
 {
 intro ρ w Γx Λx hs hu hp
 refine WL.loadAll hs (Λx.length + 2) (Y0q rfl) TI31 ((hu 2 rfl).trans h22_2) hl4 ?_
 exact WL.nil ⟨rfl, _, rfl, rfl, hs.cutG 0 0⟩ }
 {
 intro ρ w Γx Λx hs hu hp
 refine WL.fieldAddr (m := 0) ((hu 3 rfl).trans h22_3) Y5I rfl ?_
 exact WL.nil ⟨rfl, _, rfl, rfl, hs.cutG 0 0⟩ }
 {
 intro ρ w Γx Λx hs hu hp
 have e56 : ρ 18 = .pointer (some ⟨g11, 0, none⟩) := (hp 1 rfl).1
 refine WL.loadF (z := x5.Objects) Y1I hs (Λx.length + 1) (Y0q rfl) (Γx.length + 1) (Y0q rfl) rfl TI23 (.inr rfl) e56 rfl (fun v44 hs => ?_)
 obtain ⟨a45, c46, rfl⟩ := hs.slice 0 rfl
 have hs := hs.add (it := vl (Y0b Y0g) x5.Objects (.slice a45 (x5.Objects).length c46)) fun ok hA => hA.get 0 rfl
 exact WL.nil ⟨rfl, _, rfl, ⟨(a45, c46), rfl⟩, hs.cutG 1 1⟩ }
 {
 intro ρ w Γx Λx hs hu hp
 refine WL.move (v := .int .i64 x27) ((hu 6 rfl).trans h22_6) ?_
 exact WL.nil ⟨rfl, _, rfl, rfl, hs.cutG 0 0⟩ }
 {
 intro ρ w Γx Λx hs hu hp
 obtain ⟨⟨⟨a57, c58⟩, e59r⟩, hm60⟩ := hp 2 rfl
 have e59 : ρ 19 = .slice a57 (x5.Objects).length c58 := e59r
 rw [e59r] at hm60
 have hs := hs.memo1 (it := vl (Y0b Y0g) x5.Objects (.slice a57 (x5.Objects).length c58)) (List.mem_append.2 (.inl (hm60 _ (List.mem_of_getElem? (i := 0) rfl))))
 have e61 : ρ 20 = .int .i64 x27 := (hp 3 rfl).1
 refine WL.indexAddr hs 0 rfl UN23 TI41 e59 e61 hxx47 (fun ad48 hs => ?_)
 have hs := hs.add (it := pl Y0g x47 ad48) fun ok hA => hA.get 0 rfl
 exact WL.nil ⟨rfl, _, rfl, ⟨ad48, rfl⟩, hs.cutG 1 2⟩ }
 {
 intro ρ w Γx Λx hs hu hp
 obtain ⟨⟨ad62, e63r⟩, hm64⟩ := hp 4 rfl
 have e63 : ρ 21 = .pointer (some ad62) := e63r
 rw [e63r] at hm64
 have hs := hs.memo1 (it := pl Y0g x47 ad62) (List.mem_append.2 (.inl (hm64 _ (List.mem_of_getElem? (i := 0) rfl))))
 refine WL.loadP hs 0 rfl TI41 (.inl rfl) e63 (fun v49 hs => ?_)
 obtain ⟨cs50, hl51, rfl⟩ := hs.aggv (n := 2) 0 rfl rfl rfl
 have hs := hs.add (it := vl Y0g x47 (.agg cs50.toArray)) fun ok hA => hA.get 0 rfl
 exact WL.nil ⟨rfl, _, rfl, ⟨cs50, rfl⟩, hs.cutG 1 2⟩ }
 {
 intro ρ w Γx Λx hs hu hp
 have e65 : ρ 17 = .agg cs3.toArray := (hp 0 rfl).1
 obtain ⟨⟨cs66, e68r⟩, hm69⟩ := hp 5 rfl
 have e68 : ρ 22 = .agg cs66.toArray := e68r
 rw [e68r] at hm69
 have hs := hs.memo1 (it := vl Y0g x47 (.agg cs66.toArray)) (List.mem_append.2 (.inl (hm69 _ (List.mem_of_getElem? (i := 0) rfl))))
 have hl67 := hs.agglen (n := 2) 0 rfl rfl rfl
 refine WL.call (vs := [.agg cs3.toArray, .agg cs66.toArray]) hs FN14 ⟨e65, ⟨e68, trivial⟩⟩ (fun ok hA => Y0B.calls (x1 := x1) (x5 := x47) hxx52 (hA.get (Γx.length + 2 + 1) (Y3k rfl)) (hA.get 0 rfl)) ?_
 rintro ⟨a53, n54, c55⟩ w hs
 exact WL.nil ⟨rfl, _, rfl, ⟨(a53, n54, c55), rfl⟩, hs.cutG 0 1⟩ }
 {
 intro ρ w hs hu70 hp
 obtain ⟨⟨⟨⟨⟨⟨⟨_, hp0_⟩, hp1_⟩, hp2_⟩, hp3_⟩, hp4_⟩, hp5_⟩, hp6_⟩ := hp
 have hs : St ok (bz w0) w [vl Y0g x47 (ρ 22), pl Y0g x47 (adOf (ρ 21)), vl (Y0b Y0g) x5.Objects (ρ 19), vl (Y0b Y0g) x5.Objects (.slice a32 (x5.Objects).length c33), vl Y0p x5 (.agg cs7.toArray), vl Y08 x1 (.agg cs3.toArray)] [own Y03 45 ((ρ 23)) x52, own Y05 92 (.slice a24 n26 c25) x23, blk g11 25 cs7, blk g10 31 cs3] := hs
 obtain ⟨⟨a71, n73, c72⟩, e74⟩ := hp6_
 have e74 : ρ 23 = .slice a71 n73 c72 := e74
 try rw [e74] at hs
 obtain ⟨cs75, e77⟩ := hp5_
 have e77 : ρ 22 = .agg cs75.toArray := e77
 try rw [e77] at hs
 obtain ⟨ad78, e79⟩ := hp4_
 have e79 : ρ 21 = .pointer (some ad78) := e79
 try rw [e79] at hs
 have e80 : ρ 20 = .int .i64 x27 := hp3_
 obtain ⟨⟨a81, c82⟩, e83⟩ := hp2_
 have e83 : ρ 19 = .slice a81 (x5.Objects).length c82 := e83
 try rw [e83] at hs
 have e84 : ρ 18 = .pointer (some ⟨g11, 0, none⟩) := hp1_
 have e85 : ρ 17 = .agg cs3.toArray := hp0_
 have hl76 := hs.agglen (n := 2) 0 rfl rfl rfl
 refine WA.step [7] (by kernel_rfl) (by simp) ⟨?_, trivial⟩
 refine WL.assign (v := .slice a71 n73 c72) e74 ?_
 refine WL.nil ⟨rfl, _, rfl, ?_⟩
 refine WA.done (by kernel_rfl) ?_
 refine hK43 _ _ ?_
 refine W.seqK fun K86 hK86 => ?_
 refine W.region ?_
 refine WL.assign (v := .int .i64 0) rfl ?_
 refine WL.nil ?_
 refine hK86 _ _ ?_
 refine W.block ?_
 obtain ⟨bs93, hbs93, hfs93⟩ := Y0s hf
 refine W.loop hbs93 (fun s ρ w => match s with | (x88, x92) => ∃ (a89 : Option Addr), ∃ (c90 : Nat), ∃ (n91 : Nat), ρ 2 = .pointer (some ⟨g10, 0, none⟩) ∧ ρ 3 = .pointer (some ⟨g11, 0, none⟩) ∧ ρ 5 = .slice a89 n91 c90 ∧ ρ 6 = .int .i64 x27 ∧ ρ 7 = .slice a71 n73 c72 ∧ ρ 8 = .int .i64 x92 ∧ St ok (bz w0) w [vl Y0p x5 (.agg cs7.toArray), vl Y08 x1 (.agg cs3.toArray)] [own Y03 45 (.slice a71 n73 c72) x52, own Y05 92 (.slice a89 n91 c90) x88, blk g11 25 cs7, blk g10 31 cs3]) ⟨a24, c25, n26, ((hu70 2 rfl).trans h22_2), ((hu70 3 rfl).trans h22_3), ((hu70 5 rfl).trans h22_5), ((hu70 6 rfl).trans h22_6), rfl, rfl, (hs.mask [true, true, true, true]).pick [4, 5]⟩ ?_
 intro s ρ w os93 hI hf hbbs93
 obtain ⟨x88, x92⟩ := s
 obtain ⟨a89, c90, n91, h87_2, h87_3, h87_5, h87_6, h87_7, h87_8, hs⟩ := hI
 unfold Y0d.l2 at hf
 refine W.seqK fun K94 hK94 => ?_
 refine W.seqK fun K95 hK95 => ?_
 refine W.region ?_
 refine WL.move (v := .int .i64 x92) h87_8 ?_
 refine WL.move (v := .slice a71 n73 c72) h87_7 ?_
 refine WL.len (v := .slice a71 n73 c72) rfl (Y2M hs 0 rfl UN42) ?_
 refine WL.bin (v := .bool (decide (x92 < (x52.length : Int)))) rfl rfl (Y1n _ _ _) ?_
 refine WL.nil ?_
 refine hK95 _ _ ?_
 rcases iteE hf with ⟨hc96, hf⟩ | ⟨hc96, hf⟩
 {
 refine W.cond_true (Y02 rfl hc96) ?_
 refine W.skip ?_
 refine hK94 _ _ ?_
 refine W.seqK fun K97 hK97 => ?_
 have Jk103 : ∀ (x99 : List Y06) (a100 : Option Addr) (c101 : Nat) (n102 : Nat) (ρ : Env) (w : World), ρ 2 = .pointer (some ⟨g10, 0, none⟩) → ρ 3 = .pointer (some ⟨g11, 0, none⟩) → ρ 5 = .slice a100 n102 c101 → ρ 6 = .int .i64 x27 → ρ 7 = .slice a71 n73 c72 → ρ 8 = .int .i64 x92 → St ok (bz w0) w [vl Y0p x5 (.agg cs7.toArray), vl Y08 x1 (.agg cs3.toArray)] [own Y03 45 (.slice a71 n73 c72) x52, own Y05 92 (.slice a100 n102 c101) x99, blk g11 25 cs7, blk g10 31 cs3] → Y0d.j3 x92 x99 = some os93 → K97 ρ w := by
  intro x99 a100 c101 n102 ρ w h98_2 h98_3 h98_5 h98_6 h98_7 h98_8 hs hf
  refine hK97 _ _ ?_
  unfold Y0d.j3 at hf
  refine W.region ?_
  refine WL.move (v := .int .i64 x92) h98_8 ?_
  obtain ⟨x104, ex104, hf⟩ := letE hf
  refine WL.bin (v := .int .i64 x104) rfl rfl (Y1V ex104 (Y1t _ _ _)) ?_
  refine WL.assign (v := .int .i64 x104) rfl ?_
  refine WL.nil ?_
  exact ⟨_, (Option.some.inj hf).symm, a100, c101, n102, h98_2, h98_3, h98_5, h98_6, h98_7, rfl, (hs.mask [true, true, true, true]).pick [0, 1]⟩
 refine W.block ?_
 refine W.seqK fun K105 hK105 => ?_
 refine W.region ?_
 refine WL.assign (v := .int .i64 0) rfl ?_
 refine WL.nil ?_
 refine hK105 _ _ ?_
 refine W.seqK fun K106 hK106 => ?_
 have Jk109 : ∀ (x108 : Int) (ρ : Env) (w : World), ρ 2 = .pointer (some ⟨g10, 0, none⟩) → ρ 3 = .pointer (some ⟨g11, 0, none⟩) → ρ 5 = .slice a89 n91 c90 → ρ 6 = .int .i64 x27 → ρ 7 = .slice a71 n73 c72 → ρ 8 = .int .i64 x92 → ρ 9 = .int .i64 x108 → St ok (bz w0) w [vl Y0p x5 (.agg cs7.toArray), vl Y08 x1 (.agg cs3.toArray)] [own Y03 45 (.slice a71 n73 c72) x52, own Y05 92 (.slice a89 n91 c90) x88, blk g11 25 cs7, blk g10 31 cs3] → Y0d.j6 x5 x27 x52 x88 x92 x108 = some os93 → K106 ρ w := by
  intro x108 ρ w h107_2 h107_3 h107_5 h107_6 h107_7 h107_8 h107_9 hs hf
  refine hK106 _ _ ?_
  unfold Y0d.j6 at hf
  refine W.seqK fun K110 hK110 => ?_
  have Jk116 : ∀ (x112 : List Y06) (a113 : Option Addr) (c114 : Nat) (n115 : Nat) (ρ : Env) (w : World), ρ 2 = .pointer (some ⟨g10, 0, none⟩) → ρ 3 = .pointer (some ⟨g11, 0, none⟩) → ρ 5 = .slice a113 n115 c114 → ρ 6 = .int .i64 x27 → ρ 7 = .slice a71 n73 c72 → ρ 8 = .int .i64 x92 → ρ 9 = .int .i64 x108 → St ok (bz w0) w [vl Y0p x5 (.agg cs7.toArray), vl Y08 x1 (.agg cs3.toArray)] [own Y03 45 (.slice a71 n73 c72) x52, own Y05 92 (.slice a113 n115 c114) x112, blk g11 25 cs7, blk g10 31 cs3] → Y0d.j4 x5 x27 x92 x108 x112 = some os93 → K110 ρ w := by
   intro x112 a113 c114 n115 ρ w h111_2 h111_3 h111_5 h111_6 h111_7 h111_8 h111_9 hs hf
   refine hK110 _ _ ?_
   unfold Y0d.j4 at hf
   obtain ⟨x177, hxx177, hf⟩ := Y0s hf
   obtain ⟨x183, hxx183, hf⟩ := Y0s hf
   obtain ⟨hbx183, hex183⟩ := appE hxx183
   obtain ⟨x191, hxx191, hf⟩ := Y0s hf
   obtain ⟨x197, hxx197, hf⟩ := Y0s hf
   obtain ⟨hbx197, hex197⟩ := appE hxx197
   obtain ⟨x202, hxx202, hf⟩ := Y0s hf
   refine W.anyT (by kernel_rfl) 19 1 [true, true, true, true, true, true, true, true, true, true, true, true, true, true, true, true, true, true, true, false] rfl rfl (poAt [pv (.slice a113 n115 c114), pv (.int .i64 x108), pq (fun y : Option Addr => .slice y 0 0) (fun v => []) (fun v => []), pv (.slice a113 n115 c114), pv (.int .i64 x108), po (fun ad => Go.Proofs.YtpfgdjfiimknlaaGreatL.OwnAt 4 (.slice a113 n115 c114) x108 ad), po (fun ad => Y4B 4 3 (.slice a113 n115 c114) x108 ad), pq (fun y : (Option Addr × Nat) => .slice y.1 (x177.Objects).length y.2) (fun v => [vl (Y0b tStr) x177.Objects v]) (fun v => []), pq (fun y : (Option Addr × Nat × Nat) => .slice y.1 y.2.1 y.2.2) (fun v => []) (fun v => [own tStr 9 v x183]), pv (.pointer (some ⟨g11, 0, none⟩)), pq (fun y : (Option Addr × Nat) => .slice y.1 (x5.Objects).length y.2) (fun v => [vl (Y0b Y0g) x5.Objects v]) (fun v => []), pv (.int .i64 x27), pq (fun y : Addr => .pointer (some y)) (fun v => [pl Y0g x191 (adOf v)]) (fun v => []), pq (fun y : Addr => .pointer (some y)) (fun v => [pl tStr x191.Name (adOf v)]) (fun v => []), pv (bstr x191.Name), pq (fun y : (Option Addr × Nat) => .slice y.1 ([x191.Name]).length y.2) (fun v => [vl (Y0b tStr) [x191.Name] v]) (fun v => []), pq (fun y : (Option Addr × Nat × Nat) => .slice y.1 y.2.1 y.2.2) (fun v => []) (fun v => [own tStr 9 v x197]), po (fun ad => Go.Proofs.YtpfgdjfiimknlaaGreatL.OwnAt 4 (.slice a113 n115 c114) x108 ad), po (fun ad => Y4B 4 3 (.slice a113 n115 c114) x108 ad)]) (tkAt [[], [], [], [], [], [], [], [], [], [], [], [], [], [], [], [], [8], [], []]) (Λ := [own Y03 45 (.slice a71 n73 c72) x52, own Y05 92 (.slice a113 n115 c114) x112, blk g11 25 cs7, blk g10 31 cs3]) hs (by kernel_rfl) (by kernel_rfl) (by kernel_rfl) (by kernel_rfl) ⟨⟨⟨⟨⟨⟨⟨⟨⟨⟨⟨⟨⟨⟨⟨⟨⟨⟨⟨trivial, ?_⟩, ?_⟩, ?_⟩, ?_⟩, ?_⟩, ?_⟩, ?_⟩, ?_⟩, ?_⟩, ?_⟩, ?_⟩, ?_⟩, ?_⟩, ?_⟩, ?_⟩, ?_⟩, ?_⟩, ?_⟩, ?_⟩ ?_
   {
   intro ρ w Γx Λx hs hu hp
   refine WL.move (v := .slice a113 n115 c114) ((hu 5 rfl).trans h111_5) ?_
   exact WL.nil ⟨rfl, _, rfl, rfl, hs.cutG 0 0⟩ }
   {
   intro ρ w Γx Λx hs hu hp
   refine WL.move (v := .int .i64 x108) ((hu 9 rfl).trans h111_9) ?_
   exact WL.nil ⟨rfl, _, rfl, rfl, hs.cutG 0 0⟩ }
   {
   intro ρ w Γx Λx hs hu hp
   refine WL.buildSlice0 hs UN56 TI9 (fun a176 w hs => ?_)
   exact WL.nil ⟨rfl, _, rfl, ⟨a176, rfl⟩, hs.cutG 0 0⟩ }
   {
   intro ρ w Γx Λx hs hu hp
   refine WL.move (v := .slice a113 n115 c114) ((hu 5 rfl).trans h111_5) ?_
   exact WL.nil ⟨rfl, _, rfl, rfl, hs.cutG 0 0⟩ }
   {
   intro ρ w Γx Λx hs hu hp
   refine WL.move (v := .int .i64 x108) ((hu 9 rfl).trans h111_9) ?_
   exact WL.nil ⟨rfl, _, rfl, rfl, hs.cutG 0 0⟩ }
   {
   intro ρ w Γx Λx hs hu hp
   have e205 : ρ 88 = .slice a113 n115 c114 := (hp 3 rfl).1
   have e206 : ρ 89 = .int .i64 x108 := (hp 4 rfl).1
   refine WL.indexAddrO hs (Λx.length + 1) (Y0q rfl) UN49 TI92 e205 e206 hxx177 (fun ad178 hatad178 => ?_)
   exact WL.nil ⟨rfl, _, rfl, ⟨ad178, rfl, hatad178⟩, hs.cutG 0 0⟩ }
   {
   intro ρ w Γx Λx hs hu hp
   obtain ⟨ad208, e207, hatad208⟩ := (hp 5 rfl).1
   have e207 : ρ 90 = .pointer (some ad208) := e207
   refine WL.fieldAddrO (OwnAt.f hatad208) e207 Y9d rfl (fun ad179 hatad179 => ?_)
   exact WL.nil ⟨rfl, _, rfl, ⟨ad179, rfl, hatad179⟩, hs.cutG 0 0⟩ }
   {
   intro ρ w Γx Λx hs hu hp
   obtain ⟨ad210, e209, hatad210⟩ := (hp 6 rfl).1
   have e209 : ρ 91 = .pointer (some ad210) := e209
   refine WL.loadOF (z := x177.Objects) Y1H hs (Λx.length + 1) (Y0q rfl) TI56 (.inr rfl) hatad210 hxx177 e209 rfl (fun v180 hs => ?_)
   obtain ⟨a181, c182, rfl⟩ := hs.slice 0 rfl
   have hs := hs.add (it := vl (Y0b tStr) x177.Objects (.slice a181 (x177.Objects).length c182)) fun ok hA => hA.get 0 rfl
   exact WL.nil ⟨rfl, _, rfl, ⟨(a181, c182), rfl⟩, hs.cutG 1 1⟩ }
   {
   intro ρ w Γx Λx hs hu hp
   obtain ⟨⟨a211, e212r⟩, hm213⟩ := hp 2 rfl
   have e212 : ρ 87 = .slice a211 0 0 := e212r
   obtain ⟨⟨⟨a214, c215⟩, e216r⟩, hm217⟩ := hp 7 rfl
   have e216 : ρ 92 = .slice a214 (x177.Objects).length c215 := e216r
   rw [e216r] at hm217
   have hs := hs.memo1 (it := vl (Y0b tStr) x177.Objects (.slice a214 (x177.Objects).length c215)) (List.mem_append.2 (.inl (hm217 _ (List.mem_of_getElem? (i := 0) rfl))))
   have hs := hs.ownEmpty tStr 9 a211
   refine WL.appendS (zs := x183) hs 0 rfl 0 rfl UN56 UN56 EI9 e212 e216 hbx183 (by omega) hex183 (fun v184 w hs => ?_)
   obtain ⟨a185, n187, c186, rfl⟩ := hs.ownv3 0 rfl
   exact WL.nil ⟨rfl, _, rfl, ⟨(a185, n187, c186), rfl⟩, hs.cutG 0 1⟩ }
   {
   intro ρ w Γx Λx hs hu hp
   refine WL.fieldAddr (m := 0) ((hu 3 rfl).trans h111_3) Y5I rfl ?_
   exact WL.nil ⟨rfl, _, rfl, rfl, hs.cutG 0 0⟩ }
   {
   intro ρ w Γx Λx hs hu hp
   have e218 : ρ 94 = .pointer (some ⟨g11, 0, none⟩) := (hp 9 rfl).1
   refine WL.loadF (z := x5.Objects) Y1I hs (Λx.length + 2) (Y0q rfl) (Γx.length + 0) (Y0q rfl) rfl TI23 (.inr rfl) e218 rfl (fun v188 hs => ?_)
   obtain ⟨a189, c190, rfl⟩ := hs.slice 0 rfl
   have hs := hs.add (it := vl (Y0b Y0g) x5.Objects (.slice a189 (x5.Objects).length c190)) fun ok hA => hA.get 0 rfl
   exact WL.nil ⟨rfl, _, rfl, ⟨(a189, c190), rfl⟩, hs.cutG 1 1⟩ }
   {
   intro ρ w Γx Λx hs hu hp
   refine WL.move (v := .int .i64 x27) ((hu 6 rfl).trans h111_6) ?_
   exact WL.nil ⟨rfl, _, rfl, rfl, hs.cutG 0 0⟩ }
   {
   intro ρ w Γx Λx hs hu hp
   obtain ⟨⟨⟨a219, c220⟩, e221r⟩, hm222⟩ := hp 10 rfl
   have e221 : ρ 95 = .slice a219 (x5.Objects).length c220 := e221r
   rw [e221r] at hm222
   have hs := hs.memo1 (it := vl (Y0b Y0g) x5.Objects (.slice a219 (x5.Objects).length c220)) (List.mem_append.2 (.inl (hm222 _ (List.mem_of_getElem? (i := 0) rfl))))
   have e223 : ρ 96 = .int .i64 x27 := (hp 11 rfl).1
   refine WL.indexAddr hs 0 rfl UN23 TI41 e221 e223 hxx191 (fun ad192 hs => ?_)
   have hs := hs.add (it := pl Y0g x191 ad192) fun ok hA => hA.get 0 rfl
   exact WL.nil ⟨rfl, _, rfl, ⟨ad192, rfl⟩, hs.cutG 1 2⟩ }
   {
   intro ρ w Γx Λx hs hu hp
   obtain ⟨⟨ad224, e225r⟩, hm226⟩ := hp 12 rfl
   have e225 : ρ 97 = .pointer (some ad224) := e225r
   rw [e225r] at hm226
   have hs := hs.memo1 (it := pl Y0g x191 ad224) (List.mem_append.2 (.inl (hm226 _ (List.mem_of_getElem? (i := 0) rfl))))
   refine WL.fieldAddrP (z := x191.Name) Y3i hs 0 rfl e225 Y9f rfl (fun ad193 hs => ?_)
   have hs := hs.add (it := pl tStr x191.Name ad193) fun ok hA => hA.get 0 rfl
   exact WL.nil ⟨rfl, _, rfl, ⟨ad193, rfl⟩, hs.cutG 1 2⟩ }
   {
   intro ρ w Γx Λx hs hu hp
   obtain ⟨⟨ad227, e228r⟩, hm229⟩ := hp 13 rfl
   have e228 : ρ 98 = .pointer (some ad227) := e228r
   rw [e228r] at hm229
   have hs := hs.memo1 (it := pl tStr x191.Name ad227) (List.mem_append.2 (.inl (hm229 _ (List.mem_of_getElem? (i := 0) rfl))))
   refine WL.loadP hs 0 rfl TI9 (.inr rfl) e228 (fun v194 hs => ?_)
   obtain rfl := hs.str 0 rfl
   exact WL.nil ⟨rfl, _, rfl, rfl, hs.cutG 0 2⟩ }
   {
   intro ρ w Γx Λx hs hu hp
   have e230 : ρ 99 = bstr x191.Name := (hp 14 rfl).1
   refine WL.buildSliceB (ys := [x191.Name]) (n := 1) (vs := [(0, bstr x191.Name)]) (cs := [bstr x191.Name]) hs ⟨⟨rfl, e230⟩, trivial⟩ (bls PS56 (by decide) rfl) (fun ok hA => (Y0U.one (T := tStr) rfl)) rfl (by decide) (fun a196 w hBl hs => ?_)
   have hs := hs.add (it := vl (Y0b tStr) [x191.Name] (.slice a196 ([x191.Name]).length 1)) fun ok hA => hA.get 0 rfl
   exact WL.nil ⟨rfl, _, rfl, ⟨(a196, 1), rfl⟩, hs.cutG 1 1⟩ }
   {
   intro ρ w Γx Λx hs hu hp
   have hs : St ok (bz w0) w (Γx ++ [vl Y0p x5 (.agg cs7.toArray), vl Y08 x1 (.agg cs3.toArray)]) (Λx ++ ([own tStr 9 ((ρ 93)) x183] ++ [own Y03 45 (.slice a71 n73 c72) x52, own Y05 92 (.slice a113 n115 c114) x112, blk g11 25 cs7, blk g10 31 cs3])) := hs
   obtain ⟨⟨⟨a231, n233, c232⟩, e234r⟩, hm235⟩ := hp 8 rfl
   have e234 : ρ 93 = .slice a231 n233 c232 := e234r
   rw [e234] at hs
   obtain ⟨⟨⟨a236, c237⟩, e238r⟩, hm239⟩ := hp 15 rfl
   have e238 : ρ 100 = .slice a236 ([x191.Name]).length c237 := e238r
   rw [e238r] at hm239
   have hs := hs.memo1 (it := vl (Y0b tStr) [x191.Name] (.slice a236 ([x191.Name]).length c237)) (List.mem_append.2 (.inl (hm239 _ (List.mem_of_getElem? (i := 0) rfl))))
   refine WL.appendS (zs := x197) hs (Λx.length + 0) (Y0q rfl) 0 rfl UN56 UN56 EI9 e234 e238 hbx197 (by omega) hex197 (fun v198 w hs => ?_)
   have hs := hs.backP
   obtain ⟨a199, n201, c200, rfl⟩ := hs.ownv3 0 rfl
   exact WL.nil ⟨rfl, _, rfl, ⟨(a199, n201, c200), rfl⟩, hs.cutG 0 1⟩ }
   {
   intro ρ w Γx Λx hs hu hp
   have e240 : ρ 85 = .slice a113 n115 c114 := (hp 0 rfl).1
   have e241 : ρ 86 = .int .i64 x108 := (hp 1 rfl).1
   refine WL.indexAddrO hs (Λx.length + 1) (Y0q rfl) UN49 TI92 e240 e241 hxx202 (fun ad203 hatad203 => ?_)
   exact WL.nil ⟨rfl, _, rfl, ⟨ad203, rfl, hatad203⟩, hs.cutG 0 0⟩ }
   {
   intro ρ w Γx Λx hs hu hp
   obtain ⟨ad243, e242, hatad243⟩ := (hp 17 rfl).1
   have e242 : ρ 102 = .pointer (some ad243) := e242
   refine WL.fieldAddrO (OwnAt.f hatad243) e242 Y9d rfl (fun ad204 hatad204 => ?_)
   exact WL.nil ⟨rfl, _, rfl, ⟨ad204, rfl, hatad204⟩, hs.cutG 0 0⟩ }
   {
   intro ρ w hs hu244 hp
   obtain ⟨⟨⟨⟨⟨⟨⟨⟨⟨⟨⟨⟨⟨⟨⟨⟨⟨⟨⟨_, hp0_⟩, hp1_⟩, hp2_⟩, hp3_⟩, hp4_⟩, hp5_⟩, hp6_⟩, hp7_⟩, hp8_⟩, hp9_⟩, hp10_⟩, hp11_⟩, hp12_⟩, hp13_⟩, hp14_⟩, hp15_⟩, hp16_⟩, hp17_⟩, hp18_⟩ := hp
   have hs : St ok (bz w0) w [vl (Y0b tStr) [x191.Name] (ρ 100), pl tStr x191.Name (adOf (ρ 98)), pl Y0g x191 (adOf (ρ 97)), vl (Y0b Y0g) x5.Objects (ρ 95), vl (Y0b tStr) x177.Objects (ρ 92), vl Y0p x5 (.agg cs7.toArray), vl Y08 x1 (.agg cs3.toArray)] [own tStr 9 ((ρ 101)) x197, own Y03 45 (.slice a71 n73 c72) x52, own Y05 92 (.slice a113 n115 c114) x112, blk g11 25 cs7, blk g10 31 cs3] := hs
   obtain ⟨ad246, e245, hatad246⟩ := hp18_
   have e245 : ρ 103 = .pointer (some ad246) := e245
   obtain ⟨⟨a247, n249, c248⟩, e250⟩ := hp16_
   have e250 : ρ 101 = .slice a247 n249 c248 := e250
   try rw [e250] at hs
   obtain ⟨⟨a251, c252⟩, e253⟩ := hp15_
   have e253 : ρ 100 = .slice a251 ([x191.Name]).length c252 := e253
   try rw [e253] at hs
   have e254 : ρ 99 = bstr x191.Name := hp14_
   obtain ⟨ad255, e256⟩ := hp13_
   have e256 : ρ 98 = .pointer (some ad255) := e256
   try rw [e256] at hs
   obtain ⟨ad257, e258⟩ := hp12_
   have e258 : ρ 97 = .pointer (some ad257) := e258
   try rw [e258] at hs
   have e259 : ρ 96 = .int .i64 x27 := hp11_
   obtain ⟨⟨a260, c261⟩, e262⟩ := hp10_
   have e262 : ρ 95 = .slice a260 (x5.Objects).length c261 := e262
   try rw [e262] at hs
   have e263 : ρ 94 = .pointer (some ⟨g11, 0, none⟩) := hp9_
   obtain ⟨⟨a264, n266, c265⟩, e267⟩ := hp8_
   have e267 : ρ 93 = .slice a264 n266 c265 := e267
   try rw [e267] at hs
   obtain ⟨⟨a268, c269⟩, e270⟩ := hp7_
   have e270 : ρ 92 = .slice a268 (x177.Objects).length c269 := e270
   try rw [e270] at hs
   have e271 : ρ 89 = .int .i64 x108 := hp4_
   have e272 : ρ 88 = .slice a113 n115 c114 := hp3_
   obtain ⟨a273, e274⟩ := hp2_
   have e274 : ρ 87 = .slice a273 0 0 := e274
   try rw [e274] at hs
   have e275 : ρ 86 = .int .i64 x108 := hp1_
   have e276 : ρ 85 = .slice a113 n115 c114 := hp0_
   refine WA.step [19] (by kernel_rfl) (by simp) ⟨?_, trivial⟩
   obtain rfl := hs.ownLen 0 rfl
   have hs := hs.freezeOwn 0 rfl
   obtain ⟨x277, exx277, hf⟩ := letE hf
   refine WL.storeOF (z := x197) (vs := [.slice a247 x197.length c248]) (zs := x277) Y1H hs 1 rfl TI56 hatad246 hxx202 e245 e250 rfl (fun ok hA => (Y5M (hA.get 0 rfl))) exx277 (fun w hs => ?_)
   refine WL.nil ⟨rfl, _, rfl, ?_⟩
   refine WA.done (by kernel_rfl) ?_
   exact Jk103 x277 a113 c114 n115 _ _ ((hu244 2 rfl).trans h111_2) ((hu244 3 rfl).trans h111_3) ((hu244 5 rfl).trans h111_5) ((hu244 6 rfl).trans h111_6) ((hu244 7 rfl).trans h111_7) ((hu244 8 rfl).trans h111_8) ((hs.mask [true, true, true, true]).pick [6, 7]) hf }
  refine W.seqK fun K278 hK278 => ?_
  have Jk281 : ∀ (x280 : Bool) (ρ : Env) (w : World), ρ 2 = .pointer (some ⟨g10, 0, none⟩) → ρ 3 = .pointer (some ⟨g11, 0, none⟩) → ρ 5 = .slice a89 n91 c90 → ρ 6 = .int .i64 x27 → ρ 7 = .slice a71 n73 c72 → ρ 8 = .int .i64 x92 → ρ 9 = .int .i64 x108 → ρ 64 = .bool x280 → St ok (bz w0) w [vl Y0p x5 (.agg cs7.toArray), vl Y08 x1 (.agg cs3.toArray)] [own Y03 45 (.slice a71 n73 c72) x52, own Y05 92 (.slice a89 n91 c90) x88, blk g11 25 cs7, blk g10 31 cs3] → Y0d.j5 x5 x27 x52 x88 x92 x108 x280 = some os93 → K278 ρ w := by
   intro x280 ρ w h279_2 h279_3 h279_5 h279_6 h279_7 h279_8 h279_9 h279_64 hs hf
   refine hK278 _ _ ?_
   unfold Y0d.j5 at hf
   rcases iteE hf with ⟨hc282, hf⟩ | ⟨hc282, hf⟩
   {
   refine W.cond_true (Y02 h279_64 hc282) ?_
   refine W.seqK fun K283 hK283 => ?_
   refine W.region ?_
   refine WL.move (v := .slice a89 n91 c90) h279_5 ?_
   refine WL.build (vs := []) (cs := [.int .i64 0, .int .i64 0, bstr [], .slice none 0 0]) trivial (bld PL92 rfl) ?_
   refine WL.buildSlice (n := 1) (vs := [(0, .agg ([.int .i64 0, .int .i64 0, bstr [], .slice none 0 0] : List Value).toArray)]) (cs := [.int .i64 0, .int .i64 0, bstr [], .slice none 0 0]) hs ⟨⟨rfl, rfl⟩, trivial⟩ (bls PS49 (by decide) rfl) (fun g284 w hs => ?_)
   obtain ⟨x285, hxx285, hf⟩ := Y0s hf
   obtain ⟨hbx285, hex285⟩ := appE hxx285
   refine WL.append (ys := [(⟨(⟨0, 0, []⟩ : Y00), []⟩ : Y06)]) (zs := x285) hs 2 rfl 0 rfl UN49 EI92 rfl rfl (fun ok hA => (Y0U.one (T := Y05) (show Y05.R ok _ (⟨(⟨0, 0, []⟩ : Y00), []⟩ : Y06) _ from ⟨([.int .i64 0, .int .i64 0, bstr []]), [.slice none 0 0], rfl, ⟨[.int .i64 0], ([.int .i64 0, bstr []]), rfl, rfl, ⟨[.int .i64 0], ([bstr []]), rfl, rfl, rfl⟩⟩, Y7z⟩))) hbx285 (by omega) hex285 (fun v286 w hs => ?_)
   obtain ⟨a287, n289, c288, rfl⟩ := hs.ownv3 2 rfl
   refine WL.assign (v := .slice a287 n289 c288) rfl ?_
   refine WL.nil ?_
   refine hK283 _ _ ?_
   refine W.seqK fun K290 hK290 => ?_
   obtain ⟨x291, ex291, hf⟩ := letE hf
   obtain ⟨hn292, hf⟩ := Y2O hf
   obtain ⟨hn293, hf⟩ := Y2O hf
   refine W.any (by kernel_rfl) 7 1 [true, true, true, true, true, true, true, false] rfl rfl (poAt [pv (.slice a287 n289 c288), pv (.int .i64 x108), pv (.int .i64 x291), pv (cutv a287 ((x291).toNat) n289 c288 4), pv (.slice a287 n289 c288), pv (.int .i64 x108), pv (cutv a287 ((x108).toNat) n289 c288 4)]) (Λ := [blk g284 92 ([.int .i64 0, .int .i64 0, bstr [], .slice none 0 0]), own Y03 45 (.slice a71 n73 c72) x52, own Y05 92 (.slice a287 n289 c288) x285, blk g11 25 cs7, blk g10 31 cs3]) hs (by kernel_rfl) (by kernel_rfl) (by kernel_rfl) ⟨⟨⟨⟨⟨⟨⟨trivial, ?_⟩, ?_⟩, ?_⟩, ?_⟩, ?_⟩, ?_⟩, ?_⟩ ?_
   {
   intro ρ w Γx Λx hs hu hp
   refine WL.move (v := .slice a287 n289 c288) (hu 5 rfl) ?_
   exact WL.nil ⟨rfl, _, rfl, rfl, hs.cutG 0 0⟩ }
   {
   intro ρ w Γx Λx hs hu hp
   refine WL.move (v := .int .i64 x108) ((hu 9 rfl).trans h279_9) ?_
   exact WL.nil ⟨rfl, _, rfl, rfl, hs.cutG 0 0⟩ }
   {
   intro ρ w Γx Λx hs hu hp
   have e294 : ρ 70 = .int .i64 x108 := (hp 1 rfl).1
   refine WL.bin (v := .int .i64 x291) e294 rfl (Y1V ex291 (Y1t _ _ _)) ?_
   exact WL.nil ⟨rfl, _, rfl, rfl, hs.cutG 0 0⟩ }
   {
   intro ρ w Γx Λx hs hu hp
   have e295 : ρ 69 = .slice a287 n289 c288 := (hp 0 rfl).1
   have e296 : ρ 71 = .int .i64 x291 := (hp 2 rfl).1
   refine WL.view_l hs (Λx.length + 2) (Y0q rfl) UN49 TI92 e295 e296 hn292 ?_
   exact WL.nil ⟨rfl, _, rfl, rfl, hs.cutG 0 0⟩ }
   {
   intro ρ w Γx Λx hs hu hp
   refine WL.move (v := .slice a287 n289 c288) (hu 5 rfl) ?_
   exact WL.nil ⟨rfl, _, rfl, rfl, hs.cutG 0 0⟩ }
   {
   intro ρ w Γx Λx hs hu hp
   refine WL.move (v := .int .i64 x108) ((hu 9 rfl).trans h279_9) ?_
   exact WL.nil ⟨rfl, _, rfl, rfl, hs.cutG 0 0⟩ }
   {
   intro ρ w Γx Λx hs hu hp
   have e297 : ρ 73 = .slice a287 n289 c288 := (hp 4 rfl).1
   have e298 : ρ 74 = .int .i64 x108 := (hp 5 rfl).1
   refine WL.view_l hs (Λx.length + 2) (Y0q rfl) UN49 TI92 e297 e298 hn293 ?_
   exact WL.nil ⟨rfl, _, rfl, rfl, hs.cutG 0 0⟩ }
   {
   intro ρ w hs hu299 hp
   obtain ⟨⟨⟨⟨⟨⟨⟨_, hp0_⟩, hp1_⟩, hp2_⟩, hp3_⟩, hp4_⟩, hp5_⟩, hp6_⟩ := hp
   have hs : St ok (bz w0) w [vl Y0p x5 (.agg cs7.toArray), vl Y08 x1 (.agg cs3.toArray)] [blk g284 92 ([.int .i64 0, .int .i64 0, bstr [], .slice none 0 0]), own Y03 45 (.slice a71 n73 c72) x52, own Y05 92 (.slice a287 n289 c288) x285, blk g11 25 cs7, blk g10 31 cs3] := hs
   have e300 : ρ 75 = cutv a287 ((x108).toNat) n289 c288 4 := hp6_
   have e301 : ρ 74 = .int .i64 x108 := hp5_
   have e302 : ρ 73 = .slice a287 n289 c288 := hp4_
   have e303 : ρ 72 = cutv a287 ((x291).toNat) n289 c288 4 := hp3_
   have e304 : ρ 71 = .int .i64 x291 := hp2_
   have e305 : ρ 70 = .int .i64 x108 := hp1_
   have e306 : ρ 69 = .slice a287 n289 c288 := hp0_
   refine WA.step [7] (by kernel_rfl) (by simp) ⟨?_, trivial⟩
   obtain ⟨x307, exx307, hf⟩ := letE hf
   refine WL.copyV (D := (x291).toNat) (L := (x108).toNat) hs 2 rfl UN49 TI92 e303 e300 (by omega) (by omega) exx307 (fun w hs => ?_)
   refine WL.nil ⟨rfl, _, rfl, ?_⟩
   refine WA.done (by kernel_rfl) ?_
   refine hK290 _ _ ?_
   refine W.region ?_
   refine WL.move (v := .slice a287 n289 c288) (hu299 5 rfl) ?_
   refine WL.move (v := .int .i64 x108) ((hu299 9 rfl).trans h279_9) ?_
   refine WL.move (v := .slice a71 n73 c72) ((hu299 7 rfl).trans h279_7) ?_
   refine WL.move (v := .int .i64 x92) ((hu299 8 rfl).trans h279_8) ?_
   obtain ⟨x308, hxx308, hf⟩ := Y0s hf
   refine WL.indexAddrO hs 1 rfl UN42 TI45 rfl rfl hxx308 (fun ad309 hatad309 => ?_)
   refine WL.loadO hs 1 rfl TI45 (.inl rfl) hatad309 hxx308 rfl (fun v310 hs => ?_)
   obtain ⟨cs311, hl312, rfl⟩ := hs.aggv (n := 3) 0 rfl rfl rfl
   refine WL.build (vs := [(0, .agg cs311.toArray)]) (cs := cs311 ++ ([.slice none 0 0] : List Value)) ⟨⟨rfl, rfl⟩, trivial⟩ (bld PL92 (by simp [Y4J, Value.cells, hl312])) ?_
   obtain ⟨x313, hxx313, hf⟩ := Y0s hf
   refine WL.indexAddrO hs 2 rfl UN49 TI92 rfl rfl hxx313 (fun ad314 hatad314 => ?_)
   obtain ⟨x315, exx315, hf⟩ := letE hf
   refine WL.storeO (y := (⟨x308, []⟩ : Y06)) (vs := cs311 ++ ([.slice none 0 0] : List Value)) (zs := x315) hs 2 rfl TI92 hatad314 hxx313 rfl rfl rfl (fun ok hA => ⟨cs311, [.slice none 0 0], by simp, (Y3F (hA.get 0 rfl) rfl), Y7z⟩) exx315 (fun w hs => ?_)
   refine WL.nil ?_
   exact Jk116 x315 a287 c288 n289 _ _ ((hu299 2 rfl).trans h279_2) ((hu299 3 rfl).trans h279_3) (hu299 5 rfl) ((hu299 6 rfl).trans h279_6) ((hu299 7 rfl).trans h279_7) ((hu299 8 rfl).trans h279_8) ((hu299 9 rfl).trans h279_9) ((hs.mask [false, true, true, true, true]).pick [1, 2]) hf } }
   {
   refine W.cond_false (Y02 h279_64 hc282) ?_
   refine W.skip ?_
   exact Jk116 x88 a89 c90 n91 _ _ h279_2 h279_3 h279_5 h279_6 h279_7 h279_8 h279_9 ((hs.mask [true, true, true, true]).pick [0, 1]) hf }
  rcases iteE hf with ⟨hc316, hf⟩ | ⟨hc316, hf⟩
  {
  refine W.any (by kernel_rfl) 16 0 [true, true, true, true, true, true, true, true, true, true, true, true, true, true, true, true] rfl rfl (poAt [pv (.int .i64 x108), pv (.slice a89 n91 c90), pv (.int .i64 (x88.length : Int)), pv (.bool (x108 == (x88.length : Int))), pv (.bool (x108 == (x88.length : Int))), pv (undef), pv (undef), pv (undef), pv (undef), pv (undef), pv (undef), pv (undef), pv (undef), pv (undef), pv (undef), pv (.bool true)]) (Λ := [own Y03 45 (.slice a71 n73 c72) x52, own Y05 92 (.slice a89 n91 c90) x88, blk g11 25 cs7, blk g10 31 cs3]) hs (by kernel_rfl) (by kernel_rfl) (by kernel_rfl) ⟨⟨⟨⟨⟨⟨⟨⟨⟨⟨⟨⟨⟨⟨⟨⟨trivial, ?_⟩, ?_⟩, ?_⟩, ?_⟩, ?_⟩, ?_⟩, ?_⟩, ?_⟩, ?_⟩, ?_⟩, ?_⟩, ?_⟩, ?_⟩, ?_⟩, ?_⟩, ?_⟩ ?_
  {
  intro ρ w Γx Λx hs hu hp
  refine WL.move (v := .int .i64 x108) ((hu 9 rfl).trans h107_9) ?_
  exact WL.nil ⟨rfl, _, rfl, rfl, hs.cutG 0 0⟩ }
  {
  intro ρ w Γx Λx hs hu hp
  refine WL.move (v := .slice a89 n91 c90) ((hu 5 rfl).trans h107_5) ?_
  exact WL.nil ⟨rfl, _, rfl, rfl, hs.cutG 0 0⟩ }
  {
  intro ρ w Γx Λx hs hu hp
  have e317 : ρ 50 = .slice a89 n91 c90 := (hp 1 rfl).1
  refine WL.len (v := .slice a89 n91 c90) e317 (Y2M hs (Λx.length + 1) (Y0q rfl) UN49) ?_
  exact WL.nil ⟨rfl, _, rfl, rfl, hs.cutG 0 0⟩ }
  {
  intro ρ w Γx Λx hs hu hp
  have e318 : ρ 49 = .int .i64 x108 := (hp 0 rfl).1
  have e319 : ρ 51 = .int .i64 (x88.length : Int) := (hp 2 rfl).1
  refine WL.bin (v := .bool (x108 == (x88.length : Int))) e318 e319 (Y1P _ _ _) ?_
  exact WL.nil ⟨rfl, _, rfl, rfl, hs.cutG 0 0⟩ }
  {
  intro ρ w Γx Λx hs hu hp
  have e320 : ρ 52 = .bool (x108 == (x88.length : Int)) := (hp 3 rfl).1
  refine WL.move (v := .bool (x108 == (x88.length : Int))) e320 ?_
  exact WL.nil ⟨rfl, _, rfl, rfl, hs.cutG 0 0⟩ }
  {
  intro ρ w Γx Λx hs hu hp
  have e321 : ρ 53 = .bool (x108 == (x88.length : Int)) := (hp 4 rfl).1
  refine WL.pass ((Y01 rfl rfl (Y02 e321 hc316)).trans rfl) rfl ?_
  exact WL.nil ⟨rfl, _, rfl, rfl, hs.cutG 0 0⟩ }
  {
  intro ρ w Γx Λx hs hu hp
  have e322 : ρ 53 = .bool (x108 == (x88.length : Int)) := (hp 4 rfl).1
  refine WL.pass ((Y01 rfl rfl (Y02 e322 hc316)).trans rfl) rfl ?_
  exact WL.nil ⟨rfl, _, rfl, rfl, hs.cutG 0 0⟩ }
  {
  intro ρ w Γx Λx hs hu hp
  have e323 : ρ 54 = undef := (hp 5 rfl).1
  have e324 : ρ 55 = undef := (hp 6 rfl).1
  have e325 : ρ 53 = .bool (x108 == (x88.length : Int)) := (hp 4 rfl).1
  refine WL.pass ((Y01 rfl rfl (Y02 e325 hc316)).trans rfl) rfl ?_
  exact WL.nil ⟨rfl, _, rfl, rfl, hs.cutG 0 0⟩ }
  {
  intro ρ w Γx Λx hs hu hp
  have e326 : ρ 56 = undef := (hp 7 rfl).1
  have e327 : ρ 53 = .bool (x108 == (x88.length : Int)) := (hp 4 rfl).1
  refine WL.pass ((Y01 rfl rfl (Y02 e327 hc316)).trans rfl) rfl ?_
  exact WL.nil ⟨rfl, _, rfl, rfl, hs.cutG 0 0⟩ }
  {
  intro ρ w Γx Λx hs hu hp
  have e328 : ρ 57 = undef := (hp 8 rfl).1
  have e329 : ρ 53 = .bool (x108 == (x88.length : Int)) := (hp 4 rfl).1
  refine WL.pass ((Y01 rfl rfl (Y02 e329 hc316)).trans rfl) rfl ?_
  exact WL.nil ⟨rfl, _, rfl, rfl, hs.cutG 0 0⟩ }
  {
  intro ρ w Γx Λx hs hu hp
  have e330 : ρ 53 = .bool (x108 == (x88.length : Int)) := (hp 4 rfl).1
  refine WL.pass ((Y01 rfl rfl (Y02 e330 hc316)).trans rfl) rfl ?_
  exact WL.nil ⟨rfl, _, rfl, rfl, hs.cutG 0 0⟩ }
  {
  intro ρ w Γx Λx hs hu hp
  have e331 : ρ 53 = .bool (x108 == (x88.length : Int)) := (hp 4 rfl).1
  refine WL.pass ((Y01 rfl rfl (Y02 e331 hc316)).trans rfl) rfl ?_
  exact WL.nil ⟨rfl, _, rfl, rfl, hs.cutG 0 0⟩ }
  {
  intro ρ w Γx Λx hs hu hp
  have e332 : ρ 59 = undef := (hp 10 rfl).1
  have e333 : ρ 60 = undef := (hp 11 rfl).1
  have e334 : ρ 53 = .bool (x108 == (x88.length : Int)) := (hp 4 rfl).1
  refine WL.pass ((Y01 rfl rfl (Y02 e334 hc316)).trans rfl) rfl ?_
  exact WL.nil ⟨rfl, _, rfl, rfl, hs.cutG 0 0⟩ }
  {
  intro ρ w Γx Λx hs hu hp
  have e335 : ρ 61 = undef := (hp 12 rfl).1
  have e336 : ρ 53 = .bool (x108 == (x88.length : Int)) := (hp 4 rfl).1
  refine WL.pass ((Y01 rfl rfl (Y02 e336 hc316)).trans rfl) rfl ?_
  exact WL.nil ⟨rfl, _, rfl, rfl, hs.cutG 0 0⟩ }
  {
  intro ρ w Γx Λx hs hu hp
  have e337 : ρ 58 = undef := (hp 9 rfl).1
  have e338 : ρ 62 = undef := (hp 13 rfl).1
  have e339 : ρ 53 = .bool (x108 == (x88.length : Int)) := (hp 4 rfl).1
  refine WL.pass ((Y01 rfl rfl (Y02 e339 hc316)).trans rfl) rfl ?_
  exact WL.nil ⟨rfl, _, rfl, rfl, hs.cutG 0 0⟩ }
  {
  intro ρ w Γx Λx hs hu hp
  have e340 : ρ 53 = .bool (x108 == (x88.length : Int)) := (hp 4 rfl).1
  have e341 : ρ 63 = undef := (hp 14 rfl).1
  refine WL.pickT (v := .bool true) (Y02 e340 hc316) rfl ?_
  exact WL.nil ⟨rfl, _, rfl, rfl, hs.cutG 0 0⟩ }
  {
  intro ρ w hs hu342 hp
  obtain ⟨⟨⟨⟨⟨⟨⟨⟨⟨⟨⟨⟨⟨⟨⟨⟨_, hp0_⟩, hp1_⟩, hp2_⟩, hp3_⟩, hp4_⟩, hp5_⟩, hp6_⟩, hp7_⟩, hp8_⟩, hp9_⟩, hp10_⟩, hp11_⟩, hp12_⟩, hp13_⟩, hp14_⟩, hp15_⟩ := hp
  have hs : St ok (bz w0) w [vl Y0p x5 (.agg cs7.toArray), vl Y08 x1 (.agg cs3.toArray)] [own Y03 45 (.slice a71 n73 c72) x52, own Y05 92 (.slice a89 n91 c90) x88, blk g11 25 cs7, blk g10 31 cs3] := hs
  have e343 : ρ 64 = .bool true := hp15_
  have e344 : ρ 63 = undef := hp14_
  have e345 : ρ 62 = undef := hp13_
  have e346 : ρ 61 = undef := hp12_
  have e347 : ρ 60 = undef := hp11_
  have e348 : ρ 59 = undef := hp10_
  have e349 : ρ 58 = undef := hp9_
  have e350 : ρ 57 = undef := hp8_
  have e351 : ρ 56 = undef := hp7_
  have e352 : ρ 55 = undef := hp6_
  have e353 : ρ 54 = undef := hp5_
  have e354 : ρ 53 = .bool (x108 == (x88.length : Int)) := hp4_
  have e355 : ρ 52 = .bool (x108 == (x88.length : Int)) := hp3_
  have e356 : ρ 51 = .int .i64 (x88.length : Int) := hp2_
  have e357 : ρ 50 = .slice a89 n91 c90 := hp1_
  have e358 : ρ 49 = .int .i64 x108 := hp0_
  refine WA.done (by kernel_rfl) ?_
  exact Jk281 true _ _ ((hu342 2 rfl).trans h107_2) ((hu342 3 rfl).trans h107_3) ((hu342 5 rfl).trans h107_5) ((hu342 6 rfl).trans h107_6) ((hu342 7 rfl).trans h107_7) ((hu342 8 rfl).trans h107_8) ((hu342 9 rfl).trans h107_9) e343 ((hs.mask [true, true, true, true]).pick [0, 1]) hf } }
  {
  obtain ⟨x359, hxx359, hf⟩ := Y0s hf
  obtain ⟨x365, hxx365, hf⟩ := Y0s hf
  refine W.any (by kernel_rfl) 16 0 [true, true, true, true, true, true, true, true, true, true, true, true, true, true, true, true] rfl rfl (poAt [pv (.int .i64 x108), pv (.slice a89 n91 c90), pv (.int .i64 (x88.length : Int)), pv (.bool (x108 == (x88.length : Int))), pv (.bool (x108 == (x88.length : Int))), pv (.slice a89 n91 c90), pv (.int .i64 x108), po (fun ad => Go.Proofs.YtpfgdjfiimknlaaGreatL.OwnAt 4 (.slice a89 n91 c90) x108 ad), po (fun ad => Y4B 4 0 (.slice a89 n91 c90) x108 ad), pq (fun y : List Value => .agg y.toArray) (fun v => [vl Y03 x359.Key v]) (fun v => []), pv (.slice a71 n73 c72), pv (.int .i64 x92), po (fun ad => Go.Proofs.YtpfgdjfiimknlaaGreatL.OwnAt 3 (.slice a71 n73 c72) x92 ad), pq (fun y : List Value => .agg y.toArray) (fun v => [vl Y03 x365 v]) (fun v => []), pv (.bool (!decide ((⟨x359.Key.f_Type, x359.Key.N, x359.Key.S⟩ : Y00) = (⟨x365.f_Type, x365.N, x365.S⟩ : Y00)))), pv (.bool (!decide ((⟨x359.Key.f_Type, x359.Key.N, x359.Key.S⟩ : Y00) = (⟨x365.f_Type, x365.N, x365.S⟩ : Y00))))]) (Λ := [own Y03 45 (.slice a71 n73 c72) x52, own Y05 92 (.slice a89 n91 c90) x88, blk g11 25 cs7, blk g10 31 cs3]) hs (by kernel_rfl) (by kernel_rfl) (by kernel_rfl) ⟨⟨⟨⟨⟨⟨⟨⟨⟨⟨⟨⟨⟨⟨⟨⟨trivial, ?_⟩, ?_⟩, ?_⟩, ?_⟩, ?_⟩, ?_⟩, ?_⟩, ?_⟩, ?_⟩, ?_⟩, ?_⟩, ?_⟩, ?_⟩, ?_⟩, ?_⟩, ?_⟩ ?_
  {
  intro ρ w Γx Λx hs hu hp
  refine WL.move (v := .int .i64 x108) ((hu 9 rfl).trans h107_9) ?_
  exact WL.nil ⟨rfl, _, rfl, rfl, hs.cutG 0 0⟩ }
  {
  intro ρ w Γx Λx hs hu hp
  refine WL.move (v := .slice a89 n91 c90) ((hu 5 rfl).trans h107_5) ?_
  exact WL.nil ⟨rfl, _, rfl, rfl, hs.cutG 0 0⟩ }
  {
  intro ρ w Γx Λx hs hu hp
  have e370 : ρ 50 = .slice a89 n91 c90 := (hp 1 rfl).1
  refine WL.len (v := .slice a89 n91 c90) e370 (Y2M hs (Λx.length + 1) (Y0q rfl) UN49) ?_
  exact WL.nil ⟨rfl, _, rfl, rfl, hs.cutG 0 0⟩ }
  {
  intro ρ w Γx Λx hs hu hp
  have e371 : ρ 49 = .int .i64 x108 := (hp 0 rfl).1
  have e372 : ρ 51 = .int .i64 (x88.length : Int) := (hp 2 rfl).1
  refine WL.bin (v := .bool (x108 == (x88.length : Int))) e371 e372 (Y1P _ _ _) ?_
  exact WL.nil ⟨rfl, _, rfl, rfl, hs.cutG 0 0⟩ }
  {
  intro ρ w Γx Λx hs hu hp
  have e373 : ρ 52 = .bool (x108 == (x88.length : Int)) := (hp 3 rfl).1
  refine WL.move (v := .bool (x108 == (x88.length : Int))) e373 ?_
  exact WL.nil ⟨rfl, _, rfl, rfl, hs.cutG 0 0⟩ }
  {
  intro ρ w Γx Λx hs hu hp
  have e374 : ρ 53 = .bool (x108 == (x88.length : Int)) := (hp 4 rfl).1
  refine WL.move (v := .slice a89 n91 c90) ((hu 5 rfl).trans h107_5) ?_ (hg := (Y01 rfl rfl (Y02 e374 hc316)).trans rfl)
  exact WL.nil ⟨rfl, _, rfl, rfl, hs.cutG 0 0⟩ }
  {
  intro ρ w Γx Λx hs hu hp
  have e375 : ρ 53 = .bool (x108 == (x88.length : Int)) := (hp 4 rfl).1
  refine WL.move (v := .int .i64 x108) ((hu 9 rfl).trans h107_9) ?_ (hg := (Y01 rfl rfl (Y02 e375 hc316)).trans rfl)
  exact WL.nil ⟨rfl, _, rfl, rfl, hs.cutG 0 0⟩ }
  {
  intro ρ w Γx Λx hs hu hp
  have e376 : ρ 54 = .slice a89 n91 c90 := (hp 5 rfl).1
  have e377 : ρ 55 = .int .i64 x108 := (hp 6 rfl).1
  have e378 : ρ 53 = .bool (x108 == (x88.length : Int)) := (hp 4 rfl).1
  refine WL.indexAddrO hs (Λx.length + 1) (Y0q rfl) UN49 TI92 e376 e377 hxx359 (fun ad360 hatad360 => ?_) (hg := (Y01 rfl rfl (Y02 e378 hc316)).trans rfl)
  exact WL.nil ⟨rfl, _, rfl, ⟨ad360, rfl, hatad360⟩, hs.cutG 0 0⟩ }
  {
  intro ρ w Γx Λx hs hu hp
  obtain ⟨ad380, e379, hatad380⟩ := (hp 7 rfl).1
  have e379 : ρ 56 = .pointer (some ad380) := e379
  have e381 : ρ 53 = .bool (x108 == (x88.length : Int)) := (hp 4 rfl).1
  refine WL.fieldAddrO (OwnAt.f hatad380) e379 Y86 rfl (fun ad361 hatad361 => ?_) (hg := (Y01 rfl rfl (Y02 e381 hc316)).trans rfl)
  exact WL.nil ⟨rfl, _, rfl, ⟨ad361, rfl, hatad361⟩, hs.cutG 0 0⟩ }
  {
  intro ρ w Γx Λx hs hu hp
  obtain ⟨ad383, e382, hatad383⟩ := (hp 8 rfl).1
  have e382 : ρ 57 = .pointer (some ad383) := e382
  have e384 : ρ 53 = .bool (x108 == (x88.length : Int)) := (hp 4 rfl).1
  refine WL.loadOF (z := x359.Key) Y1y hs (Λx.length + 1) (Y0q rfl) TI45 (.inl rfl) hatad383 hxx359 e382 rfl (fun v362 hs => ?_) (hg := (Y01 rfl rfl (Y02 e384 hc316)).trans rfl)
  obtain ⟨cs363, hl364, rfl⟩ := hs.aggv (n := 3) 0 rfl rfl rfl
  have hs := hs.add (it := vl Y03 x359.Key (.agg cs363.toArray)) fun ok hA => hA.get 0 rfl
  exact WL.nil ⟨rfl, _, rfl, ⟨cs363, rfl⟩, hs.cutG 1 1⟩ }
  {
  intro ρ w Γx Λx hs hu hp
  have e385 : ρ 53 = .bool (x108 == (x88.length : Int)) := (hp 4 rfl).1
  refine WL.move (v := .slice a71 n73 c72) ((hu 7 rfl).trans h107_7) ?_ (hg := (Y01 rfl rfl (Y02 e385 hc316)).trans rfl)
  exact WL.nil ⟨rfl, _, rfl, rfl, hs.cutG 0 0⟩ }
  {
  intro ρ w Γx Λx hs hu hp
  have e386 : ρ 53 = .bool (x108 == (x88.length : Int)) := (hp 4 rfl).1
  refine WL.move (v := .int .i64 x92) ((hu 8 rfl).trans h107_8) ?_ (hg := (Y01 rfl rfl (Y02 e386 hc316)).trans rfl)
  exact WL.nil ⟨rfl, _, rfl, rfl, hs.cutG 0 0⟩ }
  {
  intro ρ w Γx Λx hs hu hp
  have e387 : ρ 59 = .slice a71 n73 c72 := (hp 10 rfl).1
  have e388 : ρ 60 = .int .i64 x92 := (hp 11 rfl).1
  have e389 : ρ 53 = .bool (x108 == (x88.length : Int)) := (hp 4 rfl).1
  refine WL.indexAddrO hs (Λx.length + 0) (Y0q rfl) UN42 TI45 e387 e388 hxx365 (fun ad366 hatad366 => ?_) (hg := (Y01 rfl rfl (Y02 e389 hc316)).trans rfl)
  exact WL.nil ⟨rfl, _, rfl, ⟨ad366, rfl, hatad366⟩, hs.cutG 0 0⟩ }
  {
  intro ρ w Γx Λx hs hu hp
  obtain ⟨ad391, e390, hatad391⟩ := (hp 12 rfl).1
  have e390 : ρ 61 = .pointer (some ad391) := e390
  have e392 : ρ 53 = .bool (x108 == (x88.length : Int)) := (hp 4 rfl).1
  refine WL.loadO hs (Λx.length + 0) (Y0q rfl) TI45 (.inl rfl) hatad391 hxx365 e390 (fun v367 hs => ?_) (hg := (Y01 rfl rfl (Y02 e392 hc316)).trans rfl)
  obtain ⟨cs368, hl369, rfl⟩ := hs.aggv (n := 3) 0 rfl rfl rfl
  have hs := hs.add (it := vl Y03 x365 (.agg cs368.toArray)) fun ok hA => hA.get 0 rfl
  exact WL.nil ⟨rfl, _, rfl, ⟨cs368, rfl⟩, hs.cutG 1 1⟩ }
  {
  intro ρ w Γx Λx hs hu hp
  obtain ⟨⟨cs393, e395r⟩, hm396⟩ := hp 9 rfl
  have e395 : ρ 58 = .agg cs393.toArray := e395r
  rw [e395r] at hm396
  have hs := hs.memo1 (it := vl Y03 x359.Key (.agg cs393.toArray)) (List.mem_append.2 (.inl (hm396 _ (List.mem_of_getElem? (i := 0) rfl))))
  have hl394 := hs.agglen (n := 3) 0 rfl rfl rfl
  obtain ⟨⟨cs397, e399r⟩, hm400⟩ := hp 13 rfl
  have e399 : ρ 62 = .agg cs397.toArray := e399r
  rw [e399r] at hm400
  have hs := hs.memo1 (it := vl Y03 x365 (.agg cs397.toArray)) (List.mem_cons_of_mem _ (List.mem_append.2 (.inl (hm400 _ (List.mem_of_getElem? (i := 0) rfl)))))
  have hl398 := hs.agglen (n := 3) 0 rfl rfl rfl
  have e401 : ρ 53 = .bool (x108 == (x88.length : Int)) := (hp 4 rfl).1
  obtain rfl := Y0Z hs 1 rfl
  obtain rfl := Y0Z hs 0 rfl
  refine WL.eqA e395 e399 EG45 (NQ45 (⟨x359.Key.f_Type, x359.Key.N, x359.Key.S⟩ : Y00) (⟨x365.f_Type, x365.N, x365.S⟩ : Y00)) ?_ (hg := (Y01 rfl rfl (Y02 e401 hc316)).trans rfl)
  exact WL.nil ⟨rfl, _, rfl, rfl, hs.cutG 0 2⟩ }
  {
  intro ρ w Γx Λx hs hu hp
  have e402 : ρ 53 = .bool (x108 == (x88.length : Int)) := (hp 4 rfl).1
  have e403 : ρ 63 = .bool (!decide ((⟨x359.Key.f_Type, x359.Key.N, x359.Key.S⟩ : Y00) = (⟨x365.f_Type, x365.N, x365.S⟩ : Y00))) := (hp 14 rfl).1
  refine WL.pickF (v := .bool (!decide ((⟨x359.Key.f_Type, x359.Key.N, x359.Key.S⟩ : Y00) = (⟨x365.f_Type, x365.N, x365.S⟩ : Y00)))) (Y02 e402 hc316) e403 ?_
  exact WL.nil ⟨rfl, _, rfl, rfl, hs.cutG 0 0⟩ }
  {
  intro ρ w hs hu404 hp
  obtain ⟨⟨⟨⟨⟨⟨⟨⟨⟨⟨⟨⟨⟨⟨⟨⟨_, hp0_⟩, hp1_⟩, hp2_⟩, hp3_⟩, hp4_⟩, hp5_⟩, hp6_⟩, hp7_⟩, hp8_⟩, hp9_⟩, hp10_⟩, hp11_⟩, hp12_⟩, hp13_⟩, hp14_⟩, hp15_⟩ := hp
  have hs : St ok (bz w0) w [vl Y03 x365 (ρ 62), vl Y03 x359.Key (ρ 58), vl Y0p x5 (.agg cs7.toArray), vl Y08 x1 (.agg cs3.toArray)] [own Y03 45 (.slice a71 n73 c72) x52, own Y05 92 (.slice a89 n91 c90) x88, blk g11 25 cs7, blk g10 31 cs3] := hs
  have e405 : ρ 64 = .bool (!decide ((⟨x359.Key.f_Type, x359.Key.N, x359.Key.S⟩ : Y00) = (⟨x365.f_Type, x365.N, x365.S⟩ : Y00))) := hp15_
  have e406 : ρ 63 = .bool (!decide ((⟨x359.Key.f_Type, x359.Key.N, x359.Key.S⟩ : Y00) = (⟨x365.f_Type, x365.N, x365.S⟩ : Y00))) := hp14_
  obtain ⟨cs407, e409⟩ := hp13_
  have e409 : ρ 62 = .agg cs407.toArray := e409
  try rw [e409] at hs
  have e410 : ρ 60 = .int .i64 x92 := hp11_
  have e411 : ρ 59 = .slice a71 n73 c72 := hp10_
  obtain ⟨cs412, e414⟩ := hp9_
  have e414 : ρ 58 = .agg cs412.toArray := e414
  try rw [e414] at hs
  have e415 : ρ 55 = .int .i64 x108 := hp6_
  have e416 : ρ 54 = .slice a89 n91 c90 := hp5_
  have e417 : ρ 53 = .bool (x108 == (x88.length : Int)) := hp4_
  have e418 : ρ 52 = .bool (x108 == (x88.length : Int)) := hp3_
  have e419 : ρ 51 = .int .i64 (x88.length : Int) := hp2_
  have e420 : ρ 50 = .slice a89 n91 c90 := hp1_
  have e421 : ρ 49 = .int .i64 x108 := hp0_
  have hl413 := hs.agglen (n := 3) 1 rfl rfl rfl
  have hl408 := hs.agglen (n := 3) 0 rfl rfl rfl
  refine WA.done (by kernel_rfl) ?_
  exact Jk281 (!decide ((⟨x359.Key.f_Type, x359.Key.N, x359.Key.S⟩ : Y00) = (⟨x365.f_Type, x365.N, x365.S⟩ : Y00))) _ _ ((hu404 2 rfl).trans h107_2) ((hu404 3 rfl).trans h107_3) ((hu404 5 rfl).trans h107_5) ((hu404 6 rfl).trans h107_6) ((hu404 7 rfl).trans h107_7) ((hu404 8 rfl).trans h107_8) ((hu404 9 rfl).trans h107_9) e405 ((hs.mask [true, true, true, true]).pick [2, 3]) hf } }
 refine W.block ?_
 obtain ⟨bs424, hbs424, hfs424⟩ := Y0s hf
 refine W.loop hbs424 (fun s ρ w => match s with | x423 => ρ 2 = .pointer (some ⟨g10, 0, none⟩) ∧ ρ 3 = .pointer (some ⟨g11, 0, none⟩) ∧ ρ 5 = .slice a89 n91 c90 ∧ ρ 6 = .int .i64 x27 ∧ ρ 7 = .slice a71 n73 c72 ∧ ρ 8 = .int .i64 x92 ∧ ρ 9 = .int .i64 x423 ∧ St ok (bz w0) w [vl Y0p x5 (.agg cs7.toArray), vl Y08 x1 (.agg cs3.toArray)] [own Y03 45 (.slice a71 n73 c72) x52, own Y05 92 (.slice a89 n91 c90) x88, blk g11 25 cs7, blk g10 31 cs3]) ⟨h87_2, h87_3, h87_5, h87_6, h87_7, h87_8, rfl, (hs.mask [true, true, true, true]).pick [0, 1]⟩ ?_
 intro x423 ρ w os424 hI hf hbbs424
 obtain ⟨h422_2, h422_3, h422_5, h422_6, h422_7, h422_8, h422_9, hs⟩ := hI
 unfold Y0d.l1 at hf
 refine W.seqK fun K425 hK425 => ?_
 refine W.seqK fun K426 hK426 => ?_
 have Jk429 : ∀ (x428 : Bool) (ρ : Env) (w : World), ρ 2 = .pointer (some ⟨g10, 0, none⟩) → ρ 3 = .pointer (some ⟨g11, 0, none⟩) → ρ 5 = .slice a89 n91 c90 → ρ 6 = .int .i64 x27 → ρ 7 = .slice a71 n73 c72 → ρ 8 = .int .i64 x92 → ρ 9 = .int .i64 x423 → ρ 46 = .bool x428 → St ok (bz w0) w [vl Y0p x5 (.agg cs7.toArray), vl Y08 x1 (.agg cs3.toArray)] [own Y03 45 (.slice a71 n73 c72) x52, own Y05 92 (.slice a89 n91 c90) x88, blk g11 25 cs7, blk g10 31 cs3] → Y0d.j7 x423 x428 = some os424 → K426 ρ w := by
  intro x428 ρ w h427_2 h427_3 h427_5 h427_6 h427_7 h427_8 h427_9 h427_46 hs hf
  refine hK426 _ _ ?_
  unfold Y0d.j7 at hf
  rcases iteE hf with ⟨hc430, hf⟩ | ⟨hc430, hf⟩
  {
  refine W.cond_true (Y02 h427_46 hc430) ?_
  refine W.skip ?_
  refine hK425 _ _ ?_
  refine W.block ?_
  refine W.region ?_
  refine WL.move (v := .int .i64 x423) h427_9 ?_
  obtain ⟨x431, ex431, hf⟩ := letE hf
  refine WL.bin (v := .int .i64 x431) rfl rfl (Y1V ex431 (Y1t _ _ _)) ?_
  refine WL.assign (v := .int .i64 x431) rfl ?_
  refine WL.nil ?_
  exact ⟨_, (Option.some.inj hf).symm, h427_2, h427_3, h427_5, h427_6, h427_7, h427_8, rfl, (hs.mask [true, true, true, true]).pick [0, 1]⟩ }
  {
  refine W.cond_false (Y02 h427_46 hc430) ?_
  refine W.exit ?_
  have hr := Option.some.inj hf; subst hr
  have hr := hbbs424 _ rfl; subst hr
  have hf := hfs424
  exact Jk109 x423 _ _ h427_2 h427_3 h427_5 h427_6 h427_7 h427_8 h427_9 ((hs.mask [true, true, true, true]).pick [0, 1]) hf }
 rcases iteE hf with ⟨hc432, hf⟩ | ⟨hc432, hf⟩
 {
 obtain ⟨x433, hxx433, hf⟩ := Y0s hf
 obtain ⟨x439, hxx439, hf⟩ := Y0s hf
 obtain ⟨x444, hxx444, hf⟩ := Y0s hf
 refine W.any (by kernel_rfl) 17 0 [true, true, true, true, true, true, true, true, true, true, true, true, true, true, true, true, true] rfl rfl (poAt [pv (.int .i64 x423), pv (.slice a89 n91 c90), pv (.int .i64 (x88.length : Int)), pv (.bool (decide (x423 < (x88.length : Int)))), pv (.bool (decide (x423 < (x88.length : Int)))), pv (.slice a89 n91 c90), pv (.int .i64 x423), po (fun ad => Go.Proofs.YtpfgdjfiimknlaaGreatL.OwnAt 4 (.slice a89 n91 c90) x423 ad), po (fun ad => Y4B 4 0 (.slice a89 n91 c90) x423 ad), pq (fun y : List Value => .agg y.toArray) (fun v => [vl Y03 x433.Key v]) (fun v => []), pv (.slice a71 n73 c72), pv (.int .i64 x92), po (fun ad => Go.Proofs.YtpfgdjfiimknlaaGreatL.OwnAt 3 (.slice a71 n73 c72) x92 ad), pq (fun y : List Value => .agg y.toArray) (fun v => [vl Y03 x439 v]) (fun v => []), pv (.int .i64 x444), pv (.bool (decide (x444 < 0))), pv (.bool (decide (x444 < 0)))]) (Λ := [own Y03 45 (.slice a71 n73 c72) x52, own Y05 92 (.slice a89 n91 c90) x88, blk g11 25 cs7, blk g10 31 cs3]) hs (by kernel_rfl) (by kernel_rfl) (by kernel_rfl) ⟨⟨⟨⟨⟨⟨⟨⟨⟨⟨⟨⟨⟨⟨⟨⟨⟨trivial, ?_⟩, ?_⟩, ?_⟩, ?_⟩, ?_⟩, ?_⟩, ?_⟩, ?_⟩, ?_⟩, ?_⟩, ?_⟩, ?_⟩, ?_⟩, ?_⟩, ?_⟩, ?_⟩, ?_⟩ ?_
 {
 intro ρ w Γx Λx hs hu hp
 refine WL.move (v := .int .i64 x423) ((hu 9 rfl).trans h422_9) ?_
 exact WL.nil ⟨rfl, _, rfl, rfl, hs.cutG 0 0⟩ }
 {
 intro ρ w Γx Λx hs hu hp
 refine WL.move (v := .slice a89 n91 c90) ((hu 5 rfl).trans h422_5) ?_
 exact WL.nil ⟨rfl, _, rfl, rfl, hs.cutG 0 0⟩ }
 {
 intro ρ w Γx Λx hs hu hp
 have e445 : ρ 31 = .slice a89 n91 c90 := (hp 1 rfl).1
 refine WL.len (v := .slice a89 n91 c90) e445 (Y2M hs (Λx.length + 1) (Y0q rfl) UN49) ?_
 exact WL.nil ⟨rfl, _, rfl, rfl, hs.cutG 0 0⟩ }
 {
 intro ρ w Γx Λx hs hu hp
 have e446 : ρ 30 = .int .i64 x423 := (hp 0 rfl).1
 have e447 : ρ 32 = .int .i64 (x88.length : Int) := (hp 2 rfl).1
 refine WL.bin (v := .bool (decide (x423 < (x88.length : Int)))) e446 e447 (Y1n _ _ _) ?_
 exact WL.nil ⟨rfl, _, rfl, rfl, hs.cutG 0 0⟩ }
 {
 intro ρ w Γx Λx hs hu hp
 have e448 : ρ 33 = .bool (decide (x423 < (x88.length : Int))) := (hp 3 rfl).1
 refine WL.move (v := .bool (decide (x423 < (x88.length : Int)))) e448 ?_
 exact WL.nil ⟨rfl, _, rfl, rfl, hs.cutG 0 0⟩ }
 {
 intro ρ w Γx Λx hs hu hp
 have e449 : ρ 34 = .bool (decide (x423 < (x88.length : Int))) := (hp 4 rfl).1
 refine WL.move (v := .slice a89 n91 c90) ((hu 5 rfl).trans h422_5) ?_ (hg := (Y01 rfl rfl (Y02 e449 hc432)).trans rfl)
 exact WL.nil ⟨rfl, _, rfl, rfl, hs.cutG 0 0⟩ }
 {
 intro ρ w Γx Λx hs hu hp
 have e450 : ρ 34 = .bool (decide (x423 < (x88.length : Int))) := (hp 4 rfl).1
 refine WL.move (v := .int .i64 x423) ((hu 9 rfl).trans h422_9) ?_ (hg := (Y01 rfl rfl (Y02 e450 hc432)).trans rfl)
 exact WL.nil ⟨rfl, _, rfl, rfl, hs.cutG 0 0⟩ }
 {
 intro ρ w Γx Λx hs hu hp
 have e451 : ρ 35 = .slice a89 n91 c90 := (hp 5 rfl).1
 have e452 : ρ 36 = .int .i64 x423 := (hp 6 rfl).1
 have e453 : ρ 34 = .bool (decide (x423 < (x88.length : Int))) := (hp 4 rfl).1
 refine WL.indexAddrO hs (Λx.length + 1) (Y0q rfl) UN49 TI92 e451 e452 hxx433 (fun ad434 hatad434 => ?_) (hg := (Y01 rfl rfl (Y02 e453 hc432)).trans rfl)
 exact WL.nil ⟨rfl, _, rfl, ⟨ad434, rfl, hatad434⟩, hs.cutG 0 0⟩ }
 {
 intro ρ w Γx Λx hs hu hp
 obtain ⟨ad455, e454, hatad455⟩ := (hp 7 rfl).1
 have e454 : ρ 37 = .pointer (some ad455) := e454
 have e456 : ρ 34 = .bool (decide (x423 < (x88.length : Int))) := (hp 4 rfl).1
 refine WL.fieldAddrO (OwnAt.f hatad455) e454 Y86 rfl (fun ad435 hatad435 => ?_) (hg := (Y01 rfl rfl (Y02 e456 hc432)).trans rfl)
 exact WL.nil ⟨rfl, _, rfl, ⟨ad435, rfl, hatad435⟩, hs.cutG 0 0⟩ }
 {
 intro ρ w Γx Λx hs hu hp
 obtain ⟨ad458, e457, hatad458⟩ := (hp 8 rfl).1
 have e457 : ρ 38 = .pointer (some ad458) := e457
 have e459 : ρ 34 = .bool (decide (x423 < (x88.length : Int))) := (hp 4 rfl).1
 refine WL.loadOF (z := x433.Key) Y1y hs (Λx.length + 1) (Y0q rfl) TI45 (.inl rfl) hatad458 hxx433 e457 rfl (fun v436 hs => ?_) (hg := (Y01 rfl rfl (Y02 e459 hc432)).trans rfl)
 obtain ⟨cs437, hl438, rfl⟩ := hs.aggv (n := 3) 0 rfl rfl rfl
 have hs := hs.add (it := vl Y03 x433.Key (.agg cs437.toArray)) fun ok hA => hA.get 0 rfl
 exact WL.nil ⟨rfl, _, rfl, ⟨cs437, rfl⟩, hs.cutG 1 1⟩ }
 {
 intro ρ w Γx Λx hs hu hp
 have e460 : ρ 34 = .bool (decide (x423 < (x88.length : Int))) := (hp 4 rfl).1
 refine WL.move (v := .slice a71 n73 c72) ((hu 7 rfl).trans h422_7) ?_ (hg := (Y01 rfl rfl (Y02 e460 hc432)).trans rfl)
 exact WL.nil ⟨rfl, _, rfl, rfl, hs.cutG 0 0⟩ }
 {
 intro ρ w Γx Λx hs hu hp
 have e461 : ρ 34 = .bool (decide (x423 < (x88.length : Int))) := (hp 4 rfl).1
 refine WL.move (v := .int .i64 x92) ((hu 8 rfl).trans h422_8) ?_ (hg := (Y01 rfl rfl (Y02 e461 hc432)).trans rfl)
 exact WL.nil ⟨rfl, _, rfl, rfl, hs.cutG 0 0⟩ }
 {
 intro ρ w Γx Λx hs hu hp
 have e462 : ρ 40 = .slice a71 n73 c72 := (hp 10 rfl).1
 have e463 : ρ 41 = .int .i64 x92 := (hp 11 rfl).1
 have e464 : ρ 34 = .bool (decide (x423 < (x88.length : Int))) := (hp 4 rfl).1
 refine WL.indexAddrO hs (Λx.length + 0) (Y0q rfl) UN42 TI45 e462 e463 hxx439 (fun ad440 hatad440 => ?_) (hg := (Y01 rfl rfl (Y02 e464 hc432)).trans rfl)
 exact WL.nil ⟨rfl, _, rfl, ⟨ad440, rfl, hatad440⟩, hs.cutG 0 0⟩ }
 {
 intro ρ w Γx Λx hs hu hp
 obtain ⟨ad466, e465, hatad466⟩ := (hp 12 rfl).1
 have e465 : ρ 42 = .pointer (some ad466) := e465
 have e467 : ρ 34 = .bool (decide (x423 < (x88.length : Int))) := (hp 4 rfl).1
 refine WL.loadO hs (Λx.length + 0) (Y0q rfl) TI45 (.inl rfl) hatad466 hxx439 e465 (fun v441 hs => ?_) (hg := (Y01 rfl rfl (Y02 e467 hc432)).trans rfl)
 obtain ⟨cs442, hl443, rfl⟩ := hs.aggv (n := 3) 0 rfl rfl rfl
 have hs := hs.add (it := vl Y03 x439 (.agg cs442.toArray)) fun ok hA => hA.get 0 rfl
 exact WL.nil ⟨rfl, _, rfl, ⟨cs442, rfl⟩, hs.cutG 1 1⟩ }
 {
 intro ρ w Γx Λx hs hu hp
 obtain ⟨⟨cs468, e470r⟩, hm471⟩ := hp 9 rfl
 have e470 : ρ 39 = .agg cs468.toArray := e470r
 rw [e470r] at hm471
 have hs := hs.memo1 (it := vl Y03 x433.Key (.agg cs468.toArray)) (List.mem_append.2 (.inl (hm471 _ (List.mem_of_getElem? (i := 0) rfl))))
 have hl469 := hs.agglen (n := 3) 0 rfl rfl rfl
 obtain ⟨⟨cs472, e474r⟩, hm475⟩ := hp 13 rfl
 have e474 : ρ 43 = .agg cs472.toArray := e474r
 rw [e474r] at hm475
 have hs := hs.memo1 (it := vl Y03 x439 (.agg cs472.toArray)) (List.mem_cons_of_mem _ (List.mem_append.2 (.inl (hm475 _ (List.mem_of_getElem? (i := 0) rfl)))))
 have hl473 := hs.agglen (n := 3) 0 rfl rfl rfl
 have e476 : ρ 34 = .bool (decide (x423 < (x88.length : Int))) := (hp 4 rfl).1
 refine WL.call (vs := [.agg cs468.toArray, .agg cs472.toArray]) hs FN41 ⟨e470, ⟨e474, trivial⟩⟩ (fun ok hA => Y0M.calls (x1 := x433.Key) (x5 := x439) hxx444 (hA.get 1 rfl) (hA.get 0 rfl)) ?_ (hg := (Y01 rfl rfl (Y02 e476 hc432)).trans rfl)
 rintro _ w hs
 exact WL.nil ⟨rfl, _, rfl, rfl, hs.cutG 0 2⟩ }
 {
 intro ρ w Γx Λx hs hu hp
 have e477 : ρ 44 = .int .i64 x444 := (hp 14 rfl).1
 have e478 : ρ 34 = .bool (decide (x423 < (x88.length : Int))) := (hp 4 rfl).1
 refine WL.bin (v := .bool (decide (x444 < 0))) e477 rfl (Y1n _ _ _) ?_ (hg := (Y01 rfl rfl (Y02 e478 hc432)).trans rfl)
 exact WL.nil ⟨rfl, _, rfl, rfl, hs.cutG 0 0⟩ }
 {
 intro ρ w Γx Λx hs hu hp
 have e479 : ρ 34 = .bool (decide (x423 < (x88.length : Int))) := (hp 4 rfl).1
 have e480 : ρ 45 = .bool (decide (x444 < 0)) := (hp 15 rfl).1
 refine WL.pickT (v := .bool (decide (x444 < 0))) (Y02 e479 hc432) e480 ?_
 exact WL.nil ⟨rfl, _, rfl, rfl, hs.cutG 0 0⟩ }
 {
 intro ρ w hs hu481 hp
 obtain ⟨⟨⟨⟨⟨⟨⟨⟨⟨⟨⟨⟨⟨⟨⟨⟨⟨_, hp0_⟩, hp1_⟩, hp2_⟩, hp3_⟩, hp4_⟩, hp5_⟩, hp6_⟩, hp7_⟩, hp8_⟩, hp9_⟩, hp10_⟩, hp11_⟩, hp12_⟩, hp13_⟩, hp14_⟩, hp15_⟩, hp16_⟩ := hp
 have hs : St ok (bz w0) w [vl Y03 x439 (ρ 43), vl Y03 x433.Key (ρ 39), vl Y0p x5 (.agg cs7.toArray), vl Y08 x1 (.agg cs3.toArray)] [own Y03 45 (.slice a71 n73 c72) x52, own Y05 92 (.slice a89 n91 c90) x88, blk g11 25 cs7, blk g10 31 cs3] := hs
 have e482 : ρ 46 = .bool (decide (x444 < 0)) := hp16_
 have e483 : ρ 45 = .bool (decide (x444 < 0)) := hp15_
 have e484 : ρ 44 = .int .i64 x444 := hp14_
 obtain ⟨cs485, e487⟩ := hp13_
 have e487 : ρ 43 = .agg cs485.toArray := e487
 try rw [e487] at hs
 have e488 : ρ 41 = .int .i64 x92 := hp11_
 have e489 : ρ 40 = .slice a71 n73 c72 := hp10_
 obtain ⟨cs490, e492⟩ := hp9_
 have e492 : ρ 39 = .agg cs490.toArray := e492
 try rw [e492] at hs
 have e493 : ρ 36 = .int .i64 x423 := hp6_
 have e494 : ρ 35 = .slice a89 n91 c90 := hp5_
 have e495 : ρ 34 = .bool (decide (x423 < (x88.length : Int))) := hp4_
 have e496 : ρ 33 = .bool (decide (x423 < (x88.length : Int))) := hp3_
 have e497 : ρ 32 = .int .i64 (x88.length : Int) := hp2_
 have e498 : ρ 31 = .slice a89 n91 c90 := hp1_
 have e499 : ρ 30 = .int .i64 x423 := hp0_
 have hl491 := hs.agglen (n := 3) 1 rfl rfl rfl
 have hl486 := hs.agglen (n := 3) 0 rfl rfl rfl
 refine WA.done (by kernel_rfl) ?_
 exact Jk429 (decide (x444 < 0)) _ _ ((hu481 2 rfl).trans h422_2) ((hu481 3 rfl).trans h422_3) ((hu481 5 rfl).trans h422_5) ((hu481 6 rfl).trans h422_6) ((hu481 7 rfl).trans h422_7) ((hu481 8 rfl).trans h422_8) ((hu481 9 rfl).trans h422_9) e482 ((hs.mask [true, true, true, true]).pick [2, 3]) hf } }
 {
 refine W.any (by kernel_rfl) 17 0 [true, true, true, true, true, true, true, true, true, true, true, true, true, true, true, true, true] rfl rfl (poAt [pv (.int .i64 x423), pv (.slice a89 n91 c90), pv (.int .i64 (x88.length : Int)), pv (.bool (decide (x423 < (x88.length : Int)))), pv (.bool (decide (x423 < (x88.length : Int)))), pv (undef), pv (undef), pv (undef), pv (undef), pv (undef), pv (undef), pv (undef), pv (undef), pv (undef), pv (undef), pv (undef), pv (.bool false)]) (Λ := [own Y03 45 (.slice a71 n73 c72) x52, own Y05 92 (.slice a89 n91 c90) x88, blk g11 25 cs7, blk g10 31 cs3]) hs (by kernel_rfl) (by kernel_rfl) (by kernel_rfl) ⟨⟨⟨⟨⟨⟨⟨⟨⟨⟨⟨⟨⟨⟨⟨⟨⟨trivial, ?_⟩, ?_⟩, ?_⟩, ?_⟩, ?_⟩, ?_⟩, ?_⟩, ?_⟩, ?_⟩, ?_⟩, ?_⟩, ?_⟩, ?_⟩, ?_⟩, ?_⟩, ?_⟩, ?_⟩ ?_
 {
 intro ρ w Γx Λx hs hu hp
 refine WL.move (v := .int .i64 x423) ((hu 9 rfl).trans h422_9) ?_
 exact WL.nil ⟨rfl, _, rfl, rfl, hs.cutG 0 0⟩ }
 {
 intro ρ w Γx Λx hs hu hp
 refine WL.move (v := .slice a89 n91 c90) ((hu 5 rfl).trans h422_5) ?_
 exact WL.nil ⟨rfl, _, rfl, rfl, hs.cutG 0 0⟩ }
 {
 intro ρ w Γx Λx hs hu hp
 have e500 : ρ 31 = .slice a89 n91 c90 := (hp 1 rfl).1
 refine WL.len (v := .slice a89 n91 c90) e500 (Y2M hs (Λx.length + 1) (Y0q rfl) UN49) ?_
 exact WL.nil ⟨rfl, _, rfl, rfl, hs.cutG 0 0⟩ }
 {
 intro ρ w Γx Λx hs hu hp
 have e501 : ρ 30 = .int .i64 x423 := (hp 0 rfl).1
 have e502 : ρ 32 = .int .i64 (x88.length : Int) := (hp 2 rfl).1
 refine WL.bin (v := .bool (decide (x423 < (x88.length : Int)))) e501 e502 (Y1n _ _ _) ?_
 exact WL.nil ⟨rfl, _, rfl, rfl, hs.cutG 0 0⟩ }
 {
 intro ρ w Γx Λx hs hu hp
 have e503 : ρ 33 = .bool (decide (x423 < (x88.length : Int))) := (hp 3 rfl).1
 refine WL.move (v := .bool (decide (x423 < (x88.length : Int)))) e503 ?_
 exact WL.nil ⟨rfl, _, rfl, rfl, hs.cutG 0 0⟩ }
 {
 intro ρ w Γx Λx hs hu hp
 have e504 : ρ 34 = .bool (decide (x423 < (x88.length : Int))) := (hp 4 rfl).1
 refine WL.pass ((Y01 rfl rfl (Y02 e504 hc432)).trans rfl) rfl ?_
 exact WL.nil ⟨rfl, _, rfl, rfl, hs.cutG 0 0⟩ }
 {
 intro ρ w Γx Λx hs hu hp
 have e505 : ρ 34 = .bool (decide (x423 < (x88.length : Int))) := (hp 4 rfl).1
 refine WL.pass ((Y01 rfl rfl (Y02 e505 hc432)).trans rfl) rfl ?_
 exact WL.nil ⟨rfl, _, rfl, rfl, hs.cutG 0 0⟩ }
 {
 intro ρ w Γx Λx hs hu hp
 have e506 : ρ 35 = undef := (hp 5 rfl).1
 have e507 : ρ 36 = undef := (hp 6 rfl).1
 have e508 : ρ 34 = .bool (decide (x423 < (x88.length : Int))) := (hp 4 rfl).1
 refine WL.pass ((Y01 rfl rfl (Y02 e508 hc432)).trans rfl) rfl ?_
 exact WL.nil ⟨rfl, _, rfl, rfl, hs.cutG 0 0⟩ }
 {
 intro ρ w Γx Λx hs hu hp
 have e509 : ρ 37 = undef := (hp 7 rfl).1
 have e510 : ρ 34 = .bool (decide (x423 < (x88.length : Int))) := (hp 4 rfl).1
 refine WL.pass ((Y01 rfl rfl (Y02 e510 hc432)).trans rfl) rfl ?_
 exact WL.nil ⟨rfl, _, rfl, rfl, hs.cutG 0 0⟩ }
 {
 intro ρ w Γx Λx hs hu hp
 have e511 : ρ 38 = undef := (hp 8 rfl).1
 have e512 : ρ 34 = .bool (decide (x423 < (x88.length : Int))) := (hp 4 rfl).1
 refine WL.pass ((Y01 rfl rfl (Y02 e512 hc432)).trans rfl) rfl ?_
 exact WL.nil ⟨rfl, _, rfl, rfl, hs.cutG 0 0⟩ }
 {
 intro ρ w Γx Λx hs hu hp
 have e513 : ρ 34 = .bool (decide (x423 < (x88.length : Int))) := (hp 4 rfl).1
 refine WL.pass ((Y01 rfl rfl (Y02 e513 hc432)).trans rfl) rfl ?_
 exact WL.nil ⟨rfl, _, rfl, rfl, hs.cutG 0 0⟩ }
 {
 intro ρ w Γx Λx hs hu hp
 have e514 : ρ 34 = .bool (decide (x423 < (x88.length : Int))) := (hp 4 rfl).1
 refine WL.pass ((Y01 rfl rfl (Y02 e514 hc432)).trans rfl) rfl ?_
 exact WL.nil ⟨rfl, _, rfl, rfl, hs.cutG 0 0⟩ }
 {
 intro ρ w Γx Λx hs hu hp
 have e515 : ρ 40 = undef := (hp 10 rfl).1
 have e516 : ρ 41 = undef := (hp 11 rfl).1
 have e517 : ρ 34 = .bool (decide (x423 < (x88.length : Int))) := (hp 4 rfl).1
 refine WL.pass ((Y01 rfl rfl (Y02 e517 hc432)).trans rfl) rfl ?_
 exact WL.nil ⟨rfl, _, rfl, rfl, hs.cutG 0 0⟩ }
 {
 intro ρ w Γx Λx hs hu hp
 have e518 : ρ 42 = undef := (hp 12 rfl).1
 have e519 : ρ 34 = .bool (decide (x423 < (x88.length : Int))) := (hp 4 rfl).1
 refine WL.pass ((Y01 rfl rfl (Y02 e519 hc432)).trans rfl) rfl ?_
 exact WL.nil ⟨rfl, _, rfl, rfl, hs.cutG 0 0⟩ }
 {
 intro ρ w Γx Λx hs hu hp
 have e520 : ρ 39 = undef := (hp 9 rfl).1
 have e521 : ρ 43 = undef := (hp 13 rfl).1
 have e522 : ρ 34 = .bool (decide (x423 < (x88.length : Int))) := (hp 4 rfl).1
 refine WL.pass ((Y01 rfl rfl (Y02 e522 hc432)).trans rfl) rfl ?_
 exact WL.nil ⟨rfl, _, rfl, rfl, hs.cutG 0 0⟩ }
 {
 intro ρ w Γx Λx hs hu hp
 have e523 : ρ 44 = undef := (hp 14 rfl).1
 have e524 : ρ 34 = .bool (decide (x423 < (x88.length : Int))) := (hp 4 rfl).1
 refine WL.pass ((Y01 rfl rfl (Y02 e524 hc432)).trans rfl) rfl ?_
 exact WL.nil ⟨rfl, _, rfl, rfl, hs.cutG 0 0⟩ }
 {
 intro ρ w Γx Λx hs hu hp
 have e525 : ρ 34 = .bool (decide (x423 < (x88.length : Int))) := (hp 4 rfl).1
 have e526 : ρ 45 = undef := (hp 15 rfl).1
 refine WL.pickF (v := .bool false) (Y02 e525 hc432) rfl ?_
 exact WL.nil ⟨rfl, _, rfl, rfl, hs.cutG 0 0⟩ }
 {
 intro ρ w hs hu527 hp
 obtain ⟨⟨⟨⟨⟨⟨⟨⟨⟨⟨⟨⟨⟨⟨⟨⟨⟨_, hp0_⟩, hp1_⟩, hp2_⟩, hp3_⟩, hp4_⟩, hp5_⟩, hp6_⟩, hp7_⟩, hp8_⟩, hp9_⟩, hp10_⟩, hp11_⟩, hp12_⟩, hp13_⟩, hp14_⟩, hp15_⟩, hp16_⟩ := hp
 have hs : St ok (bz w0) w [vl Y0p x5 (.agg cs7.toArray), vl Y08 x1 (.agg cs3.toArray)] [own Y03 45 (.slice a71 n73 c72) x52, own Y05 92 (.slice a89 n91 c90) x88, blk g11 25 cs7, blk g10 31 cs3] := hs
 have e528 : ρ 46 = .bool false := hp16_
 have e529 : ρ 45 = undef := hp15_
 have e530 : ρ 44 = undef := hp14_
 have e531 : ρ 43 = undef := hp13_
 have e532 : ρ 42 = undef := hp12_
 have e533 : ρ 41 = undef := hp11_
 have e534 : ρ 40 = undef := hp10_
 have e535 : ρ 39 = undef := hp9_
 have e536 : ρ 38 = undef := hp8_
 have e537 : ρ 37 = undef := hp7_
 have e538 : ρ 36 = undef := hp6_
 have e539 : ρ 35 = undef := hp5_
 have e540 : ρ 34 = .bool (decide (x423 < (x88.length : Int))) := hp4_
 have e541 : ρ 33 = .bool (decide (x423 < (x88.length : Int))) := hp3_
 have e542 : ρ 32 = .int .i64 (x88.length : Int) := hp2_
 have e543 : ρ 31 = .slice a89 n91 c90 := hp1_
 have e544 : ρ 30 = .int .i64 x423 := hp0_
 refine WA.done (by kernel_rfl) ?_
 exact Jk429 false _ _ ((hu527 2 rfl).trans h422_2) ((hu527 3 rfl).trans h422_3) ((hu527 5 rfl).trans h422_5) ((hu527 6 rfl).trans h422_6) ((hu527 7 rfl).trans h422_7) ((hu527 8 rfl).trans h422_8) ((hu527 9 rfl).trans h422_9) e528 ((hs.mask [true, true, true, true]).pick [0, 1]) hf } } }
 {
 refine W.cond_false (Y02 rfl hc96) ?_
 refine W.exit ?_
 have hr := Option.some.inj hf; subst hr
 have hr := hbbs93 _ rfl; subst hr
 have hf := hfs93
 exact Jk41 x88 a89 c90 n91 _ _ h87_2 h87_3 h87_5 h87_6 ((hs.mask [false, true, true, true]).pick [0, 1]) hf } } }
 {
 refine W.cond_false (Y02 rfl hc34) ?_
 refine W.exit ?_
 have hr := Option.some.inj hf; subst hr
 have hr := hbbs28 _ rfl; subst hr
 have hf := hfs28
 exact Jk19 x23 a24 c25 n26 _ _ h22_5 ((hs.mask [true]).pick []) hf }
theorem Y0d.callc {ok : Nat → Prop} {w0 : World} {x1 : Y0c} {x5 : Y0N} {v2 : Value} {v6 : Value} {r : List Y06} (hf : Y0d x1 x5 = some r) (i0 : (vl Y08 x1 v2).holds ok w0) (i1 : (vl Y0p x5 v6).holds ok w0) :
  Calls Tryz.prog 17 #[v2, v6] w0 fun e w' => ∃ v, e = .returned v ∧ ∃ y : (Option Addr × Nat), v = .slice y.1 r.length y.2 ∧ St ok (bz w0) w' [vl (Y0b Y05) r (.slice y.1 r.length y.2)] [] := by
 refine (Y0d.calls (ok := ok) (w0 := w0) (x1 := x1) (x5 := x5) hf i0 i1).mono ?_
 rintro e w' ⟨v, rfl, ⟨a548, n549, c550⟩, rfl, hs⟩
 obtain rfl := hs.ownLen 0 rfl
 have hs := hs.freezeOwn 0 rfl
 exact ⟨_, rfl, (a548, c550), rfl, hs.pick [0]⟩
theorem Y0R.calls {ok : Nat → Prop} {w0 : World} {x1 : List Y0a} {x4 : List Y06} {a2 : Option Addr} {c3 : Nat} {a5 : Option Addr} {c6 : Nat} {r : Bool} (hf : Y0R x1 x4 = some r) (i0 : (vl (Y0b Y0i) x1 (.slice a2 x1.length c3)).holds ok w0) (i1 : (vl (Y0b Y05) x4 (.slice a5 x4.length c6)).holds ok w0) :
  Calls Tryz.prog 16 #[.slice a2 x1.length c3, .slice a5 x4.length c6] w0 fun e w' => ∃ v, e = .returned v ∧ ∃ y : Unit, v = .bool r ∧ St ok (bz w0) w' [] [] := by
 unfold Y0R at hf
 refine Y0t (fn := Tryz.f16) (N := 43) Tryz.func16 rfl Tryz.ntmps16 rfl ?_
 have hs : St ok (bz w0) w0 [vl (Y0b Y0i) x1 (.slice a2 x1.length c3), vl (Y0b Y05) x4 (.slice a5 x4.length c6)] [] := St.init (All.cons i0 (All.cons i1 All.nil))
 clear i0 i1
 refine W.seqK fun K7 hK7 => ?_
 refine W.region ?_
 refine WL.assign (v := .bool false) rfl ?_
 refine WL.nil ?_
 refine hK7 _ _ ?_
 refine W.seqK fun K8 hK8 => ?_
 refine W.seqK fun K9 hK9 => ?_
 refine W.region ?_
 refine WL.move (v := .slice a2 x1.length c3) rfl ?_
 refine WL.len (v := .slice a2 x1.length c3) rfl (Y10 UN33) ?_
 refine WL.move (v := .slice a5 x4.length c6) rfl ?_
 refine WL.len (v := .slice a5 x4.length c6) rfl (Y10 UN49) ?_
 refine WL.bin (v := .bool ((x1.length : Int) != (x4.length : Int))) rfl rfl (Y48 _ _ _) ?_
 refine WL.nil ?_
 refine hK9 _ _ ?_
 rcases iteE hf with ⟨hc10, hf⟩ | ⟨hc10, hf⟩
 {
 refine W.cond_true (Y02 rfl hc10) ?_
 refine W.seqK fun K11 hK11 => ?_
 refine W.region ?_
 refine WL.assign (v := .bool false) rfl ?_
 refine WL.nil ?_
 refine hK11 _ _ ?_
 refine W.ret ?_
 have hr := Option.some.inj hf; subst hr
 exact ⟨_, Y0e rfl rfl, (), rfl, (hs.mask []).pick []⟩ }
 {
 refine W.cond_false (Y02 rfl hc10) ?_
 refine W.skip ?_
 refine hK8 _ _ ?_
 refine W.seqK fun K12 hK12 => ?_
 have Jk14 : ∀  (ρ : Env) (w : World), St ok (bz w0) w [] [] → Y0R.j1 = some r → K12 ρ w := by
  intro  ρ w  hs hf
  refine hK12 _ _ ?_
  unfold Y0R.j1 at hf
  refine W.seqK fun K15 hK15 => ?_
  refine W.region ?_
  refine WL.assign (v := .bool true) rfl ?_
  refine WL.nil ?_
  refine hK15 _ _ ?_
  refine W.ret ?_
  have hr := Option.some.inj hf; subst hr
  exact ⟨_, Y0e rfl rfl, (), rfl, (hs.mask []).pick []⟩
 refine W.seqK fun K16 hK16 => ?_
 refine W.region ?_
 refine WL.assign (v := .int .i64 0) rfl ?_
 refine WL.nil ?_
 refine hK16 _ _ ?_
 refine W.block ?_
 obtain ⟨bs19, hbs19, hfs19⟩ := Y0s hf
 refine W.loop hbs19 (fun s ρ w => match s with | x18 => ρ 0 = .slice a2 x1.length c3 ∧ ρ 1 = .slice a5 x4.length c6 ∧ ρ 5 = .int .i64 x18 ∧ St ok (bz w0) w [vl (Y0b Y0i) x1 (.slice a2 x1.length c3), vl (Y0b Y05) x4 (.slice a5 x4.length c6)] []) ⟨rfl, rfl, rfl, (hs.mask []).pick [0, 1]⟩ ?_
 intro x18 ρ w os19 hI hf hbbs19
 obtain ⟨h17_0, h17_1, h17_5, hs⟩ := hI
 unfold Y0R.l1 at hf
 refine W.seqK fun K20 hK20 => ?_
 refine W.seqK fun K21 hK21 => ?_
 refine W.region ?_
 refine WL.move (v := .int .i64 x18) h17_5 ?_
 refine WL.move (v := .slice a2 x1.length c3) h17_0 ?_
 refine WL.len (v := .slice a2 x1.length c3) rfl (Y10 UN33) ?_
 refine WL.bin (v := .bool (decide (x18 < (x1.length : Int)))) rfl rfl (Y1n _ _ _) ?_
 refine WL.nil ?_
 refine hK21 _ _ ?_
 rcases iteE hf with ⟨hc22, hf⟩ | ⟨hc22, hf⟩
 {
 refine W.cond_true (Y02 rfl hc22) ?_
 refine W.skip ?_
 refine hK20 _ _ ?_
 refine W.seqK fun K23 hK23 => ?_
 refine W.block ?_
 refine W.seqK fun K24 hK24 => ?_
 have Jk27 : ∀ (x26 : Bool) (ρ : Env) (w : World), ρ 0 = .slice a2 x1.length c3 → ρ 1 = .slice a5 x4.length c6 → ρ 5 = .int .i64 x18 → ρ 42 = .bool x26 → St ok (bz w0) w [vl (Y0b Y0i) x1 (.slice a2 x1.length c3), vl (Y0b Y05) x4 (.slice a5 x4.length c6)] [] → Y0R.j2 x18 x26 = some os19 → K24 ρ w := by
  intro x26 ρ w h25_0 h25_1 h25_5 h25_42 hs hf
  refine hK24 _ _ ?_
  unfold Y0R.j2 at hf
  rcases iteE hf with ⟨hc28, hf⟩ | ⟨hc28, hf⟩
  {
  refine W.cond_true (Y02 h25_42 hc28) ?_
  refine W.seqK fun K29 hK29 => ?_
  refine W.region ?_
  refine WL.assign (v := .bool false) rfl ?_
  refine WL.nil ?_
  refine hK29 _ _ ?_
  refine W.ret ?_
  have hr := Option.some.inj hf; subst hr
  have hr := hbbs19 _ rfl; subst hr
  have hf := hfs19
  have hr := Option.some.inj hf; subst hr
  exact ⟨_, Y0e rfl rfl, (), rfl, (hs.mask []).pick []⟩ }
  {
  refine W.cond_false (Y02 h25_42 hc28) ?_
  refine W.skip ?_
  refine hK23 _ _ ?_
  refine W.region ?_
  refine WL.move (v := .int .i64 x18) h25_5 ?_
  obtain ⟨x30, ex30, hf⟩ := letE hf
  refine WL.bin (v := .int .i64 x30) rfl rfl (Y1V ex30 (Y1t _ _ _)) ?_
  refine WL.assign (v := .int .i64 x30) rfl ?_
  refine WL.nil ?_
  exact ⟨_, (Option.some.inj hf).symm, h25_0, h25_1, rfl, (hs.mask []).pick [0, 1]⟩ }
 obtain ⟨x31, hxx31, hf⟩ := Y0s hf
 obtain ⟨x37, hxx37, hf⟩ := Y0s hf
 obtain ⟨x40, hxx40, hf⟩ := Y0s hf
 rcases iteE hf with ⟨hc46, hf⟩ | ⟨hc46, hf⟩
 {
 refine W.any (by kernel_rfl) 26 0 [true, true, true, true, true, true, true, true, true, true, true, true, true, true, true, true, true, true, true, true, true, true, true, true, true, true] rfl rfl (poAt [pv (.slice a2 x1.length c3), pv (.int .i64 x18), pq (fun y : Addr => .pointer (some y)) (fun v => [pl Y0i x31 (adOf v)]) (fun v => []), pq (fun y : Addr => .pointer (some y)) (fun v => [pl Y09 x31.Key (adOf v)]) (fun v => []), pq (fun y : List Value => .agg y.toArray) (fun v => [vl Y09 x31.Key v]) (fun v => []), pq (fun y : List Value => .agg y.toArray) (fun v => [vl Y03 x37 v]) (fun v => []), pv (.slice a5 x4.length c6), pv (.int .i64 x18), pq (fun y : Addr => .pointer (some y)) (fun v => [pl Y05 x40 (adOf v)]) (fun v => []), pq (fun y : Addr => .pointer (some y)) (fun v => [pl Y03 x40.Key (adOf v)]) (fun v => []), pq (fun y : List Value => .agg y.toArray) (fun v => [vl Y03 x40.Key v]) (fun v => []), pv (.bool (!decide ((⟨x37.f_Type, x37.N, x37.S⟩ : Y00) = (⟨x40.Key.f_Type, x40.Key.N, x40.Key.S⟩ : Y00)))), pv (.bool (!decide ((⟨x37.f_Type, x37.N, x37.S⟩ : Y00) = (⟨x40.Key.f_Type, x40.Key.N, x40.Key.S⟩ : Y00)))), pv (undef), pv (undef), pv (undef), pv (undef), pv (undef), pv (undef), pv (undef), pv (undef), pv (undef), pv (undef), pv (undef), pv (undef), pv (.bool true)]) (Λ := []) hs (by kernel_rfl) (by kernel_rfl) (by kernel_rfl) ⟨⟨⟨⟨⟨⟨⟨⟨⟨⟨⟨⟨⟨⟨⟨⟨⟨⟨⟨⟨⟨⟨⟨⟨⟨⟨trivial, ?_⟩, ?_⟩, ?_⟩, ?_⟩, ?_⟩, ?_⟩, ?_⟩, ?_⟩, ?_⟩, ?_⟩, ?_⟩, ?_⟩, ?_⟩, ?_⟩, ?_⟩, ?_⟩, ?_⟩, ?_⟩, ?_⟩, ?_⟩, ?_⟩, ?_⟩, ?_⟩, ?_⟩, ?_⟩, ?_⟩ ?_
 {
 intro ρ w Γx Λx hs hu hp
 refine WL.move (v := .slice a2 x1.length c3) ((hu 0 rfl).trans h17_0) ?_
 exact WL.nil ⟨rfl, _, rfl, rfl, hs.cutG 0 0⟩ }
 {
 intro ρ w Γx Λx hs hu hp
 refine WL.move (v := .int .i64 x18) ((hu 5 rfl).trans h17_5) ?_
 exact WL.nil ⟨rfl, _, rfl, rfl, hs.cutG 0 0⟩ }
 {
 intro ρ w Γx Λx hs hu hp
 have e47 : ρ 17 = .slice a2 x1.length c3 := (hp 0 rfl).1
 have e48 : ρ 18 = .int .i64 x18 := (hp 1 rfl).1
 refine WL.indexAddr hs (Γx.length + 0) (Y0q rfl) UN33 TI65 e47 e48 hxx31 (fun ad32 hs => ?_)
 have hs := hs.add (it := pl Y0i x31 ad32) fun ok hA => hA.get 0 rfl
 exact WL.nil ⟨rfl, _, rfl, ⟨ad32, rfl⟩, hs.cutG 1 1⟩ }
 {
 intro ρ w Γx Λx hs hu hp
 obtain ⟨⟨ad49, e50r⟩, hm51⟩ := hp 2 rfl
 have e50 : ρ 19 = .pointer (some ad49) := e50r
 rw [e50r] at hm51
 have hs := hs.memo1 (it := pl Y0i x31 ad49) (List.mem_append.2 (.inl (hm51 _ (List.mem_of_getElem? (i := 0) rfl))))
 refine WL.fieldAddrP (z := x31.Key) Y24 hs 0 rfl e50 Y4W rfl (fun ad33 hs => ?_)
 have hs := hs.add (it := pl Y09 x31.Key ad33) fun ok hA => hA.get 0 rfl
 exact WL.nil ⟨rfl, _, rfl, ⟨ad33, rfl⟩, hs.cutG 1 2⟩ }
 {
 intro ρ w Γx Λx hs hu hp
 obtain ⟨⟨ad52, e53r⟩, hm54⟩ := hp 3 rfl
 have e53 : ρ 20 = .pointer (some ad52) := e53r
 rw [e53r] at hm54
 have hs := hs.memo1 (it := pl Y09 x31.Key ad52) (List.mem_append.2 (.inl (hm54 _ (List.mem_of_getElem? (i := 0) rfl))))
 refine WL.loadP hs 0 rfl TI47 (.inl rfl) e53 (fun v34 hs => ?_)
 obtain ⟨cs35, hl36, rfl⟩ := hs.aggv (n := 3) 0 rfl rfl rfl
 have hs := hs.add (it := vl Y09 x31.Key (.agg cs35.toArray)) fun ok hA => hA.get 0 rfl
 exact WL.nil ⟨rfl, _, rfl, ⟨cs35, rfl⟩, hs.cutG 1 2⟩ }
 {
 intro ρ w Γx Λx hs hu hp
 obtain ⟨⟨cs55, e57r⟩, hm58⟩ := hp 4 rfl
 have e57 : ρ 21 = .agg cs55.toArray := e57r
 rw [e57r] at hm58
 have hs := hs.memo1 (it := vl Y09 x31.Key (.agg cs55.toArray)) (List.mem_append.2 (.inl (hm58 _ (List.mem_of_getElem? (i := 0) rfl))))
 have hl56 := hs.agglen (n := 3) 0 rfl rfl rfl
 refine WL.call (vs := [.agg cs55.toArray]) hs FN15 ⟨e57, trivial⟩ (fun ok hA => Y26.calls (x1 := x31.Key) hxx37 (hA.get 0 rfl)) ?_
 rintro cs38 w hs
 have hl39 := hs.agglen (n := 3) 0 rfl rfl rfl
 have hs := hs.add (it := vl Y03 x37 (.agg cs38.toArray)) fun ok hA => hA.get 0 rfl
 exact WL.nil ⟨rfl, _, rfl, ⟨cs38, rfl⟩, hs.cutG 1 2⟩ }
 {
 intro ρ w Γx Λx hs hu hp
 refine WL.move (v := .slice a5 x4.length c6) ((hu 1 rfl).trans h17_1) ?_
 exact WL.nil ⟨rfl, _, rfl, rfl, hs.cutG 0 0⟩ }
 {
 intro ρ w Γx Λx hs hu hp
 refine WL.move (v := .int .i64 x18) ((hu 5 rfl).trans h17_5) ?_
 exact WL.nil ⟨rfl, _, rfl, rfl, hs.cutG 0 0⟩ }
 {
 intro ρ w Γx Λx hs hu hp
 have e59 : ρ 23 = .slice a5 x4.length c6 := (hp 6 rfl).1
 have e60 : ρ 24 = .int .i64 x18 := (hp 7 rfl).1
 refine WL.indexAddr hs (Γx.length + 1) (Y0q rfl) UN49 TI92 e59 e60 hxx40 (fun ad41 hs => ?_)
 have hs := hs.add (it := pl Y05 x40 ad41) fun ok hA => hA.get 0 rfl
 exact WL.nil ⟨rfl, _, rfl, ⟨ad41, rfl⟩, hs.cutG 1 1⟩ }
 {
 intro ρ w Γx Λx hs hu hp
 obtain ⟨⟨ad61, e62r⟩, hm63⟩ := hp 8 rfl
 have e62 : ρ 25 = .pointer (some ad61) := e62r
 rw [e62r] at hm63
 have hs := hs.memo1 (it := pl Y05 x40 ad61) (List.mem_append.2 (.inl (hm63 _ (List.mem_of_getElem? (i := 0) rfl))))
 refine WL.fieldAddrP (z := x40.Key) Y1y hs 0 rfl e62 Y86 rfl (fun ad42 hs => ?_)
 have hs := hs.add (it := pl Y03 x40.Key ad42) fun ok hA => hA.get 0 rfl
 exact WL.nil ⟨rfl, _, rfl, ⟨ad42, rfl⟩, hs.cutG 1 2⟩ }
 {
 intro ρ w Γx Λx hs hu hp
 obtain ⟨⟨ad64, e65r⟩, hm66⟩ := hp 9 rfl
 have e65 : ρ 26 = .pointer (some ad64) := e65r
 rw [e65r] at hm66
 have hs := hs.memo1 (it := pl Y03 x40.Key ad64) (List.mem_append.2 (.inl (hm66 _ (List.mem_of_getElem? (i := 0) rfl))))
 refine WL.loadP hs 0 rfl TI45 (.inl rfl) e65 (fun v43 hs => ?_)
 obtain ⟨cs44, hl45, rfl⟩ := hs.aggv (n := 3) 0 rfl rfl rfl
 have hs := hs.add (it := vl Y03 x40.Key (.agg cs44.toArray)) fun ok hA => hA.get 0 rfl
 exact WL.nil ⟨rfl, _, rfl, ⟨cs44, rfl⟩, hs.cutG 1 2⟩ }
 {
 intro ρ w Γx Λx hs hu hp
 obtain ⟨⟨cs67, e69r⟩, hm70⟩ := hp 5 rfl
 have e69 : ρ 22 = .agg cs67.toArray := e69r
 rw [e69r] at hm70
 have hs := hs.memo1 (it := vl Y03 x37 (.agg cs67.toArray)) (List.mem_append.2 (.inl (hm70 _ (List.mem_of_getElem? (i := 0) rfl))))
 have hl68 := hs.agglen (n := 3) 0 rfl rfl rfl
 obtain ⟨⟨cs71, e73r⟩, hm74⟩ := hp 10 rfl
 have e73 : ρ 27 = .agg cs71.toArray := e73r
 rw [e73r] at hm74
 have hs := hs.memo1 (it := vl Y03 x40.Key (.agg cs71.toArray)) (List.mem_cons_of_mem _ (List.mem_append.2 (.inl (hm74 _ (List.mem_of_getElem? (i := 0) rfl)))))
 have hl72 := hs.agglen (n := 3) 0 rfl rfl rfl
 obtain rfl := Y0Z hs 1 rfl
 obtain rfl := Y0Z hs 0 rfl
 refine WL.eqA e69 e73 EG45 (NQ45 (⟨x37.f_Type, x37.N, x37.S⟩ : Y00) (⟨x40.Key.f_Type, x40.Key.N, x40.Key.S⟩ : Y00)) ?_
 exact WL.nil ⟨rfl, _, rfl, rfl, hs.cutG 0 2⟩ }
 {
 intro ρ w Γx Λx hs hu hp
 have e75 : ρ 28 = .bool (!decide ((⟨x37.f_Type, x37.N, x37.S⟩ : Y00) = (⟨x40.Key.f_Type, x40.Key.N, x40.Key.S⟩ : Y00))) := (hp 11 rfl).1
 refine WL.move (v := .bool (!decide ((⟨x37.f_Type, x37.N, x37.S⟩ : Y00) = (⟨x40.Key.f_Type, x40.Key.N, x40.Key.S⟩ : Y00)))) e75 ?_
 exact WL.nil ⟨rfl, _, rfl, rfl, hs.cutG 0 0⟩ }
 {
 intro ρ w Γx Λx hs hu hp
 have e76 : ρ 29 = .bool (!decide ((⟨x37.f_Type, x37.N, x37.S⟩ : Y00) = (⟨x40.Key.f_Type, x40.Key.N, x40.Key.S⟩ : Y00))) := (hp 12 rfl).1
 refine WL.pass ((Y01 rfl rfl (Y02 e76 hc46)).trans rfl) rfl ?_
 exact WL.nil ⟨rfl, _, rfl, rfl, hs.cutG 0 0⟩ }
 {
 intro ρ w Γx Λx hs hu hp
 have e77 : ρ 29 = .bool (!decide ((⟨x37.f_Type, x37.N, x37.S⟩ : Y00) = (⟨x40.Key.f_Type, x40.Key.N, x40.Key.S⟩ : Y00))) := (hp 12 rfl).1
 refine WL.pass ((Y01 rfl rfl (Y02 e77 hc46)).trans rfl) rfl ?_
 exact WL.nil ⟨rfl, _, rfl, rfl, hs.cutG 0 0⟩ }
 {
 intro ρ w Γx Λx hs hu hp
 have e78 : ρ 30 = undef := (hp 13 rfl).1
 have e79 : ρ 31 = undef := (hp 14 rfl).1
 have e80 : ρ 29 = .bool (!decide ((⟨x37.f_Type, x37.N, x37.S⟩ : Y00) = (⟨x40.Key.f_Type, x40.Key.N, x40.Key.S⟩ : Y00))) := (hp 12 rfl).1
 refine WL.pass ((Y01 rfl rfl (Y02 e80 hc46)).trans rfl) rfl ?_
 exact WL.nil ⟨rfl, _, rfl, rfl, hs.cutG 0 0⟩ }
 {
 intro ρ w Γx Λx hs hu hp
 have e81 : ρ 32 = undef := (hp 15 rfl).1
 have e82 : ρ 29 = .bool (!decide ((⟨x37.f_Type, x37.N, x37.S⟩ : Y00) = (⟨x40.Key.f_Type, x40.Key.N, x40.Key.S⟩ : Y00))) := (hp 12 rfl).1
 refine WL.pass ((Y01 rfl rfl (Y02 e82 hc46)).trans rfl) rfl ?_
 exact WL.nil ⟨rfl, _, rfl, rfl, hs.cutG 0 0⟩ }
 {
 intro ρ w Γx Λx hs hu hp
 have e83 : ρ 33 = undef := (hp 16 rfl).1
 have e84 : ρ 29 = .bool (!decide ((⟨x37.f_Type, x37.N, x37.S⟩ : Y00) = (⟨x40.Key.f_Type, x40.Key.N, x40.Key.S⟩ : Y00))) := (hp 12 rfl).1
 refine WL.pass ((Y01 rfl rfl (Y02 e84 hc46)).trans rfl) rfl ?_
 exact WL.nil ⟨rfl, _, rfl, rfl, hs.cutG 0 0⟩ }
 {
 intro ρ w Γx Λx hs hu hp
 have e85 : ρ 29 = .bool (!decide ((⟨x37.f_Type, x37.N, x37.S⟩ : Y00) = (⟨x40.Key.f_Type, x40.Key.N, x40.Key.S⟩ : Y00))) := (hp 12 rfl).1
 refine WL.pass ((Y01 rfl rfl (Y02 e85 hc46)).trans rfl) rfl ?_
 exact WL.nil ⟨rfl, _, rfl, rfl, hs.cutG 0 0⟩ }
 {
 intro ρ w Γx Λx hs hu hp
 have e86 : ρ 29 = .bool (!decide ((⟨x37.f_Type, x37.N, x37.S⟩ : Y00) = (⟨x40.Key.f_Type, x40.Key.N, x40.Key.S⟩ : Y00))) := (hp 12 rfl).1
 refine WL.pass ((Y01 rfl rfl (Y02 e86 hc46)).trans rfl) rfl ?_
 exact WL.nil ⟨rfl, _, rfl, rfl, hs.cutG 0 0⟩ }
 {
 intro ρ w Γx Λx hs hu hp
 have e87 : ρ 35 = undef := (hp 18 rfl).1
 have e88 : ρ 36 = undef := (hp 19 rfl).1
 have e89 : ρ 29 = .bool (!decide ((⟨x37.f_Type, x37.N, x37.S⟩ : Y00) = (⟨x40.Key.f_Type, x40.Key.N, x40.Key.S⟩ : Y00))) := (hp 12 rfl).1
 refine WL.pass ((Y01 rfl rfl (Y02 e89 hc46)).trans rfl) rfl ?_
 exact WL.nil ⟨rfl, _, rfl, rfl, hs.cutG 0 0⟩ }
 {
 intro ρ w Γx Λx hs hu hp
 have e90 : ρ 37 = undef := (hp 20 rfl).1
 have e91 : ρ 29 = .bool (!decide ((⟨x37.f_Type, x37.N, x37.S⟩ : Y00) = (⟨x40.Key.f_Type, x40.Key.N, x40.Key.S⟩ : Y00))) := (hp 12 rfl).1
 refine WL.pass ((Y01 rfl rfl (Y02 e91 hc46)).trans rfl) rfl ?_
 exact WL.nil ⟨rfl, _, rfl, rfl, hs.cutG 0 0⟩ }
 {
 intro ρ w Γx Λx hs hu hp
 have e92 : ρ 38 = undef := (hp 21 rfl).1
 have e93 : ρ 29 = .bool (!decide ((⟨x37.f_Type, x37.N, x37.S⟩ : Y00) = (⟨x40.Key.f_Type, x40.Key.N, x40.Key.S⟩ : Y00))) := (hp 12 rfl).1
 refine WL.pass ((Y01 rfl rfl (Y02 e93 hc46)).trans rfl) rfl ?_
 exact WL.nil ⟨rfl, _, rfl, rfl, hs.cutG 0 0⟩ }
 {
 intro ρ w Γx Λx hs hu hp
 have e94 : ρ 34 = undef := (hp 17 rfl).1
 have e95 : ρ 39 = undef := (hp 22 rfl).1
 have e96 : ρ 29 = .bool (!decide ((⟨x37.f_Type, x37.N, x37.S⟩ : Y00) = (⟨x40.Key.f_Type, x40.Key.N, x40.Key.S⟩ : Y00))) := (hp 12 rfl).1
 refine WL.pass ((Y01 rfl rfl (Y02 e96 hc46)).trans rfl) rfl ?_
 exact WL.nil ⟨rfl, _, rfl, rfl, hs.cutG 0 0⟩ }
 {
 intro ρ w Γx Λx hs hu hp
 have e97 : ρ 40 = undef := (hp 23 rfl).1
 have e98 : ρ 29 = .bool (!decide ((⟨x37.f_Type, x37.N, x37.S⟩ : Y00) = (⟨x40.Key.f_Type, x40.Key.N, x40.Key.S⟩ : Y00))) := (hp 12 rfl).1
 refine WL.pass ((Y01 rfl rfl (Y02 e98 hc46)).trans rfl) rfl ?_
 exact WL.nil ⟨rfl, _, rfl, rfl, hs.cutG 0 0⟩ }
 {
 intro ρ w Γx Λx hs hu hp
 have e99 : ρ 29 = .bool (!decide ((⟨x37.f_Type, x37.N, x37.S⟩ : Y00) = (⟨x40.Key.f_Type, x40.Key.N, x40.Key.S⟩ : Y00))) := (hp 12 rfl).1
 have e100 : ρ 41 = undef := (hp 24 rfl).1
 refine WL.pickT (v := .bool true) (Y02 e99 hc46) rfl ?_
 exact WL.nil ⟨rfl, _, rfl, rfl, hs.cutG 0 0⟩ }
 {
 intro ρ w hs hu101 hp
 obtain ⟨⟨⟨⟨⟨⟨⟨⟨⟨⟨⟨⟨⟨⟨⟨⟨⟨⟨⟨⟨⟨⟨⟨⟨⟨⟨_, hp0_⟩, hp1_⟩, hp2_⟩, hp3_⟩, hp4_⟩, hp5_⟩, hp6_⟩, hp7_⟩, hp8_⟩, hp9_⟩, hp10_⟩, hp11_⟩, hp12_⟩, hp13_⟩, hp14_⟩, hp15_⟩, hp16_⟩, hp17_⟩, hp18_⟩, hp19_⟩, hp20_⟩, hp21_⟩, hp22_⟩, hp23_⟩, hp24_⟩, hp25_⟩ := hp
 have hs : St ok (bz w0) w [vl Y03 x40.Key (ρ 27), pl Y03 x40.Key (adOf (ρ 26)), pl Y05 x40 (adOf (ρ 25)), vl Y03 x37 (ρ 22), vl Y09 x31.Key (ρ 21), pl Y09 x31.Key (adOf (ρ 20)), pl Y0i x31 (adOf (ρ 19)), vl (Y0b Y0i) x1 (.slice a2 x1.length c3), vl (Y0b Y05) x4 (.slice a5 x4.length c6)] [] := hs
 have e102 : ρ 42 = .bool true := hp25_
 have e103 : ρ 41 = undef := hp24_
 have e104 : ρ 40 = undef := hp23_
 have e105 : ρ 39 = undef := hp22_
 have e106 : ρ 38 = undef := hp21_
 have e107 : ρ 37 = undef := hp20_
 have e108 : ρ 36 = undef := hp19_
 have e109 : ρ 35 = undef := hp18_
 have e110 : ρ 34 = undef := hp17_
 have e111 : ρ 33 = undef := hp16_
 have e112 : ρ 32 = undef := hp15_
 have e113 : ρ 31 = undef := hp14_
 have e114 : ρ 30 = undef := hp13_
 have e115 : ρ 29 = .bool (!decide ((⟨x37.f_Type, x37.N, x37.S⟩ : Y00) = (⟨x40.Key.f_Type, x40.Key.N, x40.Key.S⟩ : Y00))) := hp12_
 have e116 : ρ 28 = .bool (!decide ((⟨x37.f_Type, x37.N, x37.S⟩ : Y00) = (⟨x40.Key.f_Type, x40.Key.N, x40.Key.S⟩ : Y00))) := hp11_
 obtain ⟨cs117, e119⟩ := hp10_
 have e119 : ρ 27 = .agg cs117.toArray := e119
 try rw [e119] at hs
 obtain ⟨ad120, e121⟩ := hp9_
 have e121 : ρ 26 = .pointer (some ad120) := e121
 try rw [e121] at hs
 obtain ⟨ad122, e123⟩ := hp8_
 have e123 : ρ 25 = .pointer (some ad122) := e123
 try rw [e123] at hs
 have e124 : ρ 24 = .int .i64 x18 := hp7_
 have e125 : ρ 23 = .slice a5 x4.length c6 := hp6_
 obtain ⟨cs126, e128⟩ := hp5_
 have e128 : ρ 22 = .agg cs126.toArray := e128
 try rw [e128] at hs
 obtain ⟨cs129, e131⟩ := hp4_
 have e131 : ρ 21 = .agg cs129.toArray := e131
 try rw [e131] at hs
 obtain ⟨ad132, e133⟩ := hp3_
 have e133 : ρ 20 = .pointer (some ad132) := e133
 try rw [e133] at hs
 obtain ⟨ad134, e135⟩ := hp2_
 have e135 : ρ 19 = .pointer (some ad134) := e135
 try rw [e135] at hs
 have e136 : ρ 18 = .int .i64 x18 := hp1_
 have e137 : ρ 17 = .slice a2 x1.length c3 := hp0_
 have hl130 := hs.agglen (n := 3) 4 rfl rfl rfl
 have hl127 := hs.agglen (n := 3) 3 rfl rfl rfl
 have hl118 := hs.agglen (n := 3) 0 rfl rfl rfl
 refine WA.done (by kernel_rfl) ?_
 exact Jk27 true _ _ ((hu101 0 rfl).trans h17_0) ((hu101 1 rfl).trans h17_1) ((hu101 5 rfl).trans h17_5) e102 ((hs.mask []).pick [7, 8]) hf } }
 {
 obtain ⟨x138, hxx138, hf⟩ := Y0s hf
 obtain ⟨x144, hxx144, hf⟩ := Y0s hf
 obtain ⟨x150, hxx150, hf⟩ := Y0s hf
 refine W.any (by kernel_rfl) 26 0 [true, true, true, true, true, true, true, true, true, true, true, true, true, true, true, true, true, true, true, true, true, true, true, true, true, true] rfl rfl (poAt [pv (.slice a2 x1.length c3), pv (.int .i64 x18), pq (fun y : Addr => .pointer (some y)) (fun v => [pl Y0i x31 (adOf v)]) (fun v => []), pq (fun y : Addr => .pointer (some y)) (fun v => [pl Y09 x31.Key (adOf v)]) (fun v => []), pq (fun y : List Value => .agg y.toArray) (fun v => [vl Y09 x31.Key v]) (fun v => []), pq (fun y : List Value => .agg y.toArray) (fun v => [vl Y03 x37 v]) (fun v => []), pv (.slice a5 x4.length c6), pv (.int .i64 x18), pq (fun y : Addr => .pointer (some y)) (fun v => [pl Y05 x40 (adOf v)]) (fun v => []), pq (fun y : Addr => .pointer (some y)) (fun v => [pl Y03 x40.Key (adOf v)]) (fun v => []), pq (fun y : List Value => .agg y.toArray) (fun v => [vl Y03 x40.Key v]) (fun v => []), pv (.bool (!decide ((⟨x37.f_Type, x37.N, x37.S⟩ : Y00) = (⟨x40.Key.f_Type, x40.Key.N, x40.Key.S⟩ : Y00)))), pv (.bool (!decide ((⟨x37.f_Type, x37.N, x37.S⟩ : Y00) = (⟨x40.Key.f_Type, x40.Key.N, x40.Key.S⟩ : Y00)))), pv (.slice a2 x1.length c3), pv (.int .i64 x18), pq (fun y : Addr => .pointer (some y)) (fun v => [pl Y0i x138 (adOf v)]) (fun v => []), pq (fun y : Addr => .pointer (some y)) (fun v => [pl (Y0b tStr) x138.Objects (adOf v)]) (fun v => []), pq (fun y : (Option Addr × Nat) => .slice y.1 (x138.Objects).length y.2) (fun v => [vl (Y0b tStr) x138.Objects v]) (fun v => []), pv (.slice a5 x4.length c6), pv (.int .i64 x18), pq (fun y : Addr => .pointer (some y)) (fun v => [pl Y05 x144 (adOf v)]) (fun v => []), pq (fun y : Addr => .pointer (some y)) (fun v => [pl (Y0b tStr) x144.Objects (adOf v)]) (fun v => []), pq (fun y : (Option Addr × Nat) => .slice y.1 (x144.Objects).length y.2) (fun v => [vl (Y0b tStr) x144.Objects v]) (fun v => []), pv (.bool x150), pv (.bool (!x150)), pv (.bool (!x150))]) (Λ := []) hs (by kernel_rfl) (by kernel_rfl) (by kernel_rfl) ⟨⟨⟨⟨⟨⟨⟨⟨⟨⟨⟨⟨⟨⟨⟨⟨⟨⟨⟨⟨⟨⟨⟨⟨⟨⟨trivial, ?_⟩, ?_⟩, ?_⟩, ?_⟩, ?_⟩, ?_⟩, ?_⟩, ?_⟩, ?_⟩, ?_⟩, ?_⟩, ?_⟩, ?_⟩, ?_⟩, ?_⟩, ?_⟩, ?_⟩, ?_⟩, ?_⟩, ?_⟩, ?_⟩, ?_⟩, ?_⟩, ?_⟩, ?_⟩, ?_⟩ ?_
 {
 intro ρ w Γx Λx hs hu hp
 refine WL.move (v := .slice a2 x1.length c3) ((hu 0 rfl).trans h17_0) ?_
 exact WL.nil ⟨rfl, _, rfl, rfl, hs.cutG 0 0⟩ }
 {
 intro ρ w Γx Λx hs hu hp
 refine WL.move (v := .int .i64 x18) ((hu 5 rfl).trans h17_5) ?_
 exact WL.nil ⟨rfl, _, rfl, rfl, hs.cutG 0 0⟩ }
 {
 intro ρ w Γx Λx hs hu hp
 have e151 : ρ 17 = .slice a2 x1.length c3 := (hp 0 rfl).1
 have e152 : ρ 18 = .int .i64 x18 := (hp 1 rfl).1
 refine WL.indexAddr hs (Γx.length + 0) (Y0q rfl) UN33 TI65 e151 e152 hxx31 (fun ad32 hs => ?_)
 have hs := hs.add (it := pl Y0i x31 ad32) fun ok hA => hA.get 0 rfl
 exact WL.nil ⟨rfl, _, rfl, ⟨ad32, rfl⟩, hs.cutG 1 1⟩ }
 {
 intro ρ w Γx Λx hs hu hp
 obtain ⟨⟨ad153, e154r⟩, hm155⟩ := hp 2 rfl
 have e154 : ρ 19 = .pointer (some ad153) := e154r
 rw [e154r] at hm155
 have hs := hs.memo1 (it := pl Y0i x31 ad153) (List.mem_append.2 (.inl (hm155 _ (List.mem_of_getElem? (i := 0) rfl))))
 refine WL.fieldAddrP (z := x31.Key) Y24 hs 0 rfl e154 Y4W rfl (fun ad33 hs => ?_)
 have hs := hs.add (it := pl Y09 x31.Key ad33) fun ok hA => hA.get 0 rfl
 exact WL.nil ⟨rfl, _, rfl, ⟨ad33, rfl⟩, hs.cutG 1 2⟩ }
 {
 intro ρ w Γx Λx hs hu hp
 obtain ⟨⟨ad156, e157r⟩, hm158⟩ := hp 3 rfl
 have e157 : ρ 20 = .pointer (some ad156) := e157r
 rw [e157r] at hm158
 have hs := hs.memo1 (it := pl Y09 x31.Key ad156) (List.mem_append.2 (.inl (hm158 _ (List.mem_of_getElem? (i := 0) rfl))))
 refine WL.loadP hs 0 rfl TI47 (.inl rfl) e157 (fun v34 hs => ?_)
 obtain ⟨cs35, hl36, rfl⟩ := hs.aggv (n := 3) 0 rfl rfl rfl
 have hs := hs.add (it := vl Y09 x31.Key (.agg cs35.toArray)) fun ok hA => hA.get 0 rfl
 exact WL.nil ⟨rfl, _, rfl, ⟨cs35, rfl⟩, hs.cutG 1 2⟩ }
 {
 intro ρ w Γx Λx hs hu hp
 obtain ⟨⟨cs159, e161r⟩, hm162⟩ := hp 4 rfl
 have e161 : ρ 21 = .agg cs159.toArray := e161r
 rw [e161r] at hm162
 have hs := hs.memo1 (it := vl Y09 x31.Key (.agg cs159.toArray)) (List.mem_append.2 (.inl (hm162 _ (List.mem_of_getElem? (i := 0) rfl))))
 have hl160 := hs.agglen (n := 3) 0 rfl rfl rfl
 refine WL.call (vs := [.agg cs159.toArray]) hs FN15 ⟨e161, trivial⟩ (fun ok hA => Y26.calls (x1 := x31.Key) hxx37 (hA.get 0 rfl)) ?_
 rintro cs38 w hs
 have hl39 := hs.agglen (n := 3) 0 rfl rfl rfl
 have hs := hs.add (it := vl Y03 x37 (.agg cs38.toArray)) fun ok hA => hA.get 0 rfl
 exact WL.nil ⟨rfl, _, rfl, ⟨cs38, rfl⟩, hs.cutG 1 2⟩ }
 {
 intro ρ w Γx Λx hs hu hp
 refine WL.move (v := .slice a5 x4.length c6) ((hu 1 rfl).trans h17_1) ?_
 exact WL.nil ⟨rfl, _, rfl, rfl, hs.cutG 0 0⟩ }
 {
 intro ρ w Γx Λx hs hu hp
 refine WL.move (v := .int .i64 x18) ((hu 5 rfl).trans h17_5) ?_
 exact WL.nil ⟨rfl, _, rfl, rfl, hs.cutG 0 0⟩ }
 {
 intro ρ w Γx Λx hs hu hp
 have e163 : ρ 23 = .slice a5 x4.length c6 := (hp 6 rfl).1
 have e164 : ρ 24 = .int .i64 x18 := (hp 7 rfl).1
 refine WL.indexAddr hs (Γx.length + 1) (Y0q rfl) UN49 TI92 e163 e164 hxx40 (fun ad41 hs => ?_)
 have hs := hs.add (it := pl Y05 x40 ad41) fun ok hA => hA.get 0 rfl
 exact WL.nil ⟨rfl, _, rfl, ⟨ad41, rfl⟩, hs.cutG 1 1⟩ }
 {
 intro ρ w Γx Λx hs hu hp
 obtain ⟨⟨ad165, e166r⟩, hm167⟩ := hp 8 rfl
 have e166 : ρ 25 = .pointer (some ad165) := e166r
 rw [e166r] at hm167
 have hs := hs.memo1 (it := pl Y05 x40 ad165) (List.mem_append.2 (.inl (hm167 _ (List.mem_of_getElem? (i := 0) rfl))))
 refine WL.fieldAddrP (z := x40.Key) Y1y hs 0 rfl e166 Y86 rfl (fun ad42 hs => ?_)
 have hs := hs.add (it := pl Y03 x40.Key ad42) fun ok hA => hA.get 0 rfl
 exact WL.nil ⟨rfl, _, rfl, ⟨ad42, rfl⟩, hs.cutG 1 2⟩ }
 {
 intro ρ w Γx Λx hs hu hp
 obtain ⟨⟨ad168, e169r⟩, hm170⟩ := hp 9 rfl
 have e169 : ρ 26 = .pointer (some ad168) := e169r
 rw [e169r] at hm170
 have hs := hs.memo1 (it := pl Y03 x40.Key ad168) (List.mem_append.2 (.inl (hm170 _ (List.mem_of_getElem? (i := 0) rfl))))
 refine WL.loadP hs 0 rfl TI45 (.inl rfl) e169 (fun v43 hs => ?_)
 obtain ⟨cs44, hl45, rfl⟩ := hs.aggv (n := 3) 0 rfl rfl rfl
 have hs := hs.add (it := vl Y03 x40.Key (.agg cs44.toArray)) fun ok hA => hA.get 0 rfl
 exact WL.nil ⟨rfl, _, rfl, ⟨cs44, rfl⟩, hs.cutG 1 2⟩ }
 {
 intro ρ w Γx Λx hs hu hp
 obtain ⟨⟨cs171, e173r⟩, hm174⟩ := hp 5 rfl
 have e173 : ρ 22 = .agg cs171.toArray := e173r
 rw [e173r] at hm174
 have hs := hs.memo1 (it := vl Y03 x37 (.agg cs171.toArray)) (List.mem_append.2 (.inl (hm174 _ (List.mem_of_getElem? (i := 0) rfl))))
 have hl172 := hs.agglen (n := 3) 0 rfl rfl rfl
 obtain ⟨⟨cs175, e177r⟩, hm178⟩ := hp 10 rfl
 have e177 : ρ 27 = .agg cs175.toArray := e177r
 rw [e177r] at hm178
 have hs := hs.memo1 (it := vl Y03 x40.Key (.agg cs175.toArray)) (List.mem_cons_of_mem _ (List.mem_append.2 (.inl (hm178 _ (List.mem_of_getElem? (i := 0) rfl)))))
 have hl176 := hs.agglen (n := 3) 0 rfl rfl rfl
 obtain rfl := Y0Z hs 1 rfl
 obtain rfl := Y0Z hs 0 rfl
 refine WL.eqA e173 e177 EG45 (NQ45 (⟨x37.f_Type, x37.N, x37.S⟩ : Y00) (⟨x40.Key.f_Type, x40.Key.N, x40.Key.S⟩ : Y00)) ?_
 exact WL.nil ⟨rfl, _, rfl, rfl, hs.cutG 0 2⟩ }
 {
 intro ρ w Γx Λx hs hu hp
 have e179 : ρ 28 = .bool (!decide ((⟨x37.f_Type, x37.N, x37.S⟩ : Y00) = (⟨x40.Key.f_Type, x40.Key.N, x40.Key.S⟩ : Y00))) := (hp 11 rfl).1
 refine WL.move (v := .bool (!decide ((⟨x37.f_Type, x37.N, x37.S⟩ : Y00) = (⟨x40.Key.f_Type, x40.Key.N, x40.Key.S⟩ : Y00)))) e179 ?_
 exact WL.nil ⟨rfl, _, rfl, rfl, hs.cutG 0 0⟩ }
 {
 intro ρ w Γx Λx hs hu hp
 have e180 : ρ 29 = .bool (!decide ((⟨x37.f_Type, x37.N, x37.S⟩ : Y00) = (⟨x40.Key.f_Type, x40.Key.N, x40.Key.S⟩ : Y00))) := (hp 12 rfl).1
 refine WL.move (v := .slice a2 x1.length c3) ((hu 0 rfl).trans h17_0) ?_ (hg := (Y01 rfl rfl (Y02 e180 hc46)).trans rfl)
 exact WL.nil ⟨rfl, _, rfl, rfl, hs.cutG 0 0⟩ }
 {
 intro ρ w Γx Λx hs hu hp
 have e181 : ρ 29 = .bool (!decide ((⟨x37.f_Type, x37.N, x37.S⟩ : Y00) = (⟨x40.Key.f_Type, x40.Key.N, x40.Key.S⟩ : Y00))) := (hp 12 rfl).1
 refine WL.move (v := .int .i64 x18) ((hu 5 rfl).trans h17_5) ?_ (hg := (Y01 rfl rfl (Y02 e181 hc46)).trans rfl)
 exact WL.nil ⟨rfl, _, rfl, rfl, hs.cutG 0 0⟩ }
 {
 intro ρ w Γx Λx hs hu hp
 have e182 : ρ 30 = .slice a2 x1.length c3 := (hp 13 rfl).1
 have e183 : ρ 31 = .int .i64 x18 := (hp 14 rfl).1
 have e184 : ρ 29 = .bool (!decide ((⟨x37.f_Type, x37.N, x37.S⟩ : Y00) = (⟨x40.Key.f_Type, x40.Key.N, x40.Key.S⟩ : Y00))) := (hp 12 rfl).1
 refine WL.indexAddr hs (Γx.length + 0) (Y0q rfl) UN33 TI65 e182 e183 hxx138 (fun ad139 hs => ?_) (hg := (Y01 rfl rfl (Y02 e184 hc46)).trans rfl)
 have hs := hs.add (it := pl Y0i x138 ad139) fun ok hA => hA.get 0 rfl
 exact WL.nil ⟨rfl, _, rfl, ⟨ad139, rfl⟩, hs.cutG 1 1⟩ }
 {
 intro ρ w Γx Λx hs hu hp
 obtain ⟨⟨ad185, e186r⟩, hm187⟩ := hp 15 rfl
 have e186 : ρ 32 = .pointer (some ad185) := e186r
 rw [e186r] at hm187
 have hs := hs.memo1 (it := pl Y0i x138 ad185) (List.mem_append.2 (.inl (hm187 _ (List.mem_of_getElem? (i := 0) rfl))))
 have e188 : ρ 29 = .bool (!decide ((⟨x37.f_Type, x37.N, x37.S⟩ : Y00) = (⟨x40.Key.f_Type, x40.Key.N, x40.Key.S⟩ : Y00))) := (hp 12 rfl).1
 refine WL.fieldAddrP (z := x138.Objects) Y2b hs 0 rfl e186 Y4V rfl (fun ad140 hs => ?_) (hg := (Y01 rfl rfl (Y02 e188 hc46)).trans rfl)
 have hs := hs.add (it := pl (Y0b tStr) x138.Objects ad140) fun ok hA => hA.get 0 rfl
 exact WL.nil ⟨rfl, _, rfl, ⟨ad140, rfl⟩, hs.cutG 1 2⟩ }
 {
 intro ρ w Γx Λx hs hu hp
 obtain ⟨⟨ad189, e190r⟩, hm191⟩ := hp 16 rfl
 have e190 : ρ 33 = .pointer (some ad189) := e190r
 rw [e190r] at hm191
 have hs := hs.memo1 (it := pl (Y0b tStr) x138.Objects ad189) (List.mem_append.2 (.inl (hm191 _ (List.mem_of_getElem? (i := 0) rfl))))
 have e192 : ρ 29 = .bool (!decide ((⟨x37.f_Type, x37.N, x37.S⟩ : Y00) = (⟨x40.Key.f_Type, x40.Key.N, x40.Key.S⟩ : Y00))) := (hp 12 rfl).1
 refine WL.loadP hs 0 rfl TI56 (.inr rfl) e190 (fun v141 hs => ?_) (hg := (Y01 rfl rfl (Y02 e192 hc46)).trans rfl)
 obtain ⟨a142, c143, rfl⟩ := hs.slice 0 rfl
 have hs := hs.add (it := vl (Y0b tStr) x138.Objects (.slice a142 (x138.Objects).length c143)) fun ok hA => hA.get 0 rfl
 exact WL.nil ⟨rfl, _, rfl, ⟨(a142, c143), rfl⟩, hs.cutG 1 2⟩ }
 {
 intro ρ w Γx Λx hs hu hp
 have e193 : ρ 29 = .bool (!decide ((⟨x37.f_Type, x37.N, x37.S⟩ : Y00) = (⟨x40.Key.f_Type, x40.Key.N, x40.Key.S⟩ : Y00))) := (hp 12 rfl).1
 refine WL.move (v := .slice a5 x4.length c6) ((hu 1 rfl).trans h17_1) ?_ (hg := (Y01 rfl rfl (Y02 e193 hc46)).trans rfl)
 exact WL.nil ⟨rfl, _, rfl, rfl, hs.cutG 0 0⟩ }
 {
 intro ρ w Γx Λx hs hu hp
 have e194 : ρ 29 = .bool (!decide ((⟨x37.f_Type, x37.N, x37.S⟩ : Y00) = (⟨x40.Key.f_Type, x40.Key.N, x40.Key.S⟩ : Y00))) := (hp 12 rfl).1
 refine WL.move (v := .int .i64 x18) ((hu 5 rfl).trans h17_5) ?_ (hg := (Y01 rfl rfl (Y02 e194 hc46)).trans rfl)
 exact WL.nil ⟨rfl, _, rfl, rfl, hs.cutG 0 0⟩ }
 {
 intro ρ w Γx Λx hs hu hp
 have e195 : ρ 35 = .slice a5 x4.length c6 := (hp 18 rfl).1
 have e196 : ρ 36 = .int .i64 x18 := (hp 19 rfl).1
 have e197 : ρ 29 = .bool (!decide ((⟨x37.f_Type, x37.N, x37.S⟩ : Y00) = (⟨x40.Key.f_Type, x40.Key.N, x40.Key.S⟩ : Y00))) := (hp 12 rfl).1
 refine WL.indexAddr hs (Γx.length + 1) (Y0q rfl) UN49 TI92 e195 e196 hxx144 (fun ad145 hs => ?_) (hg := (Y01 rfl rfl (Y02 e197 hc46)).trans rfl)
 have hs := hs.add (it := pl Y05 x144 ad145) fun ok hA => hA.get 0 rfl
 exact WL.nil ⟨rfl, _, rfl, ⟨ad145, rfl⟩, hs.cutG 1 1⟩ }
 {
 intro ρ w Γx Λx hs hu hp
 obtain ⟨⟨ad198, e199r⟩, hm200⟩ := hp 20 rfl
 have e199 : ρ 37 = .pointer (some ad198) := e199r
 rw [e199r] at hm200
 have hs := hs.memo1 (it := pl Y05 x144 ad198) (List.mem_append.2 (.inl (hm200 _ (List.mem_of_getElem? (i := 0) rfl))))
 have e201 : ρ 29 = .bool (!decide ((⟨x37.f_Type, x37.N, x37.S⟩ : Y00) = (⟨x40.Key.f_Type, x40.Key.N, x40.Key.S⟩ : Y00))) := (hp 12 rfl).1
 refine WL.fieldAddrP (z := x144.Objects) Y1H hs 0 rfl e199 Y9d rfl (fun ad146 hs => ?_) (hg := (Y01 rfl rfl (Y02 e201 hc46)).trans rfl)
 have hs := hs.add (it := pl (Y0b tStr) x144.Objects ad146) fun ok hA => hA.get 0 rfl
 exact WL.nil ⟨rfl, _, rfl, ⟨ad146, rfl⟩, hs.cutG 1 2⟩ }
 {
 intro ρ w Γx Λx hs hu hp
 obtain ⟨⟨ad202, e203r⟩, hm204⟩ := hp 21 rfl
 have e203 : ρ 38 = .pointer (some ad202) := e203r
 rw [e203r] at hm204
 have hs := hs.memo1 (it := pl (Y0b tStr) x144.Objects ad202) (List.mem_append.2 (.inl (hm204 _ (List.mem_of_getElem? (i := 0) rfl))))
 have e205 : ρ 29 = .bool (!decide ((⟨x37.f_Type, x37.N, x37.S⟩ : Y00) = (⟨x40.Key.f_Type, x40.Key.N, x40.Key.S⟩ : Y00))) := (hp 12 rfl).1
 refine WL.loadP hs 0 rfl TI56 (.inr rfl) e203 (fun v147 hs => ?_) (hg := (Y01 rfl rfl (Y02 e205 hc46)).trans rfl)
 obtain ⟨a148, c149, rfl⟩ := hs.slice 0 rfl
 have hs := hs.add (it := vl (Y0b tStr) x144.Objects (.slice a148 (x144.Objects).length c149)) fun ok hA => hA.get 0 rfl
 exact WL.nil ⟨rfl, _, rfl, ⟨(a148, c149), rfl⟩, hs.cutG 1 2⟩ }
 {
 intro ρ w Γx Λx hs hu hp
 obtain ⟨⟨⟨a206, c207⟩, e208r⟩, hm209⟩ := hp 17 rfl
 have e208 : ρ 34 = .slice a206 (x138.Objects).length c207 := e208r
 rw [e208r] at hm209
 have hs := hs.memo1 (it := vl (Y0b tStr) x138.Objects (.slice a206 (x138.Objects).length c207)) (List.mem_append.2 (.inl (hm209 _ (List.mem_of_getElem? (i := 0) rfl))))
 obtain ⟨⟨⟨a210, c211⟩, e212r⟩, hm213⟩ := hp 22 rfl
 have e212 : ρ 39 = .slice a210 (x144.Objects).length c211 := e212r
 rw [e212r] at hm213
 have hs := hs.memo1 (it := vl (Y0b tStr) x144.Objects (.slice a210 (x144.Objects).length c211)) (List.mem_cons_of_mem _ (List.mem_append.2 (.inl (hm213 _ (List.mem_of_getElem? (i := 0) rfl)))))
 have e214 : ρ 29 = .bool (!decide ((⟨x37.f_Type, x37.N, x37.S⟩ : Y00) = (⟨x40.Key.f_Type, x40.Key.N, x40.Key.S⟩ : Y00))) := (hp 12 rfl).1
 refine WL.call (vs := [.slice a206 (x138.Objects).length c207, .slice a210 (x144.Objects).length c211]) hs FN21 ⟨e208, ⟨e212, trivial⟩⟩ (fun ok hA => Y0F.calls (x1 := x138.Objects) (x4 := x144.Objects) hxx150 (hA.get 1 rfl) (hA.get 0 rfl)) ?_ (hg := (Y01 rfl rfl (Y02 e214 hc46)).trans rfl)
 rintro _ w hs
 exact WL.nil ⟨rfl, _, rfl, rfl, hs.cutG 0 2⟩ }
 {
 intro ρ w Γx Λx hs hu hp
 have e215 : ρ 40 = .bool x150 := (hp 23 rfl).1
 have e216 : ρ 29 = .bool (!decide ((⟨x37.f_Type, x37.N, x37.S⟩ : Y00) = (⟨x40.Key.f_Type, x40.Key.N, x40.Key.S⟩ : Y00))) := (hp 12 rfl).1
 refine WL.not e215 ?_ (hg := (Y01 rfl rfl (Y02 e216 hc46)).trans rfl)
 exact WL.nil ⟨rfl, _, rfl, rfl, hs.cutG 0 0⟩ }
 {
 intro ρ w Γx Λx hs hu hp
 have e217 : ρ 29 = .bool (!decide ((⟨x37.f_Type, x37.N, x37.S⟩ : Y00) = (⟨x40.Key.f_Type, x40.Key.N, x40.Key.S⟩ : Y00))) := (hp 12 rfl).1
 have e218 : ρ 41 = .bool (!x150) := (hp 24 rfl).1
 refine WL.pickF (v := .bool (!x150)) (Y02 e217 hc46) e218 ?_
 exact WL.nil ⟨rfl, _, rfl, rfl, hs.cutG 0 0⟩ }
 {
 intro ρ w hs hu219 hp
 obtain ⟨⟨⟨⟨⟨⟨⟨⟨⟨⟨⟨⟨⟨⟨⟨⟨⟨⟨⟨⟨⟨⟨⟨⟨⟨⟨_, hp0_⟩, hp1_⟩, hp2_⟩, hp3_⟩, hp4_⟩, hp5_⟩, hp6_⟩, hp7_⟩, hp8_⟩, hp9_⟩, hp10_⟩, hp11_⟩, hp12_⟩, hp13_⟩, hp14_⟩, hp15_⟩, hp16_⟩, hp17_⟩, hp18_⟩, hp19_⟩, hp20_⟩, hp21_⟩, hp22_⟩, hp23_⟩, hp24_⟩, hp25_⟩ := hp
 have hs : St ok (bz w0) w [vl (Y0b tStr) x144.Objects (ρ 39), pl (Y0b tStr) x144.Objects (adOf (ρ 38)), pl Y05 x144 (adOf (ρ 37)), vl (Y0b tStr) x138.Objects (ρ 34), pl (Y0b tStr) x138.Objects (adOf (ρ 33)), pl Y0i x138 (adOf (ρ 32)), vl Y03 x40.Key (ρ 27), pl Y03 x40.Key (adOf (ρ 26)), pl Y05 x40 (adOf (ρ 25)), vl Y03 x37 (ρ 22), vl Y09 x31.Key (ρ 21), pl Y09 x31.Key (adOf (ρ 20)), pl Y0i x31 (adOf (ρ 19)), vl (Y0b Y0i) x1 (.slice a2 x1.length c3), vl (Y0b Y05) x4 (.slice a5 x4.length c6)] [] := hs
 have e220 : ρ 42 = .bool (!x150) := hp25_
 have e221 : ρ 41 = .bool (!x150) := hp24_
 have e222 : ρ 40 = .bool x150 := hp23_
 obtain ⟨⟨a223, c224⟩, e225⟩ := hp22_
 have e225 : ρ 39 = .slice a223 (x144.Objects).length c224 := e225
 try rw [e225] at hs
 obtain ⟨ad226, e227⟩ := hp21_
 have e227 : ρ 38 = .pointer (some ad226) := e227
 try rw [e227] at hs
 obtain ⟨ad228, e229⟩ := hp20_
 have e229 : ρ 37 = .pointer (some ad228) := e229
 try rw [e229] at hs
 have e230 : ρ 36 = .int .i64 x18 := hp19_
 have e231 : ρ 35 = .slice a5 x4.length c6 := hp18_
 obtain ⟨⟨a232, c233⟩, e234⟩ := hp17_
 have e234 : ρ 34 = .slice a232 (x138.Objects).length c233 := e234
 try rw [e234] at hs
 obtain ⟨ad235, e236⟩ := hp16_
 have e236 : ρ 33 = .pointer (some ad235) := e236
 try rw [e236] at hs
 obtain ⟨ad237, e238⟩ := hp15_
 have e238 : ρ 32 = .pointer (some ad237) := e238
 try rw [e238] at hs
 have e239 : ρ 31 = .int .i64 x18 := hp14_
 have e240 : ρ 30 = .slice a2 x1.length c3 := hp13_
 have e241 : ρ 29 = .bool (!decide ((⟨x37.f_Type, x37.N, x37.S⟩ : Y00) = (⟨x40.Key.f_Type, x40.Key.N, x40.Key.S⟩ : Y00))) := hp12_
 have e242 : ρ 28 = .bool (!decide ((⟨x37.f_Type, x37.N, x37.S⟩ : Y00) = (⟨x40.Key.f_Type, x40.Key.N, x40.Key.S⟩ : Y00))) := hp11_
 obtain ⟨cs243, e245⟩ := hp10_
 have e245 : ρ 27 = .agg cs243.toArray := e245
 try rw [e245] at hs
 obtain ⟨ad246, e247⟩ := hp9_
 have e247 : ρ 26 = .pointer (some ad246) := e247
 try rw [e247] at hs
 obtain ⟨ad248, e249⟩ := hp8_
 have e249 : ρ 25 = .pointer (some ad248) := e249
 try rw [e249] at hs
 have e250 : ρ 24 = .int .i64 x18 := hp7_
 have e251 : ρ 23 = .slice a5 x4.length c6 := hp6_
 obtain ⟨cs252, e254⟩ := hp5_
 have e254 : ρ 22 = .agg cs252.toArray := e254
 try rw [e254] at hs
 obtain ⟨cs255, e257⟩ := hp4_
 have e257 : ρ 21 = .agg cs255.toArray := e257
 try rw [e257] at hs
 obtain ⟨ad258, e259⟩ := hp3_
 have e259 : ρ 20 = .pointer (some ad258) := e259
 try rw [e259] at hs
 obtain ⟨ad260, e261⟩ := hp2_
 have e261 : ρ 19 = .pointer (some ad260) := e261
 try rw [e261] at hs
 have e262 : ρ 18 = .int .i64 x18 := hp1_
 have e263 : ρ 17 = .slice a2 x1.length c3 := hp0_
 have hl256 := hs.agglen (n := 3) 10 rfl rfl rfl
 have hl253 := hs.agglen (n := 3) 9 rfl rfl rfl
 have hl244 := hs.agglen (n := 3) 6 rfl rfl rfl
 refine WA.done (by kernel_rfl) ?_
 exact Jk27 (!x150) _ _ ((hu219 0 rfl).trans h17_0) ((hu219 1 rfl).trans h17_1) ((hu219 5 rfl).trans h17_5) e220 ((hs.mask []).pick [13, 14]) hf } } }
 {
 refine W.cond_false (Y02 rfl hc22) ?_
 refine W.exit ?_
 have hr := Option.some.inj hf; subst hr
 have hr := hbbs19 _ rfl; subst hr
 have hf := hfs19
 exact Jk14  _ _  ((hs.mask []).pick []) hf } }
end
end Go.Proofs.YtpfgdjfiimknlaaGreat
