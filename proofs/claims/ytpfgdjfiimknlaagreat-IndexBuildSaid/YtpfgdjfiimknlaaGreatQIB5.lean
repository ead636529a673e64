/- What the row leans on, as few texts. -/
import Derived.Test.YtpfgdjfiimknlaaGreatQIB2
import Derived.Test.YtpfgdjfiimknlaaGreatQIB3
import Derived.Test.YtpfgdjfiimknlaaGreatQIB1
import Derived.Test.YtpfgdjfiimknlaaGreatQIB0
import Derived.Test.YtpfgdjfiimknlaaGreatQIB4
set_option linter.unusedVariables false
set_option linter.unusedSimpArgs false
namespace Go.Proofs.YtpfgdjfiimknlaaGreat
open Go Go.RowKit Go.Proofs.YtpfgdjfiimknlaaGreatL
set_option maxRecDepth 100000
set_option maxHeartbeats 4000000
theorem eslaw00_Index.calls {ok : Nat → Prop} {w0 : World} {x1 : Int} {x2 : Int}  {r : Int} (hf : eslaw00_Index x1 x2 = some r)  :
    Calls Tryz.prog 33 #[.int .i64 x1, .int .i64 x2] w0 fun e w' => ∃ v, e = .returned v ∧ ∃ y : Unit, v = .int .i64 r ∧ St ok (bz w0) w' [] [] := by
  unfold eslaw00_Index at hf
  refine calls_of_W (fn := Tryz.f33) (N := 14) Tryz.func33 rfl Tryz.ntmps33 rfl ?_
  have hs : St ok (bz w0) w0 [] [] := St.init All.nil
  refine W.seqK fun K3 hK3 => ?_
  refine W.region ?_
  refine WL.assign (v := .int .i64 0) rfl ?_
  refine WL.nil ?_
  refine hK3 _ _ ?_
  refine W.seqK fun K4 hK4 => ?_
  refine W.seqK fun K5 hK5 => ?_
  refine W.region ?_
  refine WL.move (v := .int .i64 x2) rfl ?_
  refine WL.bin (v := .bool (decide (x2 < 1))) rfl rfl (ib_lss _ _ _) ?_
  refine WL.nil ?_
  refine hK5 _ _ ?_
  rcases iteE hf with ⟨hc6, hf⟩ | ⟨hc6, hf⟩
  {
  refine W.cond_true (bool_tr rfl hc6) ?_
  refine W.seqK fun K7 hK7 => ?_
  refine W.region ?_
  refine WL.assign (v := .int .i64 0) rfl ?_
  refine WL.nil ?_
  refine hK7 _ _ ?_
  refine W.ret ?_
  have hr := Option.some.inj hf; subst hr
  exact ⟨_, resOk_one rfl rfl, (), rfl, (hs.mask []).pick []⟩ }
  {
  refine W.cond_false (bool_tr rfl hc6) ?_
  refine W.skip ?_
  refine hK4 _ _ ?_
  refine W.seqK fun K8 hK8 => ?_
  refine W.region ?_
  refine WL.move (v := .int .i64 x1) rfl ?_
  refine WL.move (v := .int .i64 x2) rfl ?_
  obtain ⟨hn9, hf⟩ := guardE hf
  refine WL.bin (v := .int .i64 (Int.tmod x1 x2)) rfl rfl (ib_rem _ _ _ hn9) ?_
  refine WL.move (v := .int .i64 x2) rfl ?_
  obtain ⟨x10, ex10, hf⟩ := letE hf
  refine WL.bin (v := .int .i64 x10) rfl rfl (ib_as ex10 (ib_add _ _ _)) ?_
  refine WL.move (v := .int .i64 x2) rfl ?_
  obtain ⟨hn11, hf⟩ := guardE hf
  refine WL.bin (v := .int .i64 (Int.tmod x10 x2)) rfl rfl (ib_rem _ _ _ hn11) ?_
  refine WL.assign (v := .int .i64 (Int.tmod x10 x2)) rfl ?_
  refine WL.nil ?_
  refine hK8 _ _ ?_
  refine W.ret ?_
  have hr := Option.some.inj hf; subst hr
  exact ⟨_, resOk_one rfl rfl, (), rfl, (hs.mask []).pick []⟩ }
theorem eslaw00_Digit.calls {ok : Nat → Prop} {w0 : World} {x1 : Int} {x2 : Int} {x3 : Int}  {r : Int} (hf : eslaw00_Digit x1 x2 x3 = some r)  :
    Calls Tryz.prog 31 #[.int .i64 x1, .int .i64 x2, .int .i64 x3] w0 fun e w' => ∃ v, e = .returned v ∧ ∃ y : Unit, v = .int .i64 r ∧ St ok (bz w0) w' [] [] := by
  unfold eslaw00_Digit at hf
  refine calls_of_W (fn := Tryz.f31) (N := 22) Tryz.func31 rfl Tryz.ntmps31 rfl ?_
  have hs : St ok (bz w0) w0 [] [] := St.init All.nil
  refine W.seqK fun K4 hK4 => ?_
  refine W.region ?_
  refine WL.assign (v := .int .i64 0) rfl ?_
  refine WL.nil ?_
  refine hK4 _ _ ?_
  refine W.seqK fun K5 hK5 => ?_
  refine W.region ?_
  refine WL.move (v := .int .i64 x1) rfl ?_
  obtain ⟨x6, hxx6, hf⟩ := bindE hf
  refine WL.call (vs := [.int .i64 x1, .int .i64 1099511627776]) hs FN33 ⟨rfl, ⟨rfl, trivial⟩⟩ (fun ok hA => eslaw00_Index.calls (x1 := x1) (x2 := 1099511627776) hxx6) ?_
  rintro _ w hs
  refine WL.assign (v := .int .i64 x6) rfl ?_
  refine WL.nil ?_
  refine hK5 _ _ ?_
  refine W.seqK fun K7 hK7 => ?_
  have Jk10 : ∀ (x9 : Int) (ρ : Env) (w : World), ρ 1 = .int .i64 x2 → ρ 7 = .int .i64 x9 → St ok (bz w0) w [] [] → eslaw00_Digit.j1 x2 x9 = some r → K7 ρ w := by
    intro x9 ρ w h8_1 h8_7 hs hf
    refine hK7 _ _ ?_
    unfold eslaw00_Digit.j1 at hf
    refine W.seqK fun K11 hK11 => ?_
    refine W.region ?_
    refine WL.move (v := .int .i64 x9) h8_7 ?_
    refine WL.move (v := .int .i64 x2) h8_1 ?_
    obtain ⟨hn12, hf⟩ := guardE hf
    refine WL.bin (v := .int .i64 (Int.tmod x9 x2)) rfl rfl (ib_rem _ _ _ hn12) ?_
    refine WL.assign (v := .int .i64 (Int.tmod x9 x2)) rfl ?_
    refine WL.nil ?_
    refine hK11 _ _ ?_
    refine W.ret ?_
    have hr := Option.some.inj hf; subst hr
    exact ⟨_, resOk_one rfl rfl, (), rfl, (hs.mask []).pick []⟩
  refine W.seqK fun K13 hK13 => ?_
  refine W.region ?_
  refine WL.assign (v := .int .i64 0) rfl ?_
  refine WL.nil ?_
  refine hK13 _ _ ?_
  refine W.block ?_
  obtain ⟨bs17, hbs17, hfs17⟩ := bindE hf
  refine W.loop hbs17 (fun s ρ w => match s with | (x15, x16) => ρ 1 = .int .i64 x2 ∧ ρ 2 = .int .i64 x3 ∧ ρ 7 = .int .i64 x15 ∧ ρ 8 = .int .i64 x16 ∧ St ok (bz w0) w [] []) ⟨rfl, rfl, rfl, rfl, (hs.mask []).pick []⟩ ?_
  intro s ρ w os17 hI hf hbbs17
  obtain ⟨x15, x16⟩ := s
  obtain ⟨h14_1, h14_2, h14_7, h14_8, hs⟩ := hI
  unfold eslaw00_Digit.l1 at hf
  refine W.seqK fun K18 hK18 => ?_
  refine W.seqK fun K19 hK19 => ?_
  refine W.region ?_
  refine WL.move (v := .int .i64 x16) h14_8 ?_
  refine WL.move (v := .int .i64 x3) h14_2 ?_
  refine WL.bin (v := .bool (decide (x16 < x3))) rfl rfl (ib_lss _ _ _) ?_
  refine WL.nil ?_
  refine hK19 _ _ ?_
  rcases iteE hf with ⟨hc20, hf⟩ | ⟨hc20, hf⟩
  {
  refine W.cond_true (bool_tr rfl hc20) ?_
  refine W.skip ?_
  refine hK18 _ _ ?_
  refine W.seqK fun K21 hK21 => ?_
  refine W.block ?_
  refine W.region ?_
  refine WL.move (v := .int .i64 x15) h14_7 ?_
  refine WL.move (v := .int .i64 x2) h14_1 ?_
  obtain ⟨hn23, hf⟩ := guardE hf
  obtain ⟨x22, ex22, hf⟩ := letE hf
  refine WL.bin (v := .int .i64 x22) rfl rfl (ib_as ex22 (ib_quo _ _ _ hn23)) ?_
  refine WL.assign (v := .int .i64 x22) rfl ?_
  refine WL.nil ?_
  refine hK21 _ _ ?_
  refine W.region ?_
  refine WL.move (v := .int .i64 x16) h14_8 ?_
  obtain ⟨x24, ex24, hf⟩ := letE hf
  refine WL.bin (v := .int .i64 x24) rfl rfl (ib_as ex24 (ib_add _ _ _)) ?_
  refine WL.assign (v := .int .i64 x24) rfl ?_
  refine WL.nil ?_
  exact ⟨_, (Option.some.inj hf).symm, h14_1, h14_2, rfl, rfl, (hs.mask []).pick []⟩ }
  {
  refine W.cond_false (bool_tr rfl hc20) ?_
  refine W.exit ?_
  have hr := Option.some.inj hf; subst hr
  have hr := hbbs17 _ rfl; subst hr
  have hf := hfs17
  exact Jk10 x15 _ _ h14_1 h14_7 ((hs.mask []).pick []) hf }
theorem eslaw32_field.calls {ok : Nat → Prop} {w0 : World} {x1 : Int}  {r : schema_Field} (hf : eslaw32_field x1 = some r)  :
    Calls Tryz.prog 11 #[.int .i64 x1] w0 fun e w' => ∃ v, e = .returned v ∧ ∃ y : List Value, v = .agg y.toArray ∧ St ok (bz w0) w' [vl t_schema_Field r (.agg y.toArray)] [] := by
  unfold eslaw32_field at hf
  refine calls_of_W (fn := Tryz.f11) (N := 30) Tryz.func11 rfl Tryz.ntmps11 rfl ?_
  have hs : St ok (bz w0) w0 [] [] := St.init All.nil
  refine W.seqK fun K2 hK2 => ?_
  refine W.region ?_
  refine WL.alloc hs ZV31 (fun g3 w hs => ?_)
  refine WL.nil ?_
  refine hK2 _ _ ?_
  refine W.seqK fun K4 hK4 => ?_
  obtain ⟨x7, hxx7, hf⟩ := bindE hf
  obtain ⟨x8, hxx8, hf⟩ := bindE hf
  obtain ⟨x11, hxx11, hf⟩ := bindE hf
  obtain ⟨x12, ex12, hf⟩ := letE hf
  refine W.any (by kernel_rfl) 10 1 [true, true, true, true, true, true, true, true, true, true, false] rfl rfl (poAt [pq (fun y : (Option Addr × Nat) => .slice y.1 ([([97] : List UInt8), ([98] : List UInt8), ([99] : List UInt8), ([120, 49] : List UInt8), ([110, 111, 110, 101] : List UInt8)]).length y.2) (fun v => [vl (tSlice tStr) ([([97] : List UInt8), ([98] : List UInt8), ([99] : List UInt8), ([120, 49] : List UInt8), ([110, 111, 110, 101] : List UInt8)]) v]) (fun v => []), pv (.int .i64 x1), pv (.int .i64 x7), pq (fun y : Addr => .pointer (some y)) (fun v => [pl tStr x8 (adOf v)]) (fun v => []), pv (bstr x8), pv (.int .i64 x1), pv (.int .i64 x11), pv (.int .i64 x12), pv (.agg ([bstr x8, .int .i64 x12, .int .i64 0, .int .i64 0] : List Value).toArray), pq (fun y : Nat => .pointer (some ⟨y, 0, none⟩)) (fun v => []) (fun v => [blk (gOf v) 31 ([bstr [], .int .i64 0, .int .i64 0, .int .i64 0])])]) (Λ := [blk g3 31 ([bstr [], .int .i64 0, .int .i64 0, .int .i64 0])]) hs (by kernel_rfl) (by kernel_rfl) (by kernel_rfl) ⟨⟨⟨⟨⟨⟨⟨⟨⟨⟨trivial, ?_⟩, ?_⟩, ?_⟩, ?_⟩, ?_⟩, ?_⟩, ?_⟩, ?_⟩, ?_⟩, ?_⟩ ?_
  {
  intro ρ w Γx Λx hs hu hp
  refine WL.buildSliceB (ys := [([97] : List UInt8), ([98] : List UInt8), ([99] : List UInt8), ([120, 49] : List UInt8), ([110, 111, 110, 101] : List UInt8)]) (n := 5) (vs := [(0, bstr ([97] : List UInt8)), (1, bstr ([98] : List UInt8)), (2, bstr ([99] : List UInt8)), (3, bstr ([120, 49] : List UInt8)), (4, bstr ([110, 111, 110, 101] : List UInt8))]) (cs := [bstr ([97] : List UInt8), bstr ([98] : List UInt8), bstr ([99] : List UInt8), bstr ([120, 49] : List UInt8), bstr ([110, 111, 110, 101] : List UInt8)]) hs ⟨⟨rfl, rfl⟩, ⟨⟨rfl, rfl⟩, ⟨⟨rfl, rfl⟩, ⟨⟨rfl, rfl⟩, ⟨⟨rfl, rfl⟩, trivial⟩⟩⟩⟩⟩ (bls PS56 (by decide) rfl) (fun ok hA => (Cells.app (Cells.one (T := tStr) rfl) (Cells.app (Cells.one (T := tStr) rfl) (Cells.app (Cells.one (T := tStr) rfl) (Cells.app (Cells.one (T := tStr) rfl) (Cells.one (T := tStr) rfl)))))) rfl (by decide) (fun a6 w hBl hs => ?_)
  have hs := hs.add (it := vl (tSlice tStr) ([([97] : List UInt8), ([98] : List UInt8), ([99] : List UInt8), ([120, 49] : List UInt8), ([110, 111, 110, 101] : List UInt8)]) (.slice a6 ([([97] : List UInt8), ([98] : List UInt8), ([99] : List UInt8), ([120, 49] : List UInt8), ([110, 111, 110, 101] : List UInt8)]).length 5)) fun ok hA => hA.get 0 rfl
  exact WL.nil ⟨rfl, _, rfl, ⟨(a6, 5), rfl⟩, hs.cutG 1 1⟩ }
  {
  intro ρ w Γx Λx hs hu hp
  refine WL.move (v := .int .i64 x1) (hu 0 rfl) ?_
  exact WL.nil ⟨rfl, _, rfl, rfl, hs.cutG 0 0⟩ }
  {
  intro ρ w Γx Λx hs hu hp
  have e14 : ρ 5 = .int .i64 x1 := (hp 1 rfl).1
  refine WL.call (vs := [.int .i64 x1, .int .i64 5, .int .i64 0]) hs FN31 ⟨e14, ⟨rfl, ⟨rfl, trivial⟩⟩⟩ (fun ok hA => eslaw00_Digit.calls (x1 := x1) (x2 := 5) (x3 := 0) hxx7) ?_
  rintro _ w hs
  exact WL.nil ⟨rfl, _, rfl, rfl, hs.cutG 0 0⟩ }
  {
  intro ρ w Γx Λx hs hu hp
  obtain ⟨⟨⟨a15, c16⟩, e17r⟩, hm18⟩ := hp 0 rfl
  have e17 : ρ 4 = .slice a15 ([([97] : List UInt8), ([98] : List UInt8), ([99] : List UInt8), ([120, 49] : List UInt8), ([110, 111, 110, 101] : List UInt8)]).length c16 := e17r
  rw [e17r] at hm18
  have hs := hs.memo1 (it := vl (tSlice tStr) ([([97] : List UInt8), ([98] : List UInt8), ([99] : List UInt8), ([120, 49] : List UInt8), ([110, 111, 110, 101] : List UInt8)]) (.slice a15 ([([97] : List UInt8), ([98] : List UInt8), ([99] : List UInt8), ([120, 49] : List UInt8), ([110, 111, 110, 101] : List UInt8)]).length c16)) (List.mem_append.2 (.inl (hm18 _ (List.mem_of_getElem? (i := 0) rfl))))
  have e19 : ρ 6 = .int .i64 x7 := (hp 2 rfl).1
  refine WL.indexAddr hs 0 rfl UN56 TI9 e17 e19 hxx8 (fun ad9 hs => ?_)
  have hs := hs.add (it := pl tStr x8 ad9) fun ok hA => hA.get 0 rfl
  exact WL.nil ⟨rfl, _, rfl, ⟨ad9, rfl⟩, hs.cutG 1 2⟩ }
  {
  intro ρ w Γx Λx hs hu hp
  obtain ⟨⟨ad20, e21r⟩, hm22⟩ := hp 3 rfl
  have e21 : ρ 7 = .pointer (some ad20) := e21r
  rw [e21r] at hm22
  have hs := hs.memo1 (it := pl tStr x8 ad20) (List.mem_append.2 (.inl (hm22 _ (List.mem_of_getElem? (i := 0) rfl))))
  refine WL.loadP hs 0 rfl TI9 (.inr rfl) e21 (fun v10 hs => ?_)
  obtain rfl := hs.str 0 rfl
  exact WL.nil ⟨rfl, _, rfl, rfl, hs.cutG 0 2⟩ }
  {
  intro ρ w Γx Λx hs hu hp
  refine WL.move (v := .int .i64 x1) (hu 0 rfl) ?_
  exact WL.nil ⟨rfl, _, rfl, rfl, hs.cutG 0 0⟩ }
  {
  intro ρ w Γx Λx hs hu hp
  have e23 : ρ 9 = .int .i64 x1 := (hp 5 rfl).1
  refine WL.call (vs := [.int .i64 x1, .int .i64 5, .int .i64 1]) hs FN31 ⟨e23, ⟨rfl, ⟨rfl, trivial⟩⟩⟩ (fun ok hA => eslaw00_Digit.calls (x1 := x1) (x2 := 5) (x3 := 1) hxx11) ?_
  rintro _ w hs
  exact WL.nil ⟨rfl, _, rfl, rfl, hs.cutG 0 0⟩ }
  {
  intro ρ w Γx Λx hs hu hp
  have e24 : ρ 10 = .int .i64 x11 := (hp 6 rfl).1
  refine WL.bin (v := .int .i64 x12) rfl e24 (ib_as ex12 (ib_add _ _ _)) ?_
  exact WL.nil ⟨rfl, _, rfl, rfl, hs.cutG 0 0⟩ }
  {
  intro ρ w Γx Λx hs hu hp
  have e25 : ρ 8 = bstr x8 := (hp 4 rfl).1
  have e26 : ρ 11 = .int .i64 x12 := (hp 7 rfl).1
  refine WL.build (vs := [(0, bstr x8), (1, .int .i64 x12)]) (cs := [bstr x8, .int .i64 x12, .int .i64 0, .int .i64 0]) ⟨⟨rfl, e25⟩, ⟨⟨rfl, e26⟩, trivial⟩⟩ (bld PL31 rfl) ?_
  exact WL.nil ⟨rfl, _, rfl, rfl, hs.cutG 0 0⟩ }
  {
  intro ρ w Γx Λx hs hu hp
  refine WL.alloc hs ZV31 (fun g13 w hs => ?_)
  exact WL.nil ⟨rfl, _, rfl, ⟨g13, rfl⟩, hs.cutG 0 0⟩ }
  {
  intro ρ w hs hu27 hp
  obtain ⟨⟨⟨⟨⟨⟨⟨⟨⟨⟨_, hp0_⟩, hp1_⟩, hp2_⟩, hp3_⟩, hp4_⟩, hp5_⟩, hp6_⟩, hp7_⟩, hp8_⟩, hp9_⟩ := hp
  have hs : St ok (bz w0) w [pl tStr x8 (adOf (ρ 7)), vl (tSlice tStr) ([([97] : List UInt8), ([98] : List UInt8), ([99] : List UInt8), ([120, 49] : List UInt8), ([110, 111, 110, 101] : List UInt8)]) (ρ 4)] [blk (gOf ((ρ 3))) 31 ([bstr [], .int .i64 0, .int .i64 0, .int .i64 0]), blk g3 31 ([bstr [], .int .i64 0, .int .i64 0, .int .i64 0])] := hs
  obtain ⟨g28, e29⟩ := hp9_
  have e29 : ρ 3 = .pointer (some ⟨g28, 0, none⟩) := e29
  try rw [e29] at hs
  have e30 : ρ 12 = .agg ([bstr x8, .int .i64 x12, .int .i64 0, .int .i64 0] : List Value).toArray := hp8_
  have e31 : ρ 11 = .int .i64 x12 := hp7_
  have e32 : ρ 10 = .int .i64 x11 := hp6_
  have e33 : ρ 9 = .int .i64 x1 := hp5_
  have e34 : ρ 8 = bstr x8 := hp4_
  obtain ⟨ad35, e36⟩ := hp3_
  have e36 : ρ 7 = .pointer (some ad35) := e36
  try rw [e36] at hs
  have e37 : ρ 6 = .int .i64 x7 := hp2_
  have e38 : ρ 5 = .int .i64 x1 := hp1_
  obtain ⟨⟨a39, c40⟩, e41⟩ := hp0_
  have e41 : ρ 4 = .slice a39 ([([97] : List UInt8), ([98] : List UInt8), ([99] : List UInt8), ([120, 49] : List UInt8), ([110, 111, 110, 101] : List UInt8)]).length c40 := e41
  try rw [e41] at hs
  refine WA.step [10] (by kernel_rfl) (by simp) ⟨?_, trivial⟩
  refine WL.storeAll (vs := [bstr x8, .int .i64 x12, .int .i64 0, .int .i64 0]) hs 0 rfl TI31 e29 e30 rfl rfl (ones_of rfl) rfl (fun w hs => ?_)
  refine WL.nil ⟨rfl, _, rfl, ?_⟩
  refine WA.done (by kernel_rfl) ?_
  refine hK4 _ _ ?_
  refine W.seqK fun K42 hK42 => ?_
  have Jk45 : ∀ (x44 : Int) (ρ : Env) (w : World), ρ 0 = .int .i64 x1 → ρ 2 = .pointer (some ⟨g3, 0, none⟩) → ρ 3 = .pointer (some ⟨g28, 0, none⟩) → St ok (bz w0) w [] [blk g28 31 [bstr x8, .int .i64 x44, .int .i64 0, .int .i64 0], blk g3 31 ([bstr [], .int .i64 0, .int .i64 0, .int .i64 0])] → eslaw32_field.j2 x1 x8 x44 = some r → K42 ρ w := by
    intro x44 ρ w h43_0 h43_2 h43_3 hs hf
    refine hK42 _ _ ?_
    unfold eslaw32_field.j2 at hf
    refine W.seqK fun K46 hK46 => ?_
    have Jk49 : ∀ (x48 : Int) (ρ : Env) (w : World), ρ 2 = .pointer (some ⟨g3, 0, none⟩) → ρ 3 = .pointer (some ⟨g28, 0, none⟩) → St ok (bz w0) w [] [blk g28 31 [bstr x8, .int .i64 x44, .int .i64 x48, .int .i64 0], blk g3 31 ([bstr [], .int .i64 0, .int .i64 0, .int .i64 0])] → eslaw32_field.j1 x8 x44 x48 = some r → K46 ρ w := by
      intro x48 ρ w h47_2 h47_3 hs hf
      refine hK46 _ _ ?_
      unfold eslaw32_field.j1 at hf
      refine W.seqK fun K50 hK50 => ?_
      refine W.region ?_
      refine WL.loadN (vs := [bstr x8, .int .i64 x44, .int .i64 x48, .int .i64 0]) hs 0 rfl TI31 h47_3 rfl rfl ?_
      refine WL.storeAll (vs := [bstr x8, .int .i64 x44, .int .i64 x48, .int .i64 0]) hs 1 rfl TI31 h47_2 rfl rfl rfl (ones_of rfl) rfl (fun w hs => ?_)
      refine WL.nil ?_
      refine hK50 _ _ ?_
      refine W.ret ?_
      have hr := Option.some.inj hf; subst hr
      have hs := hs.add (it := vl t_schema_Field (⟨x8, x44, x48, 0⟩ : schema_Field) (.agg [bstr x8, .int .i64 x44, .int .i64 x48, .int .i64 0].toArray)) fun ok hA => V_agg (show t_schema_Field.R ok _ _ _ from ⟨[bstr x8], [.int .i64 x44, .int .i64 x48, .int .i64 0], rfl, rfl, ⟨[.int .i64 x44], [.int .i64 x48, .int .i64 0], rfl, rfl, ⟨[.int .i64 x48], [.int .i64 0], rfl, rfl, rfl⟩⟩⟩) rfl
      exact ⟨_, resOk_one rfl (res_all hs 1 rfl TI31 h47_2 rfl), [bstr x8, .int .i64 x44, .int .i64 x48, .int .i64 0], rfl, (hs.mask []).pick [0]⟩
    refine W.seqK fun K51 hK51 => ?_
    refine W.region ?_
    refine WL.fieldAddr (m := 1) h43_3 FA31_1 rfl ?_
    refine WL.load1 (v := .int .i64 x44) hs 0 rfl TI3 rfl rfl ?_
    refine WL.bin (v := .bool (x44 == 1)) rfl rfl (ib_eql _ _ _) ?_
    refine WL.nil ?_
    refine hK51 _ _ ?_
    rcases iteE hf with ⟨hc52, hf⟩ | ⟨hc52, hf⟩
    {
    refine W.cond_true (bool_tr rfl hc52) ?_
    refine W.region ?_
    refine WL.move (v := .int .i64 x1) h43_0 ?_
    obtain ⟨x53, hxx53, hf⟩ := bindE hf
    refine WL.call (vs := [.int .i64 x1, .int .i64 2, .int .i64 8]) hs FN31 ⟨rfl, ⟨rfl, ⟨rfl, trivial⟩⟩⟩ (fun ok hA => eslaw00_Digit.calls (x1 := x1) (x2 := 2) (x3 := 8) hxx53) ?_
    rintro _ w hs
    obtain ⟨x54, ex54, hf⟩ := letE hf
    refine WL.bin (v := .int .i64 x54) rfl rfl (ib_as ex54 (ib_add _ _ _)) ?_
    refine WL.fieldAddr (m := 2) h43_3 FA31_2 rfl ?_
    refine WL.store (vs := [.int .i64 x54]) (cs' := [bstr x8, .int .i64 x44, .int .i64 x54, .int .i64 0]) hs 0 rfl TI3 rfl rfl rfl rfl (ones_of rfl) (Nat.le_of_ble_eq_true rfl) rfl (fun w hs => ?_)
    refine WL.nil ?_
    exact Jk49 x54 _ _ h43_2 h43_3 ((hs.mask [true, true]).pick []) hf }
    {
    refine W.cond_false (bool_tr rfl hc52) ?_
    refine W.skip ?_
    exact Jk49 0 _ _ h43_2 h43_3 ((hs.mask [true, true]).pick []) hf }
  refine W.seqK fun K55 hK55 => ?_
  refine W.region ?_
  refine WL.move (v := .int .i64 x1) (hu27 0 rfl) ?_
  obtain ⟨x56, hxx56, hf⟩ := bindE hf
  refine WL.call (vs := [.int .i64 x1, .int .i64 3, .int .i64 4]) hs FN31 ⟨rfl, ⟨rfl, ⟨rfl, trivial⟩⟩⟩ (fun ok hA => eslaw00_Digit.calls (x1 := x1) (x2 := 3) (x3 := 4) hxx56) ?_
  rintro _ w hs
  refine WL.bin (v := .bool (decide (0 < x56))) rfl rfl (ib_gtr _ _ _) ?_
  refine WL.nil ?_
  refine hK55 _ _ ?_
  rcases iteE hf with ⟨hc57, hf⟩ | ⟨hc57, hf⟩
  {
  refine W.cond_true (bool_tr rfl hc57) ?_
  refine W.region ?_
  refine WL.buildSlice (n := 2) (vs := [(0, .int .i64 1), (1, .int .i64 4)]) (cs := [.int .i64 1, .int .i64 4]) hs ⟨⟨rfl, rfl⟩, ⟨⟨rfl, rfl⟩, trivial⟩⟩ (bls PS22 (by decide) rfl) (fun g58 w hs => ?_)
  refine WL.move (v := .int .i64 x1) (hu27 0 rfl) ?_
  obtain ⟨x59, hxx59, hf⟩ := bindE hf
  refine WL.call (vs := [.int .i64 x1, .int .i64 2, .int .i64 6]) hs FN31 ⟨rfl, ⟨rfl, ⟨rfl, trivial⟩⟩⟩ (fun ok hA => eslaw00_Digit.calls (x1 := x1) (x2 := 2) (x3 := 6) hxx59) ?_
  rintro _ w hs
  have hs := hs.ownLit (A := tInt .i64) (xs := [1, 4]) 0 rfl (fun ok hA => (Cells.app (Cells.one (T := tInt .i64) rfl) (Cells.one (T := tInt .i64) rfl))) (Nat.le_of_ble_eq_true rfl)
  have hs := hs.freezeOwn 0 rfl
  obtain ⟨x60, hxx60, hf⟩ := bindE hf
  refine WL.indexAddr hs 0 rfl UN22 TI3 rfl rfl hxx60 (fun ad61 hs => ?_)
  refine WL.loadP hs 0 rfl TI3 (.inr rfl) rfl (fun v62 hs => ?_)
  obtain rfl := hs.int 0 rfl
  refine WL.fieldAddr (m := 1) e29 FA31_1 rfl ?_
  refine WL.store (vs := [.int .i64 x60]) (cs' := [bstr x8, .int .i64 x60, .int .i64 0, .int .i64 0]) hs 0 rfl TI3 rfl rfl rfl rfl (ones_of rfl) (Nat.le_of_ble_eq_true rfl) rfl (fun w hs => ?_)
  refine WL.nil ?_
  exact Jk45 x60 _ _ (hu27 0 rfl) (hu27 2 rfl) e29 ((hs.mask [true, true]).pick []) hf }
  {
  refine W.cond_false (bool_tr rfl hc57) ?_
  refine W.skip ?_
  exact Jk45 x12 _ _ (hu27 0 rfl) (hu27 2 rfl) e29 ((hs.mask [true, true]).pick []) hf } }
theorem eslaw00_name.calls {ok : Nat → Prop} {w0 : World} {x1 : Int}  {r : List UInt8} (hf : eslaw00_name x1 = some r)  :
    Calls Tryz.prog 79 #[.int .i64 x1] w0 fun e w' => ∃ v, e = .returned v ∧ ∃ y : Unit, v = bstr r ∧ St ok (bz w0) w' [] [] := by
  unfold eslaw00_name at hf
  refine calls_of_W (fn := Tryz.f79) (N := 8) Tryz.func79 rfl Tryz.ntmps79 rfl ?_
  have hs : St ok (bz w0) w0 [] [] := St.init All.nil
  refine W.seqK fun K2 hK2 => ?_
  refine W.region ?_
  refine WL.assign (v := bstr ([] : List UInt8)) rfl ?_
  refine WL.nil ?_
  refine hK2 _ _ ?_
  refine W.seqK fun K3 hK3 => ?_
  refine W.region ?_
  refine WL.buildSlice (n := 4) (vs := [(0, bstr ([97] : List UInt8)), (1, bstr ([98] : List UInt8)), (2, bstr ([99] : List UInt8)), (3, bstr ([120, 49] : List UInt8))]) (cs := [bstr ([97] : List UInt8), bstr ([98] : List UInt8), bstr ([99] : List UInt8), bstr ([120, 49] : List UInt8)]) hs ⟨⟨rfl, rfl⟩, ⟨⟨rfl, rfl⟩, ⟨⟨rfl, rfl⟩, ⟨⟨rfl, rfl⟩, trivial⟩⟩⟩⟩ (bls PS56 (by decide) rfl) (fun g4 w hs => ?_)
  refine WL.move (v := .int .i64 x1) rfl ?_
  obtain ⟨x5, hxx5, hf⟩ := bindE hf
  refine WL.call (vs := [.int .i64 x1, .int .i64 4]) hs FN33 ⟨rfl, ⟨rfl, trivial⟩⟩ (fun ok hA => eslaw00_Index.calls (x1 := x1) (x2 := 4) hxx5) ?_
  rintro _ w hs
  have hs := hs.ownLit (A := tStr) (xs := [([97] : List UInt8), ([98] : List UInt8), ([99] : List UInt8), ([120, 49] : List UInt8)]) 0 rfl (fun ok hA => (Cells.app (Cells.one (T := tStr) rfl) (Cells.app (Cells.one (T := tStr) rfl) (Cells.app (Cells.one (T := tStr) rfl) (Cells.one (T := tStr) rfl))))) (Nat.le_of_ble_eq_true rfl)
  have hs := hs.freezeOwn 0 rfl
  obtain ⟨x6, hxx6, hf⟩ := bindE hf
  refine WL.indexAddr hs 0 rfl UN56 TI9 rfl rfl hxx6 (fun ad7 hs => ?_)
  refine WL.loadP hs 0 rfl TI9 (.inr rfl) rfl (fun v8 hs => ?_)
  obtain rfl := hs.str 0 rfl
  refine WL.assign (v := bstr x6) rfl ?_
  refine WL.nil ?_
  refine hK3 _ _ ?_
  refine W.ret ?_
  have hr := Option.some.inj hf; subst hr
  exact ⟨_, resOk_one rfl rfl, (), rfl, (hs.mask []).pick []⟩
theorem eslaw00_Effect.calls {ok : Nat → Prop} {w0 : World} {x1 : Int} {x2 : Bool}  {r : api_Effect} (hf : eslaw00_Effect x1 x2 = some r)  :
    Calls Tryz.prog 55 #[.int .i64 x1, .bool x2] w0 fun e w' => ∃ v, e = .returned v ∧ ∃ y : List Value, v = .agg y.toArray ∧ St ok (bz w0) w' [vl t_api_Effect r (.agg y.toArray)] [] := by
  unfold eslaw00_Effect at hf
  refine calls_of_W (fn := Tryz.f55) (N := 51) Tryz.func55 rfl Tryz.ntmps55 rfl ?_
  have hs : St ok (bz w0) w0 [] [] := St.init All.nil
  refine W.seqK fun K3 hK3 => ?_
  refine W.region ?_
  refine WL.alloc hs ZV96 (fun g4 w hs => ?_)
  refine WL.nil ?_
  refine hK3 _ _ ?_
  refine W.seqK fun K5 hK5 => ?_
  refine W.region ?_
  refine WL.move (v := .int .i64 x1) rfl ?_
  obtain ⟨x6, hxx6, hf⟩ := bindE hf
  refine WL.call (vs := [.int .i64 x1, .int .i64 4, .int .i64 1]) hs FN31 ⟨rfl, ⟨rfl, ⟨rfl, trivial⟩⟩⟩ (fun ok hA => eslaw00_Digit.calls (x1 := x1) (x2 := 4) (x3 := 1) hxx6) ?_
  rintro _ w hs
  obtain ⟨x7, hxx7, hf⟩ := bindE hf
  refine WL.call (vs := [.int .i64 x6]) hs FN79 ⟨rfl, trivial⟩ (fun ok hA => eslaw00_name.calls (x1 := x6) hxx7) ?_
  rintro _ w hs
  refine WL.move (v := .int .i64 x1) rfl ?_
  obtain ⟨x8, hxx8, hf⟩ := bindE hf
  refine WL.call (vs := [.int .i64 x1, .int .i64 4, .int .i64 2]) hs FN31 ⟨rfl, ⟨rfl, ⟨rfl, trivial⟩⟩⟩ (fun ok hA => eslaw00_Digit.calls (x1 := x1) (x2 := 4) (x3 := 2) hxx8) ?_
  rintro _ w hs
  obtain ⟨x9, hxx9, hf⟩ := bindE hf
  refine WL.call (vs := [.int .i64 x8]) hs FN79 ⟨rfl, trivial⟩ (fun ok hA => eslaw00_name.calls (x1 := x8) hxx9) ?_
  rintro _ w hs
  refine WL.build (vs := [(1, bstr x7), (2, bstr x9)]) (cs := [.int .i64 0, bstr x7, bstr x9, .int .i64 0, bstr []]) ⟨⟨rfl, rfl⟩, ⟨⟨rfl, rfl⟩, trivial⟩⟩ (bld PL96 rfl) ?_
  refine WL.alloc hs ZV96 (fun g10 w hs => ?_)
  refine WL.storeAll (vs := [.int .i64 0, bstr x7, bstr x9, .int .i64 0, bstr []]) hs 0 rfl TI96 rfl rfl rfl rfl (ones_of rfl) rfl (fun w hs => ?_)
  refine WL.nil ?_
  refine hK5 _ _ ?_
  refine W.seqK fun K11 hK11 => ?_
  refine W.region ?_
  refine WL.move (v := .int .i64 x1) rfl ?_
  obtain ⟨x12, hxx12, hf⟩ := bindE hf
  refine WL.call (vs := [.int .i64 x1, .int .i64 16, .int .i64 3]) hs FN31 ⟨rfl, ⟨rfl, ⟨rfl, trivial⟩⟩⟩ (fun ok hA => eslaw00_Digit.calls (x1 := x1) (x2 := 16) (x3 := 3) hxx12) ?_
  rintro _ w hs
  obtain ⟨x13, ex13, hf⟩ := letE hf
  refine WL.bin (v := .int .i64 x13) rfl rfl (ib_as ex13 (ib_sub _ _ _)) ?_
  refine WL.assign (v := .int .i64 x13) rfl ?_
  refine WL.nil ?_
  refine hK11 _ _ ?_
  refine W.seqK fun K14 hK14 => ?_
  have Jk19 : ∀ (x16 : Int) (x17 : Int) (x18 : List UInt8) (ρ : Env) (w : World), ρ 4 = .pointer (some ⟨g4, 0, none⟩) → ρ 5 = .pointer (some ⟨g10, 0, none⟩) → St ok (bz w0) w [] [blk g10 96 [.int .i64 x16, bstr x7, bstr x9, .int .i64 x17, bstr x18], blk g4 96 ([.int .i64 0, bstr [], bstr [], .int .i64 0, bstr []])] → eslaw00_Effect.j1 x7 x9 x16 x17 x18 = some r → K14 ρ w := by
    intro x16 x17 x18 ρ w h15_4 h15_5 hs hf
    refine hK14 _ _ ?_
    unfold eslaw00_Effect.j1 at hf
    refine W.seqK fun K20 hK20 => ?_
    refine W.region ?_
    refine WL.loadN (vs := [.int .i64 x16, bstr x7, bstr x9, .int .i64 x17, bstr x18]) hs 0 rfl TI96 h15_5 rfl rfl ?_
    refine WL.storeAll (vs := [.int .i64 x16, bstr x7, bstr x9, .int .i64 x17, bstr x18]) hs 1 rfl TI96 h15_4 rfl rfl rfl (ones_of rfl) rfl (fun w hs => ?_)
    refine WL.nil ?_
    refine hK20 _ _ ?_
    refine W.ret ?_
    have hr := Option.some.inj hf; subst hr
    have hs := hs.add (it := vl t_api_Effect (⟨x16, x7, x9, x17, x18⟩ : api_Effect) (.agg [.int .i64 x16, bstr x7, bstr x9, .int .i64 x17, bstr x18].toArray)) fun ok hA => V_agg (show t_api_Effect.R ok _ _ _ from ⟨[.int .i64 x16], [bstr x7, bstr x9, .int .i64 x17, bstr x18], rfl, rfl, ⟨[bstr x7], [bstr x9, .int .i64 x17, bstr x18], rfl, rfl, ⟨[bstr x9], [.int .i64 x17, bstr x18], rfl, rfl, ⟨[.int .i64 x17], [bstr x18], rfl, rfl, rfl⟩⟩⟩⟩) rfl
    exact ⟨_, resOk_one rfl (res_all hs 1 rfl TI96 h15_4 rfl), [.int .i64 x16, bstr x7, bstr x9, .int .i64 x17, bstr x18], rfl, (hs.mask []).pick [0]⟩
  refine W.block ?_
  refine W.seqK fun K21 hK21 => ?_
  refine W.region ?_
  refine WL.move (v := .bool x2) rfl ?_
  refine WL.assign (v := .bool x2) rfl ?_
  refine WL.nil ?_
  refine hK21 _ _ ?_
  rcases iteE hf with ⟨hc22, hf⟩ | ⟨hc22, hf⟩
  {
  refine W.cond_true (bool_tr rfl hc22) ?_
  refine W.seqK fun K23 hK23 => ?_
  refine W.region ?_
  refine WL.fieldAddr (m := 0) rfl FA96_0 rfl ?_
  refine WL.store (vs := [.int .i64 1]) (cs' := [.int .i64 1, bstr x7, bstr x9, .int .i64 0, bstr []]) hs 0 rfl TI3 rfl rfl rfl rfl (ones_of rfl) (Nat.le_of_ble_eq_true rfl) rfl (fun w hs => ?_)
  refine WL.nil ?_
  refine hK23 _ _ ?_
  refine W.seqK fun K24 hK24 => ?_
  refine W.region ?_
  refine WL.move (v := .int .i64 x13) rfl ?_
  refine WL.fieldAddr (m := 3) rfl FA96_3 rfl ?_
  refine WL.store (vs := [.int .i64 x13]) (cs' := [.int .i64 1, bstr x7, bstr x9, .int .i64 x13, bstr []]) hs 0 rfl TI2 rfl rfl rfl rfl (ones_of rfl) (Nat.le_of_ble_eq_true rfl) rfl (fun w hs => ?_)
  refine WL.nil ?_
  refine hK24 _ _ ?_
  refine W.region ?_
  refine WL.move (v := .int .i64 x1) rfl ?_
  obtain ⟨x25, hxx25, hf⟩ := bindE hf
  refine WL.call (vs := [.int .i64 x1, .int .i64 4, .int .i64 5]) hs FN31 ⟨rfl, ⟨rfl, ⟨rfl, trivial⟩⟩⟩ (fun ok hA => eslaw00_Digit.calls (x1 := x1) (x2 := 4) (x3 := 5) hxx25) ?_
  rintro _ w hs
  obtain ⟨x26, hxx26, hf⟩ := bindE hf
  refine WL.call (vs := [.int .i64 x25]) hs FN79 ⟨rfl, trivial⟩ (fun ok hA => eslaw00_name.calls (x1 := x25) hxx26) ?_
  rintro _ w hs
  refine WL.fieldAddr (m := 4) rfl FA96_4 rfl ?_
  refine WL.store (vs := [bstr x26]) (cs' := [.int .i64 1, bstr x7, bstr x9, .int .i64 x13, bstr x26]) hs 0 rfl TI9 rfl rfl rfl rfl (ones_of rfl) (Nat.le_of_ble_eq_true rfl) rfl (fun w hs => ?_)
  refine WL.nil ?_
  exact Jk19 1 x13 x26 _ _ rfl rfl ((hs.mask [true, true]).pick []) hf }
  {
  refine W.cond_false (bool_tr rfl hc22) ?_
  refine W.seqK fun K27 hK27 => ?_
  refine W.region ?_
  refine WL.move (v := .int .i64 x1) rfl ?_
  obtain ⟨x28, hxx28, hf⟩ := bindE hf
  refine WL.call (vs := [.int .i64 x1, .int .i64 4, .int .i64 0]) hs FN31 ⟨rfl, ⟨rfl, ⟨rfl, trivial⟩⟩⟩ (fun ok hA => eslaw00_Digit.calls (x1 := x1) (x2 := 4) (x3 := 0) hxx28) ?_
  rintro _ w hs
  refine WL.bin (v := .bool (x28 == 0)) rfl rfl (ib_eql _ _ _) ?_
  refine WL.assign (v := .bool (x28 == 0)) rfl ?_
  refine WL.nil ?_
  refine hK27 _ _ ?_
  rcases iteE hf with ⟨hc29, hf⟩ | ⟨hc29, hf⟩
  {
  refine W.cond_true (bool_tr rfl hc29) ?_
  refine W.seqK fun K30 hK30 => ?_
  refine W.region ?_
  refine WL.fieldAddr (m := 0) rfl FA96_0 rfl ?_
  refine WL.store (vs := [.int .i64 2]) (cs' := [.int .i64 2, bstr x7, bstr x9, .int .i64 0, bstr []]) hs 0 rfl TI3 rfl rfl rfl rfl (ones_of rfl) (Nat.le_of_ble_eq_true rfl) rfl (fun w hs => ?_)
  refine WL.nil ?_
  refine hK30 _ _ ?_
  refine W.region ?_
  refine WL.move (v := .int .i64 x13) rfl ?_
  refine WL.fieldAddr (m := 3) rfl FA96_3 rfl ?_
  refine WL.store (vs := [.int .i64 x13]) (cs' := [.int .i64 2, bstr x7, bstr x9, .int .i64 x13, bstr []]) hs 0 rfl TI2 rfl rfl rfl rfl (ones_of rfl) (Nat.le_of_ble_eq_true rfl) rfl (fun w hs => ?_)
  refine WL.nil ?_
  exact Jk19 2 x13 [] _ _ rfl rfl ((hs.mask [true, true]).pick []) hf }
  {
  refine W.cond_false (bool_tr rfl hc29) ?_
  refine W.seqK fun K31 hK31 => ?_
  refine W.region ?_
  refine WL.move (v := .int .i64 x1) rfl ?_
  obtain ⟨x32, hxx32, hf⟩ := bindE hf
  refine WL.call (vs := [.int .i64 x1, .int .i64 4, .int .i64 0]) hs FN31 ⟨rfl, ⟨rfl, ⟨rfl, trivial⟩⟩⟩ (fun ok hA => eslaw00_Digit.calls (x1 := x1) (x2 := 4) (x3 := 0) hxx32) ?_
  rintro _ w hs
  refine WL.bin (v := .bool (x32 == 1)) rfl rfl (ib_eql _ _ _) ?_
  refine WL.assign (v := .bool (x32 == 1)) rfl ?_
  refine WL.nil ?_
  refine hK31 _ _ ?_
  rcases iteE hf with ⟨hc33, hf⟩ | ⟨hc33, hf⟩
  {
  refine W.cond_true (bool_tr rfl hc33) ?_
  refine W.seqK fun K34 hK34 => ?_
  refine W.region ?_
  refine WL.fieldAddr (m := 0) rfl FA96_0 rfl ?_
  refine WL.store (vs := [.int .i64 3]) (cs' := [.int .i64 3, bstr x7, bstr x9, .int .i64 0, bstr []]) hs 0 rfl TI3 rfl rfl rfl rfl (ones_of rfl) (Nat.le_of_ble_eq_true rfl) rfl (fun w hs => ?_)
  refine WL.nil ?_
  refine hK34 _ _ ?_
  refine W.region ?_
  refine WL.move (v := .int .i64 x13) rfl ?_
  refine WL.fieldAddr (m := 3) rfl FA96_3 rfl ?_
  refine WL.store (vs := [.int .i64 x13]) (cs' := [.int .i64 3, bstr x7, bstr x9, .int .i64 x13, bstr []]) hs 0 rfl TI2 rfl rfl rfl rfl (ones_of rfl) (Nat.le_of_ble_eq_true rfl) rfl (fun w hs => ?_)
  refine WL.nil ?_
  exact Jk19 3 x13 [] _ _ rfl rfl ((hs.mask [true, true]).pick []) hf }
  {
  refine W.cond_false (bool_tr rfl hc33) ?_
  refine W.seqK fun K35 hK35 => ?_
  refine W.region ?_
  refine WL.move (v := .int .i64 x1) rfl ?_
  obtain ⟨x36, hxx36, hf⟩ := bindE hf
  refine WL.call (vs := [.int .i64 x1, .int .i64 4, .int .i64 0]) hs FN31 ⟨rfl, ⟨rfl, ⟨rfl, trivial⟩⟩⟩ (fun ok hA => eslaw00_Digit.calls (x1 := x1) (x2 := 4) (x3 := 0) hxx36) ?_
  rintro _ w hs
  refine WL.bin (v := .bool (x36 == 2)) rfl rfl (ib_eql _ _ _) ?_
  refine WL.assign (v := .bool (x36 == 2)) rfl ?_
  refine WL.nil ?_
  refine hK35 _ _ ?_
  rcases iteE hf with ⟨hc37, hf⟩ | ⟨hc37, hf⟩
  {
  refine W.cond_true (bool_tr rfl hc37) ?_
  refine W.seqK fun K38 hK38 => ?_
  refine W.region ?_
  refine WL.fieldAddr (m := 0) rfl FA96_0 rfl ?_
  refine WL.store (vs := [.int .i64 4]) (cs' := [.int .i64 4, bstr x7, bstr x9, .int .i64 0, bstr []]) hs 0 rfl TI3 rfl rfl rfl rfl (ones_of rfl) (Nat.le_of_ble_eq_true rfl) rfl (fun w hs => ?_)
  refine WL.nil ?_
  refine hK38 _ _ ?_
  refine W.region ?_
  refine WL.move (v := .int .i64 x1) rfl ?_
  obtain ⟨x39, hxx39, hf⟩ := bindE hf
  refine WL.call (vs := [.int .i64 x1, .int .i64 4, .int .i64 5]) hs FN31 ⟨rfl, ⟨rfl, ⟨rfl, trivial⟩⟩⟩ (fun ok hA => eslaw00_Digit.calls (x1 := x1) (x2 := 4) (x3 := 5) hxx39) ?_
  rintro _ w hs
  obtain ⟨x40, hxx40, hf⟩ := bindE hf
  refine WL.call (vs := [.int .i64 x39]) hs FN79 ⟨rfl, trivial⟩ (fun ok hA => eslaw00_name.calls (x1 := x39) hxx40) ?_
  rintro _ w hs
  refine WL.fieldAddr (m := 4) rfl FA96_4 rfl ?_
  refine WL.store (vs := [bstr x40]) (cs' := [.int .i64 4, bstr x7, bstr x9, .int .i64 0, bstr x40]) hs 0 rfl TI9 rfl rfl rfl rfl (ones_of rfl) (Nat.le_of_ble_eq_true rfl) rfl (fun w hs => ?_)
  refine WL.nil ?_
  exact Jk19 4 0 x40 _ _ rfl rfl ((hs.mask [true, true]).pick []) hf }
  {
  refine W.cond_false (bool_tr rfl hc37) ?_
  refine W.region ?_
  refine WL.fieldAddr (m := 0) rfl FA96_0 rfl ?_
  refine WL.store (vs := [.int .i64 5]) (cs' := [.int .i64 5, bstr x7, bstr x9, .int .i64 0, bstr []]) hs 0 rfl TI3 rfl rfl rfl rfl (ones_of rfl) (Nat.le_of_ble_eq_true rfl) rfl (fun w hs => ?_)
  refine WL.nil ?_
  exact Jk19 5 0 [] _ _ rfl rfl ((hs.mask [true, true]).pick []) hf } } } }
theorem eslaw00_Update.calls {ok : Nat → Prop} {w0 : World} {x1 : Int} {x2 : Int} {x3 : Int}  {r : api_Update} (hf : eslaw00_Update x1 x2 x3 = some r)  :
    Calls Tryz.prog 32 #[.int .i64 x1, .int .i64 x2, .int .i64 x3] w0 fun e w' => ∃ v, e = .returned v ∧ ∃ y : (Option Addr × Nat × Nat), v = .agg ([.int .i64 r.Client, .int .i64 r.Seq, .int .i64 r.Tag, .slice y.1 y.2.1 y.2.2] : List Value).toArray ∧ St ok (bz w0) w' [] [own t_api_Effect 96 (.slice y.1 y.2.1 y.2.2) r.Effects] := by
  unfold eslaw00_Update at hf
  refine calls_of_W (fn := Tryz.f32) (N := 41) Tryz.func32 rfl Tryz.ntmps32 rfl ?_
  have hs : St ok (bz w0) w0 [] [] := St.init All.nil
  refine W.seqK fun K4 hK4 => ?_
  refine W.region ?_
  refine WL.alloc hs ZV74 (fun g5 w hs => ?_)
  refine WL.nil ?_
  refine hK4 _ _ ?_
  refine W.seqK fun K6 hK6 => ?_
  refine W.region ?_
  refine WL.move (v := .int .i64 x1) rfl ?_
  refine WL.move (v := .int .i64 x2) rfl ?_
  refine WL.build (vs := [(0, .int .i64 x1), (1, .int .i64 x2)]) (cs := [.int .i64 x1, .int .i64 x2, .int .i64 0, .slice none 0 0]) ⟨⟨rfl, rfl⟩, ⟨⟨rfl, rfl⟩, trivial⟩⟩ (bld PL74 rfl) ?_
  refine WL.alloc hs ZV74 (fun g7 w hs => ?_)
  refine WL.storeAll (vs := [.int .i64 x1, .int .i64 x2, .int .i64 0, .slice none 0 0]) hs 0 rfl TI74 rfl rfl rfl rfl (ones_of rfl) rfl (fun w hs => ?_)
  refine WL.nil ?_
  refine hK6 _ _ ?_
  refine W.seqK fun K8 hK8 => ?_
  refine W.seqK fun K9 hK9 => ?_
  refine W.region ?_
  refine WL.move (v := .int .i64 x3) rfl ?_
  obtain ⟨x10, hxx10, hf⟩ := bindE hf
  refine WL.call (vs := [.int .i64 x3, .int .i64 3, .int .i64 8]) hs FN31 ⟨rfl, ⟨rfl, ⟨rfl, trivial⟩⟩⟩ (fun ok hA => eslaw00_Digit.calls (x1 := x3) (x2 := 3) (x3 := 8) hxx10) ?_
  rintro _ w hs
  refine WL.bin (v := .bool (x10 == 0)) rfl rfl (ib_eql _ _ _) ?_
  refine WL.nil ?_
  refine hK9 _ _ ?_
  rcases iteE hf with ⟨hc11, hf⟩ | ⟨hc11, hf⟩
  {
  refine W.cond_true (bool_tr rfl hc11) ?_
  refine W.seqK fun K12 hK12 => ?_
  refine W.region ?_
  refine WL.move (v := .int .i64 x3) rfl ?_
  obtain ⟨x13, hxx13, hf⟩ := bindE hf
  refine WL.call (vs := [.int .i64 x3, .int .i64 16, .int .i64 4]) hs FN31 ⟨rfl, ⟨rfl, ⟨rfl, trivial⟩⟩⟩ (fun ok hA => eslaw00_Digit.calls (x1 := x3) (x2 := 16) (x3 := 4) hxx13) ?_
  rintro _ w hs
  refine WL.fieldAddr (m := 2) rfl FA74_2 rfl ?_
  refine WL.store (vs := [.int .i64 x13]) (cs' := [.int .i64 x1, .int .i64 x2, .int .i64 x13, .slice none 0 0]) hs 0 rfl TI3 rfl rfl rfl rfl (ones_of rfl) (Nat.le_of_ble_eq_true rfl) rfl (fun w hs => ?_)
  refine WL.nil ?_
  refine hK12 _ _ ?_
  refine W.seqK fun K14 hK14 => ?_
  refine W.region ?_
  refine WL.move (v := .int .i64 x3) rfl ?_
  obtain ⟨x15, hxx15, hf⟩ := bindE hf
  refine WL.call (vs := [.int .i64 x3, .bool true]) hs FN55 ⟨rfl, ⟨rfl, trivial⟩⟩ (fun ok hA => eslaw00_Effect.calls (x1 := x3) (x2 := true) hxx15) ?_
  rintro cs16 w hs
  have hl17 := hs.agglen (n := 5) 0 rfl rfl rfl
  refine WL.buildSlice (n := 1) (vs := [(0, .agg cs16.toArray)]) (cs := cs16) hs ⟨⟨rfl, rfl⟩, trivial⟩ (bls PS72 (by decide) (by simp [fillS, fillL, Value.cells, hl17])) (fun g18 w hs => ?_)
  refine WL.fieldAddr (m := 3) rfl FA74_3 rfl ?_
  refine WL.store (vs := [.slice (some ⟨g18, 0, none⟩) ([x15]).length 1]) (cs' := [.int .i64 x1, .int .i64 x2, .int .i64 x13, .slice (some ⟨g18, 0, none⟩) ([x15]).length 1]) hs 1 rfl TI72 rfl rfl rfl rfl (ones_of rfl) (Nat.le_of_ble_eq_true rfl) rfl (fun w hs => ?_)
  refine WL.nil ?_
  refine hK14 _ _ ?_
  refine W.seqK fun K19 hK19 => ?_
  refine W.region ?_
  refine WL.loadN (vs := [.int .i64 x1, .int .i64 x2, .int .i64 x13, .slice (some ⟨g18, 0, none⟩) ([x15]).length 1]) hs 1 rfl TI74 rfl rfl rfl ?_
  refine WL.storeAll (vs := [.int .i64 x1, .int .i64 x2, .int .i64 x13, .slice (some ⟨g18, 0, none⟩) ([x15]).length 1]) hs 2 rfl TI74 rfl rfl rfl rfl (ones_of rfl) rfl (fun w hs => ?_)
  have hs := hs.ownLit (A := t_api_Effect) (xs := [x15]) 0 rfl (fun ok hA => (Cells.one (T := t_api_Effect) (R_agg (hA.get 0 rfl) rfl))) (Nat.le_of_ble_eq_true rfl)
  refine WL.nil ?_
  refine hK19 _ _ ?_
  refine W.ret ?_
  have hr := Option.some.inj hf; subst hr
  exact ⟨_, resOk_one rfl (res_all hs 2 rfl TI74 rfl rfl), ((some ⟨g18, 0, none⟩), ([x15]).length, 1), rfl, (hs.mask [true]).pick []⟩ }
  {
  refine W.cond_false (bool_tr rfl hc11) ?_
  refine W.skip ?_
  refine hK8 _ _ ?_
  refine W.seqK fun K20 hK20 => ?_
  have hs := hs.ownNil t_api_Effect 96
  have Jk26 : ∀ (x22 : List api_Effect) (a23 : Option Addr) (c24 : Nat) (n25 : Nat) (ρ : Env) (w : World), ρ 6 = .pointer (some ⟨g5, 0, none⟩) → ρ 7 = .pointer (some ⟨g7, 0, none⟩) → St ok (bz w0) w [] [own t_api_Effect 96 (.slice a23 n25 c24) x22, blk g7 74 [.int .i64 x1, .int .i64 x2, .int .i64 0, .slice a23 n25 c24], blk g5 74 [.int .i64 0, .int .i64 0, .int .i64 0, .slice none 0 0]] → eslaw00_Update.j1 x1 x2 x22 = some r → K20 ρ w := by
    intro x22 a23 c24 n25 ρ w h21_6 h21_7 hs hf
    refine hK20 _ _ ?_
    unfold eslaw00_Update.j1 at hf
    refine W.seqK fun K27 hK27 => ?_
    refine W.region ?_
    refine WL.loadN (vs := [.int .i64 x1, .int .i64 x2, .int .i64 0, .slice a23 n25 c24]) hs 1 rfl TI74 h21_7 rfl rfl ?_
    refine WL.storeAll (vs := [.int .i64 x1, .int .i64 x2, .int .i64 0, .slice a23 n25 c24]) hs 2 rfl TI74 h21_6 rfl rfl rfl (ones_of rfl) rfl (fun w hs => ?_)
    refine WL.nil ?_
    refine hK27 _ _ ?_
    refine W.ret ?_
    have hr := Option.some.inj hf; subst hr
    exact ⟨_, resOk_one rfl (res_all hs 2 rfl TI74 h21_6 rfl), (a23, n25, c24), rfl, (hs.mask [true]).pick []⟩
  refine W.seqK fun K28 hK28 => ?_
  refine W.region ?_
  refine WL.assign (v := .int .i64 0) rfl ?_
  refine WL.nil ?_
  refine hK28 _ _ ?_
  refine W.block ?_
  obtain ⟨bs35, hbs35, hfs35⟩ := bindE hf
  refine W.loop hbs35 (fun s ρ w => match s with | (x30, x31) => ∃ (a32 : Option Addr), ∃ (c33 : Nat), ∃ (n34 : Nat), ρ 2 = .int .i64 x3 ∧ ρ 6 = .pointer (some ⟨g5, 0, none⟩) ∧ ρ 7 = .pointer (some ⟨g7, 0, none⟩) ∧ ρ 8 = .int .i64 x30 ∧ St ok (bz w0) w [] [own t_api_Effect 96 (.slice a32 n34 c33) x31, blk g7 74 [.int .i64 x1, .int .i64 x2, .int .i64 0, .slice a32 n34 c33], blk g5 74 [.int .i64 0, .int .i64 0, .int .i64 0, .slice none 0 0]]) ⟨none, 0, 0, rfl, rfl, rfl, rfl, (hs.mask [true, true, true]).pick []⟩ ?_
  intro s ρ w os35 hI hf hbbs35
  obtain ⟨x30, x31⟩ := s
  obtain ⟨a32, c33, n34, h29_2, h29_6, h29_7, h29_8, hs⟩ := hI
  unfold eslaw00_Update.l1 at hf
  refine W.seqK fun K36 hK36 => ?_
  refine W.seqK fun K37 hK37 => ?_
  refine W.region ?_
  refine WL.move (v := .int .i64 x30) h29_8 ?_
  refine WL.move (v := .int .i64 x3) h29_2 ?_
  obtain ⟨x38, hxx38, hf⟩ := bindE hf
  refine WL.call (vs := [.int .i64 x3, .int .i64 3, .int .i64 9]) hs FN31 ⟨rfl, ⟨rfl, ⟨rfl, trivial⟩⟩⟩ (fun ok hA => eslaw00_Digit.calls (x1 := x3) (x2 := 3) (x3 := 9) hxx38) ?_
  rintro _ w hs
  refine WL.bin (v := .bool (decide (x30 ≤ x38))) rfl rfl (ib_leq _ _ _) ?_
  refine WL.nil ?_
  refine hK37 _ _ ?_
  rcases iteE hf with ⟨hc39, hf⟩ | ⟨hc39, hf⟩
  {
  refine W.cond_true (bool_tr rfl hc39) ?_
  refine W.skip ?_
  refine hK36 _ _ ?_
  refine W.seqK fun K40 hK40 => ?_
  refine W.block ?_
  obtain ⟨x41, hxx41, hf⟩ := bindE hf
  obtain ⟨x42, ex42, hf⟩ := letE hf
  obtain ⟨hn44, hf⟩ := guardE hf
  obtain ⟨x43, ex43, hf⟩ := letE hf
  obtain ⟨x45, hxx45, hf⟩ := bindE hf
  refine W.any (by kernel_rfl) 9 3 [true, true, true, true, true, true, true, true, true, false, false, false] rfl rfl (poAt [pv (.pointer (some ⟨g7, 3, none⟩)), pv (.slice a32 n34 c33), pv (.int .i64 x3), pv (.int .i64 x41), pv (.int .i64 x30), pv (.int .i64 x42), pv (.int .i64 x43), pq (fun y : List Value => .agg y.toArray) (fun v => [vl t_api_Effect x45 v]) (fun v => []), pq (fun y : (Option Addr × Nat) => .slice y.1 ([x45]).length y.2) (fun v => [vl (tSlice t_api_Effect) [x45] v]) (fun v => [])]) (Λ := [own t_api_Effect 96 (.slice a32 n34 c33) x31, blk g7 74 [.int .i64 x1, .int .i64 x2, .int .i64 0, .slice a32 n34 c33], blk g5 74 [.int .i64 0, .int .i64 0, .int .i64 0, .slice none 0 0]]) hs (by kernel_rfl) (by kernel_rfl) (by kernel_rfl) ⟨⟨⟨⟨⟨⟨⟨⟨⟨trivial, ?_⟩, ?_⟩, ?_⟩, ?_⟩, ?_⟩, ?_⟩, ?_⟩, ?_⟩, ?_⟩ ?_
  {
  intro ρ w Γx Λx hs hu hp
  refine WL.fieldAddr (m := 3) ((hu 7 rfl).trans h29_7) FA74_3 rfl ?_
  exact WL.nil ⟨rfl, _, rfl, rfl, hs.cutG 0 0⟩ }
  {
  intro ρ w Γx Λx hs hu hp
  have e50 : ρ 29 = .pointer (some ⟨g7, 3, none⟩) := (hp 0 rfl).1
  refine WL.load1 (v := .slice a32 n34 c33) hs (Λx.length + 1) (getApp rfl) TI72 e50 rfl ?_
  exact WL.nil ⟨rfl, _, rfl, rfl, hs.cutG 0 0⟩ }
  {
  intro ρ w Γx Λx hs hu hp
  refine WL.move (v := .int .i64 x3) ((hu 2 rfl).trans h29_2) ?_
  exact WL.nil ⟨rfl, _, rfl, rfl, hs.cutG 0 0⟩ }
  {
  intro ρ w Γx Λx hs hu hp
  have e51 : ρ 31 = .int .i64 x3 := (hp 2 rfl).1
  refine WL.call (vs := [.int .i64 x3, .int .i64 1099511627776]) hs FN33 ⟨e51, ⟨rfl, trivial⟩⟩ (fun ok hA => eslaw00_Index.calls (x1 := x3) (x2 := 1099511627776) hxx41) ?_
  rintro _ w hs
  exact WL.nil ⟨rfl, _, rfl, rfl, hs.cutG 0 0⟩ }
  {
  intro ρ w Γx Λx hs hu hp
  refine WL.move (v := .int .i64 x30) ((hu 8 rfl).trans h29_8) ?_
  exact WL.nil ⟨rfl, _, rfl, rfl, hs.cutG 0 0⟩ }
  {
  intro ρ w Γx Λx hs hu hp
  have e52 : ρ 33 = .int .i64 x30 := (hp 4 rfl).1
  refine WL.bin (v := .int .i64 x42) e52 rfl (ib_as ex42 (ib_add _ _ _)) ?_
  exact WL.nil ⟨rfl, _, rfl, rfl, hs.cutG 0 0⟩ }
  {
  intro ρ w Γx Λx hs hu hp
  have e53 : ρ 32 = .int .i64 x41 := (hp 3 rfl).1
  have e54 : ρ 34 = .int .i64 x42 := (hp 5 rfl).1
  refine WL.bin (v := .int .i64 x43) e53 e54 (ib_as ex43 (ib_quo _ _ _ hn44)) ?_
  exact WL.nil ⟨rfl, _, rfl, rfl, hs.cutG 0 0⟩ }
  {
  intro ρ w Γx Λx hs hu hp
  have e55 : ρ 35 = .int .i64 x43 := (hp 6 rfl).1
  refine WL.call (vs := [.int .i64 x43, .bool false]) hs FN55 ⟨e55, ⟨rfl, trivial⟩⟩ (fun ok hA => eslaw00_Effect.calls (x1 := x43) (x2 := false) hxx45) ?_
  rintro cs46 w hs
  have hl47 := hs.agglen (n := 5) 0 rfl rfl rfl
  have hs := hs.add (it := vl t_api_Effect x45 (.agg cs46.toArray)) fun ok hA => hA.get 0 rfl
  exact WL.nil ⟨rfl, _, rfl, ⟨cs46, rfl⟩, hs.cutG 1 1⟩ }
  {
  intro ρ w Γx Λx hs hu hp
  obtain ⟨⟨cs56, e58r⟩, hm59⟩ := hp 7 rfl
  have e58 : ρ 36 = .agg cs56.toArray := e58r
  rw [e58r] at hm59
  have hs := hs.memo1 (it := vl t_api_Effect x45 (.agg cs56.toArray)) (List.mem_append.2 (.inl (hm59 _ (List.mem_of_getElem? (i := 0) rfl))))
  have hl57 := hs.agglen (n := 5) 0 rfl rfl rfl
  refine WL.buildSliceB (ys := [x45]) (n := 1) (vs := [(0, .agg cs56.toArray)]) (cs := cs56) hs ⟨⟨rfl, e58⟩, trivial⟩ (bls PS72 (by decide) (by simp [fillS, fillL, Value.cells, hl57])) (fun ok hA => (Cells.one (T := t_api_Effect) (R_agg (hA.get 0 rfl) rfl))) rfl (by decide) (fun a49 w hBl hs => ?_)
  have hs := hs.add (it := vl (tSlice t_api_Effect) [x45] (.slice a49 ([x45]).length 1)) fun ok hA => hA.get 0 rfl
  exact WL.nil ⟨rfl, _, rfl, ⟨(a49, 1), rfl⟩, hs.cutG 1 2⟩ }
  {
  intro ρ w hs hu60 hp
  obtain ⟨⟨⟨⟨⟨⟨⟨⟨⟨_, hp0_⟩, hp1_⟩, hp2_⟩, hp3_⟩, hp4_⟩, hp5_⟩, hp6_⟩, hp7_⟩, hp8_⟩ := hp
  have hs : St ok (bz w0) w [vl (tSlice t_api_Effect) [x45] (ρ 37), vl t_api_Effect x45 (ρ 36)] [own t_api_Effect 96 (.slice a32 n34 c33) x31, blk g7 74 [.int .i64 x1, .int .i64 x2, .int .i64 0, .slice a32 n34 c33], blk g5 74 [.int .i64 0, .int .i64 0, .int .i64 0, .slice none 0 0]] := hs
  obtain ⟨⟨a61, c62⟩, e63⟩ := hp8_
  have e63 : ρ 37 = .slice a61 ([x45]).length c62 := e63
  try rw [e63] at hs
  obtain ⟨cs64, e66⟩ := hp7_
  have e66 : ρ 36 = .agg cs64.toArray := e66
  try rw [e66] at hs
  have e67 : ρ 35 = .int .i64 x43 := hp6_
  have e68 : ρ 34 = .int .i64 x42 := hp5_
  have e69 : ρ 33 = .int .i64 x30 := hp4_
  have e70 : ρ 32 = .int .i64 x41 := hp3_
  have e71 : ρ 31 = .int .i64 x3 := hp2_
  have e72 : ρ 30 = .slice a32 n34 c33 := hp1_
  have e73 : ρ 29 = .pointer (some ⟨g7, 3, none⟩) := hp0_
  have hl65 := hs.agglen (n := 5) 1 rfl rfl rfl
  refine WA.step [9] (by kernel_rfl) (by simp) ⟨?_, trivial⟩
  obtain ⟨x74, hxx74, hf⟩ := bindE hf
  obtain ⟨hbx74, hex74⟩ := appE hxx74
  refine WL.appendS (zs := x74) hs 0 rfl 0 rfl UN72 UN72 EI96 e72 e63 hbx74 (by omega) hex74 (fun v75 w hs => ?_)
  obtain ⟨a76, n78, c77, rfl⟩ := hs.ownv3 0 rfl
  refine WL.nil ⟨rfl, _, rfl, ?_⟩
  refine WA.step [10] (by kernel_rfl) (by simp) ⟨?_, trivial⟩
  refine WL.fieldAddr (m := 3) ((hu60 7 rfl).trans h29_7) FA74_3 rfl ?_
  refine WL.nil ⟨rfl, _, rfl, ?_⟩
  refine WA.step [11] (by kernel_rfl) (by simp) ⟨?_, trivial⟩
  refine WL.store (vs := [.slice a76 n78 c77]) (cs' := [.int .i64 x1, .int .i64 x2, .int .i64 0, .slice a76 n78 c77]) hs 1 rfl TI72 rfl rfl rfl rfl (ones_of rfl) (Nat.le_of_ble_eq_true rfl) rfl (fun w hs => ?_)
  refine WL.nil ⟨rfl, _, rfl, ?_⟩
  refine WA.done (by kernel_rfl) ?_
  refine hK40 _ _ ?_
  refine W.region ?_
  refine WL.move (v := .int .i64 x30) ((hu60 8 rfl).trans h29_8) ?_
  obtain ⟨x79, ex79, hf⟩ := letE hf
  refine WL.bin (v := .int .i64 x79) rfl rfl (ib_as ex79 (ib_add _ _ _)) ?_
  refine WL.assign (v := .int .i64 x79) rfl ?_
  refine WL.nil ?_
  exact ⟨_, (Option.some.inj hf).symm, a76, c77, n78, ((hu60 2 rfl).trans h29_2), ((hu60 6 rfl).trans h29_6), ((hu60 7 rfl).trans h29_7), rfl, (hs.mask [true, true, true]).pick []⟩ } }
  {
  refine W.cond_false (bool_tr rfl hc39) ?_
  refine W.exit ?_
  have hr := Option.some.inj hf; subst hr
  have hr := hbbs35 _ rfl; subst hr
  have hf := hfs35
  exact Jk26 x31 a32 c33 n34 _ _ h29_6 h29_7 ((hs.mask [true, true, true]).pick []) hf } }
theorem eslaw00_Update.callc {ok : Nat → Prop} {w0 : World} {x1 : Int} {x2 : Int} {x3 : Int}  {r : api_Update} (hf : eslaw00_Update x1 x2 x3 = some r)  :
    Calls Tryz.prog 32 #[.int .i64 x1, .int .i64 x2, .int .i64 x3] w0 fun e w' => ∃ v, e = .returned v ∧ ∃ y : List Value, v = .agg y.toArray ∧ St ok (bz w0) w' [vl t_api_Update r (.agg y.toArray)] [] := by
  refine (eslaw00_Update.calls (ok := ok) (w0 := w0) (x1 := x1) (x2 := x2) (x3 := x3) hf).mono ?_
  rintro e w' ⟨v, rfl, ⟨a81, n82, c83⟩, rfl, hs⟩
  obtain rfl := hs.ownLen 0 rfl
  have hs := hs.freezeOwn 0 rfl
  have hs := hs.add (it := vl t_api_Update (⟨r.Client, r.Seq, r.Tag, r.Effects⟩ : api_Update) (.agg [.int .i64 r.Client, .int .i64 r.Seq, .int .i64 r.Tag, .slice a81 (r.Effects).length c83].toArray)) fun ok hA => V_agg (show t_api_Update.R ok _ _ _ from ⟨[.int .i64 r.Client], [.int .i64 r.Seq, .int .i64 r.Tag, .slice a81 (r.Effects).length c83], rfl, rfl, ⟨[.int .i64 r.Seq], [.int .i64 r.Tag, .slice a81 (r.Effects).length c83], rfl, rfl, ⟨[.int .i64 r.Tag], [.slice a81 (r.Effects).length c83], rfl, rfl, (R_one (hA.get 0 rfl))⟩⟩⟩) rfl
  exact ⟨_, rfl, [.int .i64 r.Client, .int .i64 r.Seq, .int .i64 r.Tag, .slice a81 (r.Effects).length c83], rfl, hs.pick [0]⟩
theorem eslaw00_Updates.calls {ok : Nat → Prop} {w0 : World} {x1 : List Int} {a2 : Option Addr} {c3 : Nat} {r : List api_Update} (hf : eslaw00_Updates x1 = some r) (i0 : (vl (tSlice (tInt .i64)) x1 (.slice a2 x1.length c3)).holds ok w0) :
    Calls Tryz.prog 10 #[.slice a2 x1.length c3] w0 fun e w' => ∃ v, e = .returned v ∧ ∃ y : (Option Addr × Nat × Nat), v = .slice y.1 y.2.1 y.2.2 ∧ St ok (bz w0) w' [] [own t_api_Update 74 (.slice y.1 y.2.1 y.2.2) r] := by
  unfold eslaw00_Updates at hf
  refine calls_of_W (fn := Tryz.f10) (N := 48) Tryz.func10 rfl Tryz.ntmps10 rfl ?_
  have hs : St ok (bz w0) w0 [vl (tSlice (tInt .i64)) x1 (.slice a2 x1.length c3)] [] := St.init (All.cons i0 All.nil)
  clear i0
  refine W.seqK fun K4 hK4 => ?_
  refine W.region ?_
  refine WL.assign (v := .slice none 0 0) rfl ?_
  refine WL.nil ?_
  refine hK4 _ _ ?_
  refine W.seqK fun K5 hK5 => ?_
  refine W.region ?_
  refine WL.assign (v := .slice none 0 0) rfl ?_
  refine WL.nil ?_
  refine hK5 _ _ ?_
  refine W.seqK fun K6 hK6 => ?_
  have hs := hs.ownNil t_api_Update 74
  have Jk12 : ∀ (x8 : List api_Update) (a9 : Option Addr) (c10 : Nat) (n11 : Nat) (ρ : Env) (w : World), ρ 3 = .slice a9 n11 c10 → St ok (bz w0) w [] [own t_api_Update 74 (.slice a9 n11 c10) x8] → eslaw00_Updates.j1 x8 = some r → K6 ρ w := by
    intro x8 a9 c10 n11 ρ w h7_3 hs hf
    refine hK6 _ _ ?_
    unfold eslaw00_Updates.j1 at hf
    refine W.seqK fun K13 hK13 => ?_
    refine W.region ?_
    refine WL.move (v := .slice a9 n11 c10) h7_3 ?_
    refine WL.assign (v := .slice a9 n11 c10) rfl ?_
    refine WL.nil ?_
    refine hK13 _ _ ?_
    refine W.ret ?_
    have hr := Option.some.inj hf; subst hr
    exact ⟨_, resOk_one rfl rfl, (a9, n11, c10), rfl, (hs.mask [true]).pick []⟩
  refine W.seqK fun K14 hK14 => ?_
  refine W.region ?_
  refine WL.assign (v := .int .i64 0) rfl ?_
  refine WL.nil ?_
  refine hK14 _ _ ?_
  refine W.block ?_
  obtain ⟨bs21, hbs21, hfs21⟩ := bindE hf
  refine W.loop hbs21 (fun s ρ w => match s with | (x16, x20) => ∃ (a17 : Option Addr), ∃ (c18 : Nat), ∃ (n19 : Nat), ρ 0 = .slice a2 x1.length c3 ∧ ρ 3 = .slice a17 n19 c18 ∧ ρ 4 = .int .i64 x20 ∧ St ok (bz w0) w [vl (tSlice (tInt .i64)) x1 (.slice a2 x1.length c3)] [own t_api_Update 74 (.slice a17 n19 c18) x16]) ⟨none, 0, 0, rfl, rfl, rfl, (hs.mask [true]).pick [0]⟩ ?_
  intro s ρ w os21 hI hf hbbs21
  obtain ⟨x16, x20⟩ := s
  obtain ⟨a17, c18, n19, h15_0, h15_3, h15_4, hs⟩ := hI
  unfold eslaw00_Updates.l2 at hf
  refine W.seqK fun K22 hK22 => ?_
  refine W.seqK fun K23 hK23 => ?_
  refine W.region ?_
  refine WL.move (v := .int .i64 x20) h15_4 ?_
  refine WL.bin (v := .bool (decide (x20 < 3))) rfl rfl (ib_lss _ _ _) ?_
  refine WL.nil ?_
  refine hK23 _ _ ?_
  rcases iteE hf with ⟨hc24, hf⟩ | ⟨hc24, hf⟩
  {
  refine W.cond_true (bool_tr rfl hc24) ?_
  refine W.skip ?_
  refine hK22 _ _ ?_
  refine W.seqK fun K25 hK25 => ?_
  have Jk31 : ∀ (x27 : List api_Update) (a28 : Option Addr) (c29 : Nat) (n30 : Nat) (ρ : Env) (w : World), ρ 0 = .slice a2 x1.length c3 → ρ 3 = .slice a28 n30 c29 → ρ 4 = .int .i64 x20 → St ok (bz w0) w [vl (tSlice (tInt .i64)) x1 (.slice a2 x1.length c3)] [own t_api_Update 74 (.slice a28 n30 c29) x27] → eslaw00_Updates.j2 x20 x27 = some os21 → K25 ρ w := by
    intro x27 a28 c29 n30 ρ w h26_0 h26_3 h26_4 hs hf
    refine hK25 _ _ ?_
    unfold eslaw00_Updates.j2 at hf
    refine W.region ?_
    refine WL.move (v := .int .i64 x20) h26_4 ?_
    obtain ⟨x32, ex32, hf⟩ := letE hf
    refine WL.bin (v := .int .i64 x32) rfl rfl (ib_as ex32 (ib_add _ _ _)) ?_
    refine WL.assign (v := .int .i64 x32) rfl ?_
    refine WL.nil ?_
    exact ⟨_, (Option.some.inj hf).symm, a28, c29, n30, h26_0, h26_3, rfl, (hs.mask [true]).pick [0]⟩
  refine W.block ?_
  refine W.seqK fun K33 hK33 => ?_
  refine W.region ?_
  refine WL.assign (v := .int .i64 0) rfl ?_
  refine WL.nil ?_
  refine hK33 _ _ ?_
  refine W.seqK fun K34 hK34 => ?_
  refine W.region ?_
  refine WL.assign (v := .int .i64 0) rfl ?_
  refine WL.nil ?_
  refine hK34 _ _ ?_
  refine W.block ?_
  obtain ⟨bs42, hbs42, hfs42⟩ := bindE hf
  refine W.loop hbs42 (fun s ρ w => match s with | (x36, x40, x41) => ∃ (a37 : Option Addr), ∃ (c38 : Nat), ∃ (n39 : Nat), ρ 0 = .slice a2 x1.length c3 ∧ ρ 3 = .slice a37 n39 c38 ∧ ρ 4 = .int .i64 x20 ∧ ρ 5 = .int .i64 x40 ∧ ρ 6 = .int .i64 x41 ∧ St ok (bz w0) w [vl (tSlice (tInt .i64)) x1 (.slice a2 x1.length c3)] [own t_api_Update 74 (.slice a37 n39 c38) x36]) ⟨a17, c18, n19, h15_0, h15_3, h15_4, rfl, rfl, (hs.mask [true]).pick [0]⟩ ?_
  intro s ρ w os42 hI hf hbbs42
  obtain ⟨x36, x40, x41⟩ := s
  obtain ⟨a37, c38, n39, h35_0, h35_3, h35_4, h35_5, h35_6, hs⟩ := hI
  unfold eslaw00_Updates.l1 at hf
  refine W.seqK fun K43 hK43 => ?_
  refine W.seqK fun K44 hK44 => ?_
  have Jk47 : ∀ (x46 : Bool) (ρ : Env) (w : World), ρ 0 = .slice a2 x1.length c3 → ρ 3 = .slice a37 n39 c38 → ρ 4 = .int .i64 x20 → ρ 5 = .int .i64 x40 → ρ 6 = .int .i64 x41 → ρ 18 = .bool x46 → St ok (bz w0) w [vl (tSlice (tInt .i64)) x1 (.slice a2 x1.length c3)] [own t_api_Update 74 (.slice a37 n39 c38) x36] → eslaw00_Updates.j5 x1 x20 x36 x40 x41 x46 = some os42 → K44 ρ w := by
    intro x46 ρ w h45_0 h45_3 h45_4 h45_5 h45_6 h45_18 hs hf
    refine hK44 _ _ ?_
    unfold eslaw00_Updates.j5 at hf
    rcases iteE hf with ⟨hc48, hf⟩ | ⟨hc48, hf⟩
    {
    refine W.cond_true (bool_tr h45_18 hc48) ?_
    refine W.skip ?_
    refine hK43 _ _ ?_
    refine W.seqK fun K49 hK49 => ?_
    have Jk56 : ∀ (x51 : List api_Update) (x55 : Int) (a52 : Option Addr) (c53 : Nat) (n54 : Nat) (ρ : Env) (w : World), ρ 0 = .slice a2 x1.length c3 → ρ 3 = .slice a52 n54 c53 → ρ 4 = .int .i64 x20 → ρ 5 = .int .i64 x55 → ρ 6 = .int .i64 x41 → St ok (bz w0) w [vl (tSlice (tInt .i64)) x1 (.slice a2 x1.length c3)] [own t_api_Update 74 (.slice a52 n54 c53) x51] → eslaw00_Updates.j3 x41 x51 x55 = some os42 → K49 ρ w := by
      intro x51 x55 a52 c53 n54 ρ w h50_0 h50_3 h50_4 h50_5 h50_6 hs hf
      refine hK49 _ _ ?_
      unfold eslaw00_Updates.j3 at hf
      refine W.region ?_
      refine WL.move (v := .int .i64 x41) h50_6 ?_
      obtain ⟨x57, ex57, hf⟩ := letE hf
      refine WL.bin (v := .int .i64 x57) rfl rfl (ib_as ex57 (ib_add _ _ _)) ?_
      refine WL.assign (v := .int .i64 x57) rfl ?_
      refine WL.nil ?_
      exact ⟨_, (Option.some.inj hf).symm, a52, c53, n54, h50_0, h50_3, h50_4, h50_5, rfl, (hs.mask [true]).pick [0]⟩
    refine W.block ?_
    refine W.seqK fun K58 hK58 => ?_
    have Jk61 : ∀ (x60 : Bool) (ρ : Env) (w : World), ρ 0 = .slice a2 x1.length c3 → ρ 3 = .slice a37 n39 c38 → ρ 4 = .int .i64 x20 → ρ 5 = .int .i64 x40 → ρ 6 = .int .i64 x41 → ρ 31 = .bool x60 → St ok (bz w0) w [vl (tSlice (tInt .i64)) x1 (.slice a2 x1.length c3)] [own t_api_Update 74 (.slice a37 n39 c38) x36] → eslaw00_Updates.j4 x1 x20 x36 x40 x41 x60 = some os42 → K58 ρ w := by
      intro x60 ρ w h59_0 h59_3 h59_4 h59_5 h59_6 h59_31 hs hf
      refine hK58 _ _ ?_
      unfold eslaw00_Updates.j4 at hf
      rcases iteE hf with ⟨hc62, hf⟩ | ⟨hc62, hf⟩
      {
      refine W.cond_true (bool_tr h59_31 hc62) ?_
      refine W.seqK fun K63 hK63 => ?_
      refine W.region ?_
      refine WL.move (v := .int .i64 x40) h59_5 ?_
      obtain ⟨x64, ex64, hf⟩ := letE hf
      refine WL.bin (v := .int .i64 x64) rfl rfl (ib_as ex64 (ib_add _ _ _)) ?_
      refine WL.assign (v := .int .i64 x64) rfl ?_
      refine WL.nil ?_
      refine hK63 _ _ ?_
      refine W.region ?_
      refine WL.move (v := .slice a37 n39 c38) h59_3 ?_
      refine WL.move (v := .int .i64 x20) h59_4 ?_
      obtain ⟨x65, ex65, hf⟩ := letE hf
      refine WL.bin (v := .int .i64 x65) rfl rfl (ib_as ex65 (ib_add _ _ _)) ?_
      refine WL.move (v := .int .i64 x64) rfl ?_
      refine WL.move (v := .slice a2 x1.length c3) h59_0 ?_
      refine WL.move (v := .int .i64 x41) h59_6 ?_
      obtain ⟨x66, hxx66, hf⟩ := bindE hf
      refine WL.indexAddr hs 0 rfl UN22 TI3 rfl rfl hxx66 (fun ad67 hs => ?_)
      refine WL.loadP hs 0 rfl TI3 (.inr rfl) rfl (fun v68 hs => ?_)
      obtain rfl := hs.int 0 rfl
      obtain ⟨x69, hxx69, hf⟩ := bindE hf
      refine WL.call (vs := [.int .i64 x66, .int .i64 1099511627776]) hs FN33 ⟨rfl, ⟨rfl, trivial⟩⟩ (fun ok hA => eslaw00_Index.calls (x1 := x66) (x2 := 1099511627776) hxx69) ?_
      rintro _ w hs
      obtain ⟨x70, ex70, hf⟩ := letE hf
      refine WL.bin (v := .int .i64 x70) rfl rfl (ib_as ex70 (ib_quo _ _ _ (by decide))) ?_
      obtain ⟨x71, hxx71, hf⟩ := bindE hf
      refine WL.call (vs := [.int .i64 x65, .int .i64 x64, .int .i64 x70]) hs FN32 ⟨rfl, ⟨rfl, ⟨rfl, trivial⟩⟩⟩ (fun ok hA => eslaw00_Update.calls (x1 := x65) (x2 := x64) (x3 := x70) hxx71) ?_
      rintro ⟨a72, n73, c74⟩ w hs
      refine WL.buildSlice (n := 1) (vs := [(0, .agg ([.int .i64 x71.Client, .int .i64 x71.Seq, .int .i64 x71.Tag, .slice a72 n73 c74] : List Value).toArray)]) (cs := [.int .i64 x71.Client, .int .i64 x71.Seq, .int .i64 x71.Tag, .slice a72 n73 c74]) hs ⟨⟨rfl, rfl⟩, trivial⟩ (bls PS28 (by decide) rfl) (fun g75 w hs => ?_)
      obtain rfl := hs.ownLen 1 rfl
      have hs := hs.freezeOwn 1 rfl
      obtain ⟨x76, hxx76, hf⟩ := bindE hf
      obtain ⟨hbx76, hex76⟩ := appE hxx76
      refine WL.append (ys := [(⟨x71.Client, x71.Seq, x71.Tag, x71.Effects⟩ : api_Update)]) (zs := x76) hs 1 rfl 0 rfl UN28 EI74 rfl rfl (fun ok hA => (Cells.one (T := t_api_Update) (show t_api_Update.R ok _ (⟨x71.Client, x71.Seq, x71.Tag, x71.Effects⟩ : api_Update) _ from ⟨[.int .i64 x71.Client], [.int .i64 x71.Seq, .int .i64 x71.Tag, .slice a72 (x71.Effects).length c74], rfl, rfl, ⟨[.int .i64 x71.Seq], [.int .i64 x71.Tag, .slice a72 (x71.Effects).length c74], rfl, rfl, ⟨[.int .i64 x71.Tag], [.slice a72 (x71.Effects).length c74], rfl, rfl, (R_one (hA.get 0 rfl))⟩⟩⟩))) hbx76 (by omega) hex76 (fun v77 w hs => ?_)
      obtain ⟨a78, n80, c79, rfl⟩ := hs.ownv3 1 rfl
      refine WL.assign (v := .slice a78 n80 c79) rfl ?_
      refine WL.nil ?_
      exact Jk56 x76 x64 a78 c79 n80 _ _ h59_0 rfl h59_4 rfl h59_6 ((hs.mask [false, true]).pick [3]) hf }
      {
      refine W.cond_false (bool_tr h59_31 hc62) ?_
      refine W.skip ?_
      exact Jk56 x36 x40 a37 c38 n39 _ _ h59_0 h59_3 h59_4 h59_5 h59_6 ((hs.mask [true]).pick [0]) hf }
    refine W.region ?_
    refine WL.move (v := .slice a2 x1.length c3) h45_0 ?_
    refine WL.move (v := .int .i64 x41) h45_6 ?_
    obtain ⟨x81, hxx81, hf⟩ := bindE hf
    refine WL.indexAddr hs 0 rfl UN22 TI3 rfl rfl hxx81 (fun ad82 hs => ?_)
    refine WL.loadP hs 0 rfl TI3 (.inr rfl) rfl (fun v83 hs => ?_)
    obtain rfl := hs.int 0 rfl
    obtain ⟨x84, hxx84, hf⟩ := bindE hf
    refine WL.call (vs := [.int .i64 x81, .int .i64 3, .int .i64 0]) hs FN31 ⟨rfl, ⟨rfl, ⟨rfl, trivial⟩⟩⟩ (fun ok hA => eslaw00_Digit.calls (x1 := x81) (x2 := 3) (x3 := 0) hxx84) ?_
    rintro _ w hs
    refine WL.move (v := .int .i64 x20) h45_4 ?_
    refine WL.bin (v := .bool (x84 == x20)) rfl rfl (ib_eql _ _ _) ?_
    refine WL.move (v := .bool (x84 == x20)) rfl ?_
    rcases iteE hf with ⟨hc85, hf⟩ | ⟨hc85, hf⟩
    {
    refine WL.move (v := .int .i64 x40) h45_5 ?_ (hg := (wanted_of rfl rfl (bool_tr rfl hc85)).trans rfl)
    refine WL.bin (v := .bool (decide (x40 < 8))) rfl rfl (ib_lss _ _ _) ?_ (hg := (wanted_of rfl rfl (bool_tr rfl hc85)).trans rfl)
    refine WL.pickT (v := .bool (decide (x40 < 8))) (bool_tr rfl hc85) rfl ?_
    refine WL.nil ?_
    exact Jk61 (decide (x40 < 8)) _ _ h45_0 h45_3 h45_4 h45_5 h45_6 rfl ((hs.mask [true]).pick [2]) hf }
    {
    refine WL.pass ((wanted_of rfl rfl (bool_tr rfl hc85)).trans rfl) rfl ?_
    refine WL.pass ((wanted_of rfl rfl (bool_tr rfl hc85)).trans rfl) rfl ?_
    refine WL.pickF (v := .bool false) (bool_tr rfl hc85) rfl ?_
    refine WL.nil ?_
    exact Jk61 false _ _ h45_0 h45_3 h45_4 h45_5 h45_6 rfl ((hs.mask [true]).pick [2]) hf } }
    {
    refine W.cond_false (bool_tr h45_18 hc48) ?_
    refine W.exit ?_
    have hr := Option.some.inj hf; subst hr
    have hr := hbbs42 _ rfl; subst hr
    have hf := hfs42
    exact Jk31 x36 a37 c38 n39 _ _ h45_0 h45_3 h45_4 ((hs.mask [true]).pick [0]) hf }
  refine W.region ?_
  refine WL.move (v := .int .i64 x41) h35_6 ?_
  refine WL.move (v := .slice a2 x1.length c3) h35_0 ?_
  refine WL.len (v := .slice a2 x1.length c3) rfl (len_slice UN22) ?_
  refine WL.bin (v := .bool (decide (x41 < (x1.length : Int)))) rfl rfl (ib_lss _ _ _) ?_
  refine WL.move (v := .bool (decide (x41 < (x1.length : Int)))) rfl ?_
  rcases iteE hf with ⟨hc86, hf⟩ | ⟨hc86, hf⟩
  {
  refine WL.move (v := .int .i64 x41) h35_6 ?_ (hg := (wanted_of rfl rfl (bool_tr rfl hc86)).trans rfl)
  refine WL.bin (v := .bool (decide (x41 < 24))) rfl rfl (ib_lss _ _ _) ?_ (hg := (wanted_of rfl rfl (bool_tr rfl hc86)).trans rfl)
  refine WL.pickT (v := .bool (decide (x41 < 24))) (bool_tr rfl hc86) rfl ?_
  refine WL.nil ?_
  exact Jk47 (decide (x41 < 24)) _ _ h35_0 h35_3 h35_4 h35_5 h35_6 rfl ((hs.mask [true]).pick [0]) hf }
  {
  refine WL.pass ((wanted_of rfl rfl (bool_tr rfl hc86)).trans rfl) rfl ?_
  refine WL.pass ((wanted_of rfl rfl (bool_tr rfl hc86)).trans rfl) rfl ?_
  refine WL.pickF (v := .bool false) (bool_tr rfl hc86) rfl ?_
  refine WL.nil ?_
  exact Jk47 false _ _ h35_0 h35_3 h35_4 h35_5 h35_6 rfl ((hs.mask [true]).pick [0]) hf } }
  {
  refine W.cond_false (bool_tr rfl hc24) ?_
  refine W.exit ?_
  have hr := Option.some.inj hf; subst hr
  have hr := hbbs21 _ rfl; subst hr
  have hf := hfs21
  exact Jk12 x16 a17 c18 n19 _ _ h15_3 ((hs.mask [true]).pick []) hf }
theorem eslaw00_Updates.callc {ok : Nat → Prop} {w0 : World} {x1 : List Int} {a2 : Option Addr} {c3 : Nat} {r : List api_Update} (hf : eslaw00_Updates x1 = some r) (i0 : (vl (tSlice (tInt .i64)) x1 (.slice a2 x1.length c3)).holds ok w0) :
    Calls Tryz.prog 10 #[.slice a2 x1.length c3] w0 fun e w' => ∃ v, e = .returned v ∧ ∃ y : (Option Addr × Nat), v = .slice y.1 r.length y.2 ∧ St ok (bz w0) w' [vl (tSlice t_api_Update) r (.slice y.1 r.length y.2)] [] := by
  refine (eslaw00_Updates.calls (ok := ok) (w0 := w0) (x1 := x1) hf i0).mono ?_
  rintro e w' ⟨v, rfl, ⟨a89, n90, c91⟩, rfl, hs⟩
  obtain rfl := hs.ownLen 0 rfl
  have hs := hs.freezeOwn 0 rfl
  exact ⟨_, rfl, (a89, c91), rfl, hs.pick [0]⟩
theorem eslaw32_convert.calls {ok : Nat → Prop} {w0 : World} {x1 : index_Key} {v2 : Value} {r : elasticstoreref32_Key} (hf : eslaw32_convert x1 = some r) (i0 : (vl t_index_Key x1 v2).holds ok w0) :
    Calls Tryz.prog 15 #[v2] w0 fun e w' => ∃ v, e = .returned v ∧ ∃ y : List Value, v = .agg y.toArray ∧ St ok (bz w0) w' [vl t_elasticstoreref32_Key r (.agg y.toArray)] [] := by
  unfold eslaw32_convert at hf
  refine calls_of_W (fn := Tryz.f15) (N := 10) Tryz.func15 rfl Tryz.ntmps15 rfl ?_
  have hs : St ok (bz w0) w0 [vl t_index_Key x1 v2] [] := St.init (All.cons i0 All.nil)
  clear i0
  obtain ⟨cs3, hl4, rfl⟩ := hs.aggv (n := 3) 0 rfl rfl rfl
  refine W.seqK fun K5 hK5 => ?_
  refine W.region ?_
  refine WL.box (vs := cs3) hs rfl rfl (fun g6 w hs => ?_)
  refine WL.alloc hs ZV45 (fun g7 w hs => ?_)
  refine WL.nil ?_
  refine hK5 _ _ ?_
  refine W.seqK fun K8 hK8 => ?_
  refine W.region ?_
  refine WL.fieldAddr (m := 0) rfl FA47_0 rfl ?_
  refine WL.loadF (z := x1.f_Type) F_index_Key_f_Type hs 1 rfl 0 rfl rfl TI3 (.inr rfl) rfl rfl (fun v9 hs => ?_)
  obtain rfl := hs.int 0 rfl
  refine WL.fieldAddr (m := 1) rfl FA47_1 rfl ?_
  refine WL.loadF (z := x1.N) F_index_Key_N hs 1 rfl 1 rfl rfl TI2 (.inr rfl) rfl rfl (fun v10 hs => ?_)
  obtain rfl := hs.int 0 rfl
  refine WL.fieldAddr (m := 2) rfl FA47_2 rfl ?_
  refine WL.loadF (z := x1.S) F_index_Key_S hs 1 rfl 2 rfl rfl TI9 (.inr rfl) rfl rfl (fun v11 hs => ?_)
  obtain rfl := hs.str 0 rfl
  refine WL.build (vs := [(0, .int .i64 x1.f_Type), (1, .int .i64 x1.N), (2, bstr x1.S)]) (cs := [.int .i64 x1.f_Type, .int .i64 x1.N, bstr x1.S]) ⟨⟨rfl, rfl⟩, ⟨⟨rfl, rfl⟩, ⟨⟨rfl, rfl⟩, trivial⟩⟩⟩ (bld PL45 rfl) ?_
  refine WL.storeAll (vs := [.int .i64 x1.f_Type, .int .i64 x1.N, bstr x1.S]) hs 0 rfl TI45 rfl rfl rfl rfl (ones_of rfl) rfl (fun w hs => ?_)
  refine WL.nil ?_
  refine hK8 _ _ ?_
  refine W.ret ?_
  have hr := Option.some.inj hf; subst hr
  have hs := hs.add (it := vl t_elasticstoreref32_Key (⟨x1.f_Type, x1.N, x1.S⟩ : elasticstoreref32_Key) (.agg [.int .i64 x1.f_Type, .int .i64 x1.N, bstr x1.S].toArray)) fun ok hA => V_agg (show t_elasticstoreref32_Key.R ok _ _ _ from ⟨[.int .i64 x1.f_Type], [.int .i64 x1.N, bstr x1.S], rfl, rfl, ⟨[.int .i64 x1.N], [bstr x1.S], rfl, rfl, rfl⟩⟩) rfl
  exact ⟨_, resOk_one rfl (res_all hs 0 rfl TI45 rfl rfl), [.int .i64 x1.f_Type, .int .i64 x1.N, bstr x1.S], rfl, (hs.mask []).pick [0]⟩
theorem eslaw32_entries.calls {ok : Nat → Prop} {w0 : World} {x1 : List index_Entry} {a2 : Option Addr} {c3 : Nat} {r : List elasticstoreref32_Entry} (hf : eslaw32_entries x1 = some r) (i0 : (vl (tSlice t_index_Entry) x1 (.slice a2 x1.length c3)).holds ok w0) :
    Calls Tryz.prog 19 #[.slice a2 x1.length c3] w0 fun e w' => ∃ v, e = .returned v ∧ ∃ y : (Option Addr × Nat × Nat), v = .slice y.1 y.2.1 y.2.2 ∧ St ok (bz w0) w' [] [own t_elasticstoreref32_Entry 92 (.slice y.1 y.2.1 y.2.2) r] := by
  unfold eslaw32_entries at hf
  refine calls_of_W (fn := Tryz.f19) (N := 27) Tryz.func19 rfl Tryz.ntmps19 rfl ?_
  have hs : St ok (bz w0) w0 [vl (tSlice t_index_Entry) x1 (.slice a2 x1.length c3)] [] := St.init (All.cons i0 All.nil)
  clear i0
  refine W.seqK fun K4 hK4 => ?_
  refine W.region ?_
  refine WL.assign (v := .slice none 0 0) rfl ?_
  refine WL.nil ?_
  refine hK4 _ _ ?_
  refine W.seqK fun K5 hK5 => ?_
  refine W.region ?_
  refine WL.assign (v := .slice none 0 0) rfl ?_
  refine WL.nil ?_
  refine hK5 _ _ ?_
  refine W.seqK fun K6 hK6 => ?_
  have hs := hs.ownNil t_elasticstoreref32_Entry 92
  have Jk12 : ∀ (x8 : List elasticstoreref32_Entry) (a9 : Option Addr) (c10 : Nat) (n11 : Nat) (ρ : Env) (w : World), ρ 3 = .slice a9 n11 c10 → St ok (bz w0) w [] [own t_elasticstoreref32_Entry 92 (.slice a9 n11 c10) x8] → eslaw32_entries.j1 x8 = some r → K6 ρ w := by
    intro x8 a9 c10 n11 ρ w h7_3 hs hf
    refine hK6 _ _ ?_
    unfold eslaw32_entries.j1 at hf
    refine W.seqK fun K13 hK13 => ?_
    refine W.region ?_
    refine WL.move (v := .slice a9 n11 c10) h7_3 ?_
    refine WL.assign (v := .slice a9 n11 c10) rfl ?_
    refine WL.nil ?_
    refine hK13 _ _ ?_
    refine W.ret ?_
    have hr := Option.some.inj hf; subst hr
    exact ⟨_, resOk_one rfl rfl, (a9, n11, c10), rfl, (hs.mask [true]).pick []⟩
  refine W.seqK fun K14 hK14 => ?_
  refine W.region ?_
  refine WL.assign (v := .int .i64 0) rfl ?_
  refine WL.nil ?_
  refine hK14 _ _ ?_
  refine W.block ?_
  obtain ⟨bs21, hbs21, hfs21⟩ := bindE hf
  refine W.loop hbs21 (fun s ρ w => match s with | (x16, x20) => ∃ (a17 : Option Addr), ∃ (c18 : Nat), ∃ (n19 : Nat), ρ 0 = .slice a2 x1.length c3 ∧ ρ 3 = .slice a17 n19 c18 ∧ ρ 4 = .int .i64 x20 ∧ St ok (bz w0) w [vl (tSlice t_index_Entry) x1 (.slice a2 x1.length c3)] [own t_elasticstoreref32_Entry 92 (.slice a17 n19 c18) x16]) ⟨none, 0, 0, rfl, rfl, rfl, (hs.mask [true]).pick [0]⟩ ?_
  intro s ρ w os21 hI hf hbbs21
  obtain ⟨x16, x20⟩ := s
  obtain ⟨a17, c18, n19, h15_0, h15_3, h15_4, hs⟩ := hI
  unfold eslaw32_entries.l1 at hf
  refine W.seqK fun K22 hK22 => ?_
  refine W.seqK fun K23 hK23 => ?_
  refine W.region ?_
  refine WL.move (v := .int .i64 x20) h15_4 ?_
  refine WL.move (v := .slice a2 x1.length c3) h15_0 ?_
  refine WL.len (v := .slice a2 x1.length c3) rfl (len_slice UN33) ?_
  refine WL.bin (v := .bool (decide (x20 < (x1.length : Int)))) rfl rfl (ib_lss _ _ _) ?_
  refine WL.nil ?_
  refine hK23 _ _ ?_
  rcases iteE hf with ⟨hc24, hf⟩ | ⟨hc24, hf⟩
  {
  refine W.cond_true (bool_tr rfl hc24) ?_
  refine W.skip ?_
  refine hK22 _ _ ?_
  refine W.seqK fun K25 hK25 => ?_
  refine W.block ?_
  obtain ⟨x26, hxx26, hf⟩ := bindE hf
  obtain ⟨x32, hxx32, hf⟩ := bindE hf
  obtain ⟨x35, hxx35, hf⟩ := bindE hf
  refine W.any (by kernel_rfl) 14 2 [true, true, true, true, true, true, true, true, true, true, true, true, true, true, false, false] rfl rfl (poAt [pv (.slice a17 n19 c18), pv (.slice a2 x1.length c3), pv (.int .i64 x20), pq (fun y : Addr => .pointer (some y)) (fun v => [pl t_index_Entry x26 (adOf v)]) (fun v => []), pq (fun y : Addr => .pointer (some y)) (fun v => [pl t_index_Key x26.Key (adOf v)]) (fun v => []), pq (fun y : List Value => .agg y.toArray) (fun v => [vl t_index_Key x26.Key v]) (fun v => []), pq (fun y : List Value => .agg y.toArray) (fun v => [vl t_elasticstoreref32_Key x32 v]) (fun v => []), pv (.slice a2 x1.length c3), pv (.int .i64 x20), pq (fun y : Addr => .pointer (some y)) (fun v => [pl t_index_Entry x35 (adOf v)]) (fun v => []), pq (fun y : Addr => .pointer (some y)) (fun v => [pl (tSlice tStr) x35.Objects (adOf v)]) (fun v => []), pq (fun y : (Option Addr × Nat) => .slice y.1 (x35.Objects).length y.2) (fun v => [vl (tSlice tStr) x35.Objects v]) (fun v => []), pn [6, 11] (fun r => .agg (cellsOf (r.getD 0 undef) ++ [r.getD 1 undef] : List Value).toArray), pq (fun y : (Option Addr × Nat) => .slice y.1 ([(⟨x32, x35.Objects⟩ : elasticstoreref32_Entry)]).length y.2) (fun v => [vl (tSlice t_elasticstoreref32_Entry) [(⟨x32, x35.Objects⟩ : elasticstoreref32_Entry)] v]) (fun v => [])]) (Λ := [own t_elasticstoreref32_Entry 92 (.slice a17 n19 c18) x16]) hs (by kernel_rfl) (by kernel_rfl) (by kernel_rfl) ⟨⟨⟨⟨⟨⟨⟨⟨⟨⟨⟨⟨⟨⟨trivial, ?_⟩, ?_⟩, ?_⟩, ?_⟩, ?_⟩, ?_⟩, ?_⟩, ?_⟩, ?_⟩, ?_⟩, ?_⟩, ?_⟩, ?_⟩, ?_⟩ ?_
  {
  intro ρ w Γx Λx hs hu hp
  refine WL.move (v := .slice a17 n19 c18) ((hu 3 rfl).trans h15_3) ?_
  exact WL.nil ⟨rfl, _, rfl, rfl, hs.cutG 0 0⟩ }
  {
  intro ρ w Γx Λx hs hu hp
  refine WL.move (v := .slice a2 x1.length c3) ((hu 0 rfl).trans h15_0) ?_
  exact WL.nil ⟨rfl, _, rfl, rfl, hs.cutG 0 0⟩ }
  {
  intro ρ w Γx Λx hs hu hp
  refine WL.move (v := .int .i64 x20) ((hu 4 rfl).trans h15_4) ?_
  exact WL.nil ⟨rfl, _, rfl, rfl, hs.cutG 0 0⟩ }
  {
  intro ρ w Γx Λx hs hu hp
  have e43 : ρ 12 = .slice a2 x1.length c3 := (hp 1 rfl).1
  have e44 : ρ 13 = .int .i64 x20 := (hp 2 rfl).1
  refine WL.indexAddr hs (Γx.length + 0) (getApp rfl) UN33 TI65 e43 e44 hxx26 (fun ad27 hs => ?_)
  have hs := hs.add (it := pl t_index_Entry x26 ad27) fun ok hA => hA.get 0 rfl
  exact WL.nil ⟨rfl, _, rfl, ⟨ad27, rfl⟩, hs.cutG 1 1⟩ }
  {
  intro ρ w Γx Λx hs hu hp
  obtain ⟨⟨ad45, e46r⟩, hm47⟩ := hp 3 rfl
  have e46 : ρ 14 = .pointer (some ad45) := e46r
  rw [e46r] at hm47
  have hs := hs.memo1 (it := pl t_index_Entry x26 ad45) (List.mem_append.2 (.inl (hm47 _ (List.mem_of_getElem? (i := 0) rfl))))
  refine WL.fieldAddrP (z := x26.Key) F_index_Entry_Key hs 0 rfl e46 FA65_0 rfl (fun ad28 hs => ?_)
  have hs := hs.add (it := pl t_index_Key x26.Key ad28) fun ok hA => hA.get 0 rfl
  exact WL.nil ⟨rfl, _, rfl, ⟨ad28, rfl⟩, hs.cutG 1 2⟩ }
  {
  intro ρ w Γx Λx hs hu hp
  obtain ⟨⟨ad48, e49r⟩, hm50⟩ := hp 4 rfl
  have e49 : ρ 15 = .pointer (some ad48) := e49r
  rw [e49r] at hm50
  have hs := hs.memo1 (it := pl t_index_Key x26.Key ad48) (List.mem_append.2 (.inl (hm50 _ (List.mem_of_getElem? (i := 0) rfl))))
  refine WL.loadP hs 0 rfl TI47 (.inl rfl) e49 (fun v29 hs => ?_)
  obtain ⟨cs30, hl31, rfl⟩ := hs.aggv (n := 3) 0 rfl rfl rfl
  have hs := hs.add (it := vl t_index_Key x26.Key (.agg cs30.toArray)) fun ok hA => hA.get 0 rfl
  exact WL.nil ⟨rfl, _, rfl, ⟨cs30, rfl⟩, hs.cutG 1 2⟩ }
  {
  intro ρ w Γx Λx hs hu hp
  obtain ⟨⟨cs51, e53r⟩, hm54⟩ := hp 5 rfl
  have e53 : ρ 16 = .agg cs51.toArray := e53r
  rw [e53r] at hm54
  have hs := hs.memo1 (it := vl t_index_Key x26.Key (.agg cs51.toArray)) (List.mem_append.2 (.inl (hm54 _ (List.mem_of_getElem? (i := 0) rfl))))
  have hl52 := hs.agglen (n := 3) 0 rfl rfl rfl
  refine WL.call (vs := [.agg cs51.toArray]) hs FN15 ⟨e53, trivial⟩ (fun ok hA => eslaw32_convert.calls (x1 := x26.Key) hxx32 (hA.get 0 rfl)) ?_
  rintro cs33 w hs
  have hl34 := hs.agglen (n := 3) 0 rfl rfl rfl
  have hs := hs.add (it := vl t_elasticstoreref32_Key x32 (.agg cs33.toArray)) fun ok hA => hA.get 0 rfl
  exact WL.nil ⟨rfl, _, rfl, ⟨cs33, rfl⟩, hs.cutG 1 2⟩ }
  {
  intro ρ w Γx Λx hs hu hp
  refine WL.move (v := .slice a2 x1.length c3) ((hu 0 rfl).trans h15_0) ?_
  exact WL.nil ⟨rfl, _, rfl, rfl, hs.cutG 0 0⟩ }
  {
  intro ρ w Γx Λx hs hu hp
  refine WL.move (v := .int .i64 x20) ((hu 4 rfl).trans h15_4) ?_
  exact WL.nil ⟨rfl, _, rfl, rfl, hs.cutG 0 0⟩ }
  {
  intro ρ w Γx Λx hs hu hp
  have e55 : ρ 18 = .slice a2 x1.length c3 := (hp 7 rfl).1
  have e56 : ρ 19 = .int .i64 x20 := (hp 8 rfl).1
  refine WL.indexAddr hs (Γx.length + 0) (getApp rfl) UN33 TI65 e55 e56 hxx35 (fun ad36 hs => ?_)
  have hs := hs.add (it := pl t_index_Entry x35 ad36) fun ok hA => hA.get 0 rfl
  exact WL.nil ⟨rfl, _, rfl, ⟨ad36, rfl⟩, hs.cutG 1 1⟩ }
  {
  intro ρ w Γx Λx hs hu hp
  obtain ⟨⟨ad57, e58r⟩, hm59⟩ := hp 9 rfl
  have e58 : ρ 20 = .pointer (some ad57) := e58r
  rw [e58r] at hm59
  have hs := hs.memo1 (it := pl t_index_Entry x35 ad57) (List.mem_append.2 (.inl (hm59 _ (List.mem_of_getElem? (i := 0) rfl))))
  refine WL.fieldAddrP (z := x35.Objects) F_index_Entry_Objects hs 0 rfl e58 FA65_1 rfl (fun ad37 hs => ?_)
  have hs := hs.add (it := pl (tSlice tStr) x35.Objects ad37) fun ok hA => hA.get 0 rfl
  exact WL.nil ⟨rfl, _, rfl, ⟨ad37, rfl⟩, hs.cutG 1 2⟩ }
  {
  intro ρ w Γx Λx hs hu hp
  obtain ⟨⟨ad60, e61r⟩, hm62⟩ := hp 10 rfl
  have e61 : ρ 21 = .pointer (some ad60) := e61r
  rw [e61r] at hm62
  have hs := hs.memo1 (it := pl (tSlice tStr) x35.Objects ad60) (List.mem_append.2 (.inl (hm62 _ (List.mem_of_getElem? (i := 0) rfl))))
  refine WL.loadP hs 0 rfl TI56 (.inr rfl) e61 (fun v38 hs => ?_)
  obtain ⟨a39, c40, rfl⟩ := hs.slice 0 rfl
  have hs := hs.add (it := vl (tSlice tStr) x35.Objects (.slice a39 (x35.Objects).length c40)) fun ok hA => hA.get 0 rfl
  exact WL.nil ⟨rfl, _, rfl, ⟨(a39, c40), rfl⟩, hs.cutG 1 2⟩ }
  {
  intro ρ w Γx Λx hs hu hp
  obtain ⟨⟨cs63, e65r⟩, hm66⟩ := hp 6 rfl
  have e65 : ρ 17 = .agg cs63.toArray := e65r
  rw [e65r] at hm66
  have hs := hs.memo1 (it := vl t_elasticstoreref32_Key x32 (.agg cs63.toArray)) (List.mem_append.2 (.inl (hm66 _ (List.mem_of_getElem? (i := 0) rfl))))
  have hl64 := hs.agglen (n := 3) 0 rfl rfl rfl
  obtain ⟨⟨⟨a67, c68⟩, e69r⟩, hm70⟩ := hp 11 rfl
  have e69 : ρ 22 = .slice a67 (x35.Objects).length c68 := e69r
  rw [e69r] at hm70
  have hs := hs.memo1 (it := vl (tSlice tStr) x35.Objects (.slice a67 (x35.Objects).length c68)) (List.mem_cons_of_mem _ (List.mem_append.2 (.inl (hm70 _ (List.mem_of_getElem? (i := 0) rfl)))))
  refine WL.build (vs := [(0, .agg cs63.toArray), (1, .slice a67 (x35.Objects).length c68)]) (cs := cs63 ++ ([.slice a67 (x35.Objects).length c68] : List Value)) ⟨⟨rfl, e65⟩, ⟨⟨rfl, e69⟩, trivial⟩⟩ (bld PL92 (by simp [fillL, Value.cells, hl64])) ?_
  exact WL.nil ⟨rfl, _, rfl, (show (.agg (cs63 ++ ([.slice a67 (x35.Objects).length c68] : List Value) : List Value).toArray : Value) = (.agg (cellsOf (ρ 17) ++ [ρ 22] : List Value).toArray : Value) by rw [e65, e69]; rfl), hs.cutG 0 2⟩ }
  {
  intro ρ w Γx Λx hs hu hp
  obtain ⟨⟨cs71, e73r⟩, hm74⟩ := hp 6 rfl
  have e73 : ρ 17 = .agg cs71.toArray := e73r
  rw [e73r] at hm74
  have hs := hs.memo1 (it := vl t_elasticstoreref32_Key x32 (.agg cs71.toArray)) (List.mem_append.2 (.inl (hm74 _ (List.mem_of_getElem? (i := 0) rfl))))
  have hl72 := hs.agglen (n := 3) 0 rfl rfl rfl
  obtain ⟨⟨⟨a75, c76⟩, e77r⟩, hm78⟩ := hp 11 rfl
  have e77 : ρ 22 = .slice a75 (x35.Objects).length c76 := e77r
  rw [e77r] at hm78
  have hs := hs.memo1 (it := vl (tSlice tStr) x35.Objects (.slice a75 (x35.Objects).length c76)) (List.mem_cons_of_mem _ (List.mem_append.2 (.inl (hm78 _ (List.mem_of_getElem? (i := 0) rfl)))))
  have e79 : ρ 23 = .agg (cellsOf (ρ 17) ++ [ρ 22] : List Value).toArray := (hp 12 rfl).1
  rw [e73, e77] at e79
  simp only [cellsOf] at e79
  refine WL.buildSliceB (ys := [(⟨x32, x35.Objects⟩ : elasticstoreref32_Entry)]) (n := 1) (vs := [(0, .agg (cs71 ++ ([.slice a75 (x35.Objects).length c76] : List Value) : List Value).toArray)]) (cs := cs71 ++ ([.slice a75 (x35.Objects).length c76] : List Value)) hs ⟨⟨rfl, e79⟩, trivial⟩ (bls PS49 (by decide) (by simp [fillS, fillL, Value.cells, hl72])) (fun ok hA => (Cells.one (T := t_elasticstoreref32_Entry) (show t_elasticstoreref32_Entry.R ok _ (⟨x32, x35.Objects⟩ : elasticstoreref32_Entry) _ from ⟨cs71, [.slice a75 (x35.Objects).length c76], by simp, (R_agg (hA.get 1 rfl) rfl), (R_one (hA.get 0 rfl))⟩))) rfl (by decide) (fun a42 w hBl hs => ?_)
  have hs := hs.add (it := vl (tSlice t_elasticstoreref32_Entry) [(⟨x32, x35.Objects⟩ : elasticstoreref32_Entry)] (.slice a42 ([(⟨x32, x35.Objects⟩ : elasticstoreref32_Entry)]).length 1)) fun ok hA => hA.get 0 rfl
  exact WL.nil ⟨rfl, _, rfl, ⟨(a42, 1), rfl⟩, hs.cutG 1 3⟩ }
  {
  intro ρ w hs hu80 hp
  obtain ⟨⟨⟨⟨⟨⟨⟨⟨⟨⟨⟨⟨⟨⟨_, hp0_⟩, hp1_⟩, hp2_⟩, hp3_⟩, hp4_⟩, hp5_⟩, hp6_⟩, hp7_⟩, hp8_⟩, hp9_⟩, hp10_⟩, hp11_⟩, hp12_⟩, hp13_⟩ := hp
  have hs : St ok (bz w0) w [vl (tSlice t_elasticstoreref32_Entry) [(⟨x32, x35.Objects⟩ : elasticstoreref32_Entry)] (ρ 24), vl (tSlice tStr) x35.Objects (ρ 22), pl (tSlice tStr) x35.Objects (adOf (ρ 21)), pl t_index_Entry x35 (adOf (ρ 20)), vl t_elasticstoreref32_Key x32 (ρ 17), vl t_index_Key x26.Key (ρ 16), pl t_index_Key x26.Key (adOf (ρ 15)), pl t_index_Entry x26 (adOf (ρ 14)), vl (tSlice t_index_Entry) x1 (.slice a2 x1.length c3)] [own t_elasticstoreref32_Entry 92 (.slice a17 n19 c18) x16] := hs
  obtain ⟨⟨a81, c82⟩, e83⟩ := hp13_
  have e83 : ρ 24 = .slice a81 ([(⟨x32, x35.Objects⟩ : elasticstoreref32_Entry)]).length c82 := e83
  try rw [e83] at hs
  obtain ⟨⟨a84, c85⟩, e86⟩ := hp11_
  have e86 : ρ 22 = .slice a84 (x35.Objects).length c85 := e86
  try rw [e86] at hs
  obtain ⟨ad87, e88⟩ := hp10_
  have e88 : ρ 21 = .pointer (some ad87) := e88
  try rw [e88] at hs
  obtain ⟨ad89, e90⟩ := hp9_
  have e90 : ρ 20 = .pointer (some ad89) := e90
  try rw [e90] at hs
  have e91 : ρ 19 = .int .i64 x20 := hp8_
  have e92 : ρ 18 = .slice a2 x1.length c3 := hp7_
  obtain ⟨cs93, e95⟩ := hp6_
  have e95 : ρ 17 = .agg cs93.toArray := e95
  try rw [e95] at hs
  obtain ⟨cs96, e98⟩ := hp5_
  have e98 : ρ 16 = .agg cs96.toArray := e98
  try rw [e98] at hs
  obtain ⟨ad99, e100⟩ := hp4_
  have e100 : ρ 15 = .pointer (some ad99) := e100
  try rw [e100] at hs
  obtain ⟨ad101, e102⟩ := hp3_
  have e102 : ρ 14 = .pointer (some ad101) := e102
  try rw [e102] at hs
  have e103 : ρ 13 = .int .i64 x20 := hp2_
  have e104 : ρ 12 = .slice a2 x1.length c3 := hp1_
  have e105 : ρ 11 = .slice a17 n19 c18 := hp0_
  have e106 : ρ 23 = .agg (cellsOf (ρ 17) ++ [ρ 22] : List Value).toArray := hp12_
  rw [e95, e86] at e106
  simp only [cellsOf] at e106
  have hl97 := hs.agglen (n := 3) 5 rfl rfl rfl
  have hl94 := hs.agglen (n := 3) 4 rfl rfl rfl
  refine WA.step [14] (by kernel_rfl) (by simp) ⟨?_, trivial⟩
  obtain ⟨x107, hxx107, hf⟩ := bindE hf
  obtain ⟨hbx107, hex107⟩ := appE hxx107
  refine WL.appendS (zs := x107) hs 0 rfl 0 rfl UN49 UN49 EI92 e105 e83 hbx107 (by omega) hex107 (fun v108 w hs => ?_)
  obtain ⟨a109, n111, c110, rfl⟩ := hs.ownv3 0 rfl
  refine WL.nil ⟨rfl, _, rfl, ?_⟩
  refine WA.step [15] (by kernel_rfl) (by simp) ⟨?_, trivial⟩
  refine WL.assign (v := .slice a109 n111 c110) rfl ?_
  refine WL.nil ⟨rfl, _, rfl, ?_⟩
  refine WA.done (by kernel_rfl) ?_
  refine hK25 _ _ ?_
  refine W.region ?_
  refine WL.move (v := .int .i64 x20) ((hu80 4 rfl).trans h15_4) ?_
  obtain ⟨x112, ex112, hf⟩ := letE hf
  refine WL.bin (v := .int .i64 x112) rfl rfl (ib_as ex112 (ib_add _ _ _)) ?_
  refine WL.assign (v := .int .i64 x112) rfl ?_
  refine WL.nil ?_
  exact ⟨_, (Option.some.inj hf).symm, a109, c110, n111, ((hu80 0 rfl).trans h15_0), rfl, rfl, (hs.mask [true]).pick [8]⟩ } }
  {
  refine W.cond_false (bool_tr rfl hc24) ?_
  refine W.exit ?_
  have hr := Option.some.inj hf; subst hr
  have hr := hbbs21 _ rfl; subst hr
  have hf := hfs21
  exact Jk12 x16 a17 c18 n19 _ _ h15_3 ((hs.mask [true]).pick []) hf }
theorem eslaw32_entries.callc {ok : Nat → Prop} {w0 : World} {x1 : List index_Entry} {a2 : Option Addr} {c3 : Nat} {r : List elasticstoreref32_Entry} (hf : eslaw32_entries x1 = some r) (i0 : (vl (tSlice t_index_Entry) x1 (.slice a2 x1.length c3)).holds ok w0) :
    Calls Tryz.prog 19 #[.slice a2 x1.length c3] w0 fun e w' => ∃ v, e = .returned v ∧ ∃ y : (Option Addr × Nat), v = .slice y.1 r.length y.2 ∧ St ok (bz w0) w' [vl (tSlice t_elasticstoreref32_Entry) r (.slice y.1 r.length y.2)] [] := by
  refine (eslaw32_entries.calls (ok := ok) (w0 := w0) (x1 := x1) hf i0).mono ?_
  rintro e w' ⟨v, rfl, ⟨a114, n115, c116⟩, rfl, hs⟩
  obtain rfl := hs.ownLen 0 rfl
  have hs := hs.freezeOwn 0 rfl
  exact ⟨_, rfl, (a114, c116), rfl, hs.pick [0]⟩
theorem esref32_Compare.calls {ok : Nat → Prop} {w0 : World} {x1 : elasticstoreref32_Key} {x5 : elasticstoreref32_Key} {v2 : Value} {v6 : Value} {r : Int} (hf : esref32_Compare x1 x5 = some r) (i0 : (vl t_elasticstoreref32_Key x1 v2).holds ok w0) (i1 : (vl t_elasticstoreref32_Key x5 v6).holds ok w0) :
    Calls Tryz.prog 41 #[v2, v6] w0 fun e w' => ∃ v, e = .returned v ∧ ∃ y : Unit, v = .int .i64 r ∧ St ok (bz w0) w' [] [] := by
  unfold esref32_Compare at hf
  refine calls_of_W (fn := Tryz.f41) (N := 43) Tryz.func41 rfl Tryz.ntmps41 rfl ?_
  have hs : St ok (bz w0) w0 [vl t_elasticstoreref32_Key x1 v2, vl t_elasticstoreref32_Key x5 v6] [] := St.init (All.cons i0 (All.cons i1 All.nil))
  clear i0 i1
  obtain ⟨cs3, hl4, rfl⟩ := hs.aggv (n := 3) 0 rfl rfl rfl
  obtain ⟨cs7, hl8, rfl⟩ := hs.aggv (n := 3) 1 rfl rfl rfl
  refine W.seqK fun K9 hK9 => ?_
  refine W.region ?_
  refine WL.box (vs := cs3) hs rfl rfl (fun g10 w hs => ?_)
  refine WL.box (vs := cs7) hs rfl rfl (fun g11 w hs => ?_)
  refine WL.assign (v := .int .i64 0) rfl ?_
  refine WL.nil ?_
  refine hK9 _ _ ?_
  refine W.seqK fun K12 hK12 => ?_
  refine W.block ?_
  refine W.seqK fun K13 hK13 => ?_
  have Jk16 : ∀ (x15 : Bool) (ρ : Env) (w : World), ρ 2 = .pointer (some ⟨g10, 0, none⟩) → ρ 3 = .pointer (some ⟨g11, 0, none⟩) → ρ 5 = .bool x15 → St ok (bz w0) w [vl t_elasticstoreref32_Key x5 (.agg cs7.toArray), vl t_elasticstoreref32_Key x1 (.agg cs3.toArray)] [blk g11 45 cs7, blk g10 45 cs3] → esref32_Compare.j1 x1 x5 x15 = some r → K13 ρ w := by
    intro x15 ρ w h14_2 h14_3 h14_5 hs hf
    refine hK13 _ _ ?_
    unfold esref32_Compare.j1 at hf
    rcases iteE hf with ⟨hc17, hf⟩ | ⟨hc17, hf⟩
    {
    refine W.cond_true (bool_tr h14_5 hc17) ?_
    refine W.seqK fun K18 hK18 => ?_
    refine W.region ?_
    refine WL.assign (v := .int .i64 (-1)) rfl ?_
    refine WL.nil ?_
    refine hK18 _ _ ?_
    refine W.ret ?_
    have hr := Option.some.inj hf; subst hr
    exact ⟨_, resOk_one rfl rfl, (), rfl, (hs.mask []).pick []⟩ }
    {
    refine W.cond_false (bool_tr h14_5 hc17) ?_
    refine W.seqK fun K19 hK19 => ?_
    refine W.region ?_
    refine WL.loadAll hs 1 rfl TI45 h14_2 hl4 ?_
    refine WL.loadAll hs 0 rfl TI45 h14_3 hl8 ?_
    obtain rfl := open_elasticstoreref32_Key hs 1 rfl
    obtain rfl := open_elasticstoreref32_Key hs 0 rfl
    refine WL.eqA rfl rfl EG45 (EQ45 (⟨x1.f_Type, x1.N, x1.S⟩ : elasticstoreref32_Key) (⟨x5.f_Type, x5.N, x5.S⟩ : elasticstoreref32_Key)) ?_
    refine WL.assign (v := .bool (decide ((⟨x1.f_Type, x1.N, x1.S⟩ : elasticstoreref32_Key) = (⟨x5.f_Type, x5.N, x5.S⟩ : elasticstoreref32_Key)))) rfl ?_
    refine WL.nil ?_
    refine hK19 _ _ ?_
    rcases iteE hf with ⟨hc20, hf⟩ | ⟨hc20, hf⟩
    {
    refine W.cond_true (bool_tr rfl hc20) ?_
    refine W.seqK fun K21 hK21 => ?_
    refine W.region ?_
    refine WL.assign (v := .int .i64 0) rfl ?_
    refine WL.nil ?_
    refine hK21 _ _ ?_
    refine W.ret ?_
    have hr := Option.some.inj hf; subst hr
    exact ⟨_, resOk_one rfl rfl, (), rfl, (hs.mask []).pick []⟩ }
    {
    refine W.cond_false (bool_tr rfl hc20) ?_
    refine W.skip ?_
    refine hK12 _ _ ?_
    refine W.seqK fun K22 hK22 => ?_
    refine W.region ?_
    refine WL.assign (v := .int .i64 1) rfl ?_
    refine WL.nil ?_
    refine hK22 _ _ ?_
    refine W.ret ?_
    have hr := Option.some.inj hf; subst hr
    exact ⟨_, resOk_one rfl rfl, (), rfl, (hs.mask []).pick []⟩ } }
  refine W.region ?_
  refine WL.fieldAddr (m := 0) rfl FA45_0 rfl ?_
  refine WL.loadF (z := x1.f_Type) F_elasticstoreref32_Key_f_Type hs 1 rfl 0 rfl rfl TI3 (.inr rfl) rfl rfl (fun v23 hs => ?_)
  obtain rfl := hs.int 0 rfl
  refine WL.fieldAddr (m := 0) rfl FA45_0 rfl ?_
  refine WL.loadF (z := x5.f_Type) F_elasticstoreref32_Key_f_Type hs 0 rfl 2 rfl rfl TI3 (.inr rfl) rfl rfl (fun v24 hs => ?_)
  obtain rfl := hs.int 0 rfl
  refine WL.bin (v := .bool (decide (x1.f_Type < x5.f_Type))) rfl rfl (ib_lss _ _ _) ?_
  refine WL.move (v := .bool (decide (x1.f_Type < x5.f_Type))) rfl ?_
  rcases iteE hf with ⟨hc25, hf⟩ | ⟨hc25, hf⟩
  {
  refine WL.pass ((wanted_of rfl rfl (bool_tr rfl hc25)).trans rfl) rfl ?_
  refine WL.pass ((wanted_of rfl rfl (bool_tr rfl hc25)).trans rfl) rfl ?_
  refine WL.pass ((wanted_of rfl rfl (bool_tr rfl hc25)).trans rfl) rfl ?_
  refine WL.pass ((wanted_of rfl rfl (bool_tr rfl hc25)).trans rfl) rfl ?_
  refine WL.pass ((wanted_of rfl rfl (bool_tr rfl hc25)).trans rfl) rfl ?_
  refine WL.pass ((wanted_of rfl rfl (bool_tr rfl hc25)).trans rfl) rfl ?_
  refine WL.pass (wanted_undef rfl rfl rfl) rfl ?_
  refine WL.pass (wanted_undef rfl rfl rfl) rfl ?_
  refine WL.pass (wanted_undef rfl rfl rfl) rfl ?_
  refine WL.pass (wanted_undef rfl rfl rfl) rfl ?_
  refine WL.pass (wanted_undef rfl rfl rfl) rfl ?_
  refine WL.pass (wanted_undef rfl rfl rfl) rfl ?_
  refine WL.pass (wanted_undef rfl rfl rfl) rfl ?_
  refine WL.pass (wanted_undef rfl rfl rfl) rfl ?_
  refine WL.pass (wanted_undef rfl rfl rfl) rfl ?_
  refine WL.pass (wanted_undef rfl rfl rfl) rfl ?_
  refine WL.pass (wanted_undef rfl rfl rfl) rfl ?_
  refine WL.pass (wanted_undef rfl rfl rfl) rfl ?_
  refine WL.pass (wanted_undef rfl rfl rfl) rfl ?_
  refine WL.pass (wanted_undef rfl rfl rfl) rfl ?_
  refine WL.pass (wanted_undef rfl rfl rfl) rfl ?_
  refine WL.pass (wanted_undef rfl rfl rfl) rfl ?_
  refine WL.pass (wanted_undef rfl rfl rfl) rfl ?_
  refine WL.pass (wanted_undef rfl rfl rfl) rfl ?_
  refine WL.pass (wanted_undef rfl rfl rfl) rfl ?_
  refine WL.pass ((wanted_of rfl rfl (bool_tr rfl hc25)).trans rfl) rfl ?_
  refine WL.pickT (v := .bool true) (bool_tr rfl hc25) rfl ?_
  refine WL.assign (v := .bool true) rfl ?_
  refine WL.nil ?_
  exact Jk16 true _ _ rfl rfl rfl ((hs.mask [true, true]).pick [3, 2]) hf }
  {
  refine WL.fieldAddr (m := 0) rfl FA45_0 rfl ?_ (hg := (wanted_of rfl rfl (bool_tr rfl hc25)).trans rfl)
  refine WL.loadF (z := x1.f_Type) F_elasticstoreref32_Key_f_Type hs 1 rfl 2 rfl rfl TI3 (.inr rfl) rfl rfl (fun v26 hs => ?_) (hg := (wanted_of rfl rfl (bool_tr rfl hc25)).trans rfl)
  obtain rfl := hs.int 0 rfl
  refine WL.fieldAddr (m := 0) rfl FA45_0 rfl ?_ (hg := (wanted_of rfl rfl (bool_tr rfl hc25)).trans rfl)
  refine WL.loadF (z := x5.f_Type) F_elasticstoreref32_Key_f_Type hs 0 rfl 4 rfl rfl TI3 (.inr rfl) rfl rfl (fun v27 hs => ?_) (hg := (wanted_of rfl rfl (bool_tr rfl hc25)).trans rfl)
  obtain rfl := hs.int 0 rfl
  refine WL.bin (v := .bool (x1.f_Type == x5.f_Type)) rfl rfl (ib_eql _ _ _) ?_ (hg := (wanted_of rfl rfl (bool_tr rfl hc25)).trans rfl)
  refine WL.move (v := .bool (x1.f_Type == x5.f_Type)) rfl ?_ (hg := (wanted_of rfl rfl (bool_tr rfl hc25)).trans rfl)
  rcases iteE hf with ⟨hc28, hf⟩ | ⟨hc28, hf⟩
  {
  refine WL.fieldAddr (m := 1) rfl FA45_1 rfl ?_ (hg := (wanted_of rfl rfl (bool_tr rfl hc28)).trans rfl)
  refine WL.loadF (z := x1.N) F_elasticstoreref32_Key_N hs 1 rfl 4 rfl rfl TI2 (.inr rfl) rfl rfl (fun v29 hs => ?_) (hg := (wanted_of rfl rfl (bool_tr rfl hc28)).trans rfl)
  obtain rfl := hs.int 0 rfl
  refine WL.fieldAddr (m := 1) rfl FA45_1 rfl ?_ (hg := (wanted_of rfl rfl (bool_tr rfl hc28)).trans rfl)
  refine WL.loadF (z := x5.N) F_elasticstoreref32_Key_N hs 0 rfl 6 rfl rfl TI2 (.inr rfl) rfl rfl (fun v30 hs => ?_) (hg := (wanted_of rfl rfl (bool_tr rfl hc28)).trans rfl)
  obtain rfl := hs.int 0 rfl
  refine WL.bin (v := .bool (decide (x1.N < x5.N))) rfl rfl (ib_lss _ _ _) ?_ (hg := (wanted_of rfl rfl (bool_tr rfl hc28)).trans rfl)
  refine WL.move (v := .bool (decide (x1.N < x5.N))) rfl ?_ (hg := (wanted_of rfl rfl (bool_tr rfl hc28)).trans rfl)
  rcases iteE hf with ⟨hc31, hf⟩ | ⟨hc31, hf⟩
  {
  refine WL.pass ((wanted_of rfl rfl (bool_tr rfl hc31)).trans rfl) rfl ?_
  refine WL.pass ((wanted_of rfl rfl (bool_tr rfl hc31)).trans rfl) rfl ?_
  refine WL.pass ((wanted_of rfl rfl (bool_tr rfl hc31)).trans rfl) rfl ?_
  refine WL.pass ((wanted_of rfl rfl (bool_tr rfl hc31)).trans rfl) rfl ?_
  refine WL.pass ((wanted_of rfl rfl (bool_tr rfl hc31)).trans rfl) rfl ?_
  refine WL.pass ((wanted_of rfl rfl (bool_tr rfl hc31)).trans rfl) rfl ?_
  refine WL.pass (wanted_undef rfl rfl rfl) rfl ?_
  refine WL.pass (wanted_undef rfl rfl rfl) rfl ?_
  refine WL.pass (wanted_undef rfl rfl rfl) rfl ?_
  refine WL.pass (wanted_undef rfl rfl rfl) rfl ?_
  refine WL.pass (wanted_undef rfl rfl rfl) rfl ?_
  refine WL.pass ((wanted_of rfl rfl (bool_tr rfl hc31)).trans rfl) rfl ?_
  refine WL.pickT (v := .bool true) (bool_tr rfl hc31) rfl ?_ (hg := (wanted_of rfl rfl (bool_tr rfl hc28)).trans rfl)
  refine WL.pickT (v := .bool true) (bool_tr rfl hc28) rfl ?_ (hg := (wanted_of rfl rfl (bool_tr rfl hc25)).trans rfl)
  refine WL.pickF (v := .bool true) (bool_tr rfl hc25) rfl ?_
  refine WL.assign (v := .bool true) rfl ?_
  refine WL.nil ?_
  exact Jk16 true _ _ rfl rfl rfl ((hs.mask [true, true]).pick [7, 6]) hf }
  {
  refine WL.fieldAddr (m := 1) rfl FA45_1 rfl ?_ (hg := (wanted_of rfl rfl (bool_tr rfl hc31)).trans rfl)
  refine WL.loadF (z := x1.N) F_elasticstoreref32_Key_N hs 1 rfl 6 rfl rfl TI2 (.inr rfl) rfl rfl (fun v32 hs => ?_) (hg := (wanted_of rfl rfl (bool_tr rfl hc31)).trans rfl)
  obtain rfl := hs.int 0 rfl
  refine WL.fieldAddr (m := 1) rfl FA45_1 rfl ?_ (hg := (wanted_of rfl rfl (bool_tr rfl hc31)).trans rfl)
  refine WL.loadF (z := x5.N) F_elasticstoreref32_Key_N hs 0 rfl 8 rfl rfl TI2 (.inr rfl) rfl rfl (fun v33 hs => ?_) (hg := (wanted_of rfl rfl (bool_tr rfl hc31)).trans rfl)
  obtain rfl := hs.int 0 rfl
  refine WL.bin (v := .bool (x1.N == x5.N)) rfl rfl (ib_eql _ _ _) ?_ (hg := (wanted_of rfl rfl (bool_tr rfl hc31)).trans rfl)
  refine WL.move (v := .bool (x1.N == x5.N)) rfl ?_ (hg := (wanted_of rfl rfl (bool_tr rfl hc31)).trans rfl)
  rcases iteE hf with ⟨hc34, hf⟩ | ⟨hc34, hf⟩
  {
  refine WL.fieldAddr (m := 2) rfl FA45_2 rfl ?_ (hg := (wanted_of rfl rfl (bool_tr rfl hc34)).trans rfl)
  refine WL.loadF (z := x1.S) F_elasticstoreref32_Key_S hs 1 rfl 8 rfl rfl TI9 (.inr rfl) rfl rfl (fun v35 hs => ?_) (hg := (wanted_of rfl rfl (bool_tr rfl hc34)).trans rfl)
  obtain rfl := hs.str 0 rfl
  refine WL.fieldAddr (m := 2) rfl FA45_2 rfl ?_ (hg := (wanted_of rfl rfl (bool_tr rfl hc34)).trans rfl)
  refine WL.loadF (z := x5.S) F_elasticstoreref32_Key_S hs 0 rfl 10 rfl rfl TI9 (.inr rfl) rfl rfl (fun v36 hs => ?_) (hg := (wanted_of rfl rfl (bool_tr rfl hc34)).trans rfl)
  obtain rfl := hs.str 0 rfl
  refine WL.binS (v := .bool (Op.bytesLess x1.S x5.S)) rfl rfl (sb_lss _ _) ?_ (hg := (wanted_of rfl rfl (bool_tr rfl hc34)).trans rfl)
  refine WL.pickT (v := .bool (Op.bytesLess x1.S x5.S)) (bool_tr rfl hc34) rfl ?_ (hg := (wanted_of rfl rfl (bool_tr rfl hc31)).trans rfl)
  refine WL.pickF (v := .bool (Op.bytesLess x1.S x5.S)) (bool_tr rfl hc31) rfl ?_ (hg := (wanted_of rfl rfl (bool_tr rfl hc28)).trans rfl)
  refine WL.pickT (v := .bool (Op.bytesLess x1.S x5.S)) (bool_tr rfl hc28) rfl ?_ (hg := (wanted_of rfl rfl (bool_tr rfl hc25)).trans rfl)
  refine WL.pickF (v := .bool (Op.bytesLess x1.S x5.S)) (bool_tr rfl hc25) rfl ?_
  refine WL.assign (v := .bool (Op.bytesLess x1.S x5.S)) rfl ?_
  refine WL.nil ?_
  exact Jk16 (Op.bytesLess x1.S x5.S) _ _ rfl rfl rfl ((hs.mask [true, true]).pick [11, 10]) hf }
  {
  refine WL.pass ((wanted_of rfl rfl (bool_tr rfl hc34)).trans rfl) rfl ?_
  refine WL.pass ((wanted_of rfl rfl (bool_tr rfl hc34)).trans rfl) rfl ?_
  refine WL.pass ((wanted_of rfl rfl (bool_tr rfl hc34)).trans rfl) rfl ?_
  refine WL.pass ((wanted_of rfl rfl (bool_tr rfl hc34)).trans rfl) rfl ?_
  refine WL.pass ((wanted_of rfl rfl (bool_tr rfl hc34)).trans rfl) rfl ?_
  refine WL.pickF (v := .bool false) (bool_tr rfl hc34) rfl ?_ (hg := (wanted_of rfl rfl (bool_tr rfl hc31)).trans rfl)
  refine WL.pickF (v := .bool false) (bool_tr rfl hc31) rfl ?_ (hg := (wanted_of rfl rfl (bool_tr rfl hc28)).trans rfl)
  refine WL.pickT (v := .bool false) (bool_tr rfl hc28) rfl ?_ (hg := (wanted_of rfl rfl (bool_tr rfl hc25)).trans rfl)
  refine WL.pickF (v := .bool false) (bool_tr rfl hc25) rfl ?_
  refine WL.assign (v := .bool false) rfl ?_
  refine WL.nil ?_
  exact Jk16 false _ _ rfl rfl rfl ((hs.mask [true, true]).pick [9, 8]) hf } } }
  {
  refine WL.pass ((wanted_of rfl rfl (bool_tr rfl hc28)).trans rfl) rfl ?_
  refine WL.pass ((wanted_of rfl rfl (bool_tr rfl hc28)).trans rfl) rfl ?_
  refine WL.pass ((wanted_of rfl rfl (bool_tr rfl hc28)).trans rfl) rfl ?_
  refine WL.pass ((wanted_of rfl rfl (bool_tr rfl hc28)).trans rfl) rfl ?_
  refine WL.pass ((wanted_of rfl rfl (bool_tr rfl hc28)).trans rfl) rfl ?_
  refine WL.pass ((wanted_of rfl rfl (bool_tr rfl hc28)).trans rfl) rfl ?_
  refine WL.pass (wanted_undef rfl rfl rfl) rfl ?_
  refine WL.pass (wanted_undef rfl rfl rfl) rfl ?_
  refine WL.pass (wanted_undef rfl rfl rfl) rfl ?_
  refine WL.pass (wanted_undef rfl rfl rfl) rfl ?_
  refine WL.pass (wanted_undef rfl rfl rfl) rfl ?_
  refine WL.pass (wanted_undef rfl rfl rfl) rfl ?_
  refine WL.pass (wanted_undef rfl rfl rfl) rfl ?_
  refine WL.pass (wanted_undef rfl rfl rfl) rfl ?_
  refine WL.pass (wanted_undef rfl rfl rfl) rfl ?_
  refine WL.pass (wanted_undef rfl rfl rfl) rfl ?_
  refine WL.pass (wanted_undef rfl rfl rfl) rfl ?_
  refine WL.pass (wanted_undef rfl rfl rfl) rfl ?_
  refine WL.pass ((wanted_of rfl rfl (bool_tr rfl hc28)).trans rfl) rfl ?_
  refine WL.pickF (v := .bool false) (bool_tr rfl hc28) rfl ?_ (hg := (wanted_of rfl rfl (bool_tr rfl hc25)).trans rfl)
  refine WL.pickF (v := .bool false) (bool_tr rfl hc25) rfl ?_
  refine WL.assign (v := .bool false) rfl ?_
  refine WL.nil ?_
  exact Jk16 false _ _ rfl rfl rfl ((hs.mask [true, true]).pick [5, 4]) hf } }
end Go.Proofs.YtpfgdjfiimknlaaGreat
set_option linter.unusedVariables false
set_option linter.unusedSimpArgs false
set_option linter.unnecessarySimpa false
namespace Go.Proofs.YtpfgdjfiimknlaaGreatL
open Go Go.RowKit
section
variable {P : Program} {N : Nat} {ops : Array Oper} {Q : QE} {ρ : Env} {w : World} {w0 : Base} {rest : List Oper} {d : Option Tmp} {ty : TypeId} {pos : String} {aft : Array Edge} {gd : Option (Nat × Bool)} {ok0 : Nat → Prop} {Γ : List It} {Λ : List LObj}

def OwnAtF (sz off : Nat) (v : Value) (i : Int) (ad : Addr) : Prop := ∃ g n c, v = .slice (some ⟨g, 0, none⟩) n c ∧ ad = ⟨g, i.toNat * sz + off, none⟩
theorem OwnAt.f {sz : Nat} {v : Value} {i : Int} {ad : Addr} (h : OwnAt sz v i ad) : OwnAtF sz 0 v i ad := h
theorem WL.fieldAddrO {sz o1 : Nat} {v : Value} {i : Int} {ad : Addr} {T : TypeId} {x : Operand} {j off o2 : Nat} (hat : OwnAtF sz o1 v i ad) (hx : ρ.ev x = .pointer (some ad)) (hf : FA P T j off) (ho : o1 + off = o2)
    (K : ∀ ad', OwnAtF sz o2 v i ad' → WL P N ops Q rest (putE ρ d (.pointer (some ad'))) w)
    (hg : wantedE ops ρ ⟨d, .fieldAddr T x j, ty, pos, aft, gd⟩ = true := by rfl) (hd : fits N d = true := by rfl) :
    WL P N ops Q (⟨d, .fieldAddr T x j, ty, pos, aft, gd⟩ :: rest) ρ w := by
  obtain ⟨g, n, c, rfl, rfl⟩ := hat
  exact WL.fieldAddr hx hf rfl (K _ ⟨g, n, c, rfl, by rw [Nat.add_assoc, ho]⟩) hg hd
theorem WL.loadOF {α β : Type} {A : Ty α} {F : Ty β} {off : Nat} {get : α → β} {set : α → β → α} (hf : Fld A F off get set) {xs : List α} {y : α} {t E : TypeId} {x : Operand} {v : Value} {i : Int} {ad : Addr} (hs : St ok0 w0 w Γ Λ) (m : Nat) (hm : Λ[m]? = some (own A E v xs))
    (ht : TI P t F.agg F.sz) (h1 : F.agg = true ∨ F.sz = 1) (hat : OwnAtF A.sz off v i ad) (hi : idx xs i = some y) (hx : ρ.ev x = .pointer (some ad)) {z : β} (hz : get y = z) (K : ∀ u, St ok0 w0 w (vl F z u :: Γ) Λ → WL P N ops Q rest (putE ρ d u) w)
    (hg : wantedE ops ρ ⟨d, .load t x, ty, pos, aft, gd⟩ = true := by rfl) (hd : fits N d = true := by rfl) :
    WL P N ops Q (⟨d, .load t x, ty, pos, aft, gd⟩ :: rest) ρ w := by
  subst hz
  obtain ⟨h0, hlt, h2⟩ := idx_some hi
  obtain ⟨g, n, c, rfl, rfl⟩ := hat
  obtain ⟨hB, bss, hN, hltb, hO, hA⟩ := hs
  obtain ⟨l1, bs, l2, rfl, hl, ho, hput⟩ := Own.split m hO hm
  obtain ⟨g', c', cur, e, hb, hg', hc, hmx, hsz, hC⟩ := own_some ho (by omega)
  cases e
  have hR := hf.get_ (hC.2 _ _ h2)
  generalize hvs : ((((cur.toList.take (xs.length * A.sz)).drop (i.toNat * A.sz)).take A.sz).drop off).take F.sz = vs at hR
  have hlen := F.len hR
  have hcell : ∀ k u, vs[k]? = some u → w.cell? ⟨g, i.toNat * A.sz + off + k, none⟩ = some u := by
    intro k u hu
    rw [← hvs, List.getElem?_take] at hu
    split at hu
    · rw [List.getElem?_drop, List.getElem?_take] at hu
      split at hu
      · rw [List.getElem?_drop, List.getElem?_take] at hu
        split at hu
        · simp only [World.cell?, hg']
          rw [Nat.add_assoc]
          simpa using hu
        · cases hu
      · cases hu
    · cases hu
  have hload : (loadVar t ⟨g, i.toNat * A.sz + off, none⟩).run P w = .ok (bif F.agg then .agg vs.toArray else vs.getD 0 undef) w := by
    rcases hag : F.agg with _ | _
    · have hsz1 := h1.resolve_left (by simp [hag])
      rw [hag] at ht
      match vs, hlen, hcell with
      | [], hl, _ => simp [hsz1] at hl
      | c :: cs', hl, hc => exact run_loadVar1 ht (hc 0 c rfl)
    · rw [hag] at ht
      exact run_loadVarN ht hlen hcell
  exact WL.load_ hx hload (K _ ⟨hB, _, hN, hltb, hO, fun it hit => by
    rcases List.mem_cons.1 hit with rfl | hit
    · exact V_one hR
    · exact hA it hit⟩) hg hd
theorem setAt_in (cs vs : List Value) (p off sz : Nat) (h1 : off + vs.length ≤ sz) (h2 : p + sz ≤ cs.length) :
    setAt cs (p + off) vs = setAt cs p (((cs.drop p).take sz).take off ++ vs ++ ((cs.drop p).take sz).drop (off + vs.length)) := by
  have hl : (((cs.drop p).take sz).take off ++ vs ++ ((cs.drop p).take sz).drop (off + vs.length)).length = sz := by
    simp only [List.length_append, List.length_take, List.length_drop]
    omega
  rw [setAt_eq _ _ _ (by omega), setAt_eq _ _ _ (by omega), hl]
  rw [List.take_take, Nat.min_eq_left (by omega), List.drop_take, List.drop_drop]
  have e1 : cs.take (p + off) = cs.take p ++ (cs.drop p).take off := by rw [List.take_add]
  have e2 : cs.drop (p + off + vs.length) = (cs.drop (p + (off + vs.length))).take (sz - (off + vs.length)) ++ cs.drop (p + sz) := by
    have := (List.take_append_drop (sz - (off + vs.length)) (cs.drop (p + (off + vs.length)))).symm
    rw [List.drop_drop, show p + (off + vs.length) + (sz - (off + vs.length)) = p + sz by omega] at this
    rw [Nat.add_assoc]
    exact this
  rw [e1, e2]
  simp only [List.append_assoc]
theorem WL.storeOF {α β : Type} {A : Ty α} {F : Ty β} {off : Nat} {get : α → β} {set : α → β → α} (hf : Fld A F off get set) {xs zs : List α} {yo : α} {z : β} {t E : TypeId} {a x : Operand} {v u : Value} {i : Int} {ad : Addr} {vs : List Value} {agg : Bool} (hs : St ok0 w0 w Γ Λ) (m : Nat) (hm : Λ[m]? = some (own A E v xs))
    (ht : TI P t agg F.sz) (hat : OwnAtF A.sz off v i ad) (hi : idx xs i = some yo) (ha : ρ.ev a = .pointer (some ad)) (hx : ρ.ev x = u) (hu : u.cells = vs.toArray) (hR : ∀ ok, All ok w Γ → F.R ok w z vs) (hz : xs.set i.toNat (set yo z) = zs)
    (K : ∀ w', St ok0 w0 w' Γ (Λ.set m (own A E v zs)) → WL P N ops Q rest (putE ρ d undef) w')
    (hg : wantedE ops ρ ⟨d, .store t a x, ty, pos, aft, gd⟩ = true := by rfl) (hd : fits N d = true := by rfl) :
    WL P N ops Q (⟨d, .store t a x, ty, pos, aft, gd⟩ :: rest) ρ w := by
  obtain ⟨h0, hlt, h2⟩ := idx_some hi
  obtain ⟨g, n, c, rfl, rfl⟩ := hat
  obtain ⟨ok, bs, ho, hA, hn, hbs, hput⟩ := hs.split m hm
  obtain ⟨g', c', cur, e, hb, hg', hc, hmx, hsz, hC⟩ := own_some ho (by omega)
  cases e
  have hy := hR ok hA
  have hl := F.len hy
  have hle := hf.le
  have hbd : (i.toNat + 1) * A.sz ≤ xs.length * A.sz := Nat.mul_le_mul_right _ hlt
  rw [Nat.add_mul, Nat.one_mul] at hbd
  have hcur : xs.length * A.sz ≤ cur.size := by rw [hsz]; exact Nat.mul_le_mul_right _ hc
  have hrun := run_storeVar (P := P) ht (g := g) (j := i.toNat * A.sz + off) (cs := cur.toList) (T := E) (by simpa using hg') hu hl (F.one hy) (by rw [Array.length_toList]; omega)
  refine WL.unit hg hd (w' := setCells w g (i.toNat * A.sz + off) vs) (by
    show (do Instr.storeAt t (ρ.ev a) (ρ.ev x); pure Next.skip : Sem Next).run P w = _
    rw [ha, hx]
    exact exec_u ((run_bind (by rfl)).trans hrun)) (K _ ?_)
  have hnew := setCells_heap hg' (i.toNat * A.sz + off) vs
  refine hput _ [g] _ (by rw [hb]; exact off_setCells g vs w _) (by simp) (fun b hb' => ?_) fun ok' hm' => ?_
  · simp only [List.mem_singleton] at hb'
    subst hb'
    exact ⟨.inl (by rw [hb]; simp), lt_of_some hnew⟩
  · have hel := hC.2 _ _ h2
    have hnewR := hf.set_ hel hy
    have hC2 := (hC.set hnewR i.toNat hlt).move hm'
    rw [hz] at hC2
    have hzl : zs.length = xs.length := by rw [← hz, List.length_set]
    have hcl : (cur.toList.take (xs.length * A.sz)).length = xs.length * A.sz := by rw [List.length_take, Array.length_toList (xs := cur)]; omega
    have eq := setAt_in (cur.toList.take (xs.length * A.sz)) vs (i.toNat * A.sz) off A.sz (by omega) (by rw [hcl]; exact hbd)
    have hin : i.toNat * A.sz + off + vs.length ≤ xs.length * A.sz := by omega
    rw [hl] at eq
    rw [← eq] at hC2
    refine .inr ⟨by show 0 < c; omega, _, by simp [Value.ownBlock], ⟨hC2.1, .inr ⟨g, c, _, by rw [hzl], Nat.zero_le _, hnew, by rw [hzl]; exact hc, hmx, by simp [setAt_length, hsz], ?_⟩⟩, hC2⟩
    rw [hzl, List.toList_toArray, setAt_take _ _ _ _ hin]
end
end Go.Proofs.YtpfgdjfiimknlaaGreatL
set_option linter.unusedVariables false
set_option linter.unusedSimpArgs false
namespace Go.Proofs.YtpfgdjfiimknlaaGreat
open Go Go.RowKit Go.Proofs.YtpfgdjfiimknlaaGreatL
set_option maxRecDepth 100000
set_option maxHeartbeats 4000000
theorem esref32_EqualStrings.calls {ok : Nat → Prop} {w0 : World} {x1 : List (List UInt8)} {x4 : List (List UInt8)} {a2 : Option Addr} {c3 : Nat} {a5 : Option Addr} {c6 : Nat} {r : Bool} (hf : esref32_EqualStrings x1 x4 = some r) (i0 : (vl (tSlice tStr) x1 (.slice a2 x1.length c3)).holds ok w0) (i1 : (vl (tSlice tStr) x4 (.slice a5 x4.length c6)).holds ok w0) :
    Calls Tryz.prog 21 #[.slice a2 x1.length c3, .slice a5 x4.length c6] w0 fun e w' => ∃ v, e = .returned v ∧ ∃ y : Unit, v = .bool r ∧ St ok (bz w0) w' [] [] := by
  unfold esref32_EqualStrings at hf
  refine calls_of_W (fn := Tryz.f21) (N := 26) Tryz.func21 rfl Tryz.ntmps21 rfl ?_
  have hs : St ok (bz w0) w0 [vl (tSlice tStr) x1 (.slice a2 x1.length c3), vl (tSlice tStr) x4 (.slice a5 x4.length c6)] [] := St.init (All.cons i0 (All.cons i1 All.nil))
  clear i0 i1
  refine W.seqK fun K7 hK7 => ?_
  refine W.region ?_
  refine WL.assign (v := .bool false) rfl ?_
  refine WL.nil ?_
  refine hK7 _ _ ?_
  refine W.seqK fun K8 hK8 => ?_
  refine W.seqK fun K9 hK9 => ?_
  refine W.region ?_
  refine WL.move (v := .slice a2 x1.length c3) rfl ?_
  refine WL.len (v := .slice a2 x1.length c3) rfl (len_slice UN56) ?_
  refine WL.move (v := .slice a5 x4.length c6) rfl ?_
  refine WL.len (v := .slice a5 x4.length c6) rfl (len_slice UN56) ?_
  refine WL.bin (v := .bool ((x1.length : Int) != (x4.length : Int))) rfl rfl (ib_neq _ _ _) ?_
  refine WL.nil ?_
  refine hK9 _ _ ?_
  rcases iteE hf with ⟨hc10, hf⟩ | ⟨hc10, hf⟩
  {
  refine W.cond_true (bool_tr rfl hc10) ?_
  refine W.seqK fun K11 hK11 => ?_
  refine W.region ?_
  refine WL.assign (v := .bool false) rfl ?_
  refine WL.nil ?_
  refine hK11 _ _ ?_
  refine W.ret ?_
  have hr := Option.some.inj hf; subst hr
  exact ⟨_, resOk_one rfl rfl, (), rfl, (hs.mask []).pick []⟩ }
  {
  refine W.cond_false (bool_tr rfl hc10) ?_
  refine W.skip ?_
  refine hK8 _ _ ?_
  refine W.seqK fun K12 hK12 => ?_
  have Jk14 : ∀  (ρ : Env) (w : World), St ok (bz w0) w [] [] → esref32_EqualStrings.j1 = some r → K12 ρ w := by
    intro  ρ w  hs hf
    refine hK12 _ _ ?_
    unfold esref32_EqualStrings.j1 at hf
    refine W.seqK fun K15 hK15 => ?_
    refine W.region ?_
    refine WL.assign (v := .bool true) rfl ?_
    refine WL.nil ?_
    refine hK15 _ _ ?_
    refine W.ret ?_
    have hr := Option.some.inj hf; subst hr
    exact ⟨_, resOk_one rfl rfl, (), rfl, (hs.mask []).pick []⟩
  refine W.seqK fun K16 hK16 => ?_
  refine W.region ?_
  refine WL.assign (v := .int .i64 0) rfl ?_
  refine WL.nil ?_
  refine hK16 _ _ ?_
  refine W.block ?_
  obtain ⟨bs19, hbs19, hfs19⟩ := bindE hf
  refine W.loop hbs19 (fun s ρ w => match s with | x18 => ρ 0 = .slice a2 x1.length c3 ∧ ρ 1 = .slice a5 x4.length c6 ∧ ρ 5 = .int .i64 x18 ∧ St ok (bz w0) w [vl (tSlice tStr) x1 (.slice a2 x1.length c3), vl (tSlice tStr) x4 (.slice a5 x4.length c6)] []) ⟨rfl, rfl, rfl, (hs.mask []).pick [0, 1]⟩ ?_
  intro x18 ρ w os19 hI hf hbbs19
  obtain ⟨h17_0, h17_1, h17_5, hs⟩ := hI
  unfold esref32_EqualStrings.l1 at hf
  refine W.seqK fun K20 hK20 => ?_
  refine W.seqK fun K21 hK21 => ?_
  refine W.region ?_
  refine WL.move (v := .int .i64 x18) h17_5 ?_
  refine WL.move (v := .slice a2 x1.length c3) h17_0 ?_
  refine WL.len (v := .slice a2 x1.length c3) rfl (len_slice UN56) ?_
  refine WL.bin (v := .bool (decide (x18 < (x1.length : Int)))) rfl rfl (ib_lss _ _ _) ?_
  refine WL.nil ?_
  refine hK21 _ _ ?_
  rcases iteE hf with ⟨hc22, hf⟩ | ⟨hc22, hf⟩
  {
  refine W.cond_true (bool_tr rfl hc22) ?_
  refine W.skip ?_
  refine hK20 _ _ ?_
  refine W.seqK fun K23 hK23 => ?_
  refine W.block ?_
  refine W.seqK fun K24 hK24 => ?_
  obtain ⟨x25, hxx25, hf⟩ := bindE hf
  obtain ⟨x28, hxx28, hf⟩ := bindE hf
  refine W.any (by kernel_rfl) 9 0 [true, true, true, true, true, true, true, true, true] rfl rfl (poAt [pv (.slice a2 x1.length c3), pv (.int .i64 x18), pq (fun y : Addr => .pointer (some y)) (fun v => [pl tStr x25 (adOf v)]) (fun v => []), pv (bstr x25), pv (.slice a5 x4.length c6), pv (.int .i64 x18), pq (fun y : Addr => .pointer (some y)) (fun v => [pl tStr x28 (adOf v)]) (fun v => []), pv (bstr x28), pv (.bool (x25 != x28))]) (Λ := []) hs (by kernel_rfl) (by kernel_rfl) (by kernel_rfl) ⟨⟨⟨⟨⟨⟨⟨⟨⟨trivial, ?_⟩, ?_⟩, ?_⟩, ?_⟩, ?_⟩, ?_⟩, ?_⟩, ?_⟩, ?_⟩ ?_
  {
  intro ρ w Γx Λx hs hu hp
  refine WL.move (v := .slice a2 x1.length c3) ((hu 0 rfl).trans h17_0) ?_
  exact WL.nil ⟨rfl, _, rfl, rfl, hs.cutG 0 0⟩ }
  {
  intro ρ w Γx Λx hs hu hp
  refine WL.move (v := .int .i64 x18) ((hu 5 rfl).trans h17_5) ?_
  exact WL.nil ⟨rfl, _, rfl, rfl, hs.cutG 0 0⟩ }
  {
  intro ρ w Γx Λx hs hu hp
  have e31 : ρ 17 = .slice a2 x1.length c3 := (hp 0 rfl).1
  have e32 : ρ 18 = .int .i64 x18 := (hp 1 rfl).1
  refine WL.indexAddr hs (Γx.length + 0) (getApp rfl) UN56 TI9 e31 e32 hxx25 (fun ad26 hs => ?_)
  have hs := hs.add (it := pl tStr x25 ad26) fun ok hA => hA.get 0 rfl
  exact WL.nil ⟨rfl, _, rfl, ⟨ad26, rfl⟩, hs.cutG 1 1⟩ }
  {
  intro ρ w Γx Λx hs hu hp
  obtain ⟨⟨ad33, e34r⟩, hm35⟩ := hp 2 rfl
  have e34 : ρ 19 = .pointer (some ad33) := e34r
  rw [e34r] at hm35
  have hs := hs.memo1 (it := pl tStr x25 ad33) (List.mem_append.2 (.inl (hm35 _ (List.mem_of_getElem? (i := 0) rfl))))
  refine WL.loadP hs 0 rfl TI9 (.inr rfl) e34 (fun v27 hs => ?_)
  obtain rfl := hs.str 0 rfl
  exact WL.nil ⟨rfl, _, rfl, rfl, hs.cutG 0 2⟩ }
  {
  intro ρ w Γx Λx hs hu hp
  refine WL.move (v := .slice a5 x4.length c6) ((hu 1 rfl).trans h17_1) ?_
  exact WL.nil ⟨rfl, _, rfl, rfl, hs.cutG 0 0⟩ }
  {
  intro ρ w Γx Λx hs hu hp
  refine WL.move (v := .int .i64 x18) ((hu 5 rfl).trans h17_5) ?_
  exact WL.nil ⟨rfl, _, rfl, rfl, hs.cutG 0 0⟩ }
  {
  intro ρ w Γx Λx hs hu hp
  have e36 : ρ 21 = .slice a5 x4.length c6 := (hp 4 rfl).1
  have e37 : ρ 22 = .int .i64 x18 := (hp 5 rfl).1
  refine WL.indexAddr hs (Γx.length + 1) (getApp rfl) UN56 TI9 e36 e37 hxx28 (fun ad29 hs => ?_)
  have hs := hs.add (it := pl tStr x28 ad29) fun ok hA => hA.get 0 rfl
  exact WL.nil ⟨rfl, _, rfl, ⟨ad29, rfl⟩, hs.cutG 1 1⟩ }
  {
  intro ρ w Γx Λx hs hu hp
  obtain ⟨⟨ad38, e39r⟩, hm40⟩ := hp 6 rfl
  have e39 : ρ 23 = .pointer (some ad38) := e39r
  rw [e39r] at hm40
  have hs := hs.memo1 (it := pl tStr x28 ad38) (List.mem_append.2 (.inl (hm40 _ (List.mem_of_getElem? (i := 0) rfl))))
  refine WL.loadP hs 0 rfl TI9 (.inr rfl) e39 (fun v30 hs => ?_)
  obtain rfl := hs.str 0 rfl
  exact WL.nil ⟨rfl, _, rfl, rfl, hs.cutG 0 2⟩ }
  {
  intro ρ w Γx Λx hs hu hp
  have e41 : ρ 20 = bstr x25 := (hp 3 rfl).1
  have e42 : ρ 24 = bstr x28 := (hp 7 rfl).1
  refine WL.binS (v := .bool (x25 != x28)) e41 e42 (sb_neq _ _) ?_
  exact WL.nil ⟨rfl, _, rfl, rfl, hs.cutG 0 0⟩ }
  {
  intro ρ w hs hu43 hp
  obtain ⟨⟨⟨⟨⟨⟨⟨⟨⟨_, hp0_⟩, hp1_⟩, hp2_⟩, hp3_⟩, hp4_⟩, hp5_⟩, hp6_⟩, hp7_⟩, hp8_⟩ := hp
  have hs : St ok (bz w0) w [pl tStr x28 (adOf (ρ 23)), pl tStr x25 (adOf (ρ 19)), vl (tSlice tStr) x1 (.slice a2 x1.length c3), vl (tSlice tStr) x4 (.slice a5 x4.length c6)] [] := hs
  have e44 : ρ 25 = .bool (x25 != x28) := hp8_
  have e45 : ρ 24 = bstr x28 := hp7_
  obtain ⟨ad46, e47⟩ := hp6_
  have e47 : ρ 23 = .pointer (some ad46) := e47
  try rw [e47] at hs
  have e48 : ρ 22 = .int .i64 x18 := hp5_
  have e49 : ρ 21 = .slice a5 x4.length c6 := hp4_
  have e50 : ρ 20 = bstr x25 := hp3_
  obtain ⟨ad51, e52⟩ := hp2_
  have e52 : ρ 19 = .pointer (some ad51) := e52
  try rw [e52] at hs
  have e53 : ρ 18 = .int .i64 x18 := hp1_
  have e54 : ρ 17 = .slice a2 x1.length c3 := hp0_
  refine WA.done (by kernel_rfl) ?_
  refine hK24 _ _ ?_
  rcases iteE hf with ⟨hc55, hf⟩ | ⟨hc55, hf⟩
  {
  refine W.cond_true (bool_tr e44 hc55) ?_
  refine W.seqK fun K56 hK56 => ?_
  refine W.region ?_
  refine WL.assign (v := .bool false) rfl ?_
  refine WL.nil ?_
  refine hK56 _ _ ?_
  refine W.ret ?_
  have hr := Option.some.inj hf; subst hr
  have hr := hbbs19 _ rfl; subst hr
  have hf := hfs19
  have hr := Option.some.inj hf; subst hr
  exact ⟨_, resOk_one rfl rfl, (), rfl, (hs.mask []).pick []⟩ }
  {
  refine W.cond_false (bool_tr e44 hc55) ?_
  refine W.skip ?_
  refine hK23 _ _ ?_
  refine W.region ?_
  refine WL.move (v := .int .i64 x18) ((hu43 5 rfl).trans h17_5) ?_
  obtain ⟨x57, ex57, hf⟩ := letE hf
  refine WL.bin (v := .int .i64 x57) rfl rfl (ib_as ex57 (ib_add _ _ _)) ?_
  refine WL.assign (v := .int .i64 x57) rfl ?_
  refine WL.nil ?_
  exact ⟨_, (Option.some.inj hf).symm, ((hu43 0 rfl).trans h17_0), ((hu43 1 rfl).trans h17_1), rfl, (hs.mask []).pick [2, 3]⟩ } } }
  {
  refine W.cond_false (bool_tr rfl hc22) ?_
  refine W.exit ?_
  have hr := Option.some.inj hf; subst hr
  have hr := hbbs19 _ rfl; subst hr
  have hf := hfs19
  exact Jk14  _ _  ((hs.mask []).pick []) hf } }
end Go.Proofs.YtpfgdjfiimknlaaGreat
