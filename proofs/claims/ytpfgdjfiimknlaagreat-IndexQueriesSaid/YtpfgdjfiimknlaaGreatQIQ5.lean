/- What the row leans on, as few texts. -/
import Derived.Test.YtpfgdjfiimknlaaGreatQIQ2
import Derived.Test.YtpfgdjfiimknlaaGreatQIQ3
import Derived.Test.YtpfgdjfiimknlaaGreatQIQ1
import Derived.Test.YtpfgdjfiimknlaaGreatQIQ4
set_option linter.unusedVariables false
set_option linter.unusedSimpArgs false
namespace Go.Proofs.YtpfgdjfiimknlaaGreat
open Go Go.RowKit Go.Proofs.YtpfgdjfiimknlaaGreatL
set_option maxRecDepth 100000
set_option maxHeartbeats 4000000
theorem eslaw00_Index.calls {ok : Nat → Prop} {w0 : World} {x1 : Int} {x2 : Int}  {r : Int} (hf : eslaw00_Index x1 x2 = some r)  :
    Calls Tryz.prog 33 #[.int .i64 x1, .int .i64 x2] w0 fun e w' => ∃ v, e = .returned v ∧ ∃ y : Unit, v = .int .i64 r ∧ St ok (bz w0) w' [] [] := by
  unfold eslaw00_Index at hf
  refine calls_of_W (fn := Tryz.f33) (N := 14) Tryz.func33 rfl Tryz.ntmps33 rfl ?_
  have hs : St ok (bz w0) w0 [] [] := St.init All.nil
  refine W.seqK fun K3 hK3 => ?_
  refine W.region ?_
  refine WL.assign (v := .int .i64 0) rfl ?_
  refine WL.nil ?_
  refine hK3 _ _ ?_
  refine W.seqK fun K4 hK4 => ?_
  refine W.seqK fun K5 hK5 => ?_
  refine W.region ?_
  refine WL.move (v := .int .i64 x2) rfl ?_
  refine WL.bin (v := .bool (decide (x2 < 1))) rfl rfl (ib_lss _ _ _) ?_
  refine WL.nil ?_
  refine hK5 _ _ ?_
  rcases iteE hf with ⟨hc6, hf⟩ | ⟨hc6, hf⟩
  {
  refine W.cond_true (bool_tr rfl hc6) ?_
  refine W.seqK fun K7 hK7 => ?_
  refine W.region ?_
  refine WL.assign (v := .int .i64 0) rfl ?_
  refine WL.nil ?_
  refine hK7 _ _ ?_
  refine W.ret ?_
  have hr := Option.some.inj hf; subst hr
  exact ⟨_, resOk_one rfl rfl, (), rfl, (hs.mask []).pick []⟩ }
  {
  refine W.cond_false (bool_tr rfl hc6) ?_
  refine W.skip ?_
  refine hK4 _ _ ?_
  refine W.seqK fun K8 hK8 => ?_
  refine W.region ?_
  refine WL.move (v := .int .i64 x1) rfl ?_
  refine WL.move (v := .int .i64 x2) rfl ?_
  obtain ⟨hn9, hf⟩ := guardE hf
  refine WL.bin (v := .int .i64 (Int.tmod x1 x2)) rfl rfl (ib_rem _ _ _ hn9) ?_
  refine WL.move (v := .int .i64 x2) rfl ?_
  obtain ⟨x10, ex10, hf⟩ := letE hf
  refine WL.bin (v := .int .i64 x10) rfl rfl (ib_as ex10 (ib_add _ _ _)) ?_
  refine WL.move (v := .int .i64 x2) rfl ?_
  obtain ⟨hn11, hf⟩ := guardE hf
  refine WL.bin (v := .int .i64 (Int.tmod x10 x2)) rfl rfl (ib_rem _ _ _ hn11) ?_
  refine WL.assign (v := .int .i64 (Int.tmod x10 x2)) rfl ?_
  refine WL.nil ?_
  refine hK8 _ _ ?_
  refine W.ret ?_
  have hr := Option.some.inj hf; subst hr
  exact ⟨_, resOk_one rfl rfl, (), rfl, (hs.mask []).pick []⟩ }
theorem eslaw00_Digit.calls {ok : Nat → Prop} {w0 : World} {x1 : Int} {x2 : Int} {x3 : Int}  {r : Int} (hf : eslaw00_Digit x1 x2 x3 = some r)  :
    Calls Tryz.prog 31 #[.int .i64 x1, .int .i64 x2, .int .i64 x3] w0 fun e w' => ∃ v, e = .returned v ∧ ∃ y : Unit, v = .int .i64 r ∧ St ok (bz w0) w' [] [] := by
  unfold eslaw00_Digit at hf
  refine calls_of_W (fn := Tryz.f31) (N := 22) Tryz.func31 rfl Tryz.ntmps31 rfl ?_
  have hs : St ok (bz w0) w0 [] [] := St.init All.nil
  refine W.seqK fun K4 hK4 => ?_
  refine W.region ?_
  refine WL.assign (v := .int .i64 0) rfl ?_
  refine WL.nil ?_
  refine hK4 _ _ ?_
  refine W.seqK fun K5 hK5 => ?_
  refine W.region ?_
  refine WL.move (v := .int .i64 x1) rfl ?_
  obtain ⟨x6, hxx6, hf⟩ := bindE hf
  refine WL.call (vs := [.int .i64 x1, .int .i64 1099511627776]) hs FN33 ⟨rfl, ⟨rfl, trivial⟩⟩ (fun ok hA => eslaw00_Index.calls (x1 := x1) (x2 := 1099511627776) hxx6) ?_
  rintro _ w hs
  refine WL.assign (v := .int .i64 x6) rfl ?_
  refine WL.nil ?_
  refine hK5 _ _ ?_
  refine W.seqK fun K7 hK7 => ?_
  have Jk10 : ∀ (x9 : Int) (ρ : Env) (w : World), ρ 1 = .int .i64 x2 → ρ 7 = .int .i64 x9 → St ok (bz w0) w [] [] → eslaw00_Digit.j1 x2 x9 = some r → K7 ρ w := by
    intro x9 ρ w h8_1 h8_7 hs hf
    refine hK7 _ _ ?_
    unfold eslaw00_Digit.j1 at hf
    refine W.seqK fun K11 hK11 => ?_
    refine W.region ?_
    refine WL.move (v := .int .i64 x9) h8_7 ?_
    refine WL.move (v := .int .i64 x2) h8_1 ?_
    obtain ⟨hn12, hf⟩ := guardE hf
    refine WL.bin (v := .int .i64 (Int.tmod x9 x2)) rfl rfl (ib_rem _ _ _ hn12) ?_
    refine WL.assign (v := .int .i64 (Int.tmod x9 x2)) rfl ?_
    refine WL.nil ?_
    refine hK11 _ _ ?_
    refine W.ret ?_
    have hr := Option.some.inj hf; subst hr
    exact ⟨_, resOk_one rfl rfl, (), rfl, (hs.mask []).pick []⟩
  refine W.seqK fun K13 hK13 => ?_
  refine W.region ?_
  refine WL.assign (v := .int .i64 0) rfl ?_
  refine WL.nil ?_
  refine hK13 _ _ ?_
  refine W.block ?_
  obtain ⟨bs17, hbs17, hfs17⟩ := bindE hf
  refine W.loop hbs17 (fun s ρ w => match s with | (x15, x16) => ρ 1 = .int .i64 x2 ∧ ρ 2 = .int .i64 x3 ∧ ρ 7 = .int .i64 x15 ∧ ρ 8 = .int .i64 x16 ∧ St ok (bz w0) w [] []) ⟨rfl, rfl, rfl, rfl, (hs.mask []).pick []⟩ ?_
  intro s ρ w os17 hI hf hbbs17
  obtain ⟨x15, x16⟩ := s
  obtain ⟨h14_1, h14_2, h14_7, h14_8, hs⟩ := hI
  unfold eslaw00_Digit.l1 at hf
  refine W.seqK fun K18 hK18 => ?_
  refine W.seqK fun K19 hK19 => ?_
  refine W.region ?_
  refine WL.move (v := .int .i64 x16) h14_8 ?_
  refine WL.move (v := .int .i64 x3) h14_2 ?_
  refine WL.bin (v := .bool (decide (x16 < x3))) rfl rfl (ib_lss _ _ _) ?_
  refine WL.nil ?_
  refine hK19 _ _ ?_
  rcases iteE hf with ⟨hc20, hf⟩ | ⟨hc20, hf⟩
  {
  refine W.cond_true (bool_tr rfl hc20) ?_
  refine W.skip ?_
  refine hK18 _ _ ?_
  refine W.seqK fun K21 hK21 => ?_
  refine W.block ?_
  refine W.region ?_
  refine WL.move (v := .int .i64 x15) h14_7 ?_
  refine WL.move (v := .int .i64 x2) h14_1 ?_
  obtain ⟨hn23, hf⟩ := guardE hf
  obtain ⟨x22, ex22, hf⟩ := letE hf
  refine WL.bin (v := .int .i64 x22) rfl rfl (ib_as ex22 (ib_quo _ _ _ hn23)) ?_
  refine WL.assign (v := .int .i64 x22) rfl ?_
  refine WL.nil ?_
  refine hK21 _ _ ?_
  refine W.region ?_
  refine WL.move (v := .int .i64 x16) h14_8 ?_
  obtain ⟨x24, ex24, hf⟩ := letE hf
  refine WL.bin (v := .int .i64 x24) rfl rfl (ib_as ex24 (ib_add _ _ _)) ?_
  refine WL.assign (v := .int .i64 x24) rfl ?_
  refine WL.nil ?_
  exact ⟨_, (Option.some.inj hf).symm, h14_1, h14_2, rfl, rfl, (hs.mask []).pick []⟩ }
  {
  refine W.cond_false (bool_tr rfl hc20) ?_
  refine W.exit ?_
  have hr := Option.some.inj hf; subst hr
  have hr := hbbs17 _ rfl; subst hr
  have hf := hfs17
  exact Jk10 x15 _ _ h14_1 h14_7 ((hs.mask []).pick []) hf }
theorem eslaw32_field.calls {ok : Nat → Prop} {w0 : World} {x1 : Int}  {r : schema_Field} (hf : eslaw32_field x1 = some r)  :
    Calls Tryz.prog 11 #[.int .i64 x1] w0 fun e w' => ∃ v, e = .returned v ∧ ∃ y : List Value, v = .agg y.toArray ∧ St ok (bz w0) w' [vl t_schema_Field r (.agg y.toArray)] [] := by
  unfold eslaw32_field at hf
  refine calls_of_W (fn := Tryz.f11) (N := 30) Tryz.func11 rfl Tryz.ntmps11 rfl ?_
  have hs : St ok (bz w0) w0 [] [] := St.init All.nil
  refine W.seqK fun K2 hK2 => ?_
  refine W.region ?_
  refine WL.alloc hs ZV31 (fun g3 w hs => ?_)
  refine WL.nil ?_
  refine hK2 _ _ ?_
  refine W.seqK fun K4 hK4 => ?_
  obtain ⟨x7, hxx7, hf⟩ := bindE hf
  obtain ⟨x8, hxx8, hf⟩ := bindE hf
  obtain ⟨x11, hxx11, hf⟩ := bindE hf
  obtain ⟨x12, ex12, hf⟩ := letE hf
  refine W.any (by kernel_rfl) 10 1 [true, true, true, true, true, true, true, true, true, true, false] rfl rfl (poAt [pq (fun y : (Option Addr × Nat) => .slice y.1 ([([97] : List UInt8), ([98] : List UInt8), ([99] : List UInt8), ([120, 49] : List UInt8), ([110, 111, 110, 101] : List UInt8)]).length y.2) (fun v => [vl (tSlice tStr) ([([97] : List UInt8), ([98] : List UInt8), ([99] : List UInt8), ([120, 49] : List UInt8), ([110, 111, 110, 101] : List UInt8)]) v]) (fun v => []), pv (.int .i64 x1), pv (.int .i64 x7), pq (fun y : Addr => .pointer (some y)) (fun v => [pl tStr x8 (adOf v)]) (fun v => []), pv (bstr x8), pv (.int .i64 x1), pv (.int .i64 x11), pv (.int .i64 x12), pv (.agg ([bstr x8, .int .i64 x12, .int .i64 0, .int .i64 0] : List Value).toArray), pq (fun y : Nat => .pointer (some ⟨y, 0, none⟩)) (fun v => []) (fun v => [blk (gOf v) 31 ([bstr [], .int .i64 0, .int .i64 0, .int .i64 0])])]) (Λ := [blk g3 31 ([bstr [], .int .i64 0, .int .i64 0, .int .i64 0])]) hs (by kernel_rfl) (by kernel_rfl) (by kernel_rfl) ⟨⟨⟨⟨⟨⟨⟨⟨⟨⟨trivial, ?_⟩, ?_⟩, ?_⟩, ?_⟩, ?_⟩, ?_⟩, ?_⟩, ?_⟩, ?_⟩, ?_⟩ ?_
  {
  intro ρ w Γx Λx hs hu hp
  refine WL.buildSliceB (ys := [([97] : List UInt8), ([98] : List UInt8), ([99] : List UInt8), ([120, 49] : List UInt8), ([110, 111, 110, 101] : List UInt8)]) (n := 5) (vs := [(0, bstr ([97] : List UInt8)), (1, bstr ([98] : List UInt8)), (2, bstr ([99] : List UInt8)), (3, bstr ([120, 49] : List UInt8)), (4, bstr ([110, 111, 110, 101] : List UInt8))]) (cs := [bstr ([97] : List UInt8), bstr ([98] : List UInt8), bstr ([99] : List UInt8), bstr ([120, 49] : List UInt8), bstr ([110, 111, 110, 101] : List UInt8)]) hs ⟨⟨rfl, rfl⟩, ⟨⟨rfl, rfl⟩, ⟨⟨rfl, rfl⟩, ⟨⟨rfl, rfl⟩, ⟨⟨rfl, rfl⟩, trivial⟩⟩⟩⟩⟩ (bls PS56 (by decide) rfl) (fun ok hA => (Cells.app (Cells.one (T := tStr) rfl) (Cells.app (Cells.one (T := tStr) rfl) (Cells.app (Cells.one (T := tStr) rfl) (Cells.app (Cells.one (T := tStr) rfl) (Cells.one (T := tStr) rfl)))))) rfl (by decide) (fun a6 w hBl hs => ?_)
  have hs := hs.add (it := vl (tSlice tStr) ([([97] : List UInt8), ([98] : List UInt8), ([99] : List UInt8), ([120, 49] : List UInt8), ([110, 111, 110, 101] : List UInt8)]) (.slice a6 ([([97] : List UInt8), ([98] : List UInt8), ([99] : List UInt8), ([120, 49] : List UInt8), ([110, 111, 110, 101] : List UInt8)]).length 5)) fun ok hA => hA.get 0 rfl
  exact WL.nil ⟨rfl, _, rfl, ⟨(a6, 5), rfl⟩, hs.cutG 1 1⟩ }
  {
  intro ρ w Γx Λx hs hu hp
  refine WL.move (v := .int .i64 x1) (hu 0 rfl) ?_
  exact WL.nil ⟨rfl, _, rfl, rfl, hs.cutG 0 0⟩ }
  {
  intro ρ w Γx Λx hs hu hp
  have e14 : ρ 5 = .int .i64 x1 := (hp 1 rfl).1
  refine WL.call (vs := [.int .i64 x1, .int .i64 5, .int .i64 0]) hs FN31 ⟨e14, ⟨rfl, ⟨rfl, trivial⟩⟩⟩ (fun ok hA => eslaw00_Digit.calls (x1 := x1) (x2 := 5) (x3 := 0) hxx7) ?_
  rintro _ w hs
  exact WL.nil ⟨rfl, _, rfl, rfl, hs.cutG 0 0⟩ }
  {
  intro ρ w Γx Λx hs hu hp
  obtain ⟨⟨⟨a15, c16⟩, e17r⟩, hm18⟩ := hp 0 rfl
  have e17 : ρ 4 = .slice a15 ([([97] : List UInt8), ([98] : List UInt8), ([99] : List UInt8), ([120, 49] : List UInt8), ([110, 111, 110, 101] : List UInt8)]).length c16 := e17r
  rw [e17r] at hm18
  have hs := hs.memo1 (it := vl (tSlice tStr) ([([97] : List UInt8), ([98] : List UInt8), ([99] : List UInt8), ([120, 49] : List UInt8), ([110, 111, 110, 101] : List UInt8)]) (.slice a15 ([([97] : List UInt8), ([98] : List UInt8), ([99] : List UInt8), ([120, 49] : List UInt8), ([110, 111, 110, 101] : List UInt8)]).length c16)) (List.mem_append.2 (.inl (hm18 _ (List.mem_of_getElem? (i := 0) rfl))))
  have e19 : ρ 6 = .int .i64 x7 := (hp 2 rfl).1
  refine WL.indexAddr hs 0 rfl UN56 TI9 e17 e19 hxx8 (fun ad9 hs => ?_)
  have hs := hs.add (it := pl tStr x8 ad9) fun ok hA => hA.get 0 rfl
  exact WL.nil ⟨rfl, _, rfl, ⟨ad9, rfl⟩, hs.cutG 1 2⟩ }
  {
  intro ρ w Γx Λx hs hu hp
  obtain ⟨⟨ad20, e21r⟩, hm22⟩ := hp 3 rfl
  have e21 : ρ 7 = .pointer (some ad20) := e21r
  rw [e21r] at hm22
  have hs := hs.memo1 (it := pl tStr x8 ad20) (List.mem_append.2 (.inl (hm22 _ (List.mem_of_getElem? (i := 0) rfl))))
  refine WL.loadP hs 0 rfl TI9 (.inr rfl) e21 (fun v10 hs => ?_)
  obtain rfl := hs.str 0 rfl
  exact WL.nil ⟨rfl, _, rfl, rfl, hs.cutG 0 2⟩ }
  {
  intro ρ w Γx Λx hs hu hp
  refine WL.move (v := .int .i64 x1) (hu 0 rfl) ?_
  exact WL.nil ⟨rfl, _, rfl, rfl, hs.cutG 0 0⟩ }
  {
  intro ρ w Γx Λx hs hu hp
  have e23 : ρ 9 = .int .i64 x1 := (hp 5 rfl).1
  refine WL.call (vs := [.int .i64 x1, .int .i64 5, .int .i64 1]) hs FN31 ⟨e23, ⟨rfl, ⟨rfl, trivial⟩⟩⟩ (fun ok hA => eslaw00_Digit.calls (x1 := x1) (x2 := 5) (x3 := 1) hxx11) ?_
  rintro _ w hs
  exact WL.nil ⟨rfl, _, rfl, rfl, hs.cutG 0 0⟩ }
  {
  intro ρ w Γx Λx hs hu hp
  have e24 : ρ 10 = .int .i64 x11 := (hp 6 rfl).1
  refine WL.bin (v := .int .i64 x12) rfl e24 (ib_as ex12 (ib_add _ _ _)) ?_
  exact WL.nil ⟨rfl, _, rfl, rfl, hs.cutG 0 0⟩ }
  {
  intro ρ w Γx Λx hs hu hp
  have e25 : ρ 8 = bstr x8 := (hp 4 rfl).1
  have e26 : ρ 11 = .int .i64 x12 := (hp 7 rfl).1
  refine WL.build (vs := [(0, bstr x8), (1, .int .i64 x12)]) (cs := [bstr x8, .int .i64 x12, .int .i64 0, .int .i64 0]) ⟨⟨rfl, e25⟩, ⟨⟨rfl, e26⟩, trivial⟩⟩ (bld PL31 rfl) ?_
  exact WL.nil ⟨rfl, _, rfl, rfl, hs.cutG 0 0⟩ }
  {
  intro ρ w Γx Λx hs hu hp
  refine WL.alloc hs ZV31 (fun g13 w hs => ?_)
  exact WL.nil ⟨rfl, _, rfl, ⟨g13, rfl⟩, hs.cutG 0 0⟩ }
  {
  intro ρ w hs hu27 hp
  obtain ⟨⟨⟨⟨⟨⟨⟨⟨⟨⟨_, hp0_⟩, hp1_⟩, hp2_⟩, hp3_⟩, hp4_⟩, hp5_⟩, hp6_⟩, hp7_⟩, hp8_⟩, hp9_⟩ := hp
  have hs : St ok (bz w0) w [pl tStr x8 (adOf (ρ 7)), vl (tSlice tStr) ([([97] : List UInt8), ([98] : List UInt8), ([99] : List UInt8), ([120, 49] : List UInt8), ([110, 111, 110, 101] : List UInt8)]) (ρ 4)] [blk (gOf ((ρ 3))) 31 ([bstr [], .int .i64 0, .int .i64 0, .int .i64 0]), blk g3 31 ([bstr [], .int .i64 0, .int .i64 0, .int .i64 0])] := hs
  obtain ⟨g28, e29⟩ := hp9_
  have e29 : ρ 3 = .pointer (some ⟨g28, 0, none⟩) := e29
  try rw [e29] at hs
  have e30 : ρ 12 = .agg ([bstr x8, .int .i64 x12, .int .i64 0, .int .i64 0] : List Value).toArray := hp8_
  have e31 : ρ 11 = .int .i64 x12 := hp7_
  have e32 : ρ 10 = .int .i64 x11 := hp6_
  have e33 : ρ 9 = .int .i64 x1 := hp5_
  have e34 : ρ 8 = bstr x8 := hp4_
  obtain ⟨ad35, e36⟩ := hp3_
  have e36 : ρ 7 = .pointer (some ad35) := e36
  try rw [e36] at hs
  have e37 : ρ 6 = .int .i64 x7 := hp2_
  have e38 : ρ 5 = .int .i64 x1 := hp1_
  obtain ⟨⟨a39, c40⟩, e41⟩ := hp0_
  have e41 : ρ 4 = .slice a39 ([([97] : List UInt8), ([98] : List UInt8), ([99] : List UInt8), ([120, 49] : List UInt8), ([110, 111, 110, 101] : List UInt8)]).length c40 := e41
  try rw [e41] at hs
  refine WA.step [10] (by kernel_rfl) (by simp) ⟨?_, trivial⟩
  refine WL.storeAll (vs := [bstr x8, .int .i64 x12, .int .i64 0, .int .i64 0]) hs 0 rfl TI31 e29 e30 rfl rfl (ones_of rfl) rfl (fun w hs => ?_)
  refine WL.nil ⟨rfl, _, rfl, ?_⟩
  refine WA.done (by kernel_rfl) ?_
  refine hK4 _ _ ?_
  refine W.seqK fun K42 hK42 => ?_
  have Jk45 : ∀ (x44 : Int) (ρ : Env) (w : World), ρ 0 = .int .i64 x1 → ρ 2 = .pointer (some ⟨g3, 0, none⟩) → ρ 3 = .pointer (some ⟨g28, 0, none⟩) → St ok (bz w0) w [] [blk g28 31 [bstr x8, .int .i64 x44, .int .i64 0, .int .i64 0], blk g3 31 ([bstr [], .int .i64 0, .int .i64 0, .int .i64 0])] → eslaw32_field.j2 x1 x8 x44 = some r → K42 ρ w := by
    intro x44 ρ w h43_0 h43_2 h43_3 hs hf
    refine hK42 _ _ ?_
    unfold eslaw32_field.j2 at hf
    refine W.seqK fun K46 hK46 => ?_
    have Jk49 : ∀ (x48 : Int) (ρ : Env) (w : World), ρ 2 = .pointer (some ⟨g3, 0, none⟩) → ρ 3 = .pointer (some ⟨g28, 0, none⟩) → St ok (bz w0) w [] [blk g28 31 [bstr x8, .int .i64 x44, .int .i64 x48, .int .i64 0], blk g3 31 ([bstr [], .int .i64 0, .int .i64 0, .int .i64 0])] → eslaw32_field.j1 x8 x44 x48 = some r → K46 ρ w := by
      intro x48 ρ w h47_2 h47_3 hs hf
      refine hK46 _ _ ?_
      unfold eslaw32_field.j1 at hf
      refine W.seqK fun K50 hK50 => ?_
      refine W.region ?_
      refine WL.loadN (vs := [bstr x8, .int .i64 x44, .int .i64 x48, .int .i64 0]) hs 0 rfl TI31 h47_3 rfl rfl ?_
      refine WL.storeAll (vs := [bstr x8, .int .i64 x44, .int .i64 x48, .int .i64 0]) hs 1 rfl TI31 h47_2 rfl rfl rfl (ones_of rfl) rfl (fun w hs => ?_)
      refine WL.nil ?_
      refine hK50 _ _ ?_
      refine W.ret ?_
      have hr := Option.some.inj hf; subst hr
      have hs := hs.add (it := vl t_schema_Field (⟨x8, x44, x48, 0⟩ : schema_Field) (.agg [bstr x8, .int .i64 x44, .int .i64 x48, .int .i64 0].toArray)) fun ok hA => V_agg (show t_schema_Field.R ok _ _ _ from ⟨[bstr x8], [.int .i64 x44, .int .i64 x48, .int .i64 0], rfl, rfl, ⟨[.int .i64 x44], [.int .i64 x48, .int .i64 0], rfl, rfl, ⟨[.int .i64 x48], [.int .i64 0], rfl, rfl, rfl⟩⟩⟩) rfl
      exact ⟨_, resOk_one rfl (res_all hs 1 rfl TI31 h47_2 rfl), [bstr x8, .int .i64 x44, .int .i64 x48, .int .i64 0], rfl, (hs.mask []).pick [0]⟩
    refine W.seqK fun K51 hK51 => ?_
    refine W.region ?_
    refine WL.fieldAddr (m := 1) h43_3 FA31_1 rfl ?_
    refine WL.load1 (v := .int .i64 x44) hs 0 rfl TI3 rfl rfl ?_
    refine WL.bin (v := .bool (x44 == 1)) rfl rfl (ib_eql _ _ _) ?_
    refine WL.nil ?_
    refine hK51 _ _ ?_
    rcases iteE hf with ⟨hc52, hf⟩ | ⟨hc52, hf⟩
    {
    refine W.cond_true (bool_tr rfl hc52) ?_
    refine W.region ?_
    refine WL.move (v := .int .i64 x1) h43_0 ?_
    obtain ⟨x53, hxx53, hf⟩ := bindE hf
    refine WL.call (vs := [.int .i64 x1, .int .i64 2, .int .i64 8]) hs FN31 ⟨rfl, ⟨rfl, ⟨rfl, trivial⟩⟩⟩ (fun ok hA => eslaw00_Digit.calls (x1 := x1) (x2 := 2) (x3 := 8) hxx53) ?_
    rintro _ w hs
    obtain ⟨x54, ex54, hf⟩ := letE hf
    refine WL.bin (v := .int .i64 x54) rfl rfl (ib_as ex54 (ib_add _ _ _)) ?_
    refine WL.fieldAddr (m := 2) h43_3 FA31_2 rfl ?_
    refine WL.store (vs := [.int .i64 x54]) (cs' := [bstr x8, .int .i64 x44, .int .i64 x54, .int .i64 0]) hs 0 rfl TI3 rfl rfl rfl rfl (ones_of rfl) (Nat.le_of_ble_eq_true rfl) rfl (fun w hs => ?_)
    refine WL.nil ?_
    exact Jk49 x54 _ _ h43_2 h43_3 ((hs.mask [true, true]).pick []) hf }
    {
    refine W.cond_false (bool_tr rfl hc52) ?_
    refine W.skip ?_
    exact Jk49 0 _ _ h43_2 h43_3 ((hs.mask [true, true]).pick []) hf }
  refine W.seqK fun K55 hK55 => ?_
  refine W.region ?_
  refine WL.move (v := .int .i64 x1) (hu27 0 rfl) ?_
  obtain ⟨x56, hxx56, hf⟩ := bindE hf
  refine WL.call (vs := [.int .i64 x1, .int .i64 3, .int .i64 4]) hs FN31 ⟨rfl, ⟨rfl, ⟨rfl, trivial⟩⟩⟩ (fun ok hA => eslaw00_Digit.calls (x1 := x1) (x2 := 3) (x3 := 4) hxx56) ?_
  rintro _ w hs
  refine WL.bin (v := .bool (decide (0 < x56))) rfl rfl (ib_gtr _ _ _) ?_
  refine WL.nil ?_
  refine hK55 _ _ ?_
  rcases iteE hf with ⟨hc57, hf⟩ | ⟨hc57, hf⟩
  {
  refine W.cond_true (bool_tr rfl hc57) ?_
  refine W.region ?_
  refine WL.buildSlice (n := 2) (vs := [(0, .int .i64 1), (1, .int .i64 4)]) (cs := [.int .i64 1, .int .i64 4]) hs ⟨⟨rfl, rfl⟩, ⟨⟨rfl, rfl⟩, trivial⟩⟩ (bls PS22 (by decide) rfl) (fun g58 w hs => ?_)
  refine WL.move (v := .int .i64 x1) (hu27 0 rfl) ?_
  obtain ⟨x59, hxx59, hf⟩ := bindE hf
  refine WL.call (vs := [.int .i64 x1, .int .i64 2, .int .i64 6]) hs FN31 ⟨rfl, ⟨rfl, ⟨rfl, trivial⟩⟩⟩ (fun ok hA => eslaw00_Digit.calls (x1 := x1) (x2 := 2) (x3 := 6) hxx59) ?_
  rintro _ w hs
  have hs := hs.ownLit (A := tInt .i64) (xs := [1, 4]) 0 rfl (fun ok hA => (Cells.app (Cells.one (T := tInt .i64) rfl) (Cells.one (T := tInt .i64) rfl))) (Nat.le_of_ble_eq_true rfl)
  have hs := hs.freezeOwn 0 rfl
  obtain ⟨x60, hxx60, hf⟩ := bindE hf
  refine WL.indexAddr hs 0 rfl UN22 TI3 rfl rfl hxx60 (fun ad61 hs => ?_)
  refine WL.loadP hs 0 rfl TI3 (.inr rfl) rfl (fun v62 hs => ?_)
  obtain rfl := hs.int 0 rfl
  refine WL.fieldAddr (m := 1) e29 FA31_1 rfl ?_
  refine WL.store (vs := [.int .i64 x60]) (cs' := [bstr x8, .int .i64 x60, .int .i64 0, .int .i64 0]) hs 0 rfl TI3 rfl rfl rfl rfl (ones_of rfl) (Nat.le_of_ble_eq_true rfl) rfl (fun w hs => ?_)
  refine WL.nil ?_
  exact Jk45 x60 _ _ (hu27 0 rfl) (hu27 2 rfl) e29 ((hs.mask [true, true]).pick []) hf }
  {
  refine W.cond_false (bool_tr rfl hc57) ?_
  refine W.skip ?_
  exact Jk45 x12 _ _ (hu27 0 rfl) (hu27 2 rfl) e29 ((hs.mask [true, true]).pick []) hf } }
theorem eslaw00_name.calls {ok : Nat → Prop} {w0 : World} {x1 : Int}  {r : List UInt8} (hf : eslaw00_name x1 = some r)  :
    Calls Tryz.prog 79 #[.int .i64 x1] w0 fun e w' => ∃ v, e = .returned v ∧ ∃ y : Unit, v = bstr r ∧ St ok (bz w0) w' [] [] := by
  unfold eslaw00_name at hf
  refine calls_of_W (fn := Tryz.f79) (N := 8) Tryz.func79 rfl Tryz.ntmps79 rfl ?_
  have hs : St ok (bz w0) w0 [] [] := St.init All.nil
  refine W.seqK fun K2 hK2 => ?_
  refine W.region ?_
  refine WL.assign (v := bstr ([] : List UInt8)) rfl ?_
  refine WL.nil ?_
  refine hK2 _ _ ?_
  refine W.seqK fun K3 hK3 => ?_
  refine W.region ?_
  refine WL.buildSlice (n := 4) (vs := [(0, bstr ([97] : List UInt8)), (1, bstr ([98] : List UInt8)), (2, bstr ([99] : List UInt8)), (3, bstr ([120, 49] : List UInt8))]) (cs := [bstr ([97] : List UInt8), bstr ([98] : List UInt8), bstr ([99] : List UInt8), bstr ([120, 49] : List UInt8)]) hs ⟨⟨rfl, rfl⟩, ⟨⟨rfl, rfl⟩, ⟨⟨rfl, rfl⟩, ⟨⟨rfl, rfl⟩, trivial⟩⟩⟩⟩ (bls PS56 (by decide) rfl) (fun g4 w hs => ?_)
  refine WL.move (v := .int .i64 x1) rfl ?_
  obtain ⟨x5, hxx5, hf⟩ := bindE hf
  refine WL.call (vs := [.int .i64 x1, .int .i64 4]) hs FN33 ⟨rfl, ⟨rfl, trivial⟩⟩ (fun ok hA => eslaw00_Index.calls (x1 := x1) (x2 := 4) hxx5) ?_
  rintro _ w hs
  have hs := hs.ownLit (A := tStr) (xs := [([97] : List UInt8), ([98] : List UInt8), ([99] : List UInt8), ([120, 49] : List UInt8)]) 0 rfl (fun ok hA => (Cells.app (Cells.one (T := tStr) rfl) (Cells.app (Cells.one (T := tStr) rfl) (Cells.app (Cells.one (T := tStr) rfl) (Cells.one (T := tStr) rfl))))) (Nat.le_of_ble_eq_true rfl)
  have hs := hs.freezeOwn 0 rfl
  obtain ⟨x6, hxx6, hf⟩ := bindE hf
  refine WL.indexAddr hs 0 rfl UN56 TI9 rfl rfl hxx6 (fun ad7 hs => ?_)
  refine WL.loadP hs 0 rfl TI9 (.inr rfl) rfl (fun v8 hs => ?_)
  obtain rfl := hs.str 0 rfl
  refine WL.assign (v := bstr x6) rfl ?_
  refine WL.nil ?_
  refine hK3 _ _ ?_
  refine W.ret ?_
  have hr := Option.some.inj hf; subst hr
  exact ⟨_, resOk_one rfl rfl, (), rfl, (hs.mask []).pick []⟩
theorem eslaw00_Effect.calls {ok : Nat → Prop} {w0 : World} {x1 : Int} {x2 : Bool}  {r : api_Effect} (hf : eslaw00_Effect x1 x2 = some r)  :
    Calls Tryz.prog 55 #[.int .i64 x1, .bool x2] w0 fun e w' => ∃ v, e = .returned v ∧ ∃ y : List Value, v = .agg y.toArray ∧ St ok (bz w0) w' [vl t_api_Effect r (.agg y.toArray)] [] := by
  unfold eslaw00_Effect at hf
  refine calls_of_W (fn := Tryz.f55) (N := 51) Tryz.func55 rfl Tryz.ntmps55 rfl ?_
  have hs : St ok (bz w0) w0 [] [] := St.init All.nil
  refine W.seqK fun K3 hK3 => ?_
  refine W.region ?_
  refine WL.alloc hs ZV96 (fun g4 w hs => ?_)
  refine WL.nil ?_
  refine hK3 _ _ ?_
  refine W.seqK fun K5 hK5 => ?_
  refine W.region ?_
  refine WL.move (v := .int .i64 x1) rfl ?_
  obtain ⟨x6, hxx6, hf⟩ := bindE hf
  refine WL.call (vs := [.int .i64 x1, .int .i64 4, .int .i64 1]) hs FN31 ⟨rfl, ⟨rfl, ⟨rfl, trivial⟩⟩⟩ (fun ok hA => eslaw00_Digit.calls (x1 := x1) (x2 := 4) (x3 := 1) hxx6) ?_
  rintro _ w hs
  obtain ⟨x7, hxx7, hf⟩ := bindE hf
  refine WL.call (vs := [.int .i64 x6]) hs FN79 ⟨rfl, trivial⟩ (fun ok hA => eslaw00_name.calls (x1 := x6) hxx7) ?_
  rintro _ w hs
  refine WL.move (v := .int .i64 x1) rfl ?_
  obtain ⟨x8, hxx8, hf⟩ := bindE hf
  refine WL.call (vs := [.int .i64 x1, .int .i64 4, .int .i64 2]) hs FN31 ⟨rfl, ⟨rfl, ⟨rfl, trivial⟩⟩⟩ (fun ok hA => eslaw00_Digit.calls (x1 := x1) (x2 := 4) (x3 := 2) hxx8) ?_
  rintro _ w hs
  obtain ⟨x9, hxx9, hf⟩ := bindE hf
  refine WL.call (vs := [.int .i64 x8]) hs FN79 ⟨rfl, trivial⟩ (fun ok hA => eslaw00_name.calls (x1 := x8) hxx9) ?_
  rintro _ w hs
  refine WL.build (vs := [(1, bstr x7), (2, bstr x9)]) (cs := [.int .i64 0, bstr x7, bstr x9, .int .i64 0, bstr []]) ⟨⟨rfl, rfl⟩, ⟨⟨rfl, rfl⟩, trivial⟩⟩ (bld PL96 rfl) ?_
  refine WL.alloc hs ZV96 (fun g10 w hs => ?_)
  refine WL.storeAll (vs := [.int .i64 0, bstr x7, bstr x9, .int .i64 0, bstr []]) hs 0 rfl TI96 rfl rfl rfl rfl (ones_of rfl) rfl (fun w hs => ?_)
  refine WL.nil ?_
  refine hK5 _ _ ?_
  refine W.seqK fun K11 hK11 => ?_
  refine W.region ?_
  refine WL.move (v := .int .i64 x1) rfl ?_
  obtain ⟨x12, hxx12, hf⟩ := bindE hf
  refine WL.call (vs := [.int .i64 x1, .int .i64 16, .int .i64 3]) hs FN31 ⟨rfl, ⟨rfl, ⟨rfl, trivial⟩⟩⟩ (fun ok hA => eslaw00_Digit.calls (x1 := x1) (x2 := 16) (x3 := 3) hxx12) ?_
  rintro _ w hs
  obtain ⟨x13, ex13, hf⟩ := letE hf
  refine WL.bin (v := .int .i64 x13) rfl rfl (ib_as ex13 (ib_sub _ _ _)) ?_
  refine WL.assign (v := .int .i64 x13) rfl ?_
  refine WL.nil ?_
  refine hK11 _ _ ?_
  refine W.seqK fun K14 hK14 => ?_
  have Jk19 : ∀ (x16 : Int) (x17 : Int) (x18 : List UInt8) (ρ : Env) (w : World), ρ 4 = .pointer (some ⟨g4, 0, none⟩) → ρ 5 = .pointer (some ⟨g10, 0, none⟩) → St ok (bz w0) w [] [blk g10 96 [.int .i64 x16, bstr x7, bstr x9, .int .i64 x17, bstr x18], blk g4 96 ([.int .i64 0, bstr [], bstr [], .int .i64 0, bstr []])] → eslaw00_Effect.j1 x7 x9 x16 x17 x18 = some r → K14 ρ w := by
    intro x16 x17 x18 ρ w h15_4 h15_5 hs hf
    refine hK14 _ _ ?_
    unfold eslaw00_Effect.j1 at hf
    refine W.seqK fun K20 hK20 => ?_
    refine W.region ?_
    refine WL.loadN (vs := [.int .i64 x16, bstr x7, bstr x9, .int .i64 x17, bstr x18]) hs 0 rfl TI96 h15_5 rfl rfl ?_
    refine WL.storeAll (vs := [.int .i64 x16, bstr x7, bstr x9, .int .i64 x17, bstr x18]) hs 1 rfl TI96 h15_4 rfl rfl rfl (ones_of rfl) rfl (fun w hs => ?_)
    refine WL.nil ?_
    refine hK20 _ _ ?_
    refine W.ret ?_
    have hr := Option.some.inj hf; subst hr
    have hs := hs.add (it := vl t_api_Effect (⟨x16, x7, x9, x17, x18⟩ : api_Effect) (.agg [.int .i64 x16, bstr x7, bstr x9, .int .i64 x17, bstr x18].toArray)) fun ok hA => V_agg (show t_api_Effect.R ok _ _ _ from ⟨[.int .i64 x16], [bstr x7, bstr x9, .int .i64 x17, bstr x18], rfl, rfl, ⟨[bstr x7], [bstr x9, .int .i64 x17, bstr x18], rfl, rfl, ⟨[bstr x9], [.int .i64 x17, bstr x18], rfl, rfl, ⟨[.int .i64 x17], [bstr x18], rfl, rfl, rfl⟩⟩⟩⟩) rfl
    exact ⟨_, resOk_one rfl (res_all hs 1 rfl TI96 h15_4 rfl), [.int .i64 x16, bstr x7, bstr x9, .int .i64 x17, bstr x18], rfl, (hs.mask []).pick [0]⟩
  refine W.block ?_
  refine W.seqK fun K21 hK21 => ?_
  refine W.region ?_
  refine WL.move (v := .bool x2) rfl ?_
  refine WL.assign (v := .bool x2) rfl ?_
  refine WL.nil ?_
  refine hK21 _ _ ?_
  rcases iteE hf with ⟨hc22, hf⟩ | ⟨hc22, hf⟩
  {
  refine W.cond_true (bool_tr rfl hc22) ?_
  refine W.seqK fun K23 hK23 => ?_
  refine W.region ?_
  refine WL.fieldAddr (m := 0) rfl FA96_0 rfl ?_
  refine WL.store (vs := [.int .i64 1]) (cs' := [.int .i64 1, bstr x7, bstr x9, .int .i64 0, bstr []]) hs 0 rfl TI3 rfl rfl rfl rfl (ones_of rfl) (Nat.le_of_ble_eq_true rfl) rfl (fun w hs => ?_)
  refine WL.nil ?_
  refine hK23 _ _ ?_
  refine W.seqK fun K24 hK24 => ?_
  refine W.region ?_
  refine WL.move (v := .int .i64 x13) rfl ?_
  refine WL.fieldAddr (m := 3) rfl FA96_3 rfl ?_
  refine WL.store (vs := [.int .i64 x13]) (cs' := [.int .i64 1, bstr x7, bstr x9, .int .i64 x13, bstr []]) hs 0 rfl TI2 rfl rfl rfl rfl (ones_of rfl) (Nat.le_of_ble_eq_true rfl) rfl (fun w hs => ?_)
  refine WL.nil ?_
  refine hK24 _ _ ?_
  refine W.region ?_
  refine WL.move (v := .int .i64 x1) rfl ?_
  obtain ⟨x25, hxx25, hf⟩ := bindE hf
  refine WL.call (vs := [.int .i64 x1, .int .i64 4, .int .i64 5]) hs FN31 ⟨rfl, ⟨rfl, ⟨rfl, trivial⟩⟩⟩ (fun ok hA => eslaw00_Digit.calls (x1 := x1) (x2 := 4) (x3 := 5) hxx25) ?_
  rintro _ w hs
  obtain ⟨x26, hxx26, hf⟩ := bindE hf
  refine WL.call (vs := [.int .i64 x25]) hs FN79 ⟨rfl, trivial⟩ (fun ok hA => eslaw00_name.calls (x1 := x25) hxx26) ?_
  rintro _ w hs
  refine WL.fieldAddr (m := 4) rfl FA96_4 rfl ?_
  refine WL.store (vs := [bstr x26]) (cs' := [.int .i64 1, bstr x7, bstr x9, .int .i64 x13, bstr x26]) hs 0 rfl TI9 rfl rfl rfl rfl (ones_of rfl) (Nat.le_of_ble_eq_true rfl) rfl (fun w hs => ?_)
  refine WL.nil ?_
  exact Jk19 1 x13 x26 _ _ rfl rfl ((hs.mask [true, true]).pick []) hf }
  {
  refine W.cond_false (bool_tr rfl hc22) ?_
  refine W.seqK fun K27 hK27 => ?_
  refine W.region ?_
  refine WL.move (v := .int .i64 x1) rfl ?_
  obtain ⟨x28, hxx28, hf⟩ := bindE hf
  refine WL.call (vs := [.int .i64 x1, .int .i64 4, .int .i64 0]) hs FN31 ⟨rfl, ⟨rfl, ⟨rfl, trivial⟩⟩⟩ (fun ok hA => eslaw00_Digit.calls (x1 := x1) (x2 := 4) (x3 := 0) hxx28) ?_
  rintro _ w hs
  refine WL.bin (v := .bool (x28 == 0)) rfl rfl (ib_eql _ _ _) ?_
  refine WL.assign (v := .bool (x28 == 0)) rfl ?_
  refine WL.nil ?_
  refine hK27 _ _ ?_
  rcases iteE hf with ⟨hc29, hf⟩ | ⟨hc29, hf⟩
  {
  refine W.cond_true (bool_tr rfl hc29) ?_
  refine W.seqK fun K30 hK30 => ?_
  refine W.region ?_
  refine WL.fieldAddr (m := 0) rfl FA96_0 rfl ?_
  refine WL.store (vs := [.int .i64 2]) (cs' := [.int .i64 2, bstr x7, bstr x9, .int .i64 0, bstr []]) hs 0 rfl TI3 rfl rfl rfl rfl (ones_of rfl) (Nat.le_of_ble_eq_true rfl) rfl (fun w hs => ?_)
  refine WL.nil ?_
  refine hK30 _ _ ?_
  refine W.region ?_
  refine WL.move (v := .int .i64 x13) rfl ?_
  refine WL.fieldAddr (m := 3) rfl FA96_3 rfl ?_
  refine WL.store (vs := [.int .i64 x13]) (cs' := [.int .i64 2, bstr x7, bstr x9, .int .i64 x13, bstr []]) hs 0 rfl TI2 rfl rfl rfl rfl (ones_of rfl) (Nat.le_of_ble_eq_true rfl) rfl (fun w hs => ?_)
  refine WL.nil ?_
  exact Jk19 2 x13 [] _ _ rfl rfl ((hs.mask [true, true]).pick []) hf }
  {
  refine W.cond_false (bool_tr rfl hc29) ?_
  refine W.seqK fun K31 hK31 => ?_
  refine W.region ?_
  refine WL.move (v := .int .i64 x1) rfl ?_
  obtain ⟨x32, hxx32, hf⟩ := bindE hf
  refine WL.call (vs := [.int .i64 x1, .int .i64 4, .int .i64 0]) hs FN31 ⟨rfl, ⟨rfl, ⟨rfl, trivial⟩⟩⟩ (fun ok hA => eslaw00_Digit.calls (x1 := x1) (x2 := 4) (x3 := 0) hxx32) ?_
  rintro _ w hs
  refine WL.bin (v := .bool (x32 == 1)) rfl rfl (ib_eql _ _ _) ?_
  refine WL.assign (v := .bool (x32 == 1)) rfl ?_
  refine WL.nil ?_
  refine hK31 _ _ ?_
  rcases iteE hf with ⟨hc33, hf⟩ | ⟨hc33, hf⟩
  {
  refine W.cond_true (bool_tr rfl hc33) ?_
  refine W.seqK fun K34 hK34 => ?_
  refine W.region ?_
  refine WL.fieldAddr (m := 0) rfl FA96_0 rfl ?_
  refine WL.store (vs := [.int .i64 3]) (cs' := [.int .i64 3, bstr x7, bstr x9, .int .i64 0, bstr []]) hs 0 rfl TI3 rfl rfl rfl rfl (ones_of rfl) (Nat.le_of_ble_eq_true rfl) rfl (fun w hs => ?_)
  refine WL.nil ?_
  refine hK34 _ _ ?_
  refine W.region ?_
  refine WL.move (v := .int .i64 x13) rfl ?_
  refine WL.fieldAddr (m := 3) rfl FA96_3 rfl ?_
  refine WL.store (vs := [.int .i64 x13]) (cs' := [.int .i64 3, bstr x7, bstr x9, .int .i64 x13, bstr []]) hs 0 rfl TI2 rfl rfl rfl rfl (ones_of rfl) (Nat.le_of_ble_eq_true rfl) rfl (fun w hs => ?_)
  refine WL.nil ?_
  exact Jk19 3 x13 [] _ _ rfl rfl ((hs.mask [true, true]).pick []) hf }
  {
  refine W.cond_false (bool_tr rfl hc33) ?_
  refine W.seqK fun K35 hK35 => ?_
  refine W.region ?_
  refine WL.move (v := .int .i64 x1) rfl ?_
  obtain ⟨x36, hxx36, hf⟩ := bindE hf
  refine WL.call (vs := [.int .i64 x1, .int .i64 4, .int .i64 0]) hs FN31 ⟨rfl, ⟨rfl, ⟨rfl, trivial⟩⟩⟩ (fun ok hA => eslaw00_Digit.calls (x1 := x1) (x2 := 4) (x3 := 0) hxx36) ?_
  rintro _ w hs
  refine WL.bin (v := .bool (x36 == 2)) rfl rfl (ib_eql _ _ _) ?_
  refine WL.assign (v := .bool (x36 == 2)) rfl ?_
  refine WL.nil ?_
  refine hK35 _ _ ?_
  rcases iteE hf with ⟨hc37, hf⟩ | ⟨hc37, hf⟩
  {
  refine W.cond_true (bool_tr rfl hc37) ?_
  refine W.seqK fun K38 hK38 => ?_
  refine W.region ?_
  refine WL.fieldAddr (m := 0) rfl FA96_0 rfl ?_
  refine WL.store (vs := [.int .i64 4]) (cs' := [.int .i64 4, bstr x7, bstr x9, .int .i64 0, bstr []]) hs 0 rfl TI3 rfl rfl rfl rfl (ones_of rfl) (Nat.le_of_ble_eq_true rfl) rfl (fun w hs => ?_)
  refine WL.nil ?_
  refine hK38 _ _ ?_
  refine W.region ?_
  refine WL.move (v := .int .i64 x1) rfl ?_
  obtain ⟨x39, hxx39, hf⟩ := bindE hf
  refine WL.call (vs := [.int .i64 x1, .int .i64 4, .int .i64 5]) hs FN31 ⟨rfl, ⟨rfl, ⟨rfl, trivial⟩⟩⟩ (fun ok hA => eslaw00_Digit.calls (x1 := x1) (x2 := 4) (x3 := 5) hxx39) ?_
  rintro _ w hs
  obtain ⟨x40, hxx40, hf⟩ := bindE hf
  refine WL.call (vs := [.int .i64 x39]) hs FN79 ⟨rfl, trivial⟩ (fun ok hA => eslaw00_name.calls (x1 := x39) hxx40) ?_
  rintro _ w hs
  refine WL.fieldAddr (m := 4) rfl FA96_4 rfl ?_
  refine WL.store (vs := [bstr x40]) (cs' := [.int .i64 4, bstr x7, bstr x9, .int .i64 0, bstr x40]) hs 0 rfl TI9 rfl rfl rfl rfl (ones_of rfl) (Nat.le_of_ble_eq_true rfl) rfl (fun w hs => ?_)
  refine WL.nil ?_
  exact Jk19 4 0 x40 _ _ rfl rfl ((hs.mask [true, true]).pick []) hf }
  {
  refine W.cond_false (bool_tr rfl hc37) ?_
  refine W.region ?_
  refine WL.fieldAddr (m := 0) rfl FA96_0 rfl ?_
  refine WL.store (vs := [.int .i64 5]) (cs' := [.int .i64 5, bstr x7, bstr x9, .int .i64 0, bstr []]) hs 0 rfl TI3 rfl rfl rfl rfl (ones_of rfl) (Nat.le_of_ble_eq_true rfl) rfl (fun w hs => ?_)
  refine WL.nil ?_
  exact Jk19 5 0 [] _ _ rfl rfl ((hs.mask [true, true]).pick []) hf } } } }
theorem eslaw00_Update.calls {ok : Nat → Prop} {w0 : World} {x1 : Int} {x2 : Int} {x3 : Int}  {r : api_Update} (hf : eslaw00_Update x1 x2 x3 = some r)  :
    Calls Tryz.prog 32 #[.int .i64 x1, .int .i64 x2, .int .i64 x3] w0 fun e w' => ∃ v, e = .returned v ∧ ∃ y : (Option Addr × Nat × Nat), v = .agg ([.int .i64 r.Client, .int .i64 r.Seq, .int .i64 r.Tag, .slice y.1 y.2.1 y.2.2] : List Value).toArray ∧ St ok (bz w0) w' [] [own t_api_Effect 96 (.slice y.1 y.2.1 y.2.2) r.Effects] := by
  unfold eslaw00_Update at hf
  refine calls_of_W (fn := Tryz.f32) (N := 41) Tryz.func32 rfl Tryz.ntmps32 rfl ?_
  have hs : St ok (bz w0) w0 [] [] := St.init All.nil
  refine W.seqK fun K4 hK4 => ?_
  refine W.region ?_
  refine WL.alloc hs ZV74 (fun g5 w hs => ?_)
  refine WL.nil ?_
  refine hK4 _ _ ?_
  refine W.seqK fun K6 hK6 => ?_
  refine W.region ?_
  refine WL.move (v := .int .i64 x1) rfl ?_
  refine WL.move (v := .int .i64 x2) rfl ?_
  refine WL.build (vs := [(0, .int .i64 x1), (1, .int .i64 x2)]) (cs := [.int .i64 x1, .int .i64 x2, .int .i64 0, .slice none 0 0]) ⟨⟨rfl, rfl⟩, ⟨⟨rfl, rfl⟩, trivial⟩⟩ (bld PL74 rfl) ?_
  refine WL.alloc hs ZV74 (fun g7 w hs => ?_)
  refine WL.storeAll (vs := [.int .i64 x1, .int .i64 x2, .int .i64 0, .slice none 0 0]) hs 0 rfl TI74 rfl rfl rfl rfl (ones_of rfl) rfl (fun w hs => ?_)
  refine WL.nil ?_
  refine hK6 _ _ ?_
  refine W.seqK fun K8 hK8 => ?_
  refine W.seqK fun K9 hK9 => ?_
  refine W.region ?_
  refine WL.move (v := .int .i64 x3) rfl ?_
  obtain ⟨x10, hxx10, hf⟩ := bindE hf
  refine WL.call (vs := [.int .i64 x3, .int .i64 3, .int .i64 8]) hs FN31 ⟨rfl, ⟨rfl, ⟨rfl, trivial⟩⟩⟩ (fun ok hA => eslaw00_Digit.calls (x1 := x3) (x2 := 3) (x3 := 8) hxx10) ?_
  rintro _ w hs
  refine WL.bin (v := .bool (x10 == 0)) rfl rfl (ib_eql _ _ _) ?_
  refine WL.nil ?_
  refine hK9 _ _ ?_
  rcases iteE hf with ⟨hc11, hf⟩ | ⟨hc11, hf⟩
  {
  refine W.cond_true (bool_tr rfl hc11) ?_
  refine W.seqK fun K12 hK12 => ?_
  refine W.region ?_
  refine WL.move (v := .int .i64 x3) rfl ?_
  obtain ⟨x13, hxx13, hf⟩ := bindE hf
  refine WL.call (vs := [.int .i64 x3, .int .i64 16, .int .i64 4]) hs FN31 ⟨rfl, ⟨rfl, ⟨rfl, trivial⟩⟩⟩ (fun ok hA => eslaw00_Digit.calls (x1 := x3) (x2 := 16) (x3 := 4) hxx13) ?_
  rintro _ w hs
  refine WL.fieldAddr (m := 2) rfl FA74_2 rfl ?_
  refine WL.store (vs := [.int .i64 x13]) (cs' := [.int .i64 x1, .int .i64 x2, .int .i64 x13, .slice none 0 0]) hs 0 rfl TI3 rfl rfl rfl rfl (ones_of rfl) (Nat.le_of_ble_eq_true rfl) rfl (fun w hs => ?_)
  refine WL.nil ?_
  refine hK12 _ _ ?_
  refine W.seqK fun K14 hK14 => ?_
  refine W.region ?_
  refine WL.move (v := .int .i64 x3) rfl ?_
  obtain ⟨x15, hxx15, hf⟩ := bindE hf
  refine WL.call (vs := [.int .i64 x3, .bool true]) hs FN55 ⟨rfl, ⟨rfl, trivial⟩⟩ (fun ok hA => eslaw00_Effect.calls (x1 := x3) (x2 := true) hxx15) ?_
  rintro cs16 w hs
  have hl17 := hs.agglen (n := 5) 0 rfl rfl rfl
  refine WL.buildSlice (n := 1) (vs := [(0, .agg cs16.toArray)]) (cs := cs16) hs ⟨⟨rfl, rfl⟩, trivial⟩ (bls PS72 (by decide) (by simp [fillS, fillL, Value.cells, hl17])) (fun g18 w hs => ?_)
  refine WL.fieldAddr (m := 3) rfl FA74_3 rfl ?_
  refine WL.store (vs := [.slice (some ⟨g18, 0, none⟩) ([x15]).length 1]) (cs' := [.int .i64 x1, .int .i64 x2, .int .i64 x13, .slice (some ⟨g18, 0, none⟩) ([x15]).length 1]) hs 1 rfl TI72 rfl rfl rfl rfl (ones_of rfl) (Nat.le_of_ble_eq_true rfl) rfl (fun w hs => ?_)
  refine WL.nil ?_
  refine hK14 _ _ ?_
  refine W.seqK fun K19 hK19 => ?_
  refine W.region ?_
  refine WL.loadN (vs := [.int .i64 x1, .int .i64 x2, .int .i64 x13, .slice (some ⟨g18, 0, none⟩) ([x15]).length 1]) hs 1 rfl TI74 rfl rfl rfl ?_
  refine WL.storeAll (vs := [.int .i64 x1, .int .i64 x2, .int .i64 x13, .slice (some ⟨g18, 0, none⟩) ([x15]).length 1]) hs 2 rfl TI74 rfl rfl rfl rfl (ones_of rfl) rfl (fun w hs => ?_)
  have hs := hs.ownLit (A := t_api_Effect) (xs := [x15]) 0 rfl (fun ok hA => (Cells.one (T := t_api_Effect) (R_agg (hA.get 0 rfl) rfl))) (Nat.le_of_ble_eq_true rfl)
  refine WL.nil ?_
  refine hK19 _ _ ?_
  refine W.ret ?_
  have hr := Option.some.inj hf; subst hr
  exact ⟨_, resOk_one rfl (res_all hs 2 rfl TI74 rfl rfl), ((some ⟨g18, 0, none⟩), ([x15]).length, 1), rfl, (hs.mask [true]).pick []⟩ }
  {
  refine W.cond_false (bool_tr rfl hc11) ?_
  refine W.skip ?_
  refine hK8 _ _ ?_
  refine W.seqK fun K20 hK20 => ?_
  have hs := hs.ownNil t_api_Effect 96
  have Jk26 : ∀ (x22 : List api_Effect) (a23 : Option Addr) (c24 : Nat) (n25 : Nat) (ρ : Env) (w : World), ρ 6 = .pointer (some ⟨g5, 0, none⟩) → ρ 7 = .pointer (some ⟨g7, 0, none⟩) → St ok (bz w0) w [] [own t_api_Effect 96 (.slice a23 n25 c24) x22, blk g7 74 [.int .i64 x1, .int .i64 x2, .int .i64 0, .slice a23 n25 c24], blk g5 74 [.int .i64 0, .int .i64 0, .int .i64 0, .slice none 0 0]] → eslaw00_Update.j1 x1 x2 x22 = some r → K20 ρ w := by
    intro x22 a23 c24 n25 ρ w h21_6 h21_7 hs hf
    refine hK20 _ _ ?_
    unfold eslaw00_Update.j1 at hf
    refine W.seqK fun K27 hK27 => ?_
    refine W.region ?_
    refine WL.loadN (vs := [.int .i64 x1, .int .i64 x2, .int .i64 0, .slice a23 n25 c24]) hs 1 rfl TI74 h21_7 rfl rfl ?_
    refine WL.storeAll (vs := [.int .i64 x1, .int .i64 x2, .int .i64 0, .slice a23 n25 c24]) hs 2 rfl TI74 h21_6 rfl rfl rfl (ones_of rfl) rfl (fun w hs => ?_)
    refine WL.nil ?_
    refine hK27 _ _ ?_
    refine W.ret ?_
    have hr := Option.some.inj hf; subst hr
    exact ⟨_, resOk_one rfl (res_all hs 2 rfl TI74 h21_6 rfl), (a23, n25, c24), rfl, (hs.mask [true]).pick []⟩
  refine W.seqK fun K28 hK28 => ?_
  refine W.region ?_
  refine WL.assign (v := .int .i64 0) rfl ?_
  refine WL.nil ?_
  refine hK28 _ _ ?_
  refine W.block ?_
  obtain ⟨bs35, hbs35, hfs35⟩ := bindE hf
  refine W.loop hbs35 (fun s ρ w => match s with | (x30, x31) => ∃ (a32 : Option Addr), ∃ (c33 : Nat), ∃ (n34 : Nat), ρ 2 = .int .i64 x3 ∧ ρ 6 = .pointer (some ⟨g5, 0, none⟩) ∧ ρ 7 = .pointer (some ⟨g7, 0, none⟩) ∧ ρ 8 = .int .i64 x30 ∧ St ok (bz w0) w [] [own t_api_Effect 96 (.slice a32 n34 c33) x31, blk g7 74 [.int .i64 x1, .int .i64 x2, .int .i64 0, .slice a32 n34 c33], blk g5 74 [.int .i64 0, .int .i64 0, .int .i64 0, .slice none 0 0]]) ⟨none, 0, 0, rfl, rfl, rfl, rfl, (hs.mask [true, true, true]).pick []⟩ ?_
  intro s ρ w os35 hI hf hbbs35
  obtain ⟨x30, x31⟩ := s
  obtain ⟨a32, c33, n34, h29_2, h29_6, h29_7, h29_8, hs⟩ := hI
  unfold eslaw00_Update.l1 at hf
  refine W.seqK fun K36 hK36 => ?_
  refine W.seqK fun K37 hK37 => ?_
  refine W.region ?_
  refine WL.move (v := .int .i64 x30) h29_8 ?_
  refine WL.move (v := .int .i64 x3) h29_2 ?_
  obtain ⟨x38, hxx38, hf⟩ := bindE hf
  refine WL.call (vs := [.int .i64 x3, .int .i64 3, .int .i64 9]) hs FN31 ⟨rfl, ⟨rfl, ⟨rfl, trivial⟩⟩⟩ (fun ok hA => eslaw00_Digit.calls (x1 := x3) (x2 := 3) (x3 := 9) hxx38) ?_
  rintro _ w hs
  refine WL.bin (v := .bool (decide (x30 ≤ x38))) rfl rfl (ib_leq _ _ _) ?_
  refine WL.nil ?_
  refine hK37 _ _ ?_
  rcases iteE hf with ⟨hc39, hf⟩ | ⟨hc39, hf⟩
  {
  refine W.cond_true (bool_tr rfl hc39) ?_
  refine W.skip ?_
  refine hK36 _ _ ?_
  refine W.seqK fun K40 hK40 => ?_
  refine W.block ?_
  obtain ⟨x41, hxx41, hf⟩ := bindE hf
  obtain ⟨x42, ex42, hf⟩ := letE hf
  obtain ⟨hn44, hf⟩ := guardE hf
  obtain ⟨x43, ex43, hf⟩ := letE hf
  obtain ⟨x45, hxx45, hf⟩ := bindE hf
  refine W.any (by kernel_rfl) 9 3 [true, true, true, true, true, true, true, true, true, false, false, false] rfl rfl (poAt [pv (.pointer (some ⟨g7, 3, none⟩)), pv (.slice a32 n34 c33), pv (.int .i64 x3), pv (.int .i64 x41), pv (.int .i64 x30), pv (.int .i64 x42), pv (.int .i64 x43), pq (fun y : List Value => .agg y.toArray) (fun v => [vl t_api_Effect x45 v]) (fun v => []), pq (fun y : (Option Addr × Nat) => .slice y.1 ([x45]).length y.2) (fun v => [vl (tSlice t_api_Effect) [x45] v]) (fun v => [])]) (Λ := [own t_api_Effect 96 (.slice a32 n34 c33) x31, blk g7 74 [.int .i64 x1, .int .i64 x2, .int .i64 0, .slice a32 n34 c33], blk g5 74 [.int .i64 0, .int .i64 0, .int .i64 0, .slice none 0 0]]) hs (by kernel_rfl) (by kernel_rfl) (by kernel_rfl) ⟨⟨⟨⟨⟨⟨⟨⟨⟨trivial, ?_⟩, ?_⟩, ?_⟩, ?_⟩, ?_⟩, ?_⟩, ?_⟩, ?_⟩, ?_⟩ ?_
  {
  intro ρ w Γx Λx hs hu hp
  refine WL.fieldAddr (m := 3) ((hu 7 rfl).trans h29_7) FA74_3 rfl ?_
  exact WL.nil ⟨rfl, _, rfl, rfl, hs.cutG 0 0⟩ }
  {
  intro ρ w Γx Λx hs hu hp
  have e50 : ρ 29 = .pointer (some ⟨g7, 3, none⟩) := (hp 0 rfl).1
  refine WL.load1 (v := .slice a32 n34 c33) hs (Λx.length + 1) (getApp rfl) TI72 e50 rfl ?_
  exact WL.nil ⟨rfl, _, rfl, rfl, hs.cutG 0 0⟩ }
  {
  intro ρ w Γx Λx hs hu hp
  refine WL.move (v := .int .i64 x3) ((hu 2 rfl).trans h29_2) ?_
  exact WL.nil ⟨rfl, _, rfl, rfl, hs.cutG 0 0⟩ }
  {
  intro ρ w Γx Λx hs hu hp
  have e51 : ρ 31 = .int .i64 x3 := (hp 2 rfl).1
  refine WL.call (vs := [.int .i64 x3, .int .i64 1099511627776]) hs FN33 ⟨e51, ⟨rfl, trivial⟩⟩ (fun ok hA => eslaw00_Index.calls (x1 := x3) (x2 := 1099511627776) hxx41) ?_
  rintro _ w hs
  exact WL.nil ⟨rfl, _, rfl, rfl, hs.cutG 0 0⟩ }
  {
  intro ρ w Γx Λx hs hu hp
  refine WL.move (v := .int .i64 x30) ((hu 8 rfl).trans h29_8) ?_
  exact WL.nil ⟨rfl, _, rfl, rfl, hs.cutG 0 0⟩ }
  {
  intro ρ w Γx Λx hs hu hp
  have e52 : ρ 33 = .int .i64 x30 := (hp 4 rfl).1
  refine WL.bin (v := .int .i64 x42) e52 rfl (ib_as ex42 (ib_add _ _ _)) ?_
  exact WL.nil ⟨rfl, _, rfl, rfl, hs.cutG 0 0⟩ }
  {
  intro ρ w Γx Λx hs hu hp
  have e53 : ρ 32 = .int .i64 x41 := (hp 3 rfl).1
  have e54 : ρ 34 = .int .i64 x42 := (hp 5 rfl).1
  refine WL.bin (v := .int .i64 x43) e53 e54 (ib_as ex43 (ib_quo _ _ _ hn44)) ?_
  exact WL.nil ⟨rfl, _, rfl, rfl, hs.cutG 0 0⟩ }
  {
  intro ρ w Γx Λx hs hu hp
  have e55 : ρ 35 = .int .i64 x43 := (hp 6 rfl).1
  refine WL.call (vs := [.int .i64 x43, .bool false]) hs FN55 ⟨e55, ⟨rfl, trivial⟩⟩ (fun ok hA => eslaw00_Effect.calls (x1 := x43) (x2 := false) hxx45) ?_
  rintro cs46 w hs
  have hl47 := hs.agglen (n := 5) 0 rfl rfl rfl
  have hs := hs.add (it := vl t_api_Effect x45 (.agg cs46.toArray)) fun ok hA => hA.get 0 rfl
  exact WL.nil ⟨rfl, _, rfl, ⟨cs46, rfl⟩, hs.cutG 1 1⟩ }
  {
  intro ρ w Γx Λx hs hu hp
  obtain ⟨⟨cs56, e58r⟩, hm59⟩ := hp 7 rfl
  have e58 : ρ 36 = .agg cs56.toArray := e58r
  rw [e58r] at hm59
  have hs := hs.memo1 (it := vl t_api_Effect x45 (.agg cs56.toArray)) (List.mem_append.2 (.inl (hm59 _ (List.mem_of_getElem? (i := 0) rfl))))
  have hl57 := hs.agglen (n := 5) 0 rfl rfl rfl
  refine WL.buildSliceB (ys := [x45]) (n := 1) (vs := [(0, .agg cs56.toArray)]) (cs := cs56) hs ⟨⟨rfl, e58⟩, trivial⟩ (bls PS72 (by decide) (by simp [fillS, fillL, Value.cells, hl57])) (fun ok hA => (Cells.one (T := t_api_Effect) (R_agg (hA.get 0 rfl) rfl))) rfl (by decide) (fun a49 w hBl hs => ?_)
  have hs := hs.add (it := vl (tSlice t_api_Effect) [x45] (.slice a49 ([x45]).length 1)) fun ok hA => hA.get 0 rfl
  exact WL.nil ⟨rfl, _, rfl, ⟨(a49, 1), rfl⟩, hs.cutG 1 2⟩ }
  {
  intro ρ w hs hu60 hp
  obtain ⟨⟨⟨⟨⟨⟨⟨⟨⟨_, hp0_⟩, hp1_⟩, hp2_⟩, hp3_⟩, hp4_⟩, hp5_⟩, hp6_⟩, hp7_⟩, hp8_⟩ := hp
  have hs : St ok (bz w0) w [vl (tSlice t_api_Effect) [x45] (ρ 37), vl t_api_Effect x45 (ρ 36)] [own t_api_Effect 96 (.slice a32 n34 c33) x31, blk g7 74 [.int .i64 x1, .int .i64 x2, .int .i64 0, .slice a32 n34 c33], blk g5 74 [.int .i64 0, .int .i64 0, .int .i64 0, .slice none 0 0]] := hs
  obtain ⟨⟨a61, c62⟩, e63⟩ := hp8_
  have e63 : ρ 37 = .slice a61 ([x45]).length c62 := e63
  try rw [e63] at hs
  obtain ⟨cs64, e66⟩ := hp7_
  have e66 : ρ 36 = .agg cs64.toArray := e66
  try rw [e66] at hs
  have e67 : ρ 35 = .int .i64 x43 := hp6_
  have e68 : ρ 34 = .int .i64 x42 := hp5_
  have e69 : ρ 33 = .int .i64 x30 := hp4_
  have e70 : ρ 32 = .int .i64 x41 := hp3_
  have e71 : ρ 31 = .int .i64 x3 := hp2_
  have e72 : ρ 30 = .slice a32 n34 c33 := hp1_
  have e73 : ρ 29 = .pointer (some ⟨g7, 3, none⟩) := hp0_
  have hl65 := hs.agglen (n := 5) 1 rfl rfl rfl
  refine WA.step [9] (by kernel_rfl) (by simp) ⟨?_, trivial⟩
  obtain ⟨x74, hxx74, hf⟩ := bindE hf
  obtain ⟨hbx74, hex74⟩ := appE hxx74
  refine WL.appendS (zs := x74) hs 0 rfl 0 rfl UN72 UN72 EI96 e72 e63 hbx74 (by omega) hex74 (fun v75 w hs => ?_)
  obtain ⟨a76, n78, c77, rfl⟩ := hs.ownv3 0 rfl
  refine WL.nil ⟨rfl, _, rfl, ?_⟩
  refine WA.step [10] (by kernel_rfl) (by simp) ⟨?_, trivial⟩
  refine WL.fieldAddr (m := 3) ((hu60 7 rfl).trans h29_7) FA74_3 rfl ?_
  refine WL.nil ⟨rfl, _, rfl, ?_⟩
  refine WA.step [11] (by kernel_rfl) (by simp) ⟨?_, trivial⟩
  refine WL.store (vs := [.slice a76 n78 c77]) (cs' := [.int .i64 x1, .int .i64 x2, .int .i64 0, .slice a76 n78 c77]) hs 1 rfl TI72 rfl rfl rfl rfl (ones_of rfl) (Nat.le_of_ble_eq_true rfl) rfl (fun w hs => ?_)
  refine WL.nil ⟨rfl, _, rfl, ?_⟩
  refine WA.done (by kernel_rfl) ?_
  refine hK40 _ _ ?_
  refine W.region ?_
  refine WL.move (v := .int .i64 x30) ((hu60 8 rfl).trans h29_8) ?_
  obtain ⟨x79, ex79, hf⟩ := letE hf
  refine WL.bin (v := .int .i64 x79) rfl rfl (ib_as ex79 (ib_add _ _ _)) ?_
  refine WL.assign (v := .int .i64 x79) rfl ?_
  refine WL.nil ?_
  exact ⟨_, (Option.some.inj hf).symm, a76, c77, n78, ((hu60 2 rfl).trans h29_2), ((hu60 6 rfl).trans h29_6), ((hu60 7 rfl).trans h29_7), rfl, (hs.mask [true, true, true]).pick []⟩ } }
  {
  refine W.cond_false (bool_tr rfl hc39) ?_
  refine W.exit ?_
  have hr := Option.some.inj hf; subst hr
  have hr := hbbs35 _ rfl; subst hr
  have hf := hfs35
  exact Jk26 x31 a32 c33 n34 _ _ h29_6 h29_7 ((hs.mask [true, true, true]).pick []) hf } }
theorem eslaw00_Update.callc {ok : Nat → Prop} {w0 : World} {x1 : Int} {x2 : Int} {x3 : Int}  {r : api_Update} (hf : eslaw00_Update x1 x2 x3 = some r)  :
    Calls Tryz.prog 32 #[.int .i64 x1, .int .i64 x2, .int .i64 x3] w0 fun e w' => ∃ v, e = .returned v ∧ ∃ y : List Value, v = .agg y.toArray ∧ St ok (bz w0) w' [vl t_api_Update r (.agg y.toArray)] [] := by
  refine (eslaw00_Update.calls (ok := ok) (w0 := w0) (x1 := x1) (x2 := x2) (x3 := x3) hf).mono ?_
  rintro e w' ⟨v, rfl, ⟨a81, n82, c83⟩, rfl, hs⟩
  obtain rfl := hs.ownLen 0 rfl
  have hs := hs.freezeOwn 0 rfl
  have hs := hs.add (it := vl t_api_Update (⟨r.Client, r.Seq, r.Tag, r.Effects⟩ : api_Update) (.agg [.int .i64 r.Client, .int .i64 r.Seq, .int .i64 r.Tag, .slice a81 (r.Effects).length c83].toArray)) fun ok hA => V_agg (show t_api_Update.R ok _ _ _ from ⟨[.int .i64 r.Client], [.int .i64 r.Seq, .int .i64 r.Tag, .slice a81 (r.Effects).length c83], rfl, rfl, ⟨[.int .i64 r.Seq], [.int .i64 r.Tag, .slice a81 (r.Effects).length c83], rfl, rfl, ⟨[.int .i64 r.Tag], [.slice a81 (r.Effects).length c83], rfl, rfl, (R_one (hA.get 0 rfl))⟩⟩⟩) rfl
  exact ⟨_, rfl, [.int .i64 r.Client, .int .i64 r.Seq, .int .i64 r.Tag, .slice a81 (r.Effects).length c83], rfl, hs.pick [0]⟩
theorem eslaw00_Updates.calls {ok : Nat → Prop} {w0 : World} {x1 : List Int} {a2 : Option Addr} {c3 : Nat} {r : List api_Update} (hf : eslaw00_Updates x1 = some r) (i0 : (vl (tSlice (tInt .i64)) x1 (.slice a2 x1.length c3)).holds ok w0) :
    Calls Tryz.prog 10 #[.slice a2 x1.length c3] w0 fun e w' => ∃ v, e = .returned v ∧ ∃ y : (Option Addr × Nat × Nat), v = .slice y.1 y.2.1 y.2.2 ∧ St ok (bz w0) w' [] [own t_api_Update 74 (.slice y.1 y.2.1 y.2.2) r] := by
  unfold eslaw00_Updates at hf
  refine calls_of_W (fn := Tryz.f10) (N := 48) Tryz.func10 rfl Tryz.ntmps10 rfl ?_
  have hs : St ok (bz w0) w0 [vl (tSlice (tInt .i64)) x1 (.slice a2 x1.length c3)] [] := St.init (All.cons i0 All.nil)
  clear i0
  refine W.seqK fun K4 hK4 => ?_
  refine W.region ?_
  refine WL.assign (v := .slice none 0 0) rfl ?_
  refine WL.nil ?_
  refine hK4 _ _ ?_
  refine W.seqK fun K5 hK5 => ?_
  refine W.region ?_
  refine WL.assign (v := .slice none 0 0) rfl ?_
  refine WL.nil ?_
  refine hK5 _ _ ?_
  refine W.seqK fun K6 hK6 => ?_
  have hs := hs.ownNil t_api_Update 74
  have Jk12 : ∀ (x8 : List api_Update) (a9 : Option Addr) (c10 : Nat) (n11 : Nat) (ρ : Env) (w : World), ρ 3 = .slice a9 n11 c10 → St ok (bz w0) w [] [own t_api_Update 74 (.slice a9 n11 c10) x8] → eslaw00_Updates.j1 x8 = some r → K6 ρ w := by
    intro x8 a9 c10 n11 ρ w h7_3 hs hf
    refine hK6 _ _ ?_
    unfold eslaw00_Updates.j1 at hf
    refine W.seqK fun K13 hK13 => ?_
    refine W.region ?_
    refine WL.move (v := .slice a9 n11 c10) h7_3 ?_
    refine WL.assign (v := .slice a9 n11 c10) rfl ?_
    refine WL.nil ?_
    refine hK13 _ _ ?_
    refine W.ret ?_
    have hr := Option.some.inj hf; subst hr
    exact ⟨_, resOk_one rfl rfl, (a9, n11, c10), rfl, (hs.mask [true]).pick []⟩
  refine W.seqK fun K14 hK14 => ?_
  refine W.region ?_
  refine WL.assign (v := .int .i64 0) rfl ?_
  refine WL.nil ?_
  refine hK14 _ _ ?_
  refine W.block ?_
  obtain ⟨bs21, hbs21, hfs21⟩ := bindE hf
  refine W.loop hbs21 (fun s ρ w => match s with | (x16, x20) => ∃ (a17 : Option Addr), ∃ (c18 : Nat), ∃ (n19 : Nat), ρ 0 = .slice a2 x1.length c3 ∧ ρ 3 = .slice a17 n19 c18 ∧ ρ 4 = .int .i64 x20 ∧ St ok (bz w0) w [vl (tSlice (tInt .i64)) x1 (.slice a2 x1.length c3)] [own t_api_Update 74 (.slice a17 n19 c18) x16]) ⟨none, 0, 0, rfl, rfl, rfl, (hs.mask [true]).pick [0]⟩ ?_
  intro s ρ w os21 hI hf hbbs21
  obtain ⟨x16, x20⟩ := s
  obtain ⟨a17, c18, n19, h15_0, h15_3, h15_4, hs⟩ := hI
  unfold eslaw00_Updates.l2 at hf
  refine W.seqK fun K22 hK22 => ?_
  refine W.seqK fun K23 hK23 => ?_
  refine W.region ?_
  refine WL.move (v := .int .i64 x20) h15_4 ?_
  refine WL.bin (v := .bool (decide (x20 < 3))) rfl rfl (ib_lss _ _ _) ?_
  refine WL.nil ?_
  refine hK23 _ _ ?_
  rcases iteE hf with ⟨hc24, hf⟩ | ⟨hc24, hf⟩
  {
  refine W.cond_true (bool_tr rfl hc24) ?_
  refine W.skip ?_
  refine hK22 _ _ ?_
  refine W.seqK fun K25 hK25 => ?_
  have Jk31 : ∀ (x27 : List api_Update) (a28 : Option Addr) (c29 : Nat) (n30 : Nat) (ρ : Env) (w : World), ρ 0 = .slice a2 x1.length c3 → ρ 3 = .slice a28 n30 c29 → ρ 4 = .int .i64 x20 → St ok (bz w0) w [vl (tSlice (tInt .i64)) x1 (.slice a2 x1.length c3)] [own t_api_Update 74 (.slice a28 n30 c29) x27] → eslaw00_Updates.j2 x20 x27 = some os21 → K25 ρ w := by
    intro x27 a28 c29 n30 ρ w h26_0 h26_3 h26_4 hs hf
    refine hK25 _ _ ?_
    unfold eslaw00_Updates.j2 at hf
    refine W.region ?_
    refine WL.move (v := .int .i64 x20) h26_4 ?_
    obtain ⟨x32, ex32, hf⟩ := letE hf
    refine WL.bin (v := .int .i64 x32) rfl rfl (ib_as ex32 (ib_add _ _ _)) ?_
    refine WL.assign (v := .int .i64 x32) rfl ?_
    refine WL.nil ?_
    exact ⟨_, (Option.some.inj hf).symm, a28, c29, n30, h26_0, h26_3, rfl, (hs.mask [true]).pick [0]⟩
  refine W.block ?_
  refine W.seqK fun K33 hK33 => ?_
  refine W.region ?_
  refine WL.assign (v := .int .i64 0) rfl ?_
  refine WL.nil ?_
  refine hK33 _ _ ?_
  refine W.seqK fun K34 hK34 => ?_
  refine W.region ?_
  refine WL.assign (v := .int .i64 0) rfl ?_
  refine WL.nil ?_
  refine hK34 _ _ ?_
  refine W.block ?_
  obtain ⟨bs42, hbs42, hfs42⟩ := bindE hf
  refine W.loop hbs42 (fun s ρ w => match s with | (x36, x40, x41) => ∃ (a37 : Option Addr), ∃ (c38 : Nat), ∃ (n39 : Nat), ρ 0 = .slice a2 x1.length c3 ∧ ρ 3 = .slice a37 n39 c38 ∧ ρ 4 = .int .i64 x20 ∧ ρ 5 = .int .i64 x40 ∧ ρ 6 = .int .i64 x41 ∧ St ok (bz w0) w [vl (tSlice (tInt .i64)) x1 (.slice a2 x1.length c3)] [own t_api_Update 74 (.slice a37 n39 c38) x36]) ⟨a17, c18, n19, h15_0, h15_3, h15_4, rfl, rfl, (hs.mask [true]).pick [0]⟩ ?_
  intro s ρ w os42 hI hf hbbs42
  obtain ⟨x36, x40, x41⟩ := s
  obtain ⟨a37, c38, n39, h35_0, h35_3, h35_4, h35_5, h35_6, hs⟩ := hI
  unfold eslaw00_Updates.l1 at hf
  refine W.seqK fun K43 hK43 => ?_
  refine W.seqK fun K44 hK44 => ?_
  have Jk47 : ∀ (x46 : Bool) (ρ : Env) (w : World), ρ 0 = .slice a2 x1.length c3 → ρ 3 = .slice a37 n39 c38 → ρ 4 = .int .i64 x20 → ρ 5 = .int .i64 x40 → ρ 6 = .int .i64 x41 → ρ 18 = .bool x46 → St ok (bz w0) w [vl (tSlice (tInt .i64)) x1 (.slice a2 x1.length c3)] [own t_api_Update 74 (.slice a37 n39 c38) x36] → eslaw00_Updates.j5 x1 x20 x36 x40 x41 x46 = some os42 → K44 ρ w := by
    intro x46 ρ w h45_0 h45_3 h45_4 h45_5 h45_6 h45_18 hs hf
    refine hK44 _ _ ?_
    unfold eslaw00_Updates.j5 at hf
    rcases iteE hf with ⟨hc48, hf⟩ | ⟨hc48, hf⟩
    {
    refine W.cond_true (bool_tr h45_18 hc48) ?_
    refine W.skip ?_
    refine hK43 _ _ ?_
    refine W.seqK fun K49 hK49 => ?_
    have Jk56 : ∀ (x51 : List api_Update) (x55 : Int) (a52 : Option Addr) (c53 : Nat) (n54 : Nat) (ρ : Env) (w : World), ρ 0 = .slice a2 x1.length c3 → ρ 3 = .slice a52 n54 c53 → ρ 4 = .int .i64 x20 → ρ 5 = .int .i64 x55 → ρ 6 = .int .i64 x41 → St ok (bz w0) w [vl (tSlice (tInt .i64)) x1 (.slice a2 x1.length c3)] [own t_api_Update 74 (.slice a52 n54 c53) x51] → eslaw00_Updates.j3 x41 x51 x55 = some os42 → K49 ρ w := by
      intro x51 x55 a52 c53 n54 ρ w h50_0 h50_3 h50_4 h50_5 h50_6 hs hf
      refine hK49 _ _ ?_
      unfold eslaw00_Updates.j3 at hf
      refine W.region ?_
      refine WL.move (v := .int .i64 x41) h50_6 ?_
      obtain ⟨x57, ex57, hf⟩ := letE hf
      refine WL.bin (v := .int .i64 x57) rfl rfl (ib_as ex57 (ib_add _ _ _)) ?_
      refine WL.assign (v := .int .i64 x57) rfl ?_
      refine WL.nil ?_
      exact ⟨_, (Option.some.inj hf).symm, a52, c53, n54, h50_0, h50_3, h50_4, h50_5, rfl, (hs.mask [true]).pick [0]⟩
    refine W.block ?_
    refine W.seqK fun K58 hK58 => ?_
    have Jk61 : ∀ (x60 : Bool) (ρ : Env) (w : World), ρ 0 = .slice a2 x1.length c3 → ρ 3 = .slice a37 n39 c38 → ρ 4 = .int .i64 x20 → ρ 5 = .int .i64 x40 → ρ 6 = .int .i64 x41 → ρ 31 = .bool x60 → St ok (bz w0) w [vl (tSlice (tInt .i64)) x1 (.slice a2 x1.length c3)] [own t_api_Update 74 (.slice a37 n39 c38) x36] → eslaw00_Updates.j4 x1 x20 x36 x40 x41 x60 = some os42 → K58 ρ w := by
      intro x60 ρ w h59_0 h59_3 h59_4 h59_5 h59_6 h59_31 hs hf
      refine hK58 _ _ ?_
      unfold eslaw00_Updates.j4 at hf
      rcases iteE hf with ⟨hc62, hf⟩ | ⟨hc62, hf⟩
      {
      refine W.cond_true (bool_tr h59_31 hc62) ?_
      refine W.seqK fun K63 hK63 => ?_
      refine W.region ?_
      refine WL.move (v := .int .i64 x40) h59_5 ?_
      obtain ⟨x64, ex64, hf⟩ := letE hf
      refine WL.bin (v := .int .i64 x64) rfl rfl (ib_as ex64 (ib_add _ _ _)) ?_
      refine WL.assign (v := .int .i64 x64) rfl ?_
      refine WL.nil ?_
      refine hK63 _ _ ?_
      refine W.region ?_
      refine WL.move (v := .slice a37 n39 c38) h59_3 ?_
      refine WL.move (v := .int .i64 x20) h59_4 ?_
      obtain ⟨x65, ex65, hf⟩ := letE hf
      refine WL.bin (v := .int .i64 x65) rfl rfl (ib_as ex65 (ib_add _ _ _)) ?_
      refine WL.move (v := .int .i64 x64) rfl ?_
      refine WL.move (v := .slice a2 x1.length c3) h59_0 ?_
      refine WL.move (v := .int .i64 x41) h59_6 ?_
      obtain ⟨x66, hxx66, hf⟩ := bindE hf
      refine WL.indexAddr hs 0 rfl UN22 TI3 rfl rfl hxx66 (fun ad67 hs => ?_)
      refine WL.loadP hs 0 rfl TI3 (.inr rfl) rfl (fun v68 hs => ?_)
      obtain rfl := hs.int 0 rfl
      obtain ⟨x69, hxx69, hf⟩ := bindE hf
      refine WL.call (vs := [.int .i64 x66, .int .i64 1099511627776]) hs FN33 ⟨rfl, ⟨rfl, trivial⟩⟩ (fun ok hA => eslaw00_Index.calls (x1 := x66) (x2 := 1099511627776) hxx69) ?_
      rintro _ w hs
      obtain ⟨x70, ex70, hf⟩ := letE hf
      refine WL.bin (v := .int .i64 x70) rfl rfl (ib_as ex70 (ib_quo _ _ _ (by decide))) ?_
      obtain ⟨x71, hxx71, hf⟩ := bindE hf
      refine WL.call (vs := [.int .i64 x65, .int .i64 x64, .int .i64 x70]) hs FN32 ⟨rfl, ⟨rfl, ⟨rfl, trivial⟩⟩⟩ (fun ok hA => eslaw00_Update.calls (x1 := x65) (x2 := x64) (x3 := x70) hxx71) ?_
      rintro ⟨a72, n73, c74⟩ w hs
      refine WL.buildSlice (n := 1) (vs := [(0, .agg ([.int .i64 x71.Client, .int .i64 x71.Seq, .int .i64 x71.Tag, .slice a72 n73 c74] : List Value).toArray)]) (cs := [.int .i64 x71.Client, .int .i64 x71.Seq, .int .i64 x71.Tag, .slice a72 n73 c74]) hs ⟨⟨rfl, rfl⟩, trivial⟩ (bls PS28 (by decide) rfl) (fun g75 w hs => ?_)
      obtain rfl := hs.ownLen 1 rfl
      have hs := hs.freezeOwn 1 rfl
      obtain ⟨x76, hxx76, hf⟩ := bindE hf
      obtain ⟨hbx76, hex76⟩ := appE hxx76
      refine WL.append (ys := [(⟨x71.Client, x71.Seq, x71.Tag, x71.Effects⟩ : api_Update)]) (zs := x76) hs 1 rfl 0 rfl UN28 EI74 rfl rfl (fun ok hA => (Cells.one (T := t_api_Update) (show t_api_Update.R ok _ (⟨x71.Client, x71.Seq, x71.Tag, x71.Effects⟩ : api_Update) _ from ⟨[.int .i64 x71.Client], [.int .i64 x71.Seq, .int .i64 x71.Tag, .slice a72 (x71.Effects).length c74], rfl, rfl, ⟨[.int .i64 x71.Seq], [.int .i64 x71.Tag, .slice a72 (x71.Effects).length c74], rfl, rfl, ⟨[.int .i64 x71.Tag], [.slice a72 (x71.Effects).length c74], rfl, rfl, (R_one (hA.get 0 rfl))⟩⟩⟩))) hbx76 (by omega) hex76 (fun v77 w hs => ?_)
      obtain ⟨a78, n80, c79, rfl⟩ := hs.ownv3 1 rfl
      refine WL.assign (v := .slice a78 n80 c79) rfl ?_
      refine WL.nil ?_
      exact Jk56 x76 x64 a78 c79 n80 _ _ h59_0 rfl h59_4 rfl h59_6 ((hs.mask [false, true]).pick [3]) hf }
      {
      refine W.cond_false (bool_tr h59_31 hc62) ?_
      refine W.skip ?_
      exact Jk56 x36 x40 a37 c38 n39 _ _ h59_0 h59_3 h59_4 h59_5 h59_6 ((hs.mask [true]).pick [0]) hf }
    refine W.region ?_
    refine WL.move (v := .slice a2 x1.length c3) h45_0 ?_
    refine WL.move (v := .int .i64 x41) h45_6 ?_
    obtain ⟨x81, hxx81, hf⟩ := bindE hf
    refine WL.indexAddr hs 0 rfl UN22 TI3 rfl rfl hxx81 (fun ad82 hs => ?_)
    refine WL.loadP hs 0 rfl TI3 (.inr rfl) rfl (fun v83 hs => ?_)
    obtain rfl := hs.int 0 rfl
    obtain ⟨x84, hxx84, hf⟩ := bindE hf
    refine WL.call (vs := [.int .i64 x81, .int .i64 3, .int .i64 0]) hs FN31 ⟨rfl, ⟨rfl, ⟨rfl, trivial⟩⟩⟩ (fun ok hA => eslaw00_Digit.calls (x1 := x81) (x2 := 3) (x3 := 0) hxx84) ?_
    rintro _ w hs
    refine WL.move (v := .int .i64 x20) h45_4 ?_
    refine WL.bin (v := .bool (x84 == x20)) rfl rfl (ib_eql _ _ _) ?_
    refine WL.move (v := .bool (x84 == x20)) rfl ?_
    rcases iteE hf with ⟨hc85, hf⟩ | ⟨hc85, hf⟩
    {
    refine WL.move (v := .int .i64 x40) h45_5 ?_ (hg := (wanted_of rfl rfl (bool_tr rfl hc85)).trans rfl)
    refine WL.bin (v := .bool (decide (x40 < 8))) rfl rfl (ib_lss _ _ _) ?_ (hg := (wanted_of rfl rfl (bool_tr rfl hc85)).trans rfl)
    refine WL.pickT (v := .bool (decide (x40 < 8))) (bool_tr rfl hc85) rfl ?_
    refine WL.nil ?_
    exact Jk61 (decide (x40 < 8)) _ _ h45_0 h45_3 h45_4 h45_5 h45_6 rfl ((hs.mask [true]).pick [2]) hf }
    {
    refine WL.pass ((wanted_of rfl rfl (bool_tr rfl hc85)).trans rfl) rfl ?_
    refine WL.pass ((wanted_of rfl rfl (bool_tr rfl hc85)).trans rfl) rfl ?_
    refine WL.pickF (v := .bool false) (bool_tr rfl hc85) rfl ?_
    refine WL.nil ?_
    exact Jk61 false _ _ h45_0 h45_3 h45_4 h45_5 h45_6 rfl ((hs.mask [true]).pick [2]) hf } }
    {
    refine W.cond_false (bool_tr h45_18 hc48) ?_
    refine W.exit ?_
    have hr := Option.some.inj hf; subst hr
    have hr := hbbs42 _ rfl; subst hr
    have hf := hfs42
    exact Jk31 x36 a37 c38 n39 _ _ h45_0 h45_3 h45_4 ((hs.mask [true]).pick [0]) hf }
  refine W.region ?_
  refine WL.move (v := .int .i64 x41) h35_6 ?_
  refine WL.move (v := .slice a2 x1.length c3) h35_0 ?_
  refine WL.len (v := .slice a2 x1.length c3) rfl (len_slice UN22) ?_
  refine WL.bin (v := .bool (decide (x41 < (x1.length : Int)))) rfl rfl (ib_lss _ _ _) ?_
  refine WL.move (v := .bool (decide (x41 < (x1.length : Int)))) rfl ?_
  rcases iteE hf with ⟨hc86, hf⟩ | ⟨hc86, hf⟩
  {
  refine WL.move (v := .int .i64 x41) h35_6 ?_ (hg := (wanted_of rfl rfl (bool_tr rfl hc86)).trans rfl)
  refine WL.bin (v := .bool (decide (x41 < 24))) rfl rfl (ib_lss _ _ _) ?_ (hg := (wanted_of rfl rfl (bool_tr rfl hc86)).trans rfl)
  refine WL.pickT (v := .bool (decide (x41 < 24))) (bool_tr rfl hc86) rfl ?_
  refine WL.nil ?_
  exact Jk47 (decide (x41 < 24)) _ _ h35_0 h35_3 h35_4 h35_5 h35_6 rfl ((hs.mask [true]).pick [0]) hf }
  {
  refine WL.pass ((wanted_of rfl rfl (bool_tr rfl hc86)).trans rfl) rfl ?_
  refine WL.pass ((wanted_of rfl rfl (bool_tr rfl hc86)).trans rfl) rfl ?_
  refine WL.pickF (v := .bool false) (bool_tr rfl hc86) rfl ?_
  refine WL.nil ?_
  exact Jk47 false _ _ h35_0 h35_3 h35_4 h35_5 h35_6 rfl ((hs.mask [true]).pick [0]) hf } }
  {
  refine W.cond_false (bool_tr rfl hc24) ?_
  refine W.exit ?_
  have hr := Option.some.inj hf; subst hr
  have hr := hbbs21 _ rfl; subst hr
  have hf := hfs21
  exact Jk12 x16 a17 c18 n19 _ _ h15_3 ((hs.mask [true]).pick []) hf }
theorem eslaw00_Updates.callc {ok : Nat → Prop} {w0 : World} {x1 : List Int} {a2 : Option Addr} {c3 : Nat} {r : List api_Update} (hf : eslaw00_Updates x1 = some r) (i0 : (vl (tSlice (tInt .i64)) x1 (.slice a2 x1.length c3)).holds ok w0) :
    Calls Tryz.prog 10 #[.slice a2 x1.length c3] w0 fun e w' => ∃ v, e = .returned v ∧ ∃ y : (Option Addr × Nat), v = .slice y.1 r.length y.2 ∧ St ok (bz w0) w' [vl (tSlice t_api_Update) r (.slice y.1 r.length y.2)] [] := by
  refine (eslaw00_Updates.calls (ok := ok) (w0 := w0) (x1 := x1) hf i0).mono ?_
  rintro e w' ⟨v, rfl, ⟨a89, n90, c91⟩, rfl, hs⟩
  obtain rfl := hs.ownLen 0 rfl
  have hs := hs.freezeOwn 0 rfl
  exact ⟨_, rfl, (a89, c91), rfl, hs.pick [0]⟩
theorem eslaw32_convert.calls {ok : Nat → Prop} {w0 : World} {x1 : index_Key} {v2 : Value} {r : elasticstoreref32_Key} (hf : eslaw32_convert x1 = some r) (i0 : (vl t_index_Key x1 v2).holds ok w0) :
    Calls Tryz.prog 15 #[v2] w0 fun e w' => ∃ v, e = .returned v ∧ ∃ y : List Value, v = .agg y.toArray ∧ St ok (bz w0) w' [vl t_elasticstoreref32_Key r (.agg y.toArray)] [] := by
  unfold eslaw32_convert at hf
  refine calls_of_W (fn := Tryz.f15) (N := 10) Tryz.func15 rfl Tryz.ntmps15 rfl ?_
  have hs : St ok (bz w0) w0 [vl t_index_Key x1 v2] [] := St.init (All.cons i0 All.nil)
  clear i0
  obtain ⟨cs3, hl4, rfl⟩ := hs.aggv (n := 3) 0 rfl rfl rfl
  refine W.seqK fun K5 hK5 => ?_
  refine W.region ?_
  refine WL.box (vs := cs3) hs rfl rfl (fun g6 w hs => ?_)
  refine WL.alloc hs ZV45 (fun g7 w hs => ?_)
  refine WL.nil ?_
  refine hK5 _ _ ?_
  refine W.seqK fun K8 hK8 => ?_
  refine W.region ?_
  refine WL.fieldAddr (m := 0) rfl FA47_0 rfl ?_
  refine WL.loadF (z := x1.f_Type) F_index_Key_f_Type hs 1 rfl 0 rfl rfl TI3 (.inr rfl) rfl rfl (fun v9 hs => ?_)
  obtain rfl := hs.int 0 rfl
  refine WL.fieldAddr (m := 1) rfl FA47_1 rfl ?_
  refine WL.loadF (z := x1.N) F_index_Key_N hs 1 rfl 1 rfl rfl TI2 (.inr rfl) rfl rfl (fun v10 hs => ?_)
  obtain rfl := hs.int 0 rfl
  refine WL.fieldAddr (m := 2) rfl FA47_2 rfl ?_
  refine WL.loadF (z := x1.S) F_index_Key_S hs 1 rfl 2 rfl rfl TI9 (.inr rfl) rfl rfl (fun v11 hs => ?_)
  obtain rfl := hs.str 0 rfl
  refine WL.build (vs := [(0, .int .i64 x1.f_Type), (1, .int .i64 x1.N), (2, bstr x1.S)]) (cs := [.int .i64 x1.f_Type, .int .i64 x1.N, bstr x1.S]) ⟨⟨rfl, rfl⟩, ⟨⟨rfl, rfl⟩, ⟨⟨rfl, rfl⟩, trivial⟩⟩⟩ (bld PL45 rfl) ?_
  refine WL.storeAll (vs := [.int .i64 x1.f_Type, .int .i64 x1.N, bstr x1.S]) hs 0 rfl TI45 rfl rfl rfl rfl (ones_of rfl) rfl (fun w hs => ?_)
  refine WL.nil ?_
  refine hK8 _ _ ?_
  refine W.ret ?_
  have hr := Option.some.inj hf; subst hr
  have hs := hs.add (it := vl t_elasticstoreref32_Key (⟨x1.f_Type, x1.N, x1.S⟩ : elasticstoreref32_Key) (.agg [.int .i64 x1.f_Type, .int .i64 x1.N, bstr x1.S].toArray)) fun ok hA => V_agg (show t_elasticstoreref32_Key.R ok _ _ _ from ⟨[.int .i64 x1.f_Type], [.int .i64 x1.N, bstr x1.S], rfl, rfl, ⟨[.int .i64 x1.N], [bstr x1.S], rfl, rfl, rfl⟩⟩) rfl
  exact ⟨_, resOk_one rfl (res_all hs 0 rfl TI45 rfl rfl), [.int .i64 x1.f_Type, .int .i64 x1.N, bstr x1.S], rfl, (hs.mask []).pick [0]⟩
theorem eslaw32_entries.calls {ok : Nat → Prop} {w0 : World} {x1 : List index_Entry} {a2 : Option Addr} {c3 : Nat} {r : List elasticstoreref32_Entry} (hf : eslaw32_entries x1 = some r) (i0 : (vl (tSlice t_index_Entry) x1 (.slice a2 x1.length c3)).holds ok w0) :
    Calls Tryz.prog 19 #[.slice a2 x1.length c3] w0 fun e w' => ∃ v, e = .returned v ∧ ∃ y : (Option Addr × Nat × Nat), v = .slice y.1 y.2.1 y.2.2 ∧ St ok (bz w0) w' [] [own t_elasticstoreref32_Entry 92 (.slice y.1 y.2.1 y.2.2) r] := by
  unfold eslaw32_entries at hf
  refine calls_of_W (fn := Tryz.f19) (N := 27) Tryz.func19 rfl Tryz.ntmps19 rfl ?_
  have hs : St ok (bz w0) w0 [vl (tSlice t_index_Entry) x1 (.slice a2 x1.length c3)] [] := St.init (All.cons i0 All.nil)
  clear i0
  refine W.seqK fun K4 hK4 => ?_
  refine W.region ?_
  refine WL.assign (v := .slice none 0 0) rfl ?_
  refine WL.nil ?_
  refine hK4 _ _ ?_
  refine W.seqK fun K5 hK5 => ?_
  refine W.region ?_
  refine WL.assign (v := .slice none 0 0) rfl ?_
  refine WL.nil ?_
  refine hK5 _ _ ?_
  refine W.seqK fun K6 hK6 => ?_
  have hs := hs.ownNil t_elasticstoreref32_Entry 92
  have Jk12 : ∀ (x8 : List elasticstoreref32_Entry) (a9 : Option Addr) (c10 : Nat) (n11 : Nat) (ρ : Env) (w : World), ρ 3 = .slice a9 n11 c10 → St ok (bz w0) w [] [own t_elasticstoreref32_Entry 92 (.slice a9 n11 c10) x8] → eslaw32_entries.j1 x8 = some r → K6 ρ w := by
    intro x8 a9 c10 n11 ρ w h7_3 hs hf
    refine hK6 _ _ ?_
    unfold eslaw32_entries.j1 at hf
    refine W.seqK fun K13 hK13 => ?_
    refine W.region ?_
    refine WL.move (v := .slice a9 n11 c10) h7_3 ?_
    refine WL.assign (v := .slice a9 n11 c10) rfl ?_
    refine WL.nil ?_
    refine hK13 _ _ ?_
    refine W.ret ?_
    have hr := Option.some.inj hf; subst hr
    exact ⟨_, resOk_one rfl rfl, (a9, n11, c10), rfl, (hs.mask [true]).pick []⟩
  refine W.seqK fun K14 hK14 => ?_
  refine W.region ?_
  refine WL.assign (v := .int .i64 0) rfl ?_
  refine WL.nil ?_
  refine hK14 _ _ ?_
  refine W.block ?_
  obtain ⟨bs21, hbs21, hfs21⟩ := bindE hf
  refine W.loop hbs21 (fun s ρ w => match s with | (x16, x20) => ∃ (a17 : Option Addr), ∃ (c18 : Nat), ∃ (n19 : Nat), ρ 0 = .slice a2 x1.length c3 ∧ ρ 3 = .slice a17 n19 c18 ∧ ρ 4 = .int .i64 x20 ∧ St ok (bz w0) w [vl (tSlice t_index_Entry) x1 (.slice a2 x1.length c3)] [own t_elasticstoreref32_Entry 92 (.slice a17 n19 c18) x16]) ⟨none, 0, 0, rfl, rfl, rfl, (hs.mask [true]).pick [0]⟩ ?_
  intro s ρ w os21 hI hf hbbs21
  obtain ⟨x16, x20⟩ := s
  obtain ⟨a17, c18, n19, h15_0, h15_3, h15_4, hs⟩ := hI
  unfold eslaw32_entries.l1 at hf
  refine W.seqK fun K22 hK22 => ?_
  refine W.seqK fun K23 hK23 => ?_
  refine W.region ?_
  refine WL.move (v := .int .i64 x20) h15_4 ?_
  refine WL.move (v := .slice a2 x1.length c3) h15_0 ?_
  refine WL.len (v := .slice a2 x1.length c3) rfl (len_slice UN33) ?_
  refine WL.bin (v := .bool (decide (x20 < (x1.length : Int)))) rfl rfl (ib_lss _ _ _) ?_
  refine WL.nil ?_
  refine hK23 _ _ ?_
  rcases iteE hf with ⟨hc24, hf⟩ | ⟨hc24, hf⟩
  {
  refine W.cond_true (bool_tr rfl hc24) ?_
  refine W.skip ?_
  refine hK22 _ _ ?_
  refine W.seqK fun K25 hK25 => ?_
  refine W.block ?_
  obtain ⟨x26, hxx26, hf⟩ := bindE hf
  obtain ⟨x32, hxx32, hf⟩ := bindE hf
  obtain ⟨x35, hxx35, hf⟩ := bindE hf
  refine W.any (by kernel_rfl) 14 2 [true, true, true, true, true, true, true, true, true, true, true, true, true, true, false, false] rfl rfl (poAt [pv (.slice a17 n19 c18), pv (.slice a2 x1.length c3), pv (.int .i64 x20), pq (fun y : Addr => .pointer (some y)) (fun v => [pl t_index_Entry x26 (adOf v)]) (fun v => []), pq (fun y : Addr => .pointer (some y)) (fun v => [pl t_index_Key x26.Key (adOf v)]) (fun v => []), pq (fun y : List Value => .agg y.toArray) (fun v => [vl t_index_Key x26.Key v]) (fun v => []), pq (fun y : List Value => .agg y.toArray) (fun v => [vl t_elasticstoreref32_Key x32 v]) (fun v => []), pv (.slice a2 x1.length c3), pv (.int .i64 x20), pq (fun y : Addr => .pointer (some y)) (fun v => [pl t_index_Entry x35 (adOf v)]) (fun v => []), pq (fun y : Addr => .pointer (some y)) (fun v => [pl (tSlice tStr) x35.Objects (adOf v)]) (fun v => []), pq (fun y : (Option Addr × Nat) => .slice y.1 (x35.Objects).length y.2) (fun v => [vl (tSlice tStr) x35.Objects v]) (fun v => []), pn [6, 11] (fun r => .agg (cellsOf (r.getD 0 undef) ++ [r.getD 1 undef] : List Value).toArray), pq (fun y : (Option Addr × Nat) => .slice y.1 ([(⟨x32, x35.Objects⟩ : elasticstoreref32_Entry)]).length y.2) (fun v => [vl (tSlice t_elasticstoreref32_Entry) [(⟨x32, x35.Objects⟩ : elasticstoreref32_Entry)] v]) (fun v => [])]) (Λ := [own t_elasticstoreref32_Entry 92 (.slice a17 n19 c18) x16]) hs (by kernel_rfl) (by kernel_rfl) (by kernel_rfl) ⟨⟨⟨⟨⟨⟨⟨⟨⟨⟨⟨⟨⟨⟨trivial, ?_⟩, ?_⟩, ?_⟩, ?_⟩, ?_⟩, ?_⟩, ?_⟩, ?_⟩, ?_⟩, ?_⟩, ?_⟩, ?_⟩, ?_⟩, ?_⟩ ?_
  {
  intro ρ w Γx Λx hs hu hp
  refine WL.move (v := .slice a17 n19 c18) ((hu 3 rfl).trans h15_3) ?_
  exact WL.nil ⟨rfl, _, rfl, rfl, hs.cutG 0 0⟩ }
  {
  intro ρ w Γx Λx hs hu hp
  refine WL.move (v := .slice a2 x1.length c3) ((hu 0 rfl).trans h15_0) ?_
  exact WL.nil ⟨rfl, _, rfl, rfl, hs.cutG 0 0⟩ }
  {
  intro ρ w Γx Λx hs hu hp
  refine WL.move (v := .int .i64 x20) ((hu 4 rfl).trans h15_4) ?_
  exact WL.nil ⟨rfl, _, rfl, rfl, hs.cutG 0 0⟩ }
  {
  intro ρ w Γx Λx hs hu hp
  have e43 : ρ 12 = .slice a2 x1.length c3 := (hp 1 rfl).1
  have e44 : ρ 13 = .int .i64 x20 := (hp 2 rfl).1
  refine WL.indexAddr hs (Γx.length + 0) (getApp rfl) UN33 TI65 e43 e44 hxx26 (fun ad27 hs => ?_)
  have hs := hs.add (it := pl t_index_Entry x26 ad27) fun ok hA => hA.get 0 rfl
  exact WL.nil ⟨rfl, _, rfl, ⟨ad27, rfl⟩, hs.cutG 1 1⟩ }
  {
  intro ρ w Γx Λx hs hu hp
  obtain ⟨⟨ad45, e46r⟩, hm47⟩ := hp 3 rfl
  have e46 : ρ 14 = .pointer (some ad45) := e46r
  rw [e46r] at hm47
  have hs := hs.memo1 (it := pl t_index_Entry x26 ad45) (List.mem_append.2 (.inl (hm47 _ (List.mem_of_getElem? (i := 0) rfl))))
  refine WL.fieldAddrP (z := x26.Key) F_index_Entry_Key hs 0 rfl e46 FA65_0 rfl (fun ad28 hs => ?_)
  have hs := hs.add (it := pl t_index_Key x26.Key ad28) fun ok hA => hA.get 0 rfl
  exact WL.nil ⟨rfl, _, rfl, ⟨ad28, rfl⟩, hs.cutG 1 2⟩ }
  {
  intro ρ w Γx Λx hs hu hp
  obtain ⟨⟨ad48, e49r⟩, hm50⟩ := hp 4 rfl
  have e49 : ρ 15 = .pointer (some ad48) := e49r
  rw [e49r] at hm50
  have hs := hs.memo1 (it := pl t_index_Key x26.Key ad48) (List.mem_append.2 (.inl (hm50 _ (List.mem_of_getElem? (i := 0) rfl))))
  refine WL.loadP hs 0 rfl TI47 (.inl rfl) e49 (fun v29 hs => ?_)
  obtain ⟨cs30, hl31, rfl⟩ := hs.aggv (n := 3) 0 rfl rfl rfl
  have hs := hs.add (it := vl t_index_Key x26.Key (.agg cs30.toArray)) fun ok hA => hA.get 0 rfl
  exact WL.nil ⟨rfl, _, rfl, ⟨cs30, rfl⟩, hs.cutG 1 2⟩ }
  {
  intro ρ w Γx Λx hs hu hp
  obtain ⟨⟨cs51, e53r⟩, hm54⟩ := hp 5 rfl
  have e53 : ρ 16 = .agg cs51.toArray := e53r
  rw [e53r] at hm54
  have hs := hs.memo1 (it := vl t_index_Key x26.Key (.agg cs51.toArray)) (List.mem_append.2 (.inl (hm54 _ (List.mem_of_getElem? (i := 0) rfl))))
  have hl52 := hs.agglen (n := 3) 0 rfl rfl rfl
  refine WL.call (vs := [.agg cs51.toArray]) hs FN15 ⟨e53, trivial⟩ (fun ok hA => eslaw32_convert.calls (x1 := x26.Key) hxx32 (hA.get 0 rfl)) ?_
  rintro cs33 w hs
  have hl34 := hs.agglen (n := 3) 0 rfl rfl rfl
  have hs := hs.add (it := vl t_elasticstoreref32_Key x32 (.agg cs33.toArray)) fun ok hA => hA.get 0 rfl
  exact WL.nil ⟨rfl, _, rfl, ⟨cs33, rfl⟩, hs.cutG 1 2⟩ }
  {
  intro ρ w Γx Λx hs hu hp
  refine WL.move (v := .slice a2 x1.length c3) ((hu 0 rfl).trans h15_0) ?_
  exact WL.nil ⟨rfl, _, rfl, rfl, hs.cutG 0 0⟩ }
  {
  intro ρ w Γx Λx hs hu hp
  refine WL.move (v := .int .i64 x20) ((hu 4 rfl).trans h15_4) ?_
  exact WL.nil ⟨rfl, _, rfl, rfl, hs.cutG 0 0⟩ }
  {
  intro ρ w Γx Λx hs hu hp
  have e55 : ρ 18 = .slice a2 x1.length c3 := (hp 7 rfl).1
  have e56 : ρ 19 = .int .i64 x20 := (hp 8 rfl).1
  refine WL.indexAddr hs (Γx.length + 0) (getApp rfl) UN33 TI65 e55 e56 hxx35 (fun ad36 hs => ?_)
  have hs := hs.add (it := pl t_index_Entry x35 ad36) fun ok hA => hA.get 0 rfl
  exact WL.nil ⟨rfl, _, rfl, ⟨ad36, rfl⟩, hs.cutG 1 1⟩ }
  {
  intro ρ w Γx Λx hs hu hp
  obtain ⟨⟨ad57, e58r⟩, hm59⟩ := hp 9 rfl
  have e58 : ρ 20 = .pointer (some ad57) := e58r
  rw [e58r] at hm59
  have hs := hs.memo1 (it := pl t_index_Entry x35 ad57) (List.mem_append.2 (.inl (hm59 _ (List.mem_of_getElem? (i := 0) rfl))))
  refine WL.fieldAddrP (z := x35.Objects) F_index_Entry_Objects hs 0 rfl e58 FA65_1 rfl (fun ad37 hs => ?_)
  have hs := hs.add (it := pl (tSlice tStr) x35.Objects ad37) fun ok hA => hA.get 0 rfl
  exact WL.nil ⟨rfl, _, rfl, ⟨ad37, rfl⟩, hs.cutG 1 2⟩ }
  {
  intro ρ w Γx Λx hs hu hp
  obtain ⟨⟨ad60, e61r⟩, hm62⟩ := hp 10 rfl
  have e61 : ρ 21 = .pointer (some ad60) := e61r
  rw [e61r] at hm62
  have hs := hs.memo1 (it := pl (tSlice tStr) x35.Objects ad60) (List.mem_append.2 (.inl (hm62 _ (List.mem_of_getElem? (i := 0) rfl))))
  refine WL.loadP hs 0 rfl TI56 (.inr rfl) e61 (fun v38 hs => ?_)
  obtain ⟨a39, c40, rfl⟩ := hs.slice 0 rfl
  have hs := hs.add (it := vl (tSlice tStr) x35.Objects (.slice a39 (x35.Objects).length c40)) fun ok hA => hA.get 0 rfl
  exact WL.nil ⟨rfl, _, rfl, ⟨(a39, c40), rfl⟩, hs.cutG 1 2⟩ }
  {
  intro ρ w Γx Λx hs hu hp
  obtain ⟨⟨cs63, e65r⟩, hm66⟩ := hp 6 rfl
  have e65 : ρ 17 = .agg cs63.toArray := e65r
  rw [e65r] at hm66
  have hs := hs.memo1 (it := vl t_elasticstoreref32_Key x32 (.agg cs63.toArray)) (List.mem_append.2 (.inl (hm66 _ (List.mem_of_getElem? (i := 0) rfl))))
  have hl64 := hs.agglen (n := 3) 0 rfl rfl rfl
  obtain ⟨⟨⟨a67, c68⟩, e69r⟩, hm70⟩ := hp 11 rfl
  have e69 : ρ 22 = .slice a67 (x35.Objects).length c68 := e69r
  rw [e69r] at hm70
  have hs := hs.memo1 (it := vl (tSlice tStr) x35.Objects (.slice a67 (x35.Objects).length c68)) (List.mem_cons_of_mem _ (List.mem_append.2 (.inl (hm70 _ (List.mem_of_getElem? (i := 0) rfl)))))
  refine WL.build (vs := [(0, .agg cs63.toArray), (1, .slice a67 (x35.Objects).length c68)]) (cs := cs63 ++ ([.slice a67 (x35.Objects).length c68] : List Value)) ⟨⟨rfl, e65⟩, ⟨⟨rfl, e69⟩, trivial⟩⟩ (bld PL92 (by simp [fillL, Value.cells, hl64])) ?_
  exact WL.nil ⟨rfl, _, rfl, (show (.agg (cs63 ++ ([.slice a67 (x35.Objects).length c68] : List Value) : List Value).toArray : Value) = (.agg (cellsOf (ρ 17) ++ [ρ 22] : List Value).toArray : Value) by rw [e65, e69]; rfl), hs.cutG 0 2⟩ }
  {
  intro ρ w Γx Λx hs hu hp
  obtain ⟨⟨cs71, e73r⟩, hm74⟩ := hp 6 rfl
  have e73 : ρ 17 = .agg cs71.toArray := e73r
  rw [e73r] at hm74
  have hs := hs.memo1 (it := vl t_elasticstoreref32_Key x32 (.agg cs71.toArray)) (List.mem_append.2 (.inl (hm74 _ (List.mem_of_getElem? (i := 0) rfl))))
  have hl72 := hs.agglen (n := 3) 0 rfl rfl rfl
  obtain ⟨⟨⟨a75, c76⟩, e77r⟩, hm78⟩ := hp 11 rfl
  have e77 : ρ 22 = .slice a75 (x35.Objects).length c76 := e77r
  rw [e77r] at hm78
  have hs := hs.memo1 (it := vl (tSlice tStr) x35.Objects (.slice a75 (x35.Objects).length c76)) (List.mem_cons_of_mem _ (List.mem_append.2 (.inl (hm78 _ (List.mem_of_getElem? (i := 0) rfl)))))
  have e79 : ρ 23 = .agg (cellsOf (ρ 17) ++ [ρ 22] : List Value).toArray := (hp 12 rfl).1
  rw [e73, e77] at e79
  simp only [cellsOf] at e79
  refine WL.buildSliceB (ys := [(⟨x32, x35.Objects⟩ : elasticstoreref32_Entry)]) (n := 1) (vs := [(0, .agg (cs71 ++ ([.slice a75 (x35.Objects).length c76] : List Value) : List Value).toArray)]) (cs := cs71 ++ ([.slice a75 (x35.Objects).length c76] : List Value)) hs ⟨⟨rfl, e79⟩, trivial⟩ (bls PS49 (by decide) (by simp [fillS, fillL, Value.cells, hl72])) (fun ok hA => (Cells.one (T := t_elasticstoreref32_Entry) (show t_elasticstoreref32_Entry.R ok _ (⟨x32, x35.Objects⟩ : elasticstoreref32_Entry) _ from ⟨cs71, [.slice a75 (x35.Objects).length c76], by simp, (R_agg (hA.get 1 rfl) rfl), (R_one (hA.get 0 rfl))⟩))) rfl (by decide) (fun a42 w hBl hs => ?_)
  have hs := hs.add (it := vl (tSlice t_elasticstoreref32_Entry) [(⟨x32, x35.Objects⟩ : elasticstoreref32_Entry)] (.slice a42 ([(⟨x32, x35.Objects⟩ : elasticstoreref32_Entry)]).length 1)) fun ok hA => hA.get 0 rfl
  exact WL.nil ⟨rfl, _, rfl, ⟨(a42, 1), rfl⟩, hs.cutG 1 3⟩ }
  {
  intro ρ w hs hu80 hp
  obtain ⟨⟨⟨⟨⟨⟨⟨⟨⟨⟨⟨⟨⟨⟨_, hp0_⟩, hp1_⟩, hp2_⟩, hp3_⟩, hp4_⟩, hp5_⟩, hp6_⟩, hp7_⟩, hp8_⟩, hp9_⟩, hp10_⟩, hp11_⟩, hp12_⟩, hp13_⟩ := hp
  have hs : St ok (bz w0) w [vl (tSlice t_elasticstoreref32_Entry) [(⟨x32, x35.Objects⟩ : elasticstoreref32_Entry)] (ρ 24), vl (tSlice tStr) x35.Objects (ρ 22), pl (tSlice tStr) x35.Objects (adOf (ρ 21)), pl t_index_Entry x35 (adOf (ρ 20)), vl t_elasticstoreref32_Key x32 (ρ 17), vl t_index_Key x26.Key (ρ 16), pl t_index_Key x26.Key (adOf (ρ 15)), pl t_index_Entry x26 (adOf (ρ 14)), vl (tSlice t_index_Entry) x1 (.slice a2 x1.length c3)] [own t_elasticstoreref32_Entry 92 (.slice a17 n19 c18) x16] := hs
  obtain ⟨⟨a81, c82⟩, e83⟩ := hp13_
  have e83 : ρ 24 = .slice a81 ([(⟨x32, x35.Objects⟩ : elasticstoreref32_Entry)]).length c82 := e83
  try rw [e83] at hs
  obtain ⟨⟨a84, c85⟩, e86⟩ := hp11_
  have e86 : ρ 22 = .slice a84 (x35.Objects).length c85 := e86
  try rw [e86] at hs
  obtain ⟨ad87, e88⟩ := hp10_
  have e88 : ρ 21 = .pointer (some ad87) := e88
  try rw [e88] at hs
  obtain ⟨ad89, e90⟩ := hp9_
  have e90 : ρ 20 = .pointer (some ad89) := e90
  try rw [e90] at hs
  have e91 : ρ 19 = .int .i64 x20 := hp8_
  have e92 : ρ 18 = .slice a2 x1.length c3 := hp7_
  obtain ⟨cs93, e95⟩ := hp6_
  have e95 : ρ 17 = .agg cs93.toArray := e95
  try rw [e95] at hs
  obtain ⟨cs96, e98⟩ := hp5_
  have e98 : ρ 16 = .agg cs96.toArray := e98
  try rw [e98] at hs
  obtain ⟨ad99, e100⟩ := hp4_
  have e100 : ρ 15 = .pointer (some ad99) := e100
  try rw [e100] at hs
  obtain ⟨ad101, e102⟩ := hp3_
  have e102 : ρ 14 = .pointer (some ad101) := e102
  try rw [e102] at hs
  have e103 : ρ 13 = .int .i64 x20 := hp2_
  have e104 : ρ 12 = .slice a2 x1.length c3 := hp1_
  have e105 : ρ 11 = .slice a17 n19 c18 := hp0_
  have e106 : ρ 23 = .agg (cellsOf (ρ 17) ++ [ρ 22] : List Value).toArray := hp12_
  rw [e95, e86] at e106
  simp only [cellsOf] at e106
  have hl97 := hs.agglen (n := 3) 5 rfl rfl rfl
  have hl94 := hs.agglen (n := 3) 4 rfl rfl rfl
  refine WA.step [14] (by kernel_rfl) (by simp) ⟨?_, trivial⟩
  obtain ⟨x107, hxx107, hf⟩ := bindE hf
  obtain ⟨hbx107, hex107⟩ := appE hxx107
  refine WL.appendS (zs := x107) hs 0 rfl 0 rfl UN49 UN49 EI92 e105 e83 hbx107 (by omega) hex107 (fun v108 w hs => ?_)
  obtain ⟨a109, n111, c110, rfl⟩ := hs.ownv3 0 rfl
  refine WL.nil ⟨rfl, _, rfl, ?_⟩
  refine WA.step [15] (by kernel_rfl) (by simp) ⟨?_, trivial⟩
  refine WL.assign (v := .slice a109 n111 c110) rfl ?_
  refine WL.nil ⟨rfl, _, rfl, ?_⟩
  refine WA.done (by kernel_rfl) ?_
  refine hK25 _ _ ?_
  refine W.region ?_
  refine WL.move (v := .int .i64 x20) ((hu80 4 rfl).trans h15_4) ?_
  obtain ⟨x112, ex112, hf⟩ := letE hf
  refine WL.bin (v := .int .i64 x112) rfl rfl (ib_as ex112 (ib_add _ _ _)) ?_
  refine WL.assign (v := .int .i64 x112) rfl ?_
  refine WL.nil ?_
  exact ⟨_, (Option.some.inj hf).symm, a109, c110, n111, ((hu80 0 rfl).trans h15_0), rfl, rfl, (hs.mask [true]).pick [8]⟩ } }
  {
  refine W.cond_false (bool_tr rfl hc24) ?_
  refine W.exit ?_
  have hr := Option.some.inj hf; subst hr
  have hr := hbbs21 _ rfl; subst hr
  have hf := hfs21
  exact Jk12 x16 a17 c18 n19 _ _ h15_3 ((hs.mask [true]).pick []) hf }
theorem eslaw32_entries.callc {ok : Nat → Prop} {w0 : World} {x1 : List index_Entry} {a2 : Option Addr} {c3 : Nat} {r : List elasticstoreref32_Entry} (hf : eslaw32_entries x1 = some r) (i0 : (vl (tSlice t_index_Entry) x1 (.slice a2 x1.length c3)).holds ok w0) :
    Calls Tryz.prog 19 #[.slice a2 x1.length c3] w0 fun e w' => ∃ v, e = .returned v ∧ ∃ y : (Option Addr × Nat), v = .slice y.1 r.length y.2 ∧ St ok (bz w0) w' [vl (tSlice t_elasticstoreref32_Entry) r (.slice y.1 r.length y.2)] [] := by
  refine (eslaw32_entries.calls (ok := ok) (w0 := w0) (x1 := x1) hf i0).mono ?_
  rintro e w' ⟨v, rfl, ⟨a114, n115, c116⟩, rfl, hs⟩
  obtain rfl := hs.ownLen 0 rfl
  have hs := hs.freezeOwn 0 rfl
  exact ⟨_, rfl, (a114, c116), rfl, hs.pick [0]⟩
theorem eslaw32_key.calls {ok : Nat → Prop} {w0 : World} {x1 : Int}  {r : index_Key} (hf : eslaw32_key x1 = some r)  :
    Calls Tryz.prog 20 #[.int .i64 x1] w0 fun e w' => ∃ v, e = .returned v ∧ ∃ y : List Value, v = .agg y.toArray ∧ St ok (bz w0) w' [vl t_index_Key r (.agg y.toArray)] [] := by
  unfold eslaw32_key at hf
  refine calls_of_W (fn := Tryz.f20) (N := 18) Tryz.func20 rfl Tryz.ntmps20 rfl ?_
  have hs : St ok (bz w0) w0 [] [] := St.init All.nil
  refine W.seqK fun K2 hK2 => ?_
  refine W.region ?_
  refine WL.alloc hs ZV47 (fun g3 w hs => ?_)
  refine WL.nil ?_
  refine hK2 _ _ ?_
  refine W.seqK fun K4 hK4 => ?_
  refine W.seqK fun K5 hK5 => ?_
  refine W.region ?_
  refine WL.move (v := .int .i64 x1) rfl ?_
  obtain ⟨x6, hxx6, hf⟩ := bindE hf
  refine WL.call (vs := [.int .i64 x1, .int .i64 2]) hs FN33 ⟨rfl, ⟨rfl, trivial⟩⟩ (fun ok hA => eslaw00_Index.calls (x1 := x1) (x2 := 2) hxx6) ?_
  rintro _ w hs
  refine WL.bin (v := .bool (x6 == 0)) rfl rfl (ib_eql _ _ _) ?_
  refine WL.nil ?_
  refine hK5 _ _ ?_
  rcases iteE hf with ⟨hc7, hf⟩ | ⟨hc7, hf⟩
  {
  refine W.cond_true (bool_tr rfl hc7) ?_
  refine W.seqK fun K8 hK8 => ?_
  refine W.region ?_
  refine WL.move (v := .int .i64 x1) rfl ?_
  obtain ⟨x9, ex9, hf⟩ := letE hf
  refine WL.bin (v := .int .i64 x9) rfl rfl (ib_as ex9 (ib_quo _ _ _ (by decide))) ?_
  obtain ⟨x10, hxx10, hf⟩ := bindE hf
  refine WL.call (vs := [.int .i64 x9, .int .i64 20]) hs FN33 ⟨rfl, ⟨rfl, trivial⟩⟩ (fun ok hA => eslaw00_Index.calls (x1 := x9) (x2 := 20) hxx10) ?_
  rintro _ w hs
  obtain ⟨x11, ex11, hf⟩ := letE hf
  refine WL.bin (v := .int .i64 x11) rfl rfl (ib_as ex11 (ib_sub _ _ _)) ?_
  refine WL.build (vs := [(0, .int .i64 1), (1, .int .i64 x11)]) (cs := [.int .i64 1, .int .i64 x11, bstr []]) ⟨⟨rfl, rfl⟩, ⟨⟨rfl, rfl⟩, trivial⟩⟩ (bld PL47 rfl) ?_
  refine WL.storeAll (vs := [.int .i64 1, .int .i64 x11, bstr []]) hs 0 rfl TI47 rfl rfl rfl rfl (ones_of rfl) rfl (fun w hs => ?_)
  refine WL.nil ?_
  refine hK8 _ _ ?_
  refine W.ret ?_
  have hr := Option.some.inj hf; subst hr
  have hs := hs.add (it := vl t_index_Key (⟨1, x11, []⟩ : index_Key) (.agg ([.int .i64 1, .int .i64 x11, bstr []]).toArray)) fun ok hA => V_agg (show t_index_Key.R ok _ _ _ from ⟨[.int .i64 1], ([.int .i64 x11, bstr []]), rfl, rfl, ⟨[.int .i64 x11], ([bstr []]), rfl, rfl, rfl⟩⟩) rfl
  exact ⟨_, resOk_one rfl (res_all hs 0 rfl TI47 rfl rfl), [.int .i64 1, .int .i64 x11, bstr []], rfl, (hs.mask []).pick [0]⟩ }
  {
  refine W.cond_false (bool_tr rfl hc7) ?_
  refine W.skip ?_
  refine hK4 _ _ ?_
  refine W.seqK fun K12 hK12 => ?_
  refine W.region ?_
  refine WL.buildSlice (n := 6) (vs := [(0, bstr ([] : List UInt8)), (1, bstr ([97] : List UInt8)), (2, bstr ([98] : List UInt8)), (3, bstr ([99] : List UInt8)), (4, bstr ([120, 49] : List UInt8)), (5, bstr ([122, 122] : List UInt8))]) (cs := [bstr ([] : List UInt8), bstr ([97] : List UInt8), bstr ([98] : List UInt8), bstr ([99] : List UInt8), bstr ([120, 49] : List UInt8), bstr ([122, 122] : List UInt8)]) hs ⟨⟨rfl, rfl⟩, ⟨⟨rfl, rfl⟩, ⟨⟨rfl, rfl⟩, ⟨⟨rfl, rfl⟩, ⟨⟨rfl, rfl⟩, ⟨⟨rfl, rfl⟩, trivial⟩⟩⟩⟩⟩⟩ (bls PS56 (by decide) rfl) (fun g13 w hs => ?_)
  refine WL.move (v := .int .i64 x1) rfl ?_
  obtain ⟨x14, ex14, hf⟩ := letE hf
  refine WL.bin (v := .int .i64 x14) rfl rfl (ib_as ex14 (ib_quo _ _ _ (by decide))) ?_
  obtain ⟨x15, hxx15, hf⟩ := bindE hf
  refine WL.call (vs := [.int .i64 x14, .int .i64 6]) hs FN33 ⟨rfl, ⟨rfl, trivial⟩⟩ (fun ok hA => eslaw00_Index.calls (x1 := x14) (x2 := 6) hxx15) ?_
  rintro _ w hs
  have hs := hs.ownLit (A := tStr) (xs := [([] : List UInt8), ([97] : List UInt8), ([98] : List UInt8), ([99] : List UInt8), ([120, 49] : List UInt8), ([122, 122] : List UInt8)]) 0 rfl (fun ok hA => (Cells.app (Cells.one (T := tStr) rfl) (Cells.app (Cells.one (T := tStr) rfl) (Cells.app (Cells.one (T := tStr) rfl) (Cells.app (Cells.one (T := tStr) rfl) (Cells.app (Cells.one (T := tStr) rfl) (Cells.one (T := tStr) rfl))))))) (Nat.le_of_ble_eq_true rfl)
  have hs := hs.freezeOwn 0 rfl
  obtain ⟨x16, hxx16, hf⟩ := bindE hf
  refine WL.indexAddr hs 0 rfl UN56 TI9 rfl rfl hxx16 (fun ad17 hs => ?_)
  refine WL.loadP hs 0 rfl TI9 (.inr rfl) rfl (fun v18 hs => ?_)
  obtain rfl := hs.str 0 rfl
  refine WL.build (vs := [(0, .int .i64 2), (2, bstr x16)]) (cs := [.int .i64 2, .int .i64 0, bstr x16]) ⟨⟨rfl, rfl⟩, ⟨⟨rfl, rfl⟩, trivial⟩⟩ (bld PL47 rfl) ?_
  refine WL.storeAll (vs := [.int .i64 2, .int .i64 0, bstr x16]) hs 0 rfl TI47 rfl rfl rfl rfl (ones_of rfl) rfl (fun w hs => ?_)
  refine WL.nil ?_
  refine hK12 _ _ ?_
  refine W.ret ?_
  have hr := Option.some.inj hf; subst hr
  have hs := hs.add (it := vl t_index_Key (⟨2, 0, x16⟩ : index_Key) (.agg [.int .i64 2, .int .i64 0, bstr x16].toArray)) fun ok hA => V_agg (show t_index_Key.R ok _ _ _ from ⟨[.int .i64 2], [.int .i64 0, bstr x16], rfl, rfl, ⟨[.int .i64 0], [bstr x16], rfl, rfl, rfl⟩⟩) rfl
  exact ⟨_, resOk_one rfl (res_all hs 0 rfl TI47 rfl rfl), [.int .i64 2, .int .i64 0, bstr x16], rfl, (hs.mask []).pick [0]⟩ }
theorem esref32_Compare.calls {ok : Nat → Prop} {w0 : World} {x1 : elasticstoreref32_Key} {x5 : elasticstoreref32_Key} {v2 : Value} {v6 : Value} {r : Int} (hf : esref32_Compare x1 x5 = some r) (i0 : (vl t_elasticstoreref32_Key x1 v2).holds ok w0) (i1 : (vl t_elasticstoreref32_Key x5 v6).holds ok w0) :
    Calls Tryz.prog 41 #[v2, v6] w0 fun e w' => ∃ v, e = .returned v ∧ ∃ y : Unit, v = .int .i64 r ∧ St ok (bz w0) w' [] [] := by
  unfold esref32_Compare at hf
  refine calls_of_W (fn := Tryz.f41) (N := 43) Tryz.func41 rfl Tryz.ntmps41 rfl ?_
  have hs : St ok (bz w0) w0 [vl t_elasticstoreref32_Key x1 v2, vl t_elasticstoreref32_Key x5 v6] [] := St.init (All.cons i0 (All.cons i1 All.nil))
  clear i0 i1
  obtain ⟨cs3, hl4, rfl⟩ := hs.aggv (n := 3) 0 rfl rfl rfl
  obtain ⟨cs7, hl8, rfl⟩ := hs.aggv (n := 3) 1 rfl rfl rfl
  refine W.seqK fun K9 hK9 => ?_
  refine W.region ?_
  refine WL.box (vs := cs3) hs rfl rfl (fun g10 w hs => ?_)
  refine WL.box (vs := cs7) hs rfl rfl (fun g11 w hs => ?_)
  refine WL.assign (v := .int .i64 0) rfl ?_
  refine WL.nil ?_
  refine hK9 _ _ ?_
  refine W.seqK fun K12 hK12 => ?_
  refine W.block ?_
  refine W.seqK fun K13 hK13 => ?_
  have Jk16 : ∀ (x15 : Bool) (ρ : Env) (w : World), ρ 2 = .pointer (some ⟨g10, 0, none⟩) → ρ 3 = .pointer (some ⟨g11, 0, none⟩) → ρ 5 = .bool x15 → St ok (bz w0) w [vl t_elasticstoreref32_Key x5 (.agg cs7.toArray), vl t_elasticstoreref32_Key x1 (.agg cs3.toArray)] [blk g11 45 cs7, blk g10 45 cs3] → esref32_Compare.j1 x1 x5 x15 = some r → K13 ρ w := by
    intro x15 ρ w h14_2 h14_3 h14_5 hs hf
    refine hK13 _ _ ?_
    unfold esref32_Compare.j1 at hf
    rcases iteE hf with ⟨hc17, hf⟩ | ⟨hc17, hf⟩
    {
    refine W.cond_true (bool_tr h14_5 hc17) ?_
    refine W.seqK fun K18 hK18 => ?_
    refine W.region ?_
    refine WL.assign (v := .int .i64 (-1)) rfl ?_
    refine WL.nil ?_
    refine hK18 _ _ ?_
    refine W.ret ?_
    have hr := Option.some.inj hf; subst hr
    exact ⟨_, resOk_one rfl rfl, (), rfl, (hs.mask []).pick []⟩ }
    {
    refine W.cond_false (bool_tr h14_5 hc17) ?_
    refine W.seqK fun K19 hK19 => ?_
    refine W.region ?_
    refine WL.loadAll hs 1 rfl TI45 h14_2 hl4 ?_
    refine WL.loadAll hs 0 rfl TI45 h14_3 hl8 ?_
    obtain rfl := open_elasticstoreref32_Key hs 1 rfl
    obtain rfl := open_elasticstoreref32_Key hs 0 rfl
    refine WL.eqA rfl rfl EG45 (EQ45 (⟨x1.f_Type, x1.N, x1.S⟩ : elasticstoreref32_Key) (⟨x5.f_Type, x5.N, x5.S⟩ : elasticstoreref32_Key)) ?_
    refine WL.assign (v := .bool (decide ((⟨x1.f_Type, x1.N, x1.S⟩ : elasticstoreref32_Key) = (⟨x5.f_Type, x5.N, x5.S⟩ : elasticstoreref32_Key)))) rfl ?_
    refine WL.nil ?_
    refine hK19 _ _ ?_
    rcases iteE hf with ⟨hc20, hf⟩ | ⟨hc20, hf⟩
    {
    refine W.cond_true (bool_tr rfl hc20) ?_
    refine W.seqK fun K21 hK21 => ?_
    refine W.region ?_
    refine WL.assign (v := .int .i64 0) rfl ?_
    refine WL.nil ?_
    refine hK21 _ _ ?_
    refine W.ret ?_
    have hr := Option.some.inj hf; subst hr
    exact ⟨_, resOk_one rfl rfl, (), rfl, (hs.mask []).pick []⟩ }
    {
    refine W.cond_false (bool_tr rfl hc20) ?_
    refine W.skip ?_
    refine hK12 _ _ ?_
    refine W.seqK fun K22 hK22 => ?_
    refine W.region ?_
    refine WL.assign (v := .int .i64 1) rfl ?_
    refine WL.nil ?_
    refine hK22 _ _ ?_
    refine W.ret ?_
    have hr := Option.some.inj hf; subst hr
    exact ⟨_, resOk_one rfl rfl, (), rfl, (hs.mask []).pick []⟩ } }
  refine W.region ?_
  refine WL.fieldAddr (m := 0) rfl FA45_0 rfl ?_
  refine WL.loadF (z := x1.f_Type) F_elasticstoreref32_Key_f_Type hs 1 rfl 0 rfl rfl TI3 (.inr rfl) rfl rfl (fun v23 hs => ?_)
  obtain rfl := hs.int 0 rfl
  refine WL.fieldAddr (m := 0) rfl FA45_0 rfl ?_
  refine WL.loadF (z := x5.f_Type) F_elasticstoreref32_Key_f_Type hs 0 rfl 2 rfl rfl TI3 (.inr rfl) rfl rfl (fun v24 hs => ?_)
  obtain rfl := hs.int 0 rfl
  refine WL.bin (v := .bool (decide (x1.f_Type < x5.f_Type))) rfl rfl (ib_lss _ _ _) ?_
  refine WL.move (v := .bool (decide (x1.f_Type < x5.f_Type))) rfl ?_
  rcases iteE hf with ⟨hc25, hf⟩ | ⟨hc25, hf⟩
  {
  refine WL.pass ((wanted_of rfl rfl (bool_tr rfl hc25)).trans rfl) rfl ?_
  refine WL.pass ((wanted_of rfl rfl (bool_tr rfl hc25)).trans rfl) rfl ?_
  refine WL.pass ((wanted_of rfl rfl (bool_tr rfl hc25)).trans rfl) rfl ?_
  refine WL.pass ((wanted_of rfl rfl (bool_tr rfl hc25)).trans rfl) rfl ?_
  refine WL.pass ((wanted_of rfl rfl (bool_tr rfl hc25)).trans rfl) rfl ?_
  refine WL.pass ((wanted_of rfl rfl (bool_tr rfl hc25)).trans rfl) rfl ?_
  refine WL.pass (wanted_undef rfl rfl rfl) rfl ?_
  refine WL.pass (wanted_undef rfl rfl rfl) rfl ?_
  refine WL.pass (wanted_undef rfl rfl rfl) rfl ?_
  refine WL.pass (wanted_undef rfl rfl rfl) rfl ?_
  refine WL.pass (wanted_undef rfl rfl rfl) rfl ?_
  refine WL.pass (wanted_undef rfl rfl rfl) rfl ?_
  refine WL.pass (wanted_undef rfl rfl rfl) rfl ?_
  refine WL.pass (wanted_undef rfl rfl rfl) rfl ?_
  refine WL.pass (wanted_undef rfl rfl rfl) rfl ?_
  refine WL.pass (wanted_undef rfl rfl rfl) rfl ?_
  refine WL.pass (wanted_undef rfl rfl rfl) rfl ?_
  refine WL.pass (wanted_undef rfl rfl rfl) rfl ?_
  refine WL.pass (wanted_undef rfl rfl rfl) rfl ?_
  refine WL.pass (wanted_undef rfl rfl rfl) rfl ?_
  refine WL.pass (wanted_undef rfl rfl rfl) rfl ?_
  refine WL.pass (wanted_undef rfl rfl rfl) rfl ?_
  refine WL.pass (wanted_undef rfl rfl rfl) rfl ?_
  refine WL.pass (wanted_undef rfl rfl rfl) rfl ?_
  refine WL.pass (wanted_undef rfl rfl rfl) rfl ?_
  refine WL.pass ((wanted_of rfl rfl (bool_tr rfl hc25)).trans rfl) rfl ?_
  refine WL.pickT (v := .bool true) (bool_tr rfl hc25) rfl ?_
  refine WL.assign (v := .bool true) rfl ?_
  refine WL.nil ?_
  exact Jk16 true _ _ rfl rfl rfl ((hs.mask [true, true]).pick [3, 2]) hf }
  {
  refine WL.fieldAddr (m := 0) rfl FA45_0 rfl ?_ (hg := (wanted_of rfl rfl (bool_tr rfl hc25)).trans rfl)
  refine WL.loadF (z := x1.f_Type) F_elasticstoreref32_Key_f_Type hs 1 rfl 2 rfl rfl TI3 (.inr rfl) rfl rfl (fun v26 hs => ?_) (hg := (wanted_of rfl rfl (bool_tr rfl hc25)).trans rfl)
  obtain rfl := hs.int 0 rfl
  refine WL.fieldAddr (m := 0) rfl FA45_0 rfl ?_ (hg := (wanted_of rfl rfl (bool_tr rfl hc25)).trans rfl)
  refine WL.loadF (z := x5.f_Type) F_elasticstoreref32_Key_f_Type hs 0 rfl 4 rfl rfl TI3 (.inr rfl) rfl rfl (fun v27 hs => ?_) (hg := (wanted_of rfl rfl (bool_tr rfl hc25)).trans rfl)
  obtain rfl := hs.int 0 rfl
  refine WL.bin (v := .bool (x1.f_Type == x5.f_Type)) rfl rfl (ib_eql _ _ _) ?_ (hg := (wanted_of rfl rfl (bool_tr rfl hc25)).trans rfl)
  refine WL.move (v := .bool (x1.f_Type == x5.f_Type)) rfl ?_ (hg := (wanted_of rfl rfl (bool_tr rfl hc25)).trans rfl)
  rcases iteE hf with ⟨hc28, hf⟩ | ⟨hc28, hf⟩
  {
  refine WL.fieldAddr (m := 1) rfl FA45_1 rfl ?_ (hg := (wanted_of rfl rfl (bool_tr rfl hc28)).trans rfl)
  refine WL.loadF (z := x1.N) F_elasticstoreref32_Key_N hs 1 rfl 4 rfl rfl TI2 (.inr rfl) rfl rfl (fun v29 hs => ?_) (hg := (wanted_of rfl rfl (bool_tr rfl hc28)).trans rfl)
  obtain rfl := hs.int 0 rfl
  refine WL.fieldAddr (m := 1) rfl FA45_1 rfl ?_ (hg := (wanted_of rfl rfl (bool_tr rfl hc28)).trans rfl)
  refine WL.loadF (z := x5.N) F_elasticstoreref32_Key_N hs 0 rfl 6 rfl rfl TI2 (.inr rfl) rfl rfl (fun v30 hs => ?_) (hg := (wanted_of rfl rfl (bool_tr rfl hc28)).trans rfl)
  obtain rfl := hs.int 0 rfl
  refine WL.bin (v := .bool (decide (x1.N < x5.N))) rfl rfl (ib_lss _ _ _) ?_ (hg := (wanted_of rfl rfl (bool_tr rfl hc28)).trans rfl)
  refine WL.move (v := .bool (decide (x1.N < x5.N))) rfl ?_ (hg := (wanted_of rfl rfl (bool_tr rfl hc28)).trans rfl)
  rcases iteE hf with ⟨hc31, hf⟩ | ⟨hc31, hf⟩
  {
  refine WL.pass ((wanted_of rfl rfl (bool_tr rfl hc31)).trans rfl) rfl ?_
  refine WL.pass ((wanted_of rfl rfl (bool_tr rfl hc31)).trans rfl) rfl ?_
  refine WL.pass ((wanted_of rfl rfl (bool_tr rfl hc31)).trans rfl) rfl ?_
  refine WL.pass ((wanted_of rfl rfl (bool_tr rfl hc31)).trans rfl) rfl ?_
  refine WL.pass ((wanted_of rfl rfl (bool_tr rfl hc31)).trans rfl) rfl ?_
  refine WL.pass ((wanted_of rfl rfl (bool_tr rfl hc31)).trans rfl) rfl ?_
  refine WL.pass (wanted_undef rfl rfl rfl) rfl ?_
  refine WL.pass (wanted_undef rfl rfl rfl) rfl ?_
  refine WL.pass (wanted_undef rfl rfl rfl) rfl ?_
  refine WL.pass (wanted_undef rfl rfl rfl) rfl ?_
  refine WL.pass (wanted_undef rfl rfl rfl) rfl ?_
  refine WL.pass ((wanted_of rfl rfl (bool_tr rfl hc31)).trans rfl) rfl ?_
  refine WL.pickT (v := .bool true) (bool_tr rfl hc31) rfl ?_ (hg := (wanted_of rfl rfl (bool_tr rfl hc28)).trans rfl)
  refine WL.pickT (v := .bool true) (bool_tr rfl hc28) rfl ?_ (hg := (wanted_of rfl rfl (bool_tr rfl hc25)).trans rfl)
  refine WL.pickF (v := .bool true) (bool_tr rfl hc25) rfl ?_
  refine WL.assign (v := .bool true) rfl ?_
  refine WL.nil ?_
  exact Jk16 true _ _ rfl rfl rfl ((hs.mask [true, true]).pick [7, 6]) hf }
  {
  refine WL.fieldAddr (m := 1) rfl FA45_1 rfl ?_ (hg := (wanted_of rfl rfl (bool_tr rfl hc31)).trans rfl)
  refine WL.loadF (z := x1.N) F_elasticstoreref32_Key_N hs 1 rfl 6 rfl rfl TI2 (.inr rfl) rfl rfl (fun v32 hs => ?_) (hg := (wanted_of rfl rfl (bool_tr rfl hc31)).trans rfl)
  obtain rfl := hs.int 0 rfl
  refine WL.fieldAddr (m := 1) rfl FA45_1 rfl ?_ (hg := (wanted_of rfl rfl (bool_tr rfl hc31)).trans rfl)
  refine WL.loadF (z := x5.N) F_elasticstoreref32_Key_N hs 0 rfl 8 rfl rfl TI2 (.inr rfl) rfl rfl (fun v33 hs => ?_) (hg := (wanted_of rfl rfl (bool_tr rfl hc31)).trans rfl)
  obtain rfl := hs.int 0 rfl
  refine WL.bin (v := .bool (x1.N == x5.N)) rfl rfl (ib_eql _ _ _) ?_ (hg := (wanted_of rfl rfl (bool_tr rfl hc31)).trans rfl)
  refine WL.move (v := .bool (x1.N == x5.N)) rfl ?_ (hg := (wanted_of rfl rfl (bool_tr rfl hc31)).trans rfl)
  rcases iteE hf with ⟨hc34, hf⟩ | ⟨hc34, hf⟩
  {
  refine WL.fieldAddr (m := 2) rfl FA45_2 rfl ?_ (hg := (wanted_of rfl rfl (bool_tr rfl hc34)).trans rfl)
  refine WL.loadF (z := x1.S) F_elasticstoreref32_Key_S hs 1 rfl 8 rfl rfl TI9 (.inr rfl) rfl rfl (fun v35 hs => ?_) (hg := (wanted_of rfl rfl (bool_tr rfl hc34)).trans rfl)
  obtain rfl := hs.str 0 rfl
  refine WL.fieldAddr (m := 2) rfl FA45_2 rfl ?_ (hg := (wanted_of rfl rfl (bool_tr rfl hc34)).trans rfl)
  refine WL.loadF (z := x5.S) F_elasticstoreref32_Key_S hs 0 rfl 10 rfl rfl TI9 (.inr rfl) rfl rfl (fun v36 hs => ?_) (hg := (wanted_of rfl rfl (bool_tr rfl hc34)).trans rfl)
  obtain rfl := hs.str 0 rfl
  refine WL.binS (v := .bool (Op.bytesLess x1.S x5.S)) rfl rfl (sb_lss _ _) ?_ (hg := (wanted_of rfl rfl (bool_tr rfl hc34)).trans rfl)
  refine WL.pickT (v := .bool (Op.bytesLess x1.S x5.S)) (bool_tr rfl hc34) rfl ?_ (hg := (wanted_of rfl rfl (bool_tr rfl hc31)).trans rfl)
  refine WL.pickF (v := .bool (Op.bytesLess x1.S x5.S)) (bool_tr rfl hc31) rfl ?_ (hg := (wanted_of rfl rfl (bool_tr rfl hc28)).trans rfl)
  refine WL.pickT (v := .bool (Op.bytesLess x1.S x5.S)) (bool_tr rfl hc28) rfl ?_ (hg := (wanted_of rfl rfl (bool_tr rfl hc25)).trans rfl)
  refine WL.pickF (v := .bool (Op.bytesLess x1.S x5.S)) (bool_tr rfl hc25) rfl ?_
  refine WL.assign (v := .bool (Op.bytesLess x1.S x5.S)) rfl ?_
  refine WL.nil ?_
  exact Jk16 (Op.bytesLess x1.S x5.S) _ _ rfl rfl rfl ((hs.mask [true, true]).pick [11, 10]) hf }
  {
  refine WL.pass ((wanted_of rfl rfl (bool_tr rfl hc34)).trans rfl) rfl ?_
  refine WL.pass ((wanted_of rfl rfl (bool_tr rfl hc34)).trans rfl) rfl ?_
  refine WL.pass ((wanted_of rfl rfl (bool_tr rfl hc34)).trans rfl) rfl ?_
  refine WL.pass ((wanted_of rfl rfl (bool_tr rfl hc34)).trans rfl) rfl ?_
  refine WL.pass ((wanted_of rfl rfl (bool_tr rfl hc34)).trans rfl) rfl ?_
  refine WL.pickF (v := .bool false) (bool_tr rfl hc34) rfl ?_ (hg := (wanted_of rfl rfl (bool_tr rfl hc31)).trans rfl)
  refine WL.pickF (v := .bool false) (bool_tr rfl hc31) rfl ?_ (hg := (wanted_of rfl rfl (bool_tr rfl hc28)).trans rfl)
  refine WL.pickT (v := .bool false) (bool_tr rfl hc28) rfl ?_ (hg := (wanted_of rfl rfl (bool_tr rfl hc25)).trans rfl)
  refine WL.pickF (v := .bool false) (bool_tr rfl hc25) rfl ?_
  refine WL.assign (v := .bool false) rfl ?_
  refine WL.nil ?_
  exact Jk16 false _ _ rfl rfl rfl ((hs.mask [true, true]).pick [9, 8]) hf } } }
  {
  refine WL.pass ((wanted_of rfl rfl (bool_tr rfl hc28)).trans rfl) rfl ?_
  refine WL.pass ((wanted_of rfl rfl (bool_tr rfl hc28)).trans rfl) rfl ?_
  refine WL.pass ((wanted_of rfl rfl (bool_tr rfl hc28)).trans rfl) rfl ?_
  refine WL.pass ((wanted_of rfl rfl (bool_tr rfl hc28)).trans rfl) rfl ?_
  refine WL.pass ((wanted_of rfl rfl (bool_tr rfl hc28)).trans rfl) rfl ?_
  refine WL.pass ((wanted_of rfl rfl (bool_tr rfl hc28)).trans rfl) rfl ?_
  refine WL.pass (wanted_undef rfl rfl rfl) rfl ?_
  refine WL.pass (wanted_undef rfl rfl rfl) rfl ?_
  refine WL.pass (wanted_undef rfl rfl rfl) rfl ?_
  refine WL.pass (wanted_undef rfl rfl rfl) rfl ?_
  refine WL.pass (wanted_undef rfl rfl rfl) rfl ?_
  refine WL.pass (wanted_undef rfl rfl rfl) rfl ?_
  refine WL.pass (wanted_undef rfl rfl rfl) rfl ?_
  refine WL.pass (wanted_undef rfl rfl rfl) rfl ?_
  refine WL.pass (wanted_undef rfl rfl rfl) rfl ?_
  refine WL.pass (wanted_undef rfl rfl rfl) rfl ?_
  refine WL.pass (wanted_undef rfl rfl rfl) rfl ?_
  refine WL.pass (wanted_undef rfl rfl rfl) rfl ?_
  refine WL.pass ((wanted_of rfl rfl (bool_tr rfl hc28)).trans rfl) rfl ?_
  refine WL.pickF (v := .bool false) (bool_tr rfl hc28) rfl ?_ (hg := (wanted_of rfl rfl (bool_tr rfl hc25)).trans rfl)
  refine WL.pickF (v := .bool false) (bool_tr rfl hc25) rfl ?_
  refine WL.assign (v := .bool false) rfl ?_
  refine WL.nil ?_
  exact Jk16 false _ _ rfl rfl rfl ((hs.mask [true, true]).pick [5, 4]) hf } }
theorem esref32_Insert.calls {ok : Nat → Prop} {w0 : World} {x1 : List (List UInt8)} {x4 : List UInt8} {a2 : Option Addr} {c3 : Nat} {r : List (List UInt8)} (hf : esref32_Insert x1 x4 = some r) (i0 : (vl (tSlice tStr) x1 (.slice a2 x1.length c3)).holds ok w0) :
    Calls Tryz.prog 43 #[.slice a2 x1.length c3, bstr x4] w0 fun e w' => ∃ v, e = .returned v ∧ ∃ y : (Option Addr × Nat), v = .slice y.1 r.length y.2 ∧ St ok (bz w0) w' [vl (tSlice tStr) r (.slice y.1 r.length y.2)] [] := by
  unfold esref32_Insert at hf
  refine calls_of_W (fn := Tryz.f43) (N := 49) Tryz.func43 rfl Tryz.ntmps43 rfl ?_
  have hs : St ok (bz w0) w0 [vl (tSlice tStr) x1 (.slice a2 x1.length c3)] [] := St.init (All.cons i0 All.nil)
  clear i0
  refine W.seqK fun K5 hK5 => ?_
  refine W.region ?_
  refine WL.assign (v := .slice none 0 0) rfl ?_
  refine WL.nil ?_
  refine hK5 _ _ ?_
  refine W.seqK fun K6 hK6 => ?_
  refine W.region ?_
  refine WL.assign (v := .int .i64 0) rfl ?_
  refine WL.nil ?_
  refine hK6 _ _ ?_
  refine W.seqK fun K7 hK7 => ?_
  have Jk10 : ∀ (x9 : Int) (ρ : Env) (w : World), ρ 0 = .slice a2 x1.length c3 → ρ 1 = bstr x4 → ρ 5 = .int .i64 x9 → St ok (bz w0) w [vl (tSlice tStr) x1 (.slice a2 x1.length c3)] [] → esref32_Insert.j3 x1 x4 x9 = some r → K7 ρ w := by
    intro x9 ρ w h8_0 h8_1 h8_5 hs hf
    refine hK7 _ _ ?_
    unfold esref32_Insert.j3 at hf
    refine W.seqK fun K11 hK11 => ?_
    refine W.seqK fun K12 hK12 => ?_
    have Jk15 : ∀ (x14 : Bool) (ρ : Env) (w : World), ρ 0 = .slice a2 x1.length c3 → ρ 1 = bstr x4 → ρ 5 = .int .i64 x9 → ρ 32 = .bool x14 → St ok (bz w0) w [vl (tSlice tStr) x1 (.slice a2 x1.length c3)] [] → esref32_Insert.j2 x1 x4 x9 x14 = some r → K12 ρ w := by
      intro x14 ρ w h13_0 h13_1 h13_5 h13_32 hs hf
      refine hK12 _ _ ?_
      unfold esref32_Insert.j2 at hf
      rcases iteE hf with ⟨hc16, hf⟩ | ⟨hc16, hf⟩
      {
      refine W.cond_true (bool_tr h13_32 hc16) ?_
      refine W.seqK fun K17 hK17 => ?_
      refine W.region ?_
      refine WL.buildSlice0 hs UN56 TI9 (fun a18 w hs => ?_)
      refine WL.move (v := .slice a2 x1.length c3) h13_0 ?_
      have hs := hs.ownEmpty tStr 9 a18
      obtain ⟨x19, hxx19, hf⟩ := bindE hf
      obtain ⟨hbx19, hex19⟩ := appE hxx19
      refine WL.appendS (zs := x19) hs 0 rfl 0 rfl UN56 UN56 EI9 rfl rfl hbx19 (by omega) hex19 (fun v20 w hs => ?_)
      obtain ⟨a21, n23, c22, rfl⟩ := hs.ownv3 0 rfl
      refine WL.assign (v := .slice a21 n23 c22) rfl ?_
      refine WL.nil ?_
      refine hK17 _ _ ?_
      refine W.ret ?_
      have hr := Option.some.inj hf; subst hr
      obtain rfl := hs.ownLen 0 rfl
      have hs := hs.freezeOwn 0 rfl
      exact ⟨_, resOk_one rfl rfl, (a21, c22), rfl, (hs.mask []).pick [0]⟩ }
      {
      refine W.cond_false (bool_tr h13_32 hc16) ?_
      refine W.skip ?_
      refine hK11 _ _ ?_
      refine W.seqK fun K24 hK24 => ?_
      refine W.region ?_
      refine WL.buildSlice0 hs UN56 TI9 (fun a25 w hs => ?_)
      refine WL.move (v := .slice a2 x1.length c3) h13_0 ?_
      refine WL.move (v := .int .i64 x9) h13_5 ?_
      obtain ⟨x26, hxx26, hf⟩ := bindE hf
      refine WL.slice_h hs 0 rfl UN56 TI9 rfl rfl hxx26 (fun a27 c28 hs => ?_)
      have hs := hs.ownEmpty tStr 9 a25
      obtain ⟨x29, hxx29, hf⟩ := bindE hf
      obtain ⟨hbx29, hex29⟩ := appE hxx29
      refine WL.appendS (zs := x29) hs 0 rfl 0 rfl UN56 UN56 EI9 rfl rfl hbx29 (by omega) hex29 (fun v30 w hs => ?_)
      obtain ⟨a31, n33, c32, rfl⟩ := hs.ownv3 0 rfl
      refine WL.assign (v := .slice a31 n33 c32) rfl ?_
      refine WL.nil ?_
      refine hK24 _ _ ?_
      refine W.seqK fun K34 hK34 => ?_
      have Jk39 : ∀ (x36 : List (List UInt8)) (a37 : Option Addr) (c38 : Nat) (ρ : Env) (w : World), ρ 4 = .slice a37 x36.length c38 → St ok (bz w0) w [vl (tSlice tStr) x36 (.slice a37 x36.length c38)] [] → esref32_Insert.j1 x36 = some r → K34 ρ w := by
        intro x36 a37 c38 ρ w h35_4 hs hf
        refine hK34 _ _ ?_
        unfold esref32_Insert.j1 at hf
        refine W.ret ?_
        have hr := Option.some.inj hf; subst hr
        exact ⟨_, resOk_one rfl h35_4, (a37, c38), rfl, (hs.mask []).pick [0]⟩
      obtain ⟨x42, hxx42, hf⟩ := bindE hf
      obtain ⟨hbx42, hex42⟩ := appE hxx42
      obtain ⟨x47, hxx47, hf⟩ := bindE hf
      obtain ⟨x50, hxx50, hf⟩ := bindE hf
      obtain ⟨hbx50, hex50⟩ := appE hxx50
      have hs := hs.front 0 rfl
      refine W.anyT (by kernel_rfl) 8 1 [true, true, true, true, true, true, true, true, false] rfl rfl (poAt [pv (.slice a31 n33 c32), pv (bstr x4), pq (fun y : (Option Addr × Nat) => .slice y.1 ([x4]).length y.2) (fun v => [vl (tSlice tStr) [x4] v]) (fun v => []), ⟨fun _ v => ∃ y : (Option Addr × Nat × Nat), v = .slice y.1 y.2.1 y.2.2, fun _ => [], fun v => [own tStr 9 v x42], [own tStr 9 (.slice a31 n33 c32) x29], []⟩, pv (.slice a2 x1.length c3), pv (.int .i64 x9), pq (fun y : (Option Addr × Nat) => .slice y.1 x47.length y.2) (fun v => [vl (tSlice tStr) x47 v]) (fun v => []), pq (fun y : (Option Addr × Nat × Nat) => .slice y.1 y.2.1 y.2.2) (fun v => []) (fun v => [own tStr 9 v x50])]) (tkAt [[], [], [], [], [], [], [], [3]]) (Λ := []) hs (by kernel_rfl) (by kernel_rfl) (by kernel_rfl) (by kernel_rfl) ⟨⟨⟨⟨⟨⟨⟨⟨trivial, ?_⟩, ?_⟩, ?_⟩, ?_⟩, ?_⟩, ?_⟩, ?_⟩, ?_⟩ ?_
      {
      intro ρ w Γx Λx hs hu hp
      refine WL.move (v := .slice a31 n33 c32) (hu 6 rfl) ?_
      exact WL.nil ⟨rfl, _, rfl, rfl, hs.cutG 0 0⟩ }
      {
      intro ρ w Γx Λx hs hu hp
      refine WL.move (v := bstr x4) ((hu 1 rfl).trans h13_1) ?_
      exact WL.nil ⟨rfl, _, rfl, rfl, hs.cutG 0 0⟩ }
      {
      intro ρ w Γx Λx hs hu hp
      have e55 : ρ 42 = bstr x4 := (hp 1 rfl).1
      refine WL.buildSliceB (ys := [x4]) (n := 1) (vs := [(0, bstr x4)]) (cs := [bstr x4]) hs ⟨⟨rfl, e55⟩, trivial⟩ (bls PS56 (by decide) rfl) (fun ok hA => (Cells.one (T := tStr) rfl)) rfl (by decide) (fun a41 w hBl hs => ?_)
      have hs := hs.add (it := vl (tSlice tStr) [x4] (.slice a41 ([x4]).length 1)) fun ok hA => hA.get 0 rfl
      exact WL.nil ⟨rfl, _, rfl, ⟨(a41, 1), rfl⟩, hs.cutG 1 1⟩ }
      {
      intro ρ w Γx Λx hs hu hp
      have hs : St ok (bz w0) w (Γx ++ [vl (tSlice tStr) x26 (.slice a27 x26.length c28), vl (tSlice tStr) x1 (.slice a2 x1.length c3)]) (Λx ++ ([own tStr 9 (.slice a31 n33 c32) x29] ++ [])) := hs
      have e56 : ρ 41 = .slice a31 n33 c32 := (hp 0 rfl).1
      obtain ⟨⟨⟨a57, c58⟩, e59r⟩, hm60⟩ := hp 2 rfl
      have e59 : ρ 43 = .slice a57 ([x4]).length c58 := e59r
      rw [e59r] at hm60
      have hs := hs.memo1 (it := vl (tSlice tStr) [x4] (.slice a57 ([x4]).length c58)) (List.mem_append.2 (.inl (hm60 _ (List.mem_of_getElem? (i := 0) rfl))))
      refine WL.appendS (zs := x42) hs (Λx.length + 0) (getApp rfl) 0 rfl UN56 UN56 EI9 e56 e59 hbx42 (by omega) hex42 (fun v43 w hs => ?_)
      have hs := hs.backP
      obtain ⟨a44, n46, c45, rfl⟩ := hs.ownv3 0 rfl
      exact WL.nil ⟨rfl, _, rfl, ⟨(a44, n46, c45), rfl⟩, hs.cutG 0 1⟩ }
      {
      intro ρ w Γx Λx hs hu hp
      refine WL.move (v := .slice a2 x1.length c3) ((hu 0 rfl).trans h13_0) ?_
      exact WL.nil ⟨rfl, _, rfl, rfl, hs.cutG 0 0⟩ }
      {
      intro ρ w Γx Λx hs hu hp
      refine WL.move (v := .int .i64 x9) ((hu 5 rfl).trans h13_5) ?_
      exact WL.nil ⟨rfl, _, rfl, rfl, hs.cutG 0 0⟩ }
      {
      intro ρ w Γx Λx hs hu hp
      have e61 : ρ 45 = .slice a2 x1.length c3 := (hp 4 rfl).1
      have e62 : ρ 46 = .int .i64 x9 := (hp 5 rfl).1
      refine WL.slice_l hs (Γx.length + 1) (getApp rfl) UN56 TI9 e61 e62 hxx47 (fun a48 c49 hs => ?_)
      have hs := hs.add (it := vl (tSlice tStr) x47 (.slice a48 x47.length c49)) fun ok hA => hA.get 0 rfl
      exact WL.nil ⟨rfl, _, rfl, ⟨(a48, c49), rfl⟩, hs.cutG 1 1⟩ }
      {
      intro ρ w Γx Λx hs hu hp
      have hs : St ok (bz w0) w (Γx ++ [vl (tSlice tStr) x26 (.slice a27 x26.length c28), vl (tSlice tStr) x1 (.slice a2 x1.length c3)]) (Λx ++ ([own tStr 9 ((ρ 44)) x42] ++ [])) := hs
      obtain ⟨⟨⟨a63, n65, c64⟩, e66r⟩, hm67⟩ := hp 3 rfl
      have e66 : ρ 44 = .slice a63 n65 c64 := e66r
      rw [e66] at hs
      obtain ⟨⟨⟨a68, c69⟩, e70r⟩, hm71⟩ := hp 6 rfl
      have e70 : ρ 47 = .slice a68 x47.length c69 := e70r
      rw [e70r] at hm71
      have hs := hs.memo1 (it := vl (tSlice tStr) x47 (.slice a68 x47.length c69)) (List.mem_append.2 (.inl (hm71 _ (List.mem_of_getElem? (i := 0) rfl))))
      refine WL.appendS (zs := x50) hs (Λx.length + 0) (getApp rfl) 0 rfl UN56 UN56 EI9 e66 e70 hbx50 (by omega) hex50 (fun v51 w hs => ?_)
      have hs := hs.backP
      obtain ⟨a52, n54, c53, rfl⟩ := hs.ownv3 0 rfl
      exact WL.nil ⟨rfl, _, rfl, ⟨(a52, n54, c53), rfl⟩, hs.cutG 0 1⟩ }
      {
      intro ρ w hs hu72 hp
      obtain ⟨⟨⟨⟨⟨⟨⟨⟨_, hp0_⟩, hp1_⟩, hp2_⟩, hp3_⟩, hp4_⟩, hp5_⟩, hp6_⟩, hp7_⟩ := hp
      have hs : St ok (bz w0) w [vl (tSlice tStr) x47 (ρ 47), vl (tSlice tStr) [x4] (ρ 43), vl (tSlice tStr) x26 (.slice a27 x26.length c28), vl (tSlice tStr) x1 (.slice a2 x1.length c3)] [own tStr 9 ((ρ 48)) x50] := hs
      obtain ⟨⟨a73, n75, c74⟩, e76⟩ := hp7_
      have e76 : ρ 48 = .slice a73 n75 c74 := e76
      try rw [e76] at hs
      obtain ⟨⟨a77, c78⟩, e79⟩ := hp6_
      have e79 : ρ 47 = .slice a77 x47.length c78 := e79
      try rw [e79] at hs
      have e80 : ρ 46 = .int .i64 x9 := hp5_
      have e81 : ρ 45 = .slice a2 x1.length c3 := hp4_
      obtain ⟨⟨a82, n84, c83⟩, e85⟩ := hp3_
      have e85 : ρ 44 = .slice a82 n84 c83 := e85
      try rw [e85] at hs
      obtain ⟨⟨a86, c87⟩, e88⟩ := hp2_
      have e88 : ρ 43 = .slice a86 ([x4]).length c87 := e88
      try rw [e88] at hs
      have e89 : ρ 42 = bstr x4 := hp1_
      have e90 : ρ 41 = .slice a31 n33 c32 := hp0_
      refine WA.step [8] (by kernel_rfl) (by simp) ⟨?_, trivial⟩
      refine WL.assign (v := .slice a73 n75 c74) e76 ?_
      refine WL.nil ⟨rfl, _, rfl, ?_⟩
      refine WA.done (by kernel_rfl) ?_
      obtain rfl := hs.ownLen 0 rfl
      have hs := hs.freezeOwn 0 rfl
      exact Jk39 x50 a73 c74 _ _ rfl ((hs.mask []).pick [0]) hf } }
    refine W.region ?_
    refine WL.move (v := .int .i64 x9) h8_5 ?_
    refine WL.move (v := .slice a2 x1.length c3) h8_0 ?_
    refine WL.len (v := .slice a2 x1.length c3) rfl (len_slice UN56) ?_
    refine WL.bin (v := .bool (decide (x9 < (x1.length : Int)))) rfl rfl (ib_lss _ _ _) ?_
    refine WL.move (v := .bool (decide (x9 < (x1.length : Int)))) rfl ?_
    rcases iteE hf with ⟨hc91, hf⟩ | ⟨hc91, hf⟩
    {
    refine WL.move (v := .slice a2 x1.length c3) h8_0 ?_ (hg := (wanted_of rfl rfl (bool_tr rfl hc91)).trans rfl)
    refine WL.move (v := .int .i64 x9) h8_5 ?_ (hg := (wanted_of rfl rfl (bool_tr rfl hc91)).trans rfl)
    obtain ⟨x92, hxx92, hf⟩ := bindE hf
    refine WL.indexAddr hs 0 rfl UN56 TI9 rfl rfl hxx92 (fun ad93 hs => ?_) (hg := (wanted_of rfl rfl (bool_tr rfl hc91)).trans rfl)
    refine WL.loadP hs 0 rfl TI9 (.inr rfl) rfl (fun v94 hs => ?_) (hg := (wanted_of rfl rfl (bool_tr rfl hc91)).trans rfl)
    obtain rfl := hs.str 0 rfl
    refine WL.move (v := bstr x4) h8_1 ?_ (hg := (wanted_of rfl rfl (bool_tr rfl hc91)).trans rfl)
    refine WL.binS (v := .bool (x92 == x4)) rfl rfl (sb_eql _ _) ?_ (hg := (wanted_of rfl rfl (bool_tr rfl hc91)).trans rfl)
    refine WL.pickT (v := .bool (x92 == x4)) (bool_tr rfl hc91) rfl ?_
    refine WL.nil ?_
    exact Jk15 (x92 == x4) _ _ h8_0 h8_1 h8_5 rfl ((hs.mask []).pick [2]) hf }
    {
    refine WL.pass ((wanted_of rfl rfl (bool_tr rfl hc91)).trans rfl) rfl ?_
    refine WL.pass ((wanted_of rfl rfl (bool_tr rfl hc91)).trans rfl) rfl ?_
    refine WL.pass ((wanted_of rfl rfl (bool_tr rfl hc91)).trans rfl) rfl ?_
    refine WL.pass ((wanted_of rfl rfl (bool_tr rfl hc91)).trans rfl) rfl ?_
    refine WL.pass ((wanted_of rfl rfl (bool_tr rfl hc91)).trans rfl) rfl ?_
    refine WL.pass ((wanted_of rfl rfl (bool_tr rfl hc91)).trans rfl) rfl ?_
    refine WL.pickF (v := .bool false) (bool_tr rfl hc91) rfl ?_
    refine WL.nil ?_
    exact Jk15 false _ _ h8_0 h8_1 h8_5 rfl ((hs.mask []).pick [0]) hf }
  refine W.block ?_
  obtain ⟨bs97, hbs97, hfs97⟩ := bindE hf
  refine W.loop hbs97 (fun s ρ w => match s with | x96 => ρ 0 = .slice a2 x1.length c3 ∧ ρ 1 = bstr x4 ∧ ρ 5 = .int .i64 x96 ∧ St ok (bz w0) w [vl (tSlice tStr) x1 (.slice a2 x1.length c3)] []) ⟨rfl, rfl, rfl, (hs.mask []).pick [0]⟩ ?_
  intro x96 ρ w os97 hI hf hbbs97
  obtain ⟨h95_0, h95_1, h95_5, hs⟩ := hI
  unfold esref32_Insert.l1 at hf
  refine W.seqK fun K98 hK98 => ?_
  refine W.seqK fun K99 hK99 => ?_
  have Jk102 : ∀ (x101 : Bool) (ρ : Env) (w : World), ρ 0 = .slice a2 x1.length c3 → ρ 1 = bstr x4 → ρ 5 = .int .i64 x96 → ρ 18 = .bool x101 → St ok (bz w0) w [vl (tSlice tStr) x1 (.slice a2 x1.length c3)] [] → esref32_Insert.j4 x96 x101 = some os97 → K99 ρ w := by
    intro x101 ρ w h100_0 h100_1 h100_5 h100_18 hs hf
    refine hK99 _ _ ?_
    unfold esref32_Insert.j4 at hf
    rcases iteE hf with ⟨hc103, hf⟩ | ⟨hc103, hf⟩
    {
    refine W.cond_true (bool_tr h100_18 hc103) ?_
    refine W.skip ?_
    refine hK98 _ _ ?_
    refine W.block ?_
    refine W.region ?_
    refine WL.move (v := .int .i64 x96) h100_5 ?_
    obtain ⟨x104, ex104, hf⟩ := letE hf
    refine WL.bin (v := .int .i64 x104) rfl rfl (ib_as ex104 (ib_add _ _ _)) ?_
    refine WL.assign (v := .int .i64 x104) rfl ?_
    refine WL.nil ?_
    exact ⟨_, (Option.some.inj hf).symm, h100_0, h100_1, rfl, (hs.mask []).pick [0]⟩ }
    {
    refine W.cond_false (bool_tr h100_18 hc103) ?_
    refine W.exit ?_
    have hr := Option.some.inj hf; subst hr
    have hr := hbbs97 _ rfl; subst hr
    have hf := hfs97
    exact Jk10 x96 _ _ h100_0 h100_1 h100_5 ((hs.mask []).pick [0]) hf }
  refine W.region ?_
  refine WL.move (v := .int .i64 x96) h95_5 ?_
  refine WL.move (v := .slice a2 x1.length c3) h95_0 ?_
  refine WL.len (v := .slice a2 x1.length c3) rfl (len_slice UN56) ?_
  refine WL.bin (v := .bool (decide (x96 < (x1.length : Int)))) rfl rfl (ib_lss _ _ _) ?_
  refine WL.move (v := .bool (decide (x96 < (x1.length : Int)))) rfl ?_
  rcases iteE hf with ⟨hc105, hf⟩ | ⟨hc105, hf⟩
  {
  refine WL.move (v := .slice a2 x1.length c3) h95_0 ?_ (hg := (wanted_of rfl rfl (bool_tr rfl hc105)).trans rfl)
  refine WL.move (v := .int .i64 x96) h95_5 ?_ (hg := (wanted_of rfl rfl (bool_tr rfl hc105)).trans rfl)
  obtain ⟨x106, hxx106, hf⟩ := bindE hf
  refine WL.indexAddr hs 0 rfl UN56 TI9 rfl rfl hxx106 (fun ad107 hs => ?_) (hg := (wanted_of rfl rfl (bool_tr rfl hc105)).trans rfl)
  refine WL.loadP hs 0 rfl TI9 (.inr rfl) rfl (fun v108 hs => ?_) (hg := (wanted_of rfl rfl (bool_tr rfl hc105)).trans rfl)
  obtain rfl := hs.str 0 rfl
  refine WL.move (v := bstr x4) h95_1 ?_ (hg := (wanted_of rfl rfl (bool_tr rfl hc105)).trans rfl)
  refine WL.binS (v := .bool (Op.bytesLess x106 x4)) rfl rfl (sb_lss _ _) ?_ (hg := (wanted_of rfl rfl (bool_tr rfl hc105)).trans rfl)
  refine WL.pickT (v := .bool (Op.bytesLess x106 x4)) (bool_tr rfl hc105) rfl ?_
  refine WL.nil ?_
  exact Jk102 (Op.bytesLess x106 x4) _ _ h95_0 h95_1 h95_5 rfl ((hs.mask []).pick [2]) hf }
  {
  refine WL.pass ((wanted_of rfl rfl (bool_tr rfl hc105)).trans rfl) rfl ?_
  refine WL.pass ((wanted_of rfl rfl (bool_tr rfl hc105)).trans rfl) rfl ?_
  refine WL.pass ((wanted_of rfl rfl (bool_tr rfl hc105)).trans rfl) rfl ?_
  refine WL.pass ((wanted_of rfl rfl (bool_tr rfl hc105)).trans rfl) rfl ?_
  refine WL.pass ((wanted_of rfl rfl (bool_tr rfl hc105)).trans rfl) rfl ?_
  refine WL.pass ((wanted_of rfl rfl (bool_tr rfl hc105)).trans rfl) rfl ?_
  refine WL.pickF (v := .bool false) (bool_tr rfl hc105) rfl ?_
  refine WL.nil ?_
  exact Jk102 false _ _ h95_0 h95_1 h95_5 rfl ((hs.mask []).pick [0]) hf }
theorem esref32_Range.calls {ok : Nat → Prop} {w0 : World} {x1 : List elasticstoreref32_Entry} {x4 : elasticstoreref32_Key} {x8 : elasticstoreref32_Key} {a2 : Option Addr} {c3 : Nat} {v5 : Value} {v9 : Value} {r : List (List UInt8)} (hf : esref32_Range x1 x4 x8 = some r) (i0 : (vl (tSlice t_elasticstoreref32_Entry) x1 (.slice a2 x1.length c3)).holds ok w0) (i1 : (vl t_elasticstoreref32_Key x4 v5).holds ok w0) (i2 : (vl t_elasticstoreref32_Key x8 v9).holds ok w0) :
    Calls Tryz.prog 23 #[.slice a2 x1.length c3, v5, v9] w0 fun e w' => ∃ v, e = .returned v ∧ ∃ y : (Option Addr × Nat), v = .slice y.1 r.length y.2 ∧ St ok (bz w0) w' [vl (tSlice tStr) r (.slice y.1 r.length y.2)] [] := by
  unfold esref32_Range at hf
  refine calls_of_W (fn := Tryz.f23) (N := 55) Tryz.func23 rfl Tryz.ntmps23 rfl ?_
  have hs : St ok (bz w0) w0 [vl (tSlice t_elasticstoreref32_Entry) x1 (.slice a2 x1.length c3), vl t_elasticstoreref32_Key x4 v5, vl t_elasticstoreref32_Key x8 v9] [] := St.init (All.cons i0 (All.cons i1 (All.cons i2 All.nil)))
  clear i0 i1 i2
  obtain ⟨cs6, hl7, rfl⟩ := hs.aggv (n := 3) 1 rfl rfl rfl
  obtain ⟨cs10, hl11, rfl⟩ := hs.aggv (n := 3) 2 rfl rfl rfl
  refine W.seqK fun K12 hK12 => ?_
  refine W.region ?_
  refine WL.box (vs := cs6) hs rfl rfl (fun g13 w hs => ?_)
  refine WL.box (vs := cs10) hs rfl rfl (fun g14 w hs => ?_)
  refine WL.assign (v := .slice none 0 0) rfl ?_
  refine WL.nil ?_
  refine hK12 _ _ ?_
  refine W.seqK fun K15 hK15 => ?_
  refine W.region ?_
  refine WL.assign (v := .slice none 0 0) rfl ?_
  refine WL.nil ?_
  refine hK15 _ _ ?_
  refine W.seqK fun K16 hK16 => ?_
  have Jk21 : ∀ (x18 : List (List UInt8)) (a19 : Option Addr) (c20 : Nat) (ρ : Env) (w : World), ρ 7 = .slice a19 x18.length c20 → St ok (bz w0) w [vl (tSlice tStr) x18 (.slice a19 x18.length c20)] [] → esref32_Range.j1 x18 = some r → K16 ρ w := by
    intro x18 a19 c20 ρ w h17_7 hs hf
    refine hK16 _ _ ?_
    unfold esref32_Range.j1 at hf
    refine W.seqK fun K22 hK22 => ?_
    refine W.region ?_
    refine WL.move (v := .slice a19 x18.length c20) h17_7 ?_
    refine WL.assign (v := .slice a19 x18.length c20) rfl ?_
    refine WL.nil ?_
    refine hK22 _ _ ?_
    refine W.ret ?_
    have hr := Option.some.inj hf; subst hr
    exact ⟨_, resOk_one rfl rfl, (a19, c20), rfl, (hs.mask []).pick [0]⟩
  refine W.seqK fun K23 hK23 => ?_
  refine W.region ?_
  refine WL.assign (v := .int .i64 0) rfl ?_
  refine WL.nil ?_
  refine hK23 _ _ ?_
  refine W.block ?_
  obtain ⟨bs29, hbs29, hfs29⟩ := bindE hf
  have hs := hs.add (it := vl (tSlice tStr) [] (.slice none 0 0)) fun ok hA => V_nil
  refine W.loop hbs29 (fun s ρ w => match s with | (x25, x28) => ∃ (a26 : Option Addr), ∃ (c27 : Nat), ρ 0 = .slice a2 x1.length c3 ∧ ρ 4 = .pointer (some ⟨g13, 0, none⟩) ∧ ρ 5 = .pointer (some ⟨g14, 0, none⟩) ∧ ρ 7 = .slice a26 x25.length c27 ∧ ρ 8 = .int .i64 x28 ∧ St ok (bz w0) w [vl (tSlice t_elasticstoreref32_Entry) x1 (.slice a2 x1.length c3), vl (tSlice tStr) x25 (.slice a26 x25.length c27), vl t_elasticstoreref32_Key x8 (.agg cs10.toArray), vl t_elasticstoreref32_Key x4 (.agg cs6.toArray)] [blk g14 45 cs10, blk g13 45 cs6]) ⟨none, 0, rfl, rfl, rfl, rfl, rfl, (hs.mask [true, true]).pick [1, 0, 3, 2]⟩ ?_
  intro s ρ w os29 hI hf hbbs29
  obtain ⟨x25, x28⟩ := s
  obtain ⟨a26, c27, h24_0, h24_4, h24_5, h24_7, h24_8, hs⟩ := hI
  unfold esref32_Range.l2 at hf
  refine W.seqK fun K30 hK30 => ?_
  refine W.seqK fun K31 hK31 => ?_
  refine W.region ?_
  refine WL.move (v := .int .i64 x28) h24_8 ?_
  refine WL.move (v := .slice a2 x1.length c3) h24_0 ?_
  refine WL.len (v := .slice a2 x1.length c3) rfl (len_slice UN49) ?_
  refine WL.bin (v := .bool (decide (x28 < (x1.length : Int)))) rfl rfl (ib_lss _ _ _) ?_
  refine WL.nil ?_
  refine hK31 _ _ ?_
  rcases iteE hf with ⟨hc32, hf⟩ | ⟨hc32, hf⟩
  {
  refine W.cond_true (bool_tr rfl hc32) ?_
  refine W.skip ?_
  refine hK30 _ _ ?_
  refine W.seqK fun K33 hK33 => ?_
  have Jk38 : ∀ (x35 : List (List UInt8)) (a36 : Option Addr) (c37 : Nat) (ρ : Env) (w : World), ρ 0 = .slice a2 x1.length c3 → ρ 4 = .pointer (some ⟨g13, 0, none⟩) → ρ 5 = .pointer (some ⟨g14, 0, none⟩) → ρ 7 = .slice a36 x35.length c37 → ρ 8 = .int .i64 x28 → St ok (bz w0) w [vl (tSlice t_elasticstoreref32_Entry) x1 (.slice a2 x1.length c3), vl (tSlice tStr) x35 (.slice a36 x35.length c37), vl t_elasticstoreref32_Key x8 (.agg cs10.toArray), vl t_elasticstoreref32_Key x4 (.agg cs6.toArray)] [blk g14 45 cs10, blk g13 45 cs6] → esref32_Range.j2 x28 x35 = some os29 → K33 ρ w := by
    intro x35 a36 c37 ρ w h34_0 h34_4 h34_5 h34_7 h34_8 hs hf
    refine hK33 _ _ ?_
    unfold esref32_Range.j2 at hf
    refine W.region ?_
    refine WL.move (v := .int .i64 x28) h34_8 ?_
    obtain ⟨x39, ex39, hf⟩ := letE hf
    refine WL.bin (v := .int .i64 x39) rfl rfl (ib_as ex39 (ib_add _ _ _)) ?_
    refine WL.assign (v := .int .i64 x39) rfl ?_
    refine WL.nil ?_
    exact ⟨_, (Option.some.inj hf).symm, a36, c37, h34_0, h34_4, h34_5, h34_7, rfl, (hs.mask [true, true]).pick [0, 1, 2, 3]⟩
  refine W.block ?_
  refine W.seqK fun K40 hK40 => ?_
  refine W.seqK fun K41 hK41 => ?_
  have Jk44 : ∀ (x43 : Bool) (ρ : Env) (w : World), ρ 0 = .slice a2 x1.length c3 → ρ 4 = .pointer (some ⟨g13, 0, none⟩) → ρ 5 = .pointer (some ⟨g14, 0, none⟩) → ρ 7 = .slice a26 x25.length c27 → ρ 8 = .int .i64 x28 → ρ 33 = .bool x43 → St ok (bz w0) w [vl (tSlice t_elasticstoreref32_Entry) x1 (.slice a2 x1.length c3), vl (tSlice tStr) x25 (.slice a26 x25.length c27), vl t_elasticstoreref32_Key x8 (.agg cs10.toArray), vl t_elasticstoreref32_Key x4 (.agg cs6.toArray)] [blk g14 45 cs10, blk g13 45 cs6] → esref32_Range.j3 x1 x25 x28 x43 = some os29 → K41 ρ w := by
    intro x43 ρ w h42_0 h42_4 h42_5 h42_7 h42_8 h42_33 hs hf
    refine hK41 _ _ ?_
    unfold esref32_Range.j3 at hf
    rcases iteE hf with ⟨hc45, hf⟩ | ⟨hc45, hf⟩
    {
    refine W.cond_true (bool_tr h42_33 hc45) ?_
    refine W.exit ?_
    exact Jk38 x25 a26 c27 _ _ h42_0 h42_4 h42_5 h42_7 h42_8 ((hs.mask [true, true]).pick [0, 1, 2, 3]) hf }
    {
    refine W.cond_false (bool_tr h42_33 hc45) ?_
    refine W.skip ?_
    refine hK40 _ _ ?_
    refine W.seqK fun K46 hK46 => ?_
    refine W.region ?_
    refine WL.assign (v := .int .i64 0) rfl ?_
    refine WL.nil ?_
    refine hK46 _ _ ?_
    refine W.block ?_
    obtain ⟨bs52, hbs52, hfs52⟩ := bindE hf
    refine W.loop hbs52 (fun s ρ w => match s with | (x48, x51) => ∃ (a49 : Option Addr), ∃ (c50 : Nat), ρ 0 = .slice a2 x1.length c3 ∧ ρ 4 = .pointer (some ⟨g13, 0, none⟩) ∧ ρ 5 = .pointer (some ⟨g14, 0, none⟩) ∧ ρ 7 = .slice a49 x48.length c50 ∧ ρ 8 = .int .i64 x28 ∧ ρ 9 = .int .i64 x51 ∧ St ok (bz w0) w [vl (tSlice t_elasticstoreref32_Entry) x1 (.slice a2 x1.length c3), vl (tSlice tStr) x48 (.slice a49 x48.length c50), vl t_elasticstoreref32_Key x8 (.agg cs10.toArray), vl t_elasticstoreref32_Key x4 (.agg cs6.toArray)] [blk g14 45 cs10, blk g13 45 cs6]) ⟨a26, c27, h42_0, h42_4, h42_5, h42_7, h42_8, rfl, (hs.mask [true, true]).pick [0, 1, 2, 3]⟩ ?_
    intro s ρ w os52 hI hf hbbs52
    obtain ⟨x48, x51⟩ := s
    obtain ⟨a49, c50, h47_0, h47_4, h47_5, h47_7, h47_8, h47_9, hs⟩ := hI
    unfold esref32_Range.l1 at hf
    refine W.seqK fun K53 hK53 => ?_
    refine W.seqK fun K54 hK54 => ?_
    refine W.region ?_
    refine WL.move (v := .int .i64 x51) h47_9 ?_
    refine WL.move (v := .slice a2 x1.length c3) h47_0 ?_
    refine WL.move (v := .int .i64 x28) h47_8 ?_
    obtain ⟨x55, hxx55, hf⟩ := bindE hf
    refine WL.indexAddr hs 0 rfl UN49 TI92 rfl rfl hxx55 (fun ad56 hs => ?_)
    refine WL.fieldAddrP (z := x55.Objects) F_elasticstoreref32_Entry_Objects hs 0 rfl rfl FA92_1 rfl (fun ad57 hs => ?_)
    refine WL.loadP hs 0 rfl TI56 (.inr rfl) rfl (fun v58 hs => ?_)
    obtain ⟨a59, c60, rfl⟩ := hs.slice 0 rfl
    refine WL.len (v := .slice a59 (x55.Objects).length c60) rfl (len_slice UN56) ?_
    refine WL.bin (v := .bool (decide (x51 < ((x55.Objects).length : Int)))) rfl rfl (ib_lss _ _ _) ?_
    refine WL.nil ?_
    refine hK54 _ _ ?_
    rcases iteE hf with ⟨hc61, hf⟩ | ⟨hc61, hf⟩
    {
    refine W.cond_true (bool_tr rfl hc61) ?_
    refine W.skip ?_
    refine hK53 _ _ ?_
    refine W.seqK fun K62 hK62 => ?_
    refine W.block ?_
    refine W.region ?_
    refine WL.move (v := .slice a49 x48.length c50) h47_7 ?_
    refine WL.move (v := .slice a2 x1.length c3) h47_0 ?_
    refine WL.move (v := .int .i64 x28) h47_8 ?_
    obtain ⟨x63, hxx63, hf⟩ := bindE hf
    refine WL.indexAddr hs 3 rfl UN49 TI92 rfl rfl hxx63 (fun ad64 hs => ?_)
    refine WL.fieldAddrP (z := x63.Objects) F_elasticstoreref32_Entry_Objects hs 0 rfl rfl FA92_1 rfl (fun ad65 hs => ?_)
    refine WL.loadP hs 0 rfl TI56 (.inr rfl) rfl (fun v66 hs => ?_)
    obtain ⟨a67, c68, rfl⟩ := hs.slice 0 rfl
    refine WL.move (v := .int .i64 x51) h47_9 ?_
    obtain ⟨x69, hxx69, hf⟩ := bindE hf
    refine WL.indexAddr hs 0 rfl UN56 TI9 rfl rfl hxx69 (fun ad70 hs => ?_)
    refine WL.loadP hs 0 rfl TI9 (.inr rfl) rfl (fun v71 hs => ?_)
    obtain rfl := hs.str 0 rfl
    obtain ⟨x72, hxx72, hf⟩ := bindE hf
    refine WL.call (vs := [.slice a49 x48.length c50, bstr x69]) hs FN43 ⟨rfl, ⟨rfl, trivial⟩⟩ (fun ok hA => esref32_Insert.calls (x1 := x48) (x4 := x69) hxx72 (hA.get 9 rfl)) ?_
    rintro ⟨a73, c74⟩ w hs
    refine WL.assign (v := .slice a73 x72.length c74) rfl ?_
    refine WL.nil ?_
    refine hK62 _ _ ?_
    refine W.region ?_
    refine WL.move (v := .int .i64 x51) h47_9 ?_
    obtain ⟨x75, ex75, hf⟩ := letE hf
    refine WL.bin (v := .int .i64 x75) rfl rfl (ib_as ex75 (ib_add _ _ _)) ?_
    refine WL.assign (v := .int .i64 x75) rfl ?_
    refine WL.nil ?_
    exact ⟨_, (Option.some.inj hf).symm, a73, c74, h47_0, h47_4, h47_5, rfl, h47_8, rfl, (hs.mask [true, true]).pick [9, 0, 11, 12]⟩ }
    {
    refine W.cond_false (bool_tr rfl hc61) ?_
    refine W.exit ?_
    have hr := Option.some.inj hf; subst hr
    have hr := hbbs52 _ rfl; subst hr
    have hf := hfs52
    exact Jk38 x48 a49 c50 _ _ h47_0 h47_4 h47_5 h47_7 h47_8 ((hs.mask [true, true]).pick [3, 4, 5, 6]) hf } }
  obtain ⟨x77, hxx77, hf⟩ := bindE hf
  obtain ⟨x83, hxx83, hf⟩ := bindE hf
  rcases iteE hf with ⟨hc84, hf⟩ | ⟨hc84, hf⟩
  {
  refine W.any (by kernel_rfl) 18 0 [true, true, true, true, true, true, true, true, true, true, true, true, true, true, true, true, true, true] rfl rfl (poAt [pv (.slice a2 x1.length c3), pv (.int .i64 x28), pq (fun y : Addr => .pointer (some y)) (fun v => [pl t_elasticstoreref32_Entry x77 (adOf v)]) (fun v => []), pq (fun y : Addr => .pointer (some y)) (fun v => [pl t_elasticstoreref32_Key x77.Key (adOf v)]) (fun v => []), pq (fun y : List Value => .agg y.toArray) (fun v => [vl t_elasticstoreref32_Key x77.Key v]) (fun v => []), pv (.agg cs6.toArray), pv (.int .i64 x83), pv (.bool (decide (x83 < 0))), pv (.bool (decide (x83 < 0))), pv (undef), pv (undef), pv (undef), pv (undef), pv (undef), pv (undef), pv (undef), pv (undef), pv (.bool true)]) (Λ := [blk g14 45 cs10, blk g13 45 cs6]) hs (by kernel_rfl) (by kernel_rfl) (by kernel_rfl) ⟨⟨⟨⟨⟨⟨⟨⟨⟨⟨⟨⟨⟨⟨⟨⟨⟨⟨trivial, ?_⟩, ?_⟩, ?_⟩, ?_⟩, ?_⟩, ?_⟩, ?_⟩, ?_⟩, ?_⟩, ?_⟩, ?_⟩, ?_⟩, ?_⟩, ?_⟩, ?_⟩, ?_⟩, ?_⟩, ?_⟩ ?_
  {
  intro ρ w Γx Λx hs hu hp
  refine WL.move (v := .slice a2 x1.length c3) ((hu 0 rfl).trans h24_0) ?_
  exact WL.nil ⟨rfl, _, rfl, rfl, hs.cutG 0 0⟩ }
  {
  intro ρ w Γx Λx hs hu hp
  refine WL.move (v := .int .i64 x28) ((hu 8 rfl).trans h24_8) ?_
  exact WL.nil ⟨rfl, _, rfl, rfl, hs.cutG 0 0⟩ }
  {
  intro ρ w Γx Λx hs hu hp
  have e85 : ρ 16 = .slice a2 x1.length c3 := (hp 0 rfl).1
  have e86 : ρ 17 = .int .i64 x28 := (hp 1 rfl).1
  refine WL.indexAddr hs (Γx.length + 0) (getApp rfl) UN49 TI92 e85 e86 hxx77 (fun ad78 hs => ?_)
  have hs := hs.add (it := pl t_elasticstoreref32_Entry x77 ad78) fun ok hA => hA.get 0 rfl
  exact WL.nil ⟨rfl, _, rfl, ⟨ad78, rfl⟩, hs.cutG 1 1⟩ }
  {
  intro ρ w Γx Λx hs hu hp
  obtain ⟨⟨ad87, e88r⟩, hm89⟩ := hp 2 rfl
  have e88 : ρ 18 = .pointer (some ad87) := e88r
  rw [e88r] at hm89
  have hs := hs.memo1 (it := pl t_elasticstoreref32_Entry x77 ad87) (List.mem_append.2 (.inl (hm89 _ (List.mem_of_getElem? (i := 0) rfl))))
  refine WL.fieldAddrP (z := x77.Key) F_elasticstoreref32_Entry_Key hs 0 rfl e88 FA92_0 rfl (fun ad79 hs => ?_)
  have hs := hs.add (it := pl t_elasticstoreref32_Key x77.Key ad79) fun ok hA => hA.get 0 rfl
  exact WL.nil ⟨rfl, _, rfl, ⟨ad79, rfl⟩, hs.cutG 1 2⟩ }
  {
  intro ρ w Γx Λx hs hu hp
  obtain ⟨⟨ad90, e91r⟩, hm92⟩ := hp 3 rfl
  have e91 : ρ 19 = .pointer (some ad90) := e91r
  rw [e91r] at hm92
  have hs := hs.memo1 (it := pl t_elasticstoreref32_Key x77.Key ad90) (List.mem_append.2 (.inl (hm92 _ (List.mem_of_getElem? (i := 0) rfl))))
  refine WL.loadP hs 0 rfl TI45 (.inl rfl) e91 (fun v80 hs => ?_)
  obtain ⟨cs81, hl82, rfl⟩ := hs.aggv (n := 3) 0 rfl rfl rfl
  have hs := hs.add (it := vl t_elasticstoreref32_Key x77.Key (.agg cs81.toArray)) fun ok hA => hA.get 0 rfl
  exact WL.nil ⟨rfl, _, rfl, ⟨cs81, rfl⟩, hs.cutG 1 2⟩ }
  {
  intro ρ w Γx Λx hs hu hp
  refine WL.loadAll hs (Λx.length + 1) (getApp rfl) TI45 ((hu 4 rfl).trans h24_4) hl7 ?_
  exact WL.nil ⟨rfl, _, rfl, rfl, hs.cutG 0 0⟩ }
  {
  intro ρ w Γx Λx hs hu hp
  obtain ⟨⟨cs93, e95r⟩, hm96⟩ := hp 4 rfl
  have e95 : ρ 20 = .agg cs93.toArray := e95r
  rw [e95r] at hm96
  have hs := hs.memo1 (it := vl t_elasticstoreref32_Key x77.Key (.agg cs93.toArray)) (List.mem_append.2 (.inl (hm96 _ (List.mem_of_getElem? (i := 0) rfl))))
  have hl94 := hs.agglen (n := 3) 0 rfl rfl rfl
  have e97 : ρ 21 = .agg cs6.toArray := (hp 5 rfl).1
  refine WL.call (vs := [.agg cs93.toArray, .agg cs6.toArray]) hs FN41 ⟨e95, ⟨e97, trivial⟩⟩ (fun ok hA => esref32_Compare.calls (x1 := x77.Key) (x5 := x4) hxx83 (hA.get 0 rfl) (hA.get (Γx.length + 3 + 1) (getApp1 rfl))) ?_
  rintro _ w hs
  exact WL.nil ⟨rfl, _, rfl, rfl, hs.cutG 0 1⟩ }
  {
  intro ρ w Γx Λx hs hu hp
  have e98 : ρ 22 = .int .i64 x83 := (hp 6 rfl).1
  refine WL.bin (v := .bool (decide (x83 < 0))) e98 rfl (ib_lss _ _ _) ?_
  exact WL.nil ⟨rfl, _, rfl, rfl, hs.cutG 0 0⟩ }
  {
  intro ρ w Γx Λx hs hu hp
  have e99 : ρ 23 = .bool (decide (x83 < 0)) := (hp 7 rfl).1
  refine WL.move (v := .bool (decide (x83 < 0))) e99 ?_
  exact WL.nil ⟨rfl, _, rfl, rfl, hs.cutG 0 0⟩ }
  {
  intro ρ w Γx Λx hs hu hp
  have e100 : ρ 24 = .bool (decide (x83 < 0)) := (hp 8 rfl).1
  refine WL.pass ((wanted_of rfl rfl (bool_tr e100 hc84)).trans rfl) rfl ?_
  exact WL.nil ⟨rfl, _, rfl, rfl, hs.cutG 0 0⟩ }
  {
  intro ρ w Γx Λx hs hu hp
  have e101 : ρ 24 = .bool (decide (x83 < 0)) := (hp 8 rfl).1
  refine WL.pass ((wanted_of rfl rfl (bool_tr e101 hc84)).trans rfl) rfl ?_
  exact WL.nil ⟨rfl, _, rfl, rfl, hs.cutG 0 0⟩ }
  {
  intro ρ w Γx Λx hs hu hp
  have e102 : ρ 25 = undef := (hp 9 rfl).1
  have e103 : ρ 26 = undef := (hp 10 rfl).1
  have e104 : ρ 24 = .bool (decide (x83 < 0)) := (hp 8 rfl).1
  refine WL.pass ((wanted_of rfl rfl (bool_tr e104 hc84)).trans rfl) rfl ?_
  exact WL.nil ⟨rfl, _, rfl, rfl, hs.cutG 0 0⟩ }
  {
  intro ρ w Γx Λx hs hu hp
  have e105 : ρ 27 = undef := (hp 11 rfl).1
  have e106 : ρ 24 = .bool (decide (x83 < 0)) := (hp 8 rfl).1
  refine WL.pass ((wanted_of rfl rfl (bool_tr e106 hc84)).trans rfl) rfl ?_
  exact WL.nil ⟨rfl, _, rfl, rfl, hs.cutG 0 0⟩ }
  {
  intro ρ w Γx Λx hs hu hp
  have e107 : ρ 28 = undef := (hp 12 rfl).1
  have e108 : ρ 24 = .bool (decide (x83 < 0)) := (hp 8 rfl).1
  refine WL.pass ((wanted_of rfl rfl (bool_tr e108 hc84)).trans rfl) rfl ?_
  exact WL.nil ⟨rfl, _, rfl, rfl, hs.cutG 0 0⟩ }
  {
  intro ρ w Γx Λx hs hu hp
  have e109 : ρ 24 = .bool (decide (x83 < 0)) := (hp 8 rfl).1
  refine WL.pass ((wanted_of rfl rfl (bool_tr e109 hc84)).trans rfl) rfl ?_
  exact WL.nil ⟨rfl, _, rfl, rfl, hs.cutG 0 0⟩ }
  {
  intro ρ w Γx Λx hs hu hp
  have e110 : ρ 29 = undef := (hp 13 rfl).1
  have e111 : ρ 30 = undef := (hp 14 rfl).1
  have e112 : ρ 24 = .bool (decide (x83 < 0)) := (hp 8 rfl).1
  refine WL.pass ((wanted_of rfl rfl (bool_tr e112 hc84)).trans rfl) rfl ?_
  exact WL.nil ⟨rfl, _, rfl, rfl, hs.cutG 0 0⟩ }
  {
  intro ρ w Γx Λx hs hu hp
  have e113 : ρ 31 = undef := (hp 15 rfl).1
  have e114 : ρ 24 = .bool (decide (x83 < 0)) := (hp 8 rfl).1
  refine WL.pass ((wanted_of rfl rfl (bool_tr e114 hc84)).trans rfl) rfl ?_
  exact WL.nil ⟨rfl, _, rfl, rfl, hs.cutG 0 0⟩ }
  {
  intro ρ w Γx Λx hs hu hp
  have e115 : ρ 24 = .bool (decide (x83 < 0)) := (hp 8 rfl).1
  have e116 : ρ 32 = undef := (hp 16 rfl).1
  refine WL.pickT (v := .bool true) (bool_tr e115 hc84) rfl ?_
  exact WL.nil ⟨rfl, _, rfl, rfl, hs.cutG 0 0⟩ }
  {
  intro ρ w hs hu117 hp
  obtain ⟨⟨⟨⟨⟨⟨⟨⟨⟨⟨⟨⟨⟨⟨⟨⟨⟨⟨_, hp0_⟩, hp1_⟩, hp2_⟩, hp3_⟩, hp4_⟩, hp5_⟩, hp6_⟩, hp7_⟩, hp8_⟩, hp9_⟩, hp10_⟩, hp11_⟩, hp12_⟩, hp13_⟩, hp14_⟩, hp15_⟩, hp16_⟩, hp17_⟩ := hp
  have hs : St ok (bz w0) w [vl t_elasticstoreref32_Key x77.Key (ρ 20), pl t_elasticstoreref32_Key x77.Key (adOf (ρ 19)), pl t_elasticstoreref32_Entry x77 (adOf (ρ 18)), vl (tSlice t_elasticstoreref32_Entry) x1 (.slice a2 x1.length c3), vl (tSlice tStr) x25 (.slice a26 x25.length c27), vl t_elasticstoreref32_Key x8 (.agg cs10.toArray), vl t_elasticstoreref32_Key x4 (.agg cs6.toArray)] [blk g14 45 cs10, blk g13 45 cs6] := hs
  have e118 : ρ 33 = .bool true := hp17_
  have e119 : ρ 32 = undef := hp16_
  have e120 : ρ 31 = undef := hp15_
  have e121 : ρ 30 = undef := hp14_
  have e122 : ρ 29 = undef := hp13_
  have e123 : ρ 28 = undef := hp12_
  have e124 : ρ 27 = undef := hp11_
  have e125 : ρ 26 = undef := hp10_
  have e126 : ρ 25 = undef := hp9_
  have e127 : ρ 24 = .bool (decide (x83 < 0)) := hp8_
  have e128 : ρ 23 = .bool (decide (x83 < 0)) := hp7_
  have e129 : ρ 22 = .int .i64 x83 := hp6_
  have e130 : ρ 21 = .agg cs6.toArray := hp5_
  obtain ⟨cs131, e133⟩ := hp4_
  have e133 : ρ 20 = .agg cs131.toArray := e133
  try rw [e133] at hs
  obtain ⟨ad134, e135⟩ := hp3_
  have e135 : ρ 19 = .pointer (some ad134) := e135
  try rw [e135] at hs
  obtain ⟨ad136, e137⟩ := hp2_
  have e137 : ρ 18 = .pointer (some ad136) := e137
  try rw [e137] at hs
  have e138 : ρ 17 = .int .i64 x28 := hp1_
  have e139 : ρ 16 = .slice a2 x1.length c3 := hp0_
  have hl132 := hs.agglen (n := 3) 0 rfl rfl rfl
  refine WA.done (by kernel_rfl) ?_
  exact Jk44 true _ _ ((hu117 0 rfl).trans h24_0) ((hu117 4 rfl).trans h24_4) ((hu117 5 rfl).trans h24_5) ((hu117 7 rfl).trans h24_7) ((hu117 8 rfl).trans h24_8) e118 ((hs.mask [true, true]).pick [3, 4, 5, 6]) hf } }
  {
  obtain ⟨x140, hxx140, hf⟩ := bindE hf
  obtain ⟨x146, hxx146, hf⟩ := bindE hf
  refine W.any (by kernel_rfl) 18 0 [true, true, true, true, true, true, true, true, true, true, true, true, true, true, true, true, true, true] rfl rfl (poAt [pv (.slice a2 x1.length c3), pv (.int .i64 x28), pq (fun y : Addr => .pointer (some y)) (fun v => [pl t_elasticstoreref32_Entry x77 (adOf v)]) (fun v => []), pq (fun y : Addr => .pointer (some y)) (fun v => [pl t_elasticstoreref32_Key x77.Key (adOf v)]) (fun v => []), pq (fun y : List Value => .agg y.toArray) (fun v => [vl t_elasticstoreref32_Key x77.Key v]) (fun v => []), pv (.agg cs6.toArray), pv (.int .i64 x83), pv (.bool (decide (x83 < 0))), pv (.bool (decide (x83 < 0))), pv (.slice a2 x1.length c3), pv (.int .i64 x28), pq (fun y : Addr => .pointer (some y)) (fun v => [pl t_elasticstoreref32_Entry x140 (adOf v)]) (fun v => []), pq (fun y : Addr => .pointer (some y)) (fun v => [pl t_elasticstoreref32_Key x140.Key (adOf v)]) (fun v => []), pq (fun y : List Value => .agg y.toArray) (fun v => [vl t_elasticstoreref32_Key x140.Key v]) (fun v => []), pv (.agg cs10.toArray), pv (.int .i64 x146), pv (.bool (decide (0 < x146))), pv (.bool (decide (0 < x146)))]) (Λ := [blk g14 45 cs10, blk g13 45 cs6]) hs (by kernel_rfl) (by kernel_rfl) (by kernel_rfl) ⟨⟨⟨⟨⟨⟨⟨⟨⟨⟨⟨⟨⟨⟨⟨⟨⟨⟨trivial, ?_⟩, ?_⟩, ?_⟩, ?_⟩, ?_⟩, ?_⟩, ?_⟩, ?_⟩, ?_⟩, ?_⟩, ?_⟩, ?_⟩, ?_⟩, ?_⟩, ?_⟩, ?_⟩, ?_⟩, ?_⟩ ?_
  {
  intro ρ w Γx Λx hs hu hp
  refine WL.move (v := .slice a2 x1.length c3) ((hu 0 rfl).trans h24_0) ?_
  exact WL.nil ⟨rfl, _, rfl, rfl, hs.cutG 0 0⟩ }
  {
  intro ρ w Γx Λx hs hu hp
  refine WL.move (v := .int .i64 x28) ((hu 8 rfl).trans h24_8) ?_
  exact WL.nil ⟨rfl, _, rfl, rfl, hs.cutG 0 0⟩ }
  {
  intro ρ w Γx Λx hs hu hp
  have e147 : ρ 16 = .slice a2 x1.length c3 := (hp 0 rfl).1
  have e148 : ρ 17 = .int .i64 x28 := (hp 1 rfl).1
  refine WL.indexAddr hs (Γx.length + 0) (getApp rfl) UN49 TI92 e147 e148 hxx77 (fun ad78 hs => ?_)
  have hs := hs.add (it := pl t_elasticstoreref32_Entry x77 ad78) fun ok hA => hA.get 0 rfl
  exact WL.nil ⟨rfl, _, rfl, ⟨ad78, rfl⟩, hs.cutG 1 1⟩ }
  {
  intro ρ w Γx Λx hs hu hp
  obtain ⟨⟨ad149, e150r⟩, hm151⟩ := hp 2 rfl
  have e150 : ρ 18 = .pointer (some ad149) := e150r
  rw [e150r] at hm151
  have hs := hs.memo1 (it := pl t_elasticstoreref32_Entry x77 ad149) (List.mem_append.2 (.inl (hm151 _ (List.mem_of_getElem? (i := 0) rfl))))
  refine WL.fieldAddrP (z := x77.Key) F_elasticstoreref32_Entry_Key hs 0 rfl e150 FA92_0 rfl (fun ad79 hs => ?_)
  have hs := hs.add (it := pl t_elasticstoreref32_Key x77.Key ad79) fun ok hA => hA.get 0 rfl
  exact WL.nil ⟨rfl, _, rfl, ⟨ad79, rfl⟩, hs.cutG 1 2⟩ }
  {
  intro ρ w Γx Λx hs hu hp
  obtain ⟨⟨ad152, e153r⟩, hm154⟩ := hp 3 rfl
  have e153 : ρ 19 = .pointer (some ad152) := e153r
  rw [e153r] at hm154
  have hs := hs.memo1 (it := pl t_elasticstoreref32_Key x77.Key ad152) (List.mem_append.2 (.inl (hm154 _ (List.mem_of_getElem? (i := 0) rfl))))
  refine WL.loadP hs 0 rfl TI45 (.inl rfl) e153 (fun v80 hs => ?_)
  obtain ⟨cs81, hl82, rfl⟩ := hs.aggv (n := 3) 0 rfl rfl rfl
  have hs := hs.add (it := vl t_elasticstoreref32_Key x77.Key (.agg cs81.toArray)) fun ok hA => hA.get 0 rfl
  exact WL.nil ⟨rfl, _, rfl, ⟨cs81, rfl⟩, hs.cutG 1 2⟩ }
  {
  intro ρ w Γx Λx hs hu hp
  refine WL.loadAll hs (Λx.length + 1) (getApp rfl) TI45 ((hu 4 rfl).trans h24_4) hl7 ?_
  exact WL.nil ⟨rfl, _, rfl, rfl, hs.cutG 0 0⟩ }
  {
  intro ρ w Γx Λx hs hu hp
  obtain ⟨⟨cs155, e157r⟩, hm158⟩ := hp 4 rfl
  have e157 : ρ 20 = .agg cs155.toArray := e157r
  rw [e157r] at hm158
  have hs := hs.memo1 (it := vl t_elasticstoreref32_Key x77.Key (.agg cs155.toArray)) (List.mem_append.2 (.inl (hm158 _ (List.mem_of_getElem? (i := 0) rfl))))
  have hl156 := hs.agglen (n := 3) 0 rfl rfl rfl
  have e159 : ρ 21 = .agg cs6.toArray := (hp 5 rfl).1
  refine WL.call (vs := [.agg cs155.toArray, .agg cs6.toArray]) hs FN41 ⟨e157, ⟨e159, trivial⟩⟩ (fun ok hA => esref32_Compare.calls (x1 := x77.Key) (x5 := x4) hxx83 (hA.get 0 rfl) (hA.get (Γx.length + 3 + 1) (getApp1 rfl))) ?_
  rintro _ w hs
  exact WL.nil ⟨rfl, _, rfl, rfl, hs.cutG 0 1⟩ }
  {
  intro ρ w Γx Λx hs hu hp
  have e160 : ρ 22 = .int .i64 x83 := (hp 6 rfl).1
  refine WL.bin (v := .bool (decide (x83 < 0))) e160 rfl (ib_lss _ _ _) ?_
  exact WL.nil ⟨rfl, _, rfl, rfl, hs.cutG 0 0⟩ }
  {
  intro ρ w Γx Λx hs hu hp
  have e161 : ρ 23 = .bool (decide (x83 < 0)) := (hp 7 rfl).1
  refine WL.move (v := .bool (decide (x83 < 0))) e161 ?_
  exact WL.nil ⟨rfl, _, rfl, rfl, hs.cutG 0 0⟩ }
  {
  intro ρ w Γx Λx hs hu hp
  have e162 : ρ 24 = .bool (decide (x83 < 0)) := (hp 8 rfl).1
  refine WL.move (v := .slice a2 x1.length c3) ((hu 0 rfl).trans h24_0) ?_ (hg := (wanted_of rfl rfl (bool_tr e162 hc84)).trans rfl)
  exact WL.nil ⟨rfl, _, rfl, rfl, hs.cutG 0 0⟩ }
  {
  intro ρ w Γx Λx hs hu hp
  have e163 : ρ 24 = .bool (decide (x83 < 0)) := (hp 8 rfl).1
  refine WL.move (v := .int .i64 x28) ((hu 8 rfl).trans h24_8) ?_ (hg := (wanted_of rfl rfl (bool_tr e163 hc84)).trans rfl)
  exact WL.nil ⟨rfl, _, rfl, rfl, hs.cutG 0 0⟩ }
  {
  intro ρ w Γx Λx hs hu hp
  have e164 : ρ 25 = .slice a2 x1.length c3 := (hp 9 rfl).1
  have e165 : ρ 26 = .int .i64 x28 := (hp 10 rfl).1
  have e166 : ρ 24 = .bool (decide (x83 < 0)) := (hp 8 rfl).1
  refine WL.indexAddr hs (Γx.length + 0) (getApp rfl) UN49 TI92 e164 e165 hxx140 (fun ad141 hs => ?_) (hg := (wanted_of rfl rfl (bool_tr e166 hc84)).trans rfl)
  have hs := hs.add (it := pl t_elasticstoreref32_Entry x140 ad141) fun ok hA => hA.get 0 rfl
  exact WL.nil ⟨rfl, _, rfl, ⟨ad141, rfl⟩, hs.cutG 1 1⟩ }
  {
  intro ρ w Γx Λx hs hu hp
  obtain ⟨⟨ad167, e168r⟩, hm169⟩ := hp 11 rfl
  have e168 : ρ 27 = .pointer (some ad167) := e168r
  rw [e168r] at hm169
  have hs := hs.memo1 (it := pl t_elasticstoreref32_Entry x140 ad167) (List.mem_append.2 (.inl (hm169 _ (List.mem_of_getElem? (i := 0) rfl))))
  have e170 : ρ 24 = .bool (decide (x83 < 0)) := (hp 8 rfl).1
  refine WL.fieldAddrP (z := x140.Key) F_elasticstoreref32_Entry_Key hs 0 rfl e168 FA92_0 rfl (fun ad142 hs => ?_) (hg := (wanted_of rfl rfl (bool_tr e170 hc84)).trans rfl)
  have hs := hs.add (it := pl t_elasticstoreref32_Key x140.Key ad142) fun ok hA => hA.get 0 rfl
  exact WL.nil ⟨rfl, _, rfl, ⟨ad142, rfl⟩, hs.cutG 1 2⟩ }
  {
  intro ρ w Γx Λx hs hu hp
  obtain ⟨⟨ad171, e172r⟩, hm173⟩ := hp 12 rfl
  have e172 : ρ 28 = .pointer (some ad171) := e172r
  rw [e172r] at hm173
  have hs := hs.memo1 (it := pl t_elasticstoreref32_Key x140.Key ad171) (List.mem_append.2 (.inl (hm173 _ (List.mem_of_getElem? (i := 0) rfl))))
  have e174 : ρ 24 = .bool (decide (x83 < 0)) := (hp 8 rfl).1
  refine WL.loadP hs 0 rfl TI45 (.inl rfl) e172 (fun v143 hs => ?_) (hg := (wanted_of rfl rfl (bool_tr e174 hc84)).trans rfl)
  obtain ⟨cs144, hl145, rfl⟩ := hs.aggv (n := 3) 0 rfl rfl rfl
  have hs := hs.add (it := vl t_elasticstoreref32_Key x140.Key (.agg cs144.toArray)) fun ok hA => hA.get 0 rfl
  exact WL.nil ⟨rfl, _, rfl, ⟨cs144, rfl⟩, hs.cutG 1 2⟩ }
  {
  intro ρ w Γx Λx hs hu hp
  have e175 : ρ 24 = .bool (decide (x83 < 0)) := (hp 8 rfl).1
  refine WL.loadAll hs (Λx.length + 0) (getApp rfl) TI45 ((hu 5 rfl).trans h24_5) hl11 ?_ (hg := (wanted_of rfl rfl (bool_tr e175 hc84)).trans rfl)
  exact WL.nil ⟨rfl, _, rfl, rfl, hs.cutG 0 0⟩ }
  {
  intro ρ w Γx Λx hs hu hp
  obtain ⟨⟨cs176, e178r⟩, hm179⟩ := hp 13 rfl
  have e178 : ρ 29 = .agg cs176.toArray := e178r
  rw [e178r] at hm179
  have hs := hs.memo1 (it := vl t_elasticstoreref32_Key x140.Key (.agg cs176.toArray)) (List.mem_append.2 (.inl (hm179 _ (List.mem_of_getElem? (i := 0) rfl))))
  have hl177 := hs.agglen (n := 3) 0 rfl rfl rfl
  have e180 : ρ 30 = .agg cs10.toArray := (hp 14 rfl).1
  have e181 : ρ 24 = .bool (decide (x83 < 0)) := (hp 8 rfl).1
  refine WL.call (vs := [.agg cs176.toArray, .agg cs10.toArray]) hs FN41 ⟨e178, ⟨e180, trivial⟩⟩ (fun ok hA => esref32_Compare.calls (x1 := x140.Key) (x5 := x8) hxx146 (hA.get 0 rfl) (hA.get (Γx.length + 2 + 1) (getApp1 rfl))) ?_ (hg := (wanted_of rfl rfl (bool_tr e181 hc84)).trans rfl)
  rintro _ w hs
  exact WL.nil ⟨rfl, _, rfl, rfl, hs.cutG 0 1⟩ }
  {
  intro ρ w Γx Λx hs hu hp
  have e182 : ρ 31 = .int .i64 x146 := (hp 15 rfl).1
  have e183 : ρ 24 = .bool (decide (x83 < 0)) := (hp 8 rfl).1
  refine WL.bin (v := .bool (decide (0 < x146))) e182 rfl (ib_gtr _ _ _) ?_ (hg := (wanted_of rfl rfl (bool_tr e183 hc84)).trans rfl)
  exact WL.nil ⟨rfl, _, rfl, rfl, hs.cutG 0 0⟩ }
  {
  intro ρ w Γx Λx hs hu hp
  have e184 : ρ 24 = .bool (decide (x83 < 0)) := (hp 8 rfl).1
  have e185 : ρ 32 = .bool (decide (0 < x146)) := (hp 16 rfl).1
  refine WL.pickF (v := .bool (decide (0 < x146))) (bool_tr e184 hc84) e185 ?_
  exact WL.nil ⟨rfl, _, rfl, rfl, hs.cutG 0 0⟩ }
  {
  intro ρ w hs hu186 hp
  obtain ⟨⟨⟨⟨⟨⟨⟨⟨⟨⟨⟨⟨⟨⟨⟨⟨⟨⟨_, hp0_⟩, hp1_⟩, hp2_⟩, hp3_⟩, hp4_⟩, hp5_⟩, hp6_⟩, hp7_⟩, hp8_⟩, hp9_⟩, hp10_⟩, hp11_⟩, hp12_⟩, hp13_⟩, hp14_⟩, hp15_⟩, hp16_⟩, hp17_⟩ := hp
  have hs : St ok (bz w0) w [vl t_elasticstoreref32_Key x140.Key (ρ 29), pl t_elasticstoreref32_Key x140.Key (adOf (ρ 28)), pl t_elasticstoreref32_Entry x140 (adOf (ρ 27)), vl t_elasticstoreref32_Key x77.Key (ρ 20), pl t_elasticstoreref32_Key x77.Key (adOf (ρ 19)), pl t_elasticstoreref32_Entry x77 (adOf (ρ 18)), vl (tSlice t_elasticstoreref32_Entry) x1 (.slice a2 x1.length c3), vl (tSlice tStr) x25 (.slice a26 x25.length c27), vl t_elasticstoreref32_Key x8 (.agg cs10.toArray), vl t_elasticstoreref32_Key x4 (.agg cs6.toArray)] [blk g14 45 cs10, blk g13 45 cs6] := hs
  have e187 : ρ 33 = .bool (decide (0 < x146)) := hp17_
  have e188 : ρ 32 = .bool (decide (0 < x146)) := hp16_
  have e189 : ρ 31 = .int .i64 x146 := hp15_
  have e190 : ρ 30 = .agg cs10.toArray := hp14_
  obtain ⟨cs191, e193⟩ := hp13_
  have e193 : ρ 29 = .agg cs191.toArray := e193
  try rw [e193] at hs
  obtain ⟨ad194, e195⟩ := hp12_
  have e195 : ρ 28 = .pointer (some ad194) := e195
  try rw [e195] at hs
  obtain ⟨ad196, e197⟩ := hp11_
  have e197 : ρ 27 = .pointer (some ad196) := e197
  try rw [e197] at hs
  have e198 : ρ 26 = .int .i64 x28 := hp10_
  have e199 : ρ 25 = .slice a2 x1.length c3 := hp9_
  have e200 : ρ 24 = .bool (decide (x83 < 0)) := hp8_
  have e201 : ρ 23 = .bool (decide (x83 < 0)) := hp7_
  have e202 : ρ 22 = .int .i64 x83 := hp6_
  have e203 : ρ 21 = .agg cs6.toArray := hp5_
  obtain ⟨cs204, e206⟩ := hp4_
  have e206 : ρ 20 = .agg cs204.toArray := e206
  try rw [e206] at hs
  obtain ⟨ad207, e208⟩ := hp3_
  have e208 : ρ 19 = .pointer (some ad207) := e208
  try rw [e208] at hs
  obtain ⟨ad209, e210⟩ := hp2_
  have e210 : ρ 18 = .pointer (some ad209) := e210
  try rw [e210] at hs
  have e211 : ρ 17 = .int .i64 x28 := hp1_
  have e212 : ρ 16 = .slice a2 x1.length c3 := hp0_
  have hl205 := hs.agglen (n := 3) 3 rfl rfl rfl
  have hl192 := hs.agglen (n := 3) 0 rfl rfl rfl
  refine WA.done (by kernel_rfl) ?_
  exact Jk44 (decide (0 < x146)) _ _ ((hu186 0 rfl).trans h24_0) ((hu186 4 rfl).trans h24_4) ((hu186 5 rfl).trans h24_5) ((hu186 7 rfl).trans h24_7) ((hu186 8 rfl).trans h24_8) e187 ((hs.mask [true, true]).pick [6, 7, 8, 9]) hf } } }
  {
  refine W.cond_false (bool_tr rfl hc32) ?_
  refine W.exit ?_
  have hr := Option.some.inj hf; subst hr
  have hr := hbbs29 _ rfl; subst hr
  have hf := hfs29
  exact Jk21 x25 a26 c27 _ _ h24_7 ((hs.mask []).pick [1]) hf }
end Go.Proofs.YtpfgdjfiimknlaaGreat
set_option linter.unusedVariables false
set_option linter.unusedSimpArgs false
namespace Go.Proofs.YtpfgdjfiimknlaaGreat
open Go Go.RowKit Go.Proofs.YtpfgdjfiimknlaaGreatL
set_option maxRecDepth 100000
set_option maxHeartbeats 4000000
theorem esref32_EqualStrings.calls {ok : Nat → Prop} {w0 : World} {x1 : List (List UInt8)} {x4 : List (List UInt8)} {a2 : Option Addr} {c3 : Nat} {a5 : Option Addr} {c6 : Nat} {r : Bool} (hf : esref32_EqualStrings x1 x4 = some r) (i0 : (vl (tSlice tStr) x1 (.slice a2 x1.length c3)).holds ok w0) (i1 : (vl (tSlice tStr) x4 (.slice a5 x4.length c6)).holds ok w0) :
    Calls Tryz.prog 21 #[.slice a2 x1.length c3, .slice a5 x4.length c6] w0 fun e w' => ∃ v, e = .returned v ∧ ∃ y : Unit, v = .bool r ∧ St ok (bz w0) w' [] [] := by
  unfold esref32_EqualStrings at hf
  refine calls_of_W (fn := Tryz.f21) (N := 26) Tryz.func21 rfl Tryz.ntmps21 rfl ?_
  have hs : St ok (bz w0) w0 [vl (tSlice tStr) x1 (.slice a2 x1.length c3), vl (tSlice tStr) x4 (.slice a5 x4.length c6)] [] := St.init (All.cons i0 (All.cons i1 All.nil))
  clear i0 i1
  refine W.seqK fun K7 hK7 => ?_
  refine W.region ?_
  refine WL.assign (v := .bool false) rfl ?_
  refine WL.nil ?_
  refine hK7 _ _ ?_
  refine W.seqK fun K8 hK8 => ?_
  refine W.seqK fun K9 hK9 => ?_
  refine W.region ?_
  refine WL.move (v := .slice a2 x1.length c3) rfl ?_
  refine WL.len (v := .slice a2 x1.length c3) rfl (len_slice UN56) ?_
  refine WL.move (v := .slice a5 x4.length c6) rfl ?_
  refine WL.len (v := .slice a5 x4.length c6) rfl (len_slice UN56) ?_
  refine WL.bin (v := .bool ((x1.length : Int) != (x4.length : Int))) rfl rfl (ib_neq _ _ _) ?_
  refine WL.nil ?_
  refine hK9 _ _ ?_
  rcases iteE hf with ⟨hc10, hf⟩ | ⟨hc10, hf⟩
  {
  refine W.cond_true (bool_tr rfl hc10) ?_
  refine W.seqK fun K11 hK11 => ?_
  refine W.region ?_
  refine WL.assign (v := .bool false) rfl ?_
  refine WL.nil ?_
  refine hK11 _ _ ?_
  refine W.ret ?_
  have hr := Option.some.inj hf; subst hr
  exact ⟨_, resOk_one rfl rfl, (), rfl, (hs.mask []).pick []⟩ }
  {
  refine W.cond_false (bool_tr rfl hc10) ?_
  refine W.skip ?_
  refine hK8 _ _ ?_
  refine W.seqK fun K12 hK12 => ?_
  have Jk14 : ∀  (ρ : Env) (w : World), St ok (bz w0) w [] [] → esref32_EqualStrings.j1 = some r → K12 ρ w := by
    intro  ρ w  hs hf
    refine hK12 _ _ ?_
    unfold esref32_EqualStrings.j1 at hf
    refine W.seqK fun K15 hK15 => ?_
    refine W.region ?_
    refine WL.assign (v := .bool true) rfl ?_
    refine WL.nil ?_
    refine hK15 _ _ ?_
    refine W.ret ?_
    have hr := Option.some.inj hf; subst hr
    exact ⟨_, resOk_one rfl rfl, (), rfl, (hs.mask []).pick []⟩
  refine W.seqK fun K16 hK16 => ?_
  refine W.region ?_
  refine WL.assign (v := .int .i64 0) rfl ?_
  refine WL.nil ?_
  refine hK16 _ _ ?_
  refine W.block ?_
  obtain ⟨bs19, hbs19, hfs19⟩ := bindE hf
  refine W.loop hbs19 (fun s ρ w => match s with | x18 => ρ 0 = .slice a2 x1.length c3 ∧ ρ 1 = .slice a5 x4.length c6 ∧ ρ 5 = .int .i64 x18 ∧ St ok (bz w0) w [vl (tSlice tStr) x1 (.slice a2 x1.length c3), vl (tSlice tStr) x4 (.slice a5 x4.length c6)] []) ⟨rfl, rfl, rfl, (hs.mask []).pick [0, 1]⟩ ?_
  intro x18 ρ w os19 hI hf hbbs19
  obtain ⟨h17_0, h17_1, h17_5, hs⟩ := hI
  unfold esref32_EqualStrings.l1 at hf
  refine W.seqK fun K20 hK20 => ?_
  refine W.seqK fun K21 hK21 => ?_
  refine W.region ?_
  refine WL.move (v := .int .i64 x18) h17_5 ?_
  refine WL.move (v := .slice a2 x1.length c3) h17_0 ?_
  refine WL.len (v := .slice a2 x1.length c3) rfl (len_slice UN56) ?_
  refine WL.bin (v := .bool (decide (x18 < (x1.length : Int)))) rfl rfl (ib_lss _ _ _) ?_
  refine WL.nil ?_
  refine hK21 _ _ ?_
  rcases iteE hf with ⟨hc22, hf⟩ | ⟨hc22, hf⟩
  {
  refine W.cond_true (bool_tr rfl hc22) ?_
  refine W.skip ?_
  refine hK20 _ _ ?_
  refine W.seqK fun K23 hK23 => ?_
  refine W.block ?_
  refine W.seqK fun K24 hK24 => ?_
  obtain ⟨x25, hxx25, hf⟩ := bindE hf
  obtain ⟨x28, hxx28, hf⟩ := bindE hf
  refine W.any (by kernel_rfl) 9 0 [true, true, true, true, true, true, true, true, true] rfl rfl (poAt [pv (.slice a2 x1.length c3), pv (.int .i64 x18), pq (fun y : Addr => .pointer (some y)) (fun v => [pl tStr x25 (adOf v)]) (fun v => []), pv (bstr x25), pv (.slice a5 x4.length c6), pv (.int .i64 x18), pq (fun y : Addr => .pointer (some y)) (fun v => [pl tStr x28 (adOf v)]) (fun v => []), pv (bstr x28), pv (.bool (x25 != x28))]) (Λ := []) hs (by kernel_rfl) (by kernel_rfl) (by kernel_rfl) ⟨⟨⟨⟨⟨⟨⟨⟨⟨trivial, ?_⟩, ?_⟩, ?_⟩, ?_⟩, ?_⟩, ?_⟩, ?_⟩, ?_⟩, ?_⟩ ?_
  {
  intro ρ w Γx Λx hs hu hp
  refine WL.move (v := .slice a2 x1.length c3) ((hu 0 rfl).trans h17_0) ?_
  exact WL.nil ⟨rfl, _, rfl, rfl, hs.cutG 0 0⟩ }
  {
  intro ρ w Γx Λx hs hu hp
  refine WL.move (v := .int .i64 x18) ((hu 5 rfl).trans h17_5) ?_
  exact WL.nil ⟨rfl, _, rfl, rfl, hs.cutG 0 0⟩ }
  {
  intro ρ w Γx Λx hs hu hp
  have e31 : ρ 17 = .slice a2 x1.length c3 := (hp 0 rfl).1
  have e32 : ρ 18 = .int .i64 x18 := (hp 1 rfl).1
  refine WL.indexAddr hs (Γx.length + 0) (getApp rfl) UN56 TI9 e31 e32 hxx25 (fun ad26 hs => ?_)
  have hs := hs.add (it := pl tStr x25 ad26) fun ok hA => hA.get 0 rfl
  exact WL.nil ⟨rfl, _, rfl, ⟨ad26, rfl⟩, hs.cutG 1 1⟩ }
  {
  intro ρ w Γx Λx hs hu hp
  obtain ⟨⟨ad33, e34r⟩, hm35⟩ := hp 2 rfl
  have e34 : ρ 19 = .pointer (some ad33) := e34r
  rw [e34r] at hm35
  have hs := hs.memo1 (it := pl tStr x25 ad33) (List.mem_append.2 (.inl (hm35 _ (List.mem_of_getElem? (i := 0) rfl))))
  refine WL.loadP hs 0 rfl TI9 (.inr rfl) e34 (fun v27 hs => ?_)
  obtain rfl := hs.str 0 rfl
  exact WL.nil ⟨rfl, _, rfl, rfl, hs.cutG 0 2⟩ }
  {
  intro ρ w Γx Λx hs hu hp
  refine WL.move (v := .slice a5 x4.length c6) ((hu 1 rfl).trans h17_1) ?_
  exact WL.nil ⟨rfl, _, rfl, rfl, hs.cutG 0 0⟩ }
  {
  intro ρ w Γx Λx hs hu hp
  refine WL.move (v := .int .i64 x18) ((hu 5 rfl).trans h17_5) ?_
  exact WL.nil ⟨rfl, _, rfl, rfl, hs.cutG 0 0⟩ }
  {
  intro ρ w Γx Λx hs hu hp
  have e36 : ρ 21 = .slice a5 x4.length c6 := (hp 4 rfl).1
  have e37 : ρ 22 = .int .i64 x18 := (hp 5 rfl).1
  refine WL.indexAddr hs (Γx.length + 1) (getApp rfl) UN56 TI9 e36 e37 hxx28 (fun ad29 hs => ?_)
  have hs := hs.add (it := pl tStr x28 ad29) fun ok hA => hA.get 0 rfl
  exact WL.nil ⟨rfl, _, rfl, ⟨ad29, rfl⟩, hs.cutG 1 1⟩ }
  {
  intro ρ w Γx Λx hs hu hp
  obtain ⟨⟨ad38, e39r⟩, hm40⟩ := hp 6 rfl
  have e39 : ρ 23 = .pointer (some ad38) := e39r
  rw [e39r] at hm40
  have hs := hs.memo1 (it := pl tStr x28 ad38) (List.mem_append.2 (.inl (hm40 _ (List.mem_of_getElem? (i := 0) rfl))))
  refine WL.loadP hs 0 rfl TI9 (.inr rfl) e39 (fun v30 hs => ?_)
  obtain rfl := hs.str 0 rfl
  exact WL.nil ⟨rfl, _, rfl, rfl, hs.cutG 0 2⟩ }
  {
  intro ρ w Γx Λx hs hu hp
  have e41 : ρ 20 = bstr x25 := (hp 3 rfl).1
  have e42 : ρ 24 = bstr x28 := (hp 7 rfl).1
  refine WL.binS (v := .bool (x25 != x28)) e41 e42 (sb_neq _ _) ?_
  exact WL.nil ⟨rfl, _, rfl, rfl, hs.cutG 0 0⟩ }
  {
  intro ρ w hs hu43 hp
  obtain ⟨⟨⟨⟨⟨⟨⟨⟨⟨_, hp0_⟩, hp1_⟩, hp2_⟩, hp3_⟩, hp4_⟩, hp5_⟩, hp6_⟩, hp7_⟩, hp8_⟩ := hp
  have hs : St ok (bz w0) w [pl tStr x28 (adOf (ρ 23)), pl tStr x25 (adOf (ρ 19)), vl (tSlice tStr) x1 (.slice a2 x1.length c3), vl (tSlice tStr) x4 (.slice a5 x4.length c6)] [] := hs
  have e44 : ρ 25 = .bool (x25 != x28) := hp8_
  have e45 : ρ 24 = bstr x28 := hp7_
  obtain ⟨ad46, e47⟩ := hp6_
  have e47 : ρ 23 = .pointer (some ad46) := e47
  try rw [e47] at hs
  have e48 : ρ 22 = .int .i64 x18 := hp5_
  have e49 : ρ 21 = .slice a5 x4.length c6 := hp4_
  have e50 : ρ 20 = bstr x25 := hp3_
  obtain ⟨ad51, e52⟩ := hp2_
  have e52 : ρ 19 = .pointer (some ad51) := e52
  try rw [e52] at hs
  have e53 : ρ 18 = .int .i64 x18 := hp1_
  have e54 : ρ 17 = .slice a2 x1.length c3 := hp0_
  refine WA.done (by kernel_rfl) ?_
  refine hK24 _ _ ?_
  rcases iteE hf with ⟨hc55, hf⟩ | ⟨hc55, hf⟩
  {
  refine W.cond_true (bool_tr e44 hc55) ?_
  refine W.seqK fun K56 hK56 => ?_
  refine W.region ?_
  refine WL.assign (v := .bool false) rfl ?_
  refine WL.nil ?_
  refine hK56 _ _ ?_
  refine W.ret ?_
  have hr := Option.some.inj hf; subst hr
  have hr := hbbs19 _ rfl; subst hr
  have hf := hfs19
  have hr := Option.some.inj hf; subst hr
  exact ⟨_, resOk_one rfl rfl, (), rfl, (hs.mask []).pick []⟩ }
  {
  refine W.cond_false (bool_tr e44 hc55) ?_
  refine W.skip ?_
  refine hK23 _ _ ?_
  refine W.region ?_
  refine WL.move (v := .int .i64 x18) ((hu43 5 rfl).trans h17_5) ?_
  obtain ⟨x57, ex57, hf⟩ := letE hf
  refine WL.bin (v := .int .i64 x57) rfl rfl (ib_as ex57 (ib_add _ _ _)) ?_
  refine WL.assign (v := .int .i64 x57) rfl ?_
  refine WL.nil ?_
  exact ⟨_, (Option.some.inj hf).symm, ((hu43 0 rfl).trans h17_0), ((hu43 1 rfl).trans h17_1), rfl, (hs.mask []).pick [2, 3]⟩ } } }
  {
  refine W.cond_false (bool_tr rfl hc22) ?_
  refine W.exit ?_
  have hr := Option.some.inj hf; subst hr
  have hr := hbbs19 _ rfl; subst hr
  have hf := hfs19
  exact Jk14  _ _  ((hs.mask []).pick []) hf } }
theorem eslaw32_IndexQueries.calls {ok : Nat → Prop} {w0 : World} {x1 : List Int} {x4 : Int} {x5 : Int} {x6 : Int} {x7 : index_Key} {a2 : Option Addr} {c3 : Nat} {v8 : Value} {r : Bool} (hf : eslaw32_IndexQueries x1 x4 x5 x6 x7 = some r) (i0 : (vl (tSlice (tInt .i64)) x1 (.slice a2 x1.length c3)).holds ok w0) (i1 : (vl t_index_Key x7 v8).holds ok w0) :
    Calls Tryz.prog 4 #[.slice a2 x1.length c3, .int .i64 x4, .int .i64 x5, .int .i64 x6, v8] w0 fun e w' => ∃ v, e = .returned v ∧ ∃ y : Unit, v = .bool r ∧ St ok (bz w0) w' [] [] := by
  unfold eslaw32_IndexQueries at hf
  refine calls_of_W (fn := Tryz.f4) (N := 71) Tryz.func4 rfl Tryz.ntmps4 rfl ?_
  have hs : St ok (bz w0) w0 [vl (tSlice (tInt .i64)) x1 (.slice a2 x1.length c3), vl t_index_Key x7 v8] [] := St.init (All.cons i0 (All.cons i1 All.nil))
  clear i0 i1
  obtain ⟨cs9, hl10, rfl⟩ := hs.aggv (n := 3) 1 rfl rfl rfl
  refine W.seqK fun K11 hK11 => ?_
  refine W.region ?_
  refine WL.box (vs := cs9) hs rfl rfl (fun g12 w hs => ?_)
  refine WL.assign (v := .bool false) rfl ?_
  refine WL.nil ?_
  refine hK11 _ _ ?_
  refine W.seqK fun K13 hK13 => ?_
  refine W.seqK fun K14 hK14 => ?_
  refine W.region ?_
  refine WL.fieldAddr (m := 2) rfl FA47_2 rfl ?_
  refine WL.loadF (z := x7.S) F_index_Key_S hs 0 rfl 1 rfl rfl TI9 (.inr rfl) rfl rfl (fun v15 hs => ?_)
  obtain rfl := hs.str 0 rfl
  refine WL.len (v := bstr x7.S) rfl (len_string UN9) ?_
  refine WL.bin (v := .bool (decide (40 < ((x7.S).length : Int)))) rfl rfl (ib_gtr _ _ _) ?_
  refine WL.nil ?_
  refine hK14 _ _ ?_
  rcases iteE hf with ⟨hc16, hf⟩ | ⟨hc16, hf⟩
  {
  refine W.cond_true (bool_tr rfl hc16) ?_
  refine W.seqK fun K17 hK17 => ?_
  refine W.region ?_
  obtain ⟨x18, hxx18, hf⟩ := bindE hf
  refine WL.call (vs := []) hs FN18 trivial (fun ok hA => eslaw32_awake.calls hxx18) ?_
  rintro _ w hs
  refine WL.assign (v := .bool x18) rfl ?_
  refine WL.nil ?_
  refine hK17 _ _ ?_
  refine W.ret ?_
  have hr := Option.some.inj hf; subst hr
  exact ⟨_, resOk_one rfl rfl, (), rfl, (hs.mask []).pick []⟩ }
  {
  refine W.cond_false (bool_tr rfl hc16) ?_
  refine W.skip ?_
  refine hK13 _ _ ?_
  refine W.seqK fun K19 hK19 => ?_
  refine W.region ?_
  refine WL.move (v := .int .i64 x4) rfl ?_
  obtain ⟨x20, hxx20, hf⟩ := bindE hf
  refine WL.call (vs := [.int .i64 x4]) hs FN11 ⟨rfl, trivial⟩ (fun ok hA => eslaw32_field.calls (x1 := x4) hxx20) ?_
  rintro cs21 w hs
  have hl22 := hs.agglen (n := 4) 0 rfl rfl rfl
  refine WL.alloc hs ZV31 (fun g23 w hs => ?_)
  refine WL.storeAll (vs := cs21) hs 0 rfl TI31 rfl rfl rfl hl22 (hs.ones 0 rfl rfl) rfl (fun w hs => ?_)
  refine WL.nil ?_
  refine hK19 _ _ ?_
  refine W.seqK fun K24 hK24 => ?_
  obtain ⟨x25, hxx25, hf⟩ := bindE hf
  obtain ⟨x28, hxx28, hf⟩ := bindE hf
  obtain ⟨x31, hxx31, hf⟩ := bindE hf
  refine W.any (by kernel_rfl) 6 1 [true, true, true, true, true, true, false] rfl rfl (poAt [pv (.agg cs21.toArray), pv (.slice a2 x1.length c3), pq (fun y : (Option Addr × Nat) => .slice y.1 x25.length y.2) (fun v => [vl (tSlice t_api_Update) x25 v]) (fun v => []), pq (fun y : List Value => .agg y.toArray) (fun v => [vl t_fold_Store x28 v]) (fun v => []), pq (fun y : List Value => .agg y.toArray) (fun v => [vl t_index_Index x31 v]) (fun v => []), pq (fun y : Nat => .pointer (some ⟨y, 0, none⟩)) (fun v => []) (fun v => [blk (gOf v) 35 ([bstr [], .int .i64 0, .int .i64 0, .int .i64 0, .slice none 0 0])])]) (Λ := [blk g23 31 cs21, blk g12 47 cs9]) hs (by kernel_rfl) (by kernel_rfl) (by kernel_rfl) ⟨⟨⟨⟨⟨⟨trivial, ?_⟩, ?_⟩, ?_⟩, ?_⟩, ?_⟩, ?_⟩ ?_
  {
  intro ρ w Γx Λx hs hu hp
  refine WL.loadAll hs (Λx.length + 0) (getApp rfl) TI31 (hu 11 rfl) hl22 ?_
  exact WL.nil ⟨rfl, _, rfl, rfl, hs.cutG 0 0⟩ }
  {
  intro ρ w Γx Λx hs hu hp
  refine WL.move (v := .slice a2 x1.length c3) (hu 0 rfl) ?_
  exact WL.nil ⟨rfl, _, rfl, rfl, hs.cutG 0 0⟩ }
  {
  intro ρ w Γx Λx hs hu hp
  have e35 : ρ 24 = .slice a2 x1.length c3 := (hp 1 rfl).1
  refine WL.call (vs := [.slice a2 x1.length c3]) hs FN10 ⟨e35, trivial⟩ (fun ok hA => eslaw00_Updates.callc (x1 := x1) hxx25 (hA.get (Γx.length + 2) (getApp rfl))) ?_
  rintro ⟨a26, c27⟩ w hs
  have hs := hs.add (it := vl (tSlice t_api_Update) x25 (.slice a26 x25.length c27)) fun ok hA => hA.get 0 rfl
  exact WL.nil ⟨rfl, _, rfl, ⟨(a26, c27), rfl⟩, hs.cutG 1 1⟩ }
  {
  intro ρ w Γx Λx hs hu hp
  obtain ⟨⟨⟨a36, c37⟩, e38r⟩, hm39⟩ := hp 2 rfl
  have e38 : ρ 25 = .slice a36 x25.length c37 := e38r
  rw [e38r] at hm39
  have hs := hs.memo1 (it := vl (tSlice t_api_Update) x25 (.slice a36 x25.length c37)) (List.mem_append.2 (.inl (hm39 _ (List.mem_of_getElem? (i := 0) rfl))))
  refine WL.call (vs := [.slice a36 x25.length c37]) hs FN9 ⟨e38, trivial⟩ (fun ok hA => fold_Fold.calls (x1 := x25) hxx28 (hA.get 0 rfl)) ?_
  rintro cs29 w hs
  have hl30 := hs.agglen (n := 1) 0 rfl rfl rfl
  have hs := hs.add (it := vl t_fold_Store x28 (.agg cs29.toArray)) fun ok hA => hA.get 0 rfl
  exact WL.nil ⟨rfl, _, rfl, ⟨cs29, rfl⟩, hs.cutG 1 2⟩ }
  {
  intro ρ w Γx Λx hs hu hp
  have e40 : ρ 23 = .agg cs21.toArray := (hp 0 rfl).1
  obtain ⟨⟨cs41, e43r⟩, hm44⟩ := hp 3 rfl
  have e43 : ρ 26 = .agg cs41.toArray := e43r
  rw [e43r] at hm44
  have hs := hs.memo1 (it := vl t_fold_Store x28 (.agg cs41.toArray)) (List.mem_append.2 (.inl (hm44 _ (List.mem_of_getElem? (i := 0) rfl))))
  have hl42 := hs.agglen (n := 1) 0 rfl rfl rfl
  refine WL.call (vs := [.agg cs21.toArray, .agg cs41.toArray]) hs FN12 ⟨e40, ⟨e43, trivial⟩⟩ (fun ok hA => index_Build.calls (x1 := x20) (x5 := x28) hxx31 (hA.get (Γx.length + 0 + 1) (getApp1 rfl)) (hA.get 0 rfl)) ?_
  rintro cs32 w hs
  have hl33 := hs.agglen (n := 5) 0 rfl rfl rfl
  have hs := hs.add (it := vl t_index_Index x31 (.agg cs32.toArray)) fun ok hA => hA.get 0 rfl
  exact WL.nil ⟨rfl, _, rfl, ⟨cs32, rfl⟩, hs.cutG 1 2⟩ }
  {
  intro ρ w Γx Λx hs hu hp
  refine WL.alloc hs ZV35 (fun g34 w hs => ?_)
  exact WL.nil ⟨rfl, _, rfl, ⟨g34, rfl⟩, hs.cutG 0 0⟩ }
  {
  intro ρ w hs hu45 hp
  obtain ⟨⟨⟨⟨⟨⟨_, hp0_⟩, hp1_⟩, hp2_⟩, hp3_⟩, hp4_⟩, hp5_⟩ := hp
  have hs : St ok (bz w0) w [vl t_index_Index x31 (ρ 27), vl t_fold_Store x28 (ρ 26), vl (tSlice t_api_Update) x25 (ρ 25), vl t_schema_Field x20 (.agg cs21.toArray), vl tStr x7.S (bstr x7.S), vl (tSlice (tInt .i64)) x1 (.slice a2 x1.length c3), vl t_index_Key x7 (.agg cs9.toArray)] [blk (gOf ((ρ 12))) 35 ([bstr [], .int .i64 0, .int .i64 0, .int .i64 0, .slice none 0 0]), blk g23 31 cs21, blk g12 47 cs9] := hs
  obtain ⟨g46, e47⟩ := hp5_
  have e47 : ρ 12 = .pointer (some ⟨g46, 0, none⟩) := e47
  try rw [e47] at hs
  obtain ⟨cs48, e50⟩ := hp4_
  have e50 : ρ 27 = .agg cs48.toArray := e50
  try rw [e50] at hs
  obtain ⟨cs51, e53⟩ := hp3_
  have e53 : ρ 26 = .agg cs51.toArray := e53
  try rw [e53] at hs
  obtain ⟨⟨a54, c55⟩, e56⟩ := hp2_
  have e56 : ρ 25 = .slice a54 x25.length c55 := e56
  try rw [e56] at hs
  have e57 : ρ 24 = .slice a2 x1.length c3 := hp1_
  have e58 : ρ 23 = .agg cs21.toArray := hp0_
  have hl52 := hs.agglen (n := 1) 1 rfl rfl rfl
  have hl49 := hs.agglen (n := 5) 0 rfl rfl rfl
  refine WA.step [6] (by kernel_rfl) (by simp) ⟨?_, trivial⟩
  refine WL.storeAll (vs := cs48) hs 0 rfl TI35 e47 e50 rfl hl49 (hs.ones 0 rfl rfl) rfl (fun w hs => ?_)
  refine WL.nil ⟨rfl, _, rfl, ?_⟩
  refine WA.done (by kernel_rfl) ?_
  refine hK24 _ _ ?_
  refine W.seqK fun K59 hK59 => ?_
  refine W.region ?_
  refine WL.fieldAddr (m := 4) e47 FA35_1 rfl ?_
  refine WL.loadF (z := x31.Entries) F_index_Index_Entries hs 0 rfl 0 rfl rfl TI33 (.inr rfl) rfl rfl (fun v60 hs => ?_)
  obtain ⟨a61, c62, rfl⟩ := hs.slice 0 rfl
  obtain ⟨x63, hxx63, hf⟩ := bindE hf
  refine WL.call (vs := [.slice a61 (x31.Entries).length c62]) hs FN19 ⟨rfl, trivial⟩ (fun ok hA => eslaw32_entries.calls (x1 := x31.Entries) hxx63 (hA.get 0 rfl)) ?_
  rintro ⟨a64, n65, c66⟩ w hs
  refine WL.assign (v := .slice a64 n65 c66) rfl ?_
  refine WL.nil ?_
  refine hK59 _ _ ?_
  refine W.seqK fun K67 hK67 => ?_
  have Jk69 : ∀  (ρ : Env) (w : World), St ok (bz w0) w [] [] → eslaw32_IndexQueries.j1 = some r → K67 ρ w := by
    intro  ρ w  hs hf
    refine hK67 _ _ ?_
    unfold eslaw32_IndexQueries.j1 at hf
    refine W.seqK fun K70 hK70 => ?_
    refine W.region ?_
    obtain ⟨x71, hxx71, hf⟩ := bindE hf
    refine WL.call (vs := []) hs FN18 trivial (fun ok hA => eslaw32_awake.calls hxx71) ?_
    rintro _ w hs
    refine WL.assign (v := .bool x71) rfl ?_
    refine WL.nil ?_
    refine hK70 _ _ ?_
    refine W.ret ?_
    have hr := Option.some.inj hf; subst hr
    exact ⟨_, resOk_one rfl rfl, (), rfl, (hs.mask []).pick []⟩
  refine W.seqK fun K72 hK72 => ?_
  obtain ⟨x73, hxx73, hf⟩ := bindE hf
  obtain ⟨x76, hxx76, hf⟩ := bindE hf
  refine W.any (by kernel_rfl) 8 0 [true, true, true, true, true, true, true, true] rfl rfl (poAt [pv (.int .i64 x5), pq (fun y : List Value => .agg y.toArray) (fun v => [vl t_index_Key x73 v]) (fun v => []), pv (.int .i64 x6), pq (fun y : List Value => .agg y.toArray) (fun v => [vl t_index_Key x76 v]) (fun v => []), pv (.agg cs9.toArray), pq (fun y : (Option Addr × Nat) => .slice y.1 ([x73, x76, x7]).length y.2) (fun v => [vl (tSlice t_index_Key) [x73, x76, x7] v]) (fun v => []), pv (.int .i64 (([x73, x76, x7]).length : Int)), pv (.int .i64 0)]) (Λ := [own t_elasticstoreref32_Entry 92 (.slice a64 n65 c66) x63, blk g46 35 cs48, blk g23 31 cs21, blk g12 47 cs9]) hs (by kernel_rfl) (by kernel_rfl) (by kernel_rfl) ⟨⟨⟨⟨⟨⟨⟨⟨trivial, ?_⟩, ?_⟩, ?_⟩, ?_⟩, ?_⟩, ?_⟩, ?_⟩, ?_⟩ ?_
  {
  intro ρ w Γx Λx hs hu hp
  refine WL.move (v := .int .i64 x5) ((hu 2 rfl).trans (hu45 2 rfl)) ?_
  exact WL.nil ⟨rfl, _, rfl, rfl, hs.cutG 0 0⟩ }
  {
  intro ρ w Γx Λx hs hu hp
  have e81 : ρ 31 = .int .i64 x5 := (hp 0 rfl).1
  refine WL.call (vs := [.int .i64 x5]) hs FN20 ⟨e81, trivial⟩ (fun ok hA => eslaw32_key.calls (x1 := x5) hxx73) ?_
  rintro cs74 w hs
  have hl75 := hs.agglen (n := 3) 0 rfl rfl rfl
  have hs := hs.add (it := vl t_index_Key x73 (.agg cs74.toArray)) fun ok hA => hA.get 0 rfl
  exact WL.nil ⟨rfl, _, rfl, ⟨cs74, rfl⟩, hs.cutG 1 1⟩ }
  {
  intro ρ w Γx Λx hs hu hp
  refine WL.move (v := .int .i64 x6) ((hu 3 rfl).trans (hu45 3 rfl)) ?_
  exact WL.nil ⟨rfl, _, rfl, rfl, hs.cutG 0 0⟩ }
  {
  intro ρ w Γx Λx hs hu hp
  have e82 : ρ 33 = .int .i64 x6 := (hp 2 rfl).1
  refine WL.call (vs := [.int .i64 x6]) hs FN20 ⟨e82, trivial⟩ (fun ok hA => eslaw32_key.calls (x1 := x6) hxx76) ?_
  rintro cs77 w hs
  have hl78 := hs.agglen (n := 3) 0 rfl rfl rfl
  have hs := hs.add (it := vl t_index_Key x76 (.agg cs77.toArray)) fun ok hA => hA.get 0 rfl
  exact WL.nil ⟨rfl, _, rfl, ⟨cs77, rfl⟩, hs.cutG 1 1⟩ }
  {
  intro ρ w Γx Λx hs hu hp
  refine WL.loadAll hs (Λx.length + 3) (getApp rfl) TI47 ((hu 9 rfl).trans (hu45 9 rfl)) hl10 ?_
  exact WL.nil ⟨rfl, _, rfl, rfl, hs.cutG 0 0⟩ }
  {
  intro ρ w Γx Λx hs hu hp
  obtain ⟨⟨cs83, e85r⟩, hm86⟩ := hp 1 rfl
  have e85 : ρ 32 = .agg cs83.toArray := e85r
  rw [e85r] at hm86
  have hs := hs.memo1 (it := vl t_index_Key x73 (.agg cs83.toArray)) (List.mem_append.2 (.inl (hm86 _ (List.mem_of_getElem? (i := 0) rfl))))
  have hl84 := hs.agglen (n := 3) 0 rfl rfl rfl
  obtain ⟨⟨cs87, e89r⟩, hm90⟩ := hp 3 rfl
  have e89 : ρ 34 = .agg cs87.toArray := e89r
  rw [e89r] at hm90
  have hs := hs.memo1 (it := vl t_index_Key x76 (.agg cs87.toArray)) (List.mem_cons_of_mem _ (List.mem_append.2 (.inl (hm90 _ (List.mem_of_getElem? (i := 0) rfl)))))
  have hl88 := hs.agglen (n := 3) 0 rfl rfl rfl
  have e91 : ρ 35 = .agg cs9.toArray := (hp 4 rfl).1
  refine WL.buildSliceB (ys := [x73, x76, x7]) (n := 3) (vs := [(0, .agg cs83.toArray), (1, .agg cs87.toArray), (2, .agg cs9.toArray)]) (cs := cs83 ++ cs87 ++ cs9) hs ⟨⟨rfl, e85⟩, ⟨⟨rfl, e89⟩, ⟨⟨rfl, e91⟩, trivial⟩⟩⟩ (bls PS37 (by decide) (fillS_lit2 [.agg cs83.toArray, .agg cs87.toArray, .agg cs9.toArray] rfl rfl rfl (by simp [Value.cells, hl84, hl88, hl10]) (by simp [Value.cells]))) (fun ok hA => (Cells.cast (by simp) (Cells.app (Cells.one (T := t_index_Key) (R_agg (hA.get 1 rfl) rfl)) (Cells.app (Cells.one (T := t_index_Key) (R_agg (hA.get 0 rfl) rfl)) (Cells.one (T := t_index_Key) (R_agg (hA.get (Γx.length + 7 + 2) (getApp2 rfl)) rfl)))))) rfl (by decide) (fun a80 w hBl hs => ?_)
  have hs := hs.add (it := vl (tSlice t_index_Key) [x73, x76, x7] (.slice a80 ([x73, x76, x7]).length 3)) fun ok hA => hA.get 0 rfl
  exact WL.nil ⟨rfl, _, rfl, ⟨(a80, 3), rfl⟩, hs.cutG 1 3⟩ }
  {
  intro ρ w Γx Λx hs hu hp
  obtain ⟨⟨⟨a92, c93⟩, e94r⟩, hm95⟩ := hp 5 rfl
  have e94 : ρ 36 = .slice a92 ([x73, x76, x7]).length c93 := e94r
  rw [e94r] at hm95
  have hs := hs.memo1 (it := vl (tSlice t_index_Key) [x73, x76, x7] (.slice a92 ([x73, x76, x7]).length c93)) (List.mem_append.2 (.inl (hm95 _ (List.mem_of_getElem? (i := 0) rfl))))
  refine WL.len (v := .slice a92 ([x73, x76, x7]).length c93) e94 (len_slice UN37) ?_
  exact WL.nil ⟨rfl, _, rfl, rfl, hs.cutG 0 1⟩ }
  {
  intro ρ w Γx Λx hs hu hp
  refine WL.move (v := .int .i64 0) rfl ?_
  exact WL.nil ⟨rfl, _, rfl, rfl, hs.cutG 0 0⟩ }
  {
  intro ρ w hs hu96 hp
  obtain ⟨⟨⟨⟨⟨⟨⟨⟨_, hp0_⟩, hp1_⟩, hp2_⟩, hp3_⟩, hp4_⟩, hp5_⟩, hp6_⟩, hp7_⟩ := hp
  have hs : St ok (bz w0) w [vl (tSlice t_index_Key) [x73, x76, x7] (ρ 36), vl t_index_Key x76 (ρ 34), vl t_index_Key x73 (ρ 32), vl (tSlice t_index_Entry) x31.Entries (.slice a61 (x31.Entries).length c62), vl t_index_Index x31 (.agg cs48.toArray), vl t_fold_Store x28 (.agg cs51.toArray), vl (tSlice t_api_Update) x25 (.slice a54 x25.length c55), vl t_schema_Field x20 (.agg cs21.toArray), vl tStr x7.S (bstr x7.S), vl (tSlice (tInt .i64)) x1 (.slice a2 x1.length c3), vl t_index_Key x7 (.agg cs9.toArray)] [own t_elasticstoreref32_Entry 92 (.slice a64 n65 c66) x63, blk g46 35 cs48, blk g23 31 cs21, blk g12 47 cs9] := hs
  have e97 : ρ 38 = .int .i64 0 := hp7_
  have e98 : ρ 37 = .int .i64 (([x73, x76, x7]).length : Int) := hp6_
  obtain ⟨⟨a99, c100⟩, e101⟩ := hp5_
  have e101 : ρ 36 = .slice a99 ([x73, x76, x7]).length c100 := e101
  try rw [e101] at hs
  have e102 : ρ 35 = .agg cs9.toArray := hp4_
  obtain ⟨cs103, e105⟩ := hp3_
  have e105 : ρ 34 = .agg cs103.toArray := e105
  try rw [e105] at hs
  have e106 : ρ 33 = .int .i64 x6 := hp2_
  obtain ⟨cs107, e109⟩ := hp1_
  have e109 : ρ 32 = .agg cs107.toArray := e109
  try rw [e109] at hs
  have e110 : ρ 31 = .int .i64 x5 := hp0_
  have hl108 := hs.agglen (n := 3) 2 rfl rfl rfl
  have hl104 := hs.agglen (n := 3) 1 rfl rfl rfl
  refine WA.done (by kernel_rfl) ?_
  refine hK72 _ _ ?_
  refine W.block ?_
  obtain rfl := hs.ownLen 0 rfl
  have hs := hs.freezeOwn 0 rfl
  obtain ⟨bs252, hbs252, hfs252⟩ := bindE hf
  refine W.loop hbs252 (fun s ρ w => match s with | x251 => ρ 2 = .int .i64 x5 ∧ ρ 12 = .pointer (some ⟨g46, 0, none⟩) ∧ ρ 13 = .slice a64 x63.length c66 ∧ ρ 36 = .slice a99 ([x73, x76, x7]).length c100 ∧ ρ 37 = .int .i64 (([x73, x76, x7]).length : Int) ∧ ρ 38 = .int .i64 x251 ∧ St ok (bz w0) w [vl (tSlice t_elasticstoreref32_Entry) x63 (.slice a64 x63.length c66), vl (tSlice t_index_Key) [x73, x76, x7] (.slice a99 ([x73, x76, x7]).length c100), vl t_index_Index x31 (.agg cs48.toArray)] [blk g46 35 cs48]) ⟨((hu96 2 rfl).trans (hu45 2 rfl)), ((hu96 12 rfl).trans e47), (hu96 13 rfl), e101, e98, e97, (hs.mask [true]).pick [0, 1, 5]⟩ ?_
  intro x251 ρ w os252 hI hf hbbs252
  obtain ⟨h250_2, h250_12, h250_13, h250_36, h250_37, h250_38, hs⟩ := hI
  unfold eslaw32_IndexQueries.l1 at hf
  refine W.seqK fun K253 hK253 => ?_
  refine W.region ?_
  refine WL.bin (v := .bool (decide (x251 < (([x73, x76, x7]).length : Int)))) h250_38 h250_37 (ib_lss _ _ _) ?_
  refine WL.nil ?_
  refine hK253 _ _ ?_
  refine W.seqK fun K254 hK254 => ?_
  rcases iteE hf with ⟨hc255, hf⟩ | ⟨hc255, hf⟩
  {
  refine W.cond_true (bool_tr rfl hc255) ?_
  refine W.skip ?_
  refine hK254 _ _ ?_
  refine W.seqK fun K256 hK256 => ?_
  refine W.block ?_
  refine W.seqK fun K257 hK257 => ?_
  refine W.region ?_
  obtain ⟨x258, hxx258, hf⟩ := bindE hf
  refine WL.indexAddr hs 1 rfl UN37 TI47 h250_36 h250_38 hxx258 (fun ad259 hs => ?_)
  refine WL.loadP hs 0 rfl TI47 (.inl rfl) rfl (fun v260 hs => ?_)
  obtain ⟨cs261, hl262, rfl⟩ := hs.aggv (n := 3) 0 rfl rfl rfl
  refine WL.alloc hs ZV47 (fun g263 w hs => ?_)
  refine WL.storeAll (vs := cs261) hs 0 rfl TI47 rfl rfl rfl hl262 (hs.ones 0 rfl rfl) rfl (fun w hs => ?_)
  refine WL.nil ?_
  refine hK257 _ _ ?_
  refine W.seqK fun K264 hK264 => ?_
  have Jk267 : ∀ (x266 : Bool) (ρ : Env) (w : World), ρ 2 = .int .i64 x5 → ρ 12 = .pointer (some ⟨g46, 0, none⟩) → ρ 13 = .slice a64 x63.length c66 → ρ 36 = .slice a99 ([x73, x76, x7]).length c100 → ρ 37 = .int .i64 (([x73, x76, x7]).length : Int) → ρ 38 = .int .i64 x251 → ρ 68 = .bool x266 → St ok (bz w0) w [vl (tSlice t_elasticstoreref32_Entry) x63 (.slice a64 x63.length c66), vl (tSlice t_index_Key) [x73, x76, x7] (.slice a99 ([x73, x76, x7]).length c100), vl t_index_Index x31 (.agg cs48.toArray)] [blk g46 35 cs48] → eslaw32_IndexQueries.j2 x251 x266 = some os252 → K264 ρ w := by
    intro x266 ρ w h265_2 h265_12 h265_13 h265_36 h265_37 h265_38 h265_68 hs hf
    refine hK264 _ _ ?_
    unfold eslaw32_IndexQueries.j2 at hf
    rcases iteE hf with ⟨hc268, hf⟩ | ⟨hc268, hf⟩
    {
    refine W.cond_true (bool_tr h265_68 hc268) ?_
    refine W.seqK fun K269 hK269 => ?_
    refine W.region ?_
    refine WL.assign (v := .bool false) rfl ?_
    refine WL.nil ?_
    refine hK269 _ _ ?_
    refine W.ret ?_
    have hr := Option.some.inj hf; subst hr
    have hr := hbbs252 _ rfl; subst hr
    have hf := hfs252
    have hr := Option.some.inj hf; subst hr
    exact ⟨_, resOk_one rfl rfl, (), rfl, (hs.mask []).pick []⟩ }
    {
    refine W.cond_false (bool_tr h265_68 hc268) ?_
    refine W.skip ?_
    refine hK256 _ _ ?_
    refine W.region ?_
    obtain ⟨x270, ex270, hf⟩ := letE hf
    refine WL.bin (v := .int .i64 x270) h265_38 rfl (ib_as ex270 (ib_add _ _ _)) ?_
    refine WL.move (v := .int .i64 x270) rfl ?_
    refine WL.nil ?_
    exact ⟨_, (Option.some.inj hf).symm, h265_2, h265_12, h265_13, h265_36, h265_37, rfl, (hs.mask [true]).pick [0, 1, 2]⟩ }
  obtain ⟨x271, hxx271, hf⟩ := bindE hf
  obtain ⟨x274, hxx274, hf⟩ := bindE hf
  obtain ⟨x277, hxx277, hf⟩ := bindE hf
  obtain ⟨x280, hxx280, hf⟩ := bindE hf
  obtain ⟨x283, hxx283, hf⟩ := bindE hf
  rcases iteE hf with ⟨hc284, hf⟩ | ⟨hc284, hf⟩
  {
  refine W.any (by kernel_rfl) 27 0 [true, true, true, true, true, true, true, true, true, true, true, true, true, true, true, true, true, true, true, true, true, true, true, true, true, true, true] rfl rfl (poAt [pv (.agg cs48.toArray), pv (.agg cs261.toArray), pq (fun y : (Option Addr × Nat) => .slice y.1 x271.length y.2) (fun v => [vl (tSlice tStr) x271 v]) (fun v => []), pv (.slice a64 x63.length c66), pv (.agg cs261.toArray), pq (fun y : List Value => .agg y.toArray) (fun v => [vl t_elasticstoreref32_Key x274 v]) (fun v => []), pv (.agg cs261.toArray), pq (fun y : List Value => .agg y.toArray) (fun v => [vl t_elasticstoreref32_Key x277 v]) (fun v => []), pq (fun y : (Option Addr × Nat) => .slice y.1 x280.length y.2) (fun v => [vl (tSlice tStr) x280 v]) (fun v => []), pv (.bool x283), pv (.bool (!x283)), pv (.bool (!x283)), pv (undef), pv (undef), pv (undef), pv (undef), pv (undef), pv (undef), pv (undef), pv (undef), pv (undef), pv (undef), pv (undef), pv (undef), pv (undef), pv (undef), pv (.bool true)]) (Λ := [blk g263 47 cs261, blk g46 35 cs48]) hs (by kernel_rfl) (by kernel_rfl) (by kernel_rfl) ⟨⟨⟨⟨⟨⟨⟨⟨⟨⟨⟨⟨⟨⟨⟨⟨⟨⟨⟨⟨⟨⟨⟨⟨⟨⟨⟨trivial, ?_⟩, ?_⟩, ?_⟩, ?_⟩, ?_⟩, ?_⟩, ?_⟩, ?_⟩, ?_⟩, ?_⟩, ?_⟩, ?_⟩, ?_⟩, ?_⟩, ?_⟩, ?_⟩, ?_⟩, ?_⟩, ?_⟩, ?_⟩, ?_⟩, ?_⟩, ?_⟩, ?_⟩, ?_⟩, ?_⟩, ?_⟩ ?_
  {
  intro ρ w Γx Λx hs hu hp
  refine WL.loadAll hs (Λx.length + 1) (getApp rfl) TI35 ((hu 12 rfl).trans h250_12) hl49 ?_
  exact WL.nil ⟨rfl, _, rfl, rfl, hs.cutG 0 0⟩ }
  {
  intro ρ w Γx Λx hs hu hp
  refine WL.loadAll hs (Λx.length + 0) (getApp rfl) TI47 (hu 15 rfl) hl262 ?_
  exact WL.nil ⟨rfl, _, rfl, rfl, hs.cutG 0 0⟩ }
  {
  intro ρ w Γx Λx hs hu hp
  have e285 : ρ 42 = .agg cs48.toArray := (hp 0 rfl).1
  have e286 : ρ 43 = .agg cs261.toArray := (hp 1 rfl).1
  refine WL.call (vs := [.agg cs48.toArray, .agg cs261.toArray]) hs FN22 ⟨e285, ⟨e286, trivial⟩⟩ (fun ok hA => index_Lookup.callc (x1 := x31) (x5 := x258) hxx271 (hA.get (Γx.length + 4) (getApp rfl)) (hA.get (Γx.length + 0) (getApp rfl))) ?_
  rintro ⟨a272, c273⟩ w hs
  have hs := hs.add (it := vl (tSlice tStr) x271 (.slice a272 x271.length c273)) fun ok hA => hA.get 0 rfl
  exact WL.nil ⟨rfl, _, rfl, ⟨(a272, c273), rfl⟩, hs.cutG 1 1⟩ }
  {
  intro ρ w Γx Λx hs hu hp
  refine WL.move (v := .slice a64 x63.length c66) ((hu 13 rfl).trans h250_13) ?_
  exact WL.nil ⟨rfl, _, rfl, rfl, hs.cutG 0 0⟩ }
  {
  intro ρ w Γx Λx hs hu hp
  refine WL.loadAll hs (Λx.length + 0) (getApp rfl) TI47 (hu 15 rfl) hl262 ?_
  exact WL.nil ⟨rfl, _, rfl, rfl, hs.cutG 0 0⟩ }
  {
  intro ρ w Γx Λx hs hu hp
  have e287 : ρ 46 = .agg cs261.toArray := (hp 4 rfl).1
  refine WL.call (vs := [.agg cs261.toArray]) hs FN15 ⟨e287, trivial⟩ (fun ok hA => eslaw32_convert.calls (x1 := x258) hxx274 (hA.get (Γx.length + 0) (getApp rfl))) ?_
  rintro cs275 w hs
  have hl276 := hs.agglen (n := 3) 0 rfl rfl rfl
  have hs := hs.add (it := vl t_elasticstoreref32_Key x274 (.agg cs275.toArray)) fun ok hA => hA.get 0 rfl
  exact WL.nil ⟨rfl, _, rfl, ⟨cs275, rfl⟩, hs.cutG 1 1⟩ }
  {
  intro ρ w Γx Λx hs hu hp
  refine WL.loadAll hs (Λx.length + 0) (getApp rfl) TI47 (hu 15 rfl) hl262 ?_
  exact WL.nil ⟨rfl, _, rfl, rfl, hs.cutG 0 0⟩ }
  {
  intro ρ w Γx Λx hs hu hp
  have e288 : ρ 48 = .agg cs261.toArray := (hp 6 rfl).1
  refine WL.call (vs := [.agg cs261.toArray]) hs FN15 ⟨e288, trivial⟩ (fun ok hA => eslaw32_convert.calls (x1 := x258) hxx277 (hA.get (Γx.length + 0) (getApp rfl))) ?_
  rintro cs278 w hs
  have hl279 := hs.agglen (n := 3) 0 rfl rfl rfl
  have hs := hs.add (it := vl t_elasticstoreref32_Key x277 (.agg cs278.toArray)) fun ok hA => hA.get 0 rfl
  exact WL.nil ⟨rfl, _, rfl, ⟨cs278, rfl⟩, hs.cutG 1 1⟩ }
  {
  intro ρ w Γx Λx hs hu hp
  have e289 : ρ 45 = .slice a64 x63.length c66 := (hp 3 rfl).1
  obtain ⟨⟨cs290, e292r⟩, hm293⟩ := hp 5 rfl
  have e292 : ρ 47 = .agg cs290.toArray := e292r
  rw [e292r] at hm293
  have hs := hs.memo1 (it := vl t_elasticstoreref32_Key x274 (.agg cs290.toArray)) (List.mem_append.2 (.inl (hm293 _ (List.mem_of_getElem? (i := 0) rfl))))
  have hl291 := hs.agglen (n := 3) 0 rfl rfl rfl
  obtain ⟨⟨cs294, e296r⟩, hm297⟩ := hp 7 rfl
  have e296 : ρ 49 = .agg cs294.toArray := e296r
  rw [e296r] at hm297
  have hs := hs.memo1 (it := vl t_elasticstoreref32_Key x277 (.agg cs294.toArray)) (List.mem_cons_of_mem _ (List.mem_append.2 (.inl (hm297 _ (List.mem_of_getElem? (i := 0) rfl)))))
  have hl295 := hs.agglen (n := 3) 0 rfl rfl rfl
  refine WL.call (vs := [.slice a64 x63.length c66, .agg cs290.toArray, .agg cs294.toArray]) hs FN23 ⟨e289, ⟨e292, ⟨e296, trivial⟩⟩⟩ (fun ok hA => esref32_Range.calls (x1 := x63) (x4 := x274) (x8 := x277) hxx280 (hA.get (Γx.length + 2 + 2) (getApp2 rfl)) (hA.get 1 rfl) (hA.get 0 rfl)) ?_
  rintro ⟨a281, c282⟩ w hs
  have hs := hs.add (it := vl (tSlice tStr) x280 (.slice a281 x280.length c282)) fun ok hA => hA.get 0 rfl
  exact WL.nil ⟨rfl, _, rfl, ⟨(a281, c282), rfl⟩, hs.cutG 1 3⟩ }
  {
  intro ρ w Γx Λx hs hu hp
  obtain ⟨⟨⟨a298, c299⟩, e300r⟩, hm301⟩ := hp 2 rfl
  have e300 : ρ 44 = .slice a298 x271.length c299 := e300r
  rw [e300r] at hm301
  have hs := hs.memo1 (it := vl (tSlice tStr) x271 (.slice a298 x271.length c299)) (List.mem_append.2 (.inl (hm301 _ (List.mem_of_getElem? (i := 0) rfl))))
  obtain ⟨⟨⟨a302, c303⟩, e304r⟩, hm305⟩ := hp 8 rfl
  have e304 : ρ 50 = .slice a302 x280.length c303 := e304r
  rw [e304r] at hm305
  have hs := hs.memo1 (it := vl (tSlice tStr) x280 (.slice a302 x280.length c303)) (List.mem_cons_of_mem _ (List.mem_append.2 (.inl (hm305 _ (List.mem_of_getElem? (i := 0) rfl)))))
  refine WL.call (vs := [.slice a298 x271.length c299, .slice a302 x280.length c303]) hs FN21 ⟨e300, ⟨e304, trivial⟩⟩ (fun ok hA => esref32_EqualStrings.calls (x1 := x271) (x4 := x280) hxx283 (hA.get 1 rfl) (hA.get 0 rfl)) ?_
  rintro _ w hs
  exact WL.nil ⟨rfl, _, rfl, rfl, hs.cutG 0 2⟩ }
  {
  intro ρ w Γx Λx hs hu hp
  have e306 : ρ 51 = .bool x283 := (hp 9 rfl).1
  refine WL.not e306 ?_
  exact WL.nil ⟨rfl, _, rfl, rfl, hs.cutG 0 0⟩ }
  {
  intro ρ w Γx Λx hs hu hp
  have e307 : ρ 52 = .bool (!x283) := (hp 10 rfl).1
  refine WL.move (v := .bool (!x283)) e307 ?_
  exact WL.nil ⟨rfl, _, rfl, rfl, hs.cutG 0 0⟩ }
  {
  intro ρ w Γx Λx hs hu hp
  have e308 : ρ 53 = .bool (!x283) := (hp 11 rfl).1
  refine WL.pass ((wanted_of rfl rfl (bool_tr e308 hc284)).trans rfl) rfl ?_
  exact WL.nil ⟨rfl, _, rfl, rfl, hs.cutG 0 0⟩ }
  {
  intro ρ w Γx Λx hs hu hp
  have e309 : ρ 53 = .bool (!x283) := (hp 11 rfl).1
  refine WL.pass ((wanted_of rfl rfl (bool_tr e309 hc284)).trans rfl) rfl ?_
  exact WL.nil ⟨rfl, _, rfl, rfl, hs.cutG 0 0⟩ }
  {
  intro ρ w Γx Λx hs hu hp
  have e310 : ρ 55 = undef := (hp 13 rfl).1
  have e311 : ρ 53 = .bool (!x283) := (hp 11 rfl).1
  refine WL.pass ((wanted_of rfl rfl (bool_tr e311 hc284)).trans rfl) rfl ?_
  exact WL.nil ⟨rfl, _, rfl, rfl, hs.cutG 0 0⟩ }
  {
  intro ρ w Γx Λx hs hu hp
  have e312 : ρ 53 = .bool (!x283) := (hp 11 rfl).1
  refine WL.pass ((wanted_of rfl rfl (bool_tr e312 hc284)).trans rfl) rfl ?_
  exact WL.nil ⟨rfl, _, rfl, rfl, hs.cutG 0 0⟩ }
  {
  intro ρ w Γx Λx hs hu hp
  have e313 : ρ 54 = undef := (hp 12 rfl).1
  have e314 : ρ 56 = undef := (hp 14 rfl).1
  have e315 : ρ 57 = undef := (hp 15 rfl).1
  have e316 : ρ 53 = .bool (!x283) := (hp 11 rfl).1
  refine WL.pass ((wanted_of rfl rfl (bool_tr e316 hc284)).trans rfl) rfl ?_
  exact WL.nil ⟨rfl, _, rfl, rfl, hs.cutG 0 0⟩ }
  {
  intro ρ w Γx Λx hs hu hp
  have e317 : ρ 53 = .bool (!x283) := (hp 11 rfl).1
  refine WL.pass ((wanted_of rfl rfl (bool_tr e317 hc284)).trans rfl) rfl ?_
  exact WL.nil ⟨rfl, _, rfl, rfl, hs.cutG 0 0⟩ }
  {
  intro ρ w Γx Λx hs hu hp
  have e318 : ρ 53 = .bool (!x283) := (hp 11 rfl).1
  refine WL.pass ((wanted_of rfl rfl (bool_tr e318 hc284)).trans rfl) rfl ?_
  exact WL.nil ⟨rfl, _, rfl, rfl, hs.cutG 0 0⟩ }
  {
  intro ρ w Γx Λx hs hu hp
  have e319 : ρ 60 = undef := (hp 18 rfl).1
  have e320 : ρ 53 = .bool (!x283) := (hp 11 rfl).1
  refine WL.pass ((wanted_of rfl rfl (bool_tr e320 hc284)).trans rfl) rfl ?_
  exact WL.nil ⟨rfl, _, rfl, rfl, hs.cutG 0 0⟩ }
  {
  intro ρ w Γx Λx hs hu hp
  have e321 : ρ 61 = undef := (hp 19 rfl).1
  have e322 : ρ 53 = .bool (!x283) := (hp 11 rfl).1
  refine WL.pass ((wanted_of rfl rfl (bool_tr e322 hc284)).trans rfl) rfl ?_
  exact WL.nil ⟨rfl, _, rfl, rfl, hs.cutG 0 0⟩ }
  {
  intro ρ w Γx Λx hs hu hp
  have e323 : ρ 53 = .bool (!x283) := (hp 11 rfl).1
  refine WL.pass ((wanted_of rfl rfl (bool_tr e323 hc284)).trans rfl) rfl ?_
  exact WL.nil ⟨rfl, _, rfl, rfl, hs.cutG 0 0⟩ }
  {
  intro ρ w Γx Λx hs hu hp
  have e324 : ρ 63 = undef := (hp 21 rfl).1
  have e325 : ρ 53 = .bool (!x283) := (hp 11 rfl).1
  refine WL.pass ((wanted_of rfl rfl (bool_tr e325 hc284)).trans rfl) rfl ?_
  exact WL.nil ⟨rfl, _, rfl, rfl, hs.cutG 0 0⟩ }
  {
  intro ρ w Γx Λx hs hu hp
  have e326 : ρ 59 = undef := (hp 17 rfl).1
  have e327 : ρ 62 = undef := (hp 20 rfl).1
  have e328 : ρ 64 = undef := (hp 22 rfl).1
  have e329 : ρ 53 = .bool (!x283) := (hp 11 rfl).1
  refine WL.pass ((wanted_of rfl rfl (bool_tr e329 hc284)).trans rfl) rfl ?_
  exact WL.nil ⟨rfl, _, rfl, rfl, hs.cutG 0 0⟩ }
  {
  intro ρ w Γx Λx hs hu hp
  have e330 : ρ 58 = undef := (hp 16 rfl).1
  have e331 : ρ 65 = undef := (hp 23 rfl).1
  have e332 : ρ 53 = .bool (!x283) := (hp 11 rfl).1
  refine WL.pass ((wanted_of rfl rfl (bool_tr e332 hc284)).trans rfl) rfl ?_
  exact WL.nil ⟨rfl, _, rfl, rfl, hs.cutG 0 0⟩ }
  {
  intro ρ w Γx Λx hs hu hp
  have e333 : ρ 66 = undef := (hp 24 rfl).1
  have e334 : ρ 53 = .bool (!x283) := (hp 11 rfl).1
  refine WL.pass ((wanted_of rfl rfl (bool_tr e334 hc284)).trans rfl) rfl ?_
  exact WL.nil ⟨rfl, _, rfl, rfl, hs.cutG 0 0⟩ }
  {
  intro ρ w Γx Λx hs hu hp
  have e335 : ρ 53 = .bool (!x283) := (hp 11 rfl).1
  have e336 : ρ 67 = undef := (hp 25 rfl).1
  refine WL.pickT (v := .bool true) (bool_tr e335 hc284) rfl ?_
  exact WL.nil ⟨rfl, _, rfl, rfl, hs.cutG 0 0⟩ }
  {
  intro ρ w hs hu337 hp
  obtain ⟨⟨⟨⟨⟨⟨⟨⟨⟨⟨⟨⟨⟨⟨⟨⟨⟨⟨⟨⟨⟨⟨⟨⟨⟨⟨⟨_, hp0_⟩, hp1_⟩, hp2_⟩, hp3_⟩, hp4_⟩, hp5_⟩, hp6_⟩, hp7_⟩, hp8_⟩, hp9_⟩, hp10_⟩, hp11_⟩, hp12_⟩, hp13_⟩, hp14_⟩, hp15_⟩, hp16_⟩, hp17_⟩, hp18_⟩, hp19_⟩, hp20_⟩, hp21_⟩, hp22_⟩, hp23_⟩, hp24_⟩, hp25_⟩, hp26_⟩ := hp
  have hs : St ok (bz w0) w [vl (tSlice tStr) x280 (ρ 50), vl t_elasticstoreref32_Key x277 (ρ 49), vl t_elasticstoreref32_Key x274 (ρ 47), vl (tSlice tStr) x271 (ρ 44), vl t_index_Key x258 (.agg cs261.toArray), pl t_index_Key x258 ad259, vl (tSlice t_elasticstoreref32_Entry) x63 (.slice a64 x63.length c66), vl (tSlice t_index_Key) [x73, x76, x7] (.slice a99 ([x73, x76, x7]).length c100), vl t_index_Index x31 (.agg cs48.toArray)] [blk g263 47 cs261, blk g46 35 cs48] := hs
  have e338 : ρ 68 = .bool true := hp26_
  have e339 : ρ 67 = undef := hp25_
  have e340 : ρ 66 = undef := hp24_
  have e341 : ρ 65 = undef := hp23_
  have e342 : ρ 64 = undef := hp22_
  have e343 : ρ 63 = undef := hp21_
  have e344 : ρ 62 = undef := hp20_
  have e345 : ρ 61 = undef := hp19_
  have e346 : ρ 60 = undef := hp18_
  have e347 : ρ 59 = undef := hp17_
  have e348 : ρ 58 = undef := hp16_
  have e349 : ρ 57 = undef := hp15_
  have e350 : ρ 56 = undef := hp14_
  have e351 : ρ 55 = undef := hp13_
  have e352 : ρ 54 = undef := hp12_
  have e353 : ρ 53 = .bool (!x283) := hp11_
  have e354 : ρ 52 = .bool (!x283) := hp10_
  have e355 : ρ 51 = .bool x283 := hp9_
  obtain ⟨⟨a356, c357⟩, e358⟩ := hp8_
  have e358 : ρ 50 = .slice a356 x280.length c357 := e358
  try rw [e358] at hs
  obtain ⟨cs359, e361⟩ := hp7_
  have e361 : ρ 49 = .agg cs359.toArray := e361
  try rw [e361] at hs
  have e362 : ρ 48 = .agg cs261.toArray := hp6_
  obtain ⟨cs363, e365⟩ := hp5_
  have e365 : ρ 47 = .agg cs363.toArray := e365
  try rw [e365] at hs
  have e366 : ρ 46 = .agg cs261.toArray := hp4_
  have e367 : ρ 45 = .slice a64 x63.length c66 := hp3_
  obtain ⟨⟨a368, c369⟩, e370⟩ := hp2_
  have e370 : ρ 44 = .slice a368 x271.length c369 := e370
  try rw [e370] at hs
  have e371 : ρ 43 = .agg cs261.toArray := hp1_
  have e372 : ρ 42 = .agg cs48.toArray := hp0_
  have hl364 := hs.agglen (n := 3) 2 rfl rfl rfl
  have hl360 := hs.agglen (n := 3) 1 rfl rfl rfl
  refine WA.done (by kernel_rfl) ?_
  exact Jk267 true _ _ ((hu337 2 rfl).trans h250_2) ((hu337 12 rfl).trans h250_12) ((hu337 13 rfl).trans h250_13) ((hu337 36 rfl).trans h250_36) ((hu337 37 rfl).trans h250_37) ((hu337 38 rfl).trans h250_38) e338 ((hs.mask [false, true]).pick [6, 7, 8]) hf } }
  {
  obtain ⟨x373, hxx373, hf⟩ := bindE hf
  obtain ⟨x376, hxx376, hf⟩ := bindE hf
  obtain ⟨x379, hxx379, hf⟩ := bindE hf
  obtain ⟨x382, hxx382, hf⟩ := bindE hf
  obtain ⟨x385, hxx385, hf⟩ := bindE hf
  obtain ⟨x388, hxx388, hf⟩ := bindE hf
  obtain ⟨x391, hxx391, hf⟩ := bindE hf
  refine W.any (by kernel_rfl) 27 0 [true, true, true, true, true, true, true, true, true, true, true, true, true, true, true, true, true, true, true, true, true, true, true, true, true, true, true] rfl rfl (poAt [pv (.agg cs48.toArray), pv (.agg cs261.toArray), pq (fun y : (Option Addr × Nat) => .slice y.1 x271.length y.2) (fun v => [vl (tSlice tStr) x271 v]) (fun v => []), pv (.slice a64 x63.length c66), pv (.agg cs261.toArray), pq (fun y : List Value => .agg y.toArray) (fun v => [vl t_elasticstoreref32_Key x274 v]) (fun v => []), pv (.agg cs261.toArray), pq (fun y : List Value => .agg y.toArray) (fun v => [vl t_elasticstoreref32_Key x277 v]) (fun v => []), pq (fun y : (Option Addr × Nat) => .slice y.1 x280.length y.2) (fun v => [vl (tSlice tStr) x280 v]) (fun v => []), pv (.bool x283), pv (.bool (!x283)), pv (.bool (!x283)), pv (.agg cs48.toArray), pv (.int .i64 x5), pq (fun y : List Value => .agg y.toArray) (fun v => [vl t_index_Key x373 v]) (fun v => []), pv (.agg cs261.toArray), pq (fun y : (Option Addr × Nat) => .slice y.1 x376.length y.2) (fun v => [vl (tSlice tStr) x376 v]) (fun v => []), pv (.slice a64 x63.length c66), pv (.int .i64 x5), pq (fun y : List Value => .agg y.toArray) (fun v => [vl t_index_Key x379 v]) (fun v => []), pq (fun y : List Value => .agg y.toArray) (fun v => [vl t_elasticstoreref32_Key x382 v]) (fun v => []), pv (.agg cs261.toArray), pq (fun y : List Value => .agg y.toArray) (fun v => [vl t_elasticstoreref32_Key x385 v]) (fun v => []), pq (fun y : (Option Addr × Nat) => .slice y.1 x388.length y.2) (fun v => [vl (tSlice tStr) x388 v]) (fun v => []), pv (.bool x391), pv (.bool (!x391)), pv (.bool (!x391))]) (Λ := [blk g263 47 cs261, blk g46 35 cs48]) hs (by kernel_rfl) (by kernel_rfl) (by kernel_rfl) ⟨⟨⟨⟨⟨⟨⟨⟨⟨⟨⟨⟨⟨⟨⟨⟨⟨⟨⟨⟨⟨⟨⟨⟨⟨⟨⟨trivial, ?_⟩, ?_⟩, ?_⟩, ?_⟩, ?_⟩, ?_⟩, ?_⟩, ?_⟩, ?_⟩, ?_⟩, ?_⟩, ?_⟩, ?_⟩, ?_⟩, ?_⟩, ?_⟩, ?_⟩, ?_⟩, ?_⟩, ?_⟩, ?_⟩, ?_⟩, ?_⟩, ?_⟩, ?_⟩, ?_⟩, ?_⟩ ?_
  {
  intro ρ w Γx Λx hs hu hp
  refine WL.loadAll hs (Λx.length + 1) (getApp rfl) TI35 ((hu 12 rfl).trans h250_12) hl49 ?_
  exact WL.nil ⟨rfl, _, rfl, rfl, hs.cutG 0 0⟩ }
  {
  intro ρ w Γx Λx hs hu hp
  refine WL.loadAll hs (Λx.length + 0) (getApp rfl) TI47 (hu 15 rfl) hl262 ?_
  exact WL.nil ⟨rfl, _, rfl, rfl, hs.cutG 0 0⟩ }
  {
  intro ρ w Γx Λx hs hu hp
  have e392 : ρ 42 = .agg cs48.toArray := (hp 0 rfl).1
  have e393 : ρ 43 = .agg cs261.toArray := (hp 1 rfl).1
  refine WL.call (vs := [.agg cs48.toArray, .agg cs261.toArray]) hs FN22 ⟨e392, ⟨e393, trivial⟩⟩ (fun ok hA => index_Lookup.callc (x1 := x31) (x5 := x258) hxx271 (hA.get (Γx.length + 4) (getApp rfl)) (hA.get (Γx.length + 0) (getApp rfl))) ?_
  rintro ⟨a272, c273⟩ w hs
  have hs := hs.add (it := vl (tSlice tStr) x271 (.slice a272 x271.length c273)) fun ok hA => hA.get 0 rfl
  exact WL.nil ⟨rfl, _, rfl, ⟨(a272, c273), rfl⟩, hs.cutG 1 1⟩ }
  {
  intro ρ w Γx Λx hs hu hp
  refine WL.move (v := .slice a64 x63.length c66) ((hu 13 rfl).trans h250_13) ?_
  exact WL.nil ⟨rfl, _, rfl, rfl, hs.cutG 0 0⟩ }
  {
  intro ρ w Γx Λx hs hu hp
  refine WL.loadAll hs (Λx.length + 0) (getApp rfl) TI47 (hu 15 rfl) hl262 ?_
  exact WL.nil ⟨rfl, _, rfl, rfl, hs.cutG 0 0⟩ }
  {
  intro ρ w Γx Λx hs hu hp
  have e394 : ρ 46 = .agg cs261.toArray := (hp 4 rfl).1
  refine WL.call (vs := [.agg cs261.toArray]) hs FN15 ⟨e394, trivial⟩ (fun ok hA => eslaw32_convert.calls (x1 := x258) hxx274 (hA.get (Γx.length + 0) (getApp rfl))) ?_
  rintro cs275 w hs
  have hl276 := hs.agglen (n := 3) 0 rfl rfl rfl
  have hs := hs.add (it := vl t_elasticstoreref32_Key x274 (.agg cs275.toArray)) fun ok hA => hA.get 0 rfl
  exact WL.nil ⟨rfl, _, rfl, ⟨cs275, rfl⟩, hs.cutG 1 1⟩ }
  {
  intro ρ w Γx Λx hs hu hp
  refine WL.loadAll hs (Λx.length + 0) (getApp rfl) TI47 (hu 15 rfl) hl262 ?_
  exact WL.nil ⟨rfl, _, rfl, rfl, hs.cutG 0 0⟩ }
  {
  intro ρ w Γx Λx hs hu hp
  have e395 : ρ 48 = .agg cs261.toArray := (hp 6 rfl).1
  refine WL.call (vs := [.agg cs261.toArray]) hs FN15 ⟨e395, trivial⟩ (fun ok hA => eslaw32_convert.calls (x1 := x258) hxx277 (hA.get (Γx.length + 0) (getApp rfl))) ?_
  rintro cs278 w hs
  have hl279 := hs.agglen (n := 3) 0 rfl rfl rfl
  have hs := hs.add (it := vl t_elasticstoreref32_Key x277 (.agg cs278.toArray)) fun ok hA => hA.get 0 rfl
  exact WL.nil ⟨rfl, _, rfl, ⟨cs278, rfl⟩, hs.cutG 1 1⟩ }
  {
  intro ρ w Γx Λx hs hu hp
  have e396 : ρ 45 = .slice a64 x63.length c66 := (hp 3 rfl).1
  obtain ⟨⟨cs397, e399r⟩, hm400⟩ := hp 5 rfl
  have e399 : ρ 47 = .agg cs397.toArray := e399r
  rw [e399r] at hm400
  have hs := hs.memo1 (it := vl t_elasticstoreref32_Key x274 (.agg cs397.toArray)) (List.mem_append.2 (.inl (hm400 _ (List.mem_of_getElem? (i := 0) rfl))))
  have hl398 := hs.agglen (n := 3) 0 rfl rfl rfl
  obtain ⟨⟨cs401, e403r⟩, hm404⟩ := hp 7 rfl
  have e403 : ρ 49 = .agg cs401.toArray := e403r
  rw [e403r] at hm404
  have hs := hs.memo1 (it := vl t_elasticstoreref32_Key x277 (.agg cs401.toArray)) (List.mem_cons_of_mem _ (List.mem_append.2 (.inl (hm404 _ (List.mem_of_getElem? (i := 0) rfl)))))
  have hl402 := hs.agglen (n := 3) 0 rfl rfl rfl
  refine WL.call (vs := [.slice a64 x63.length c66, .agg cs397.toArray, .agg cs401.toArray]) hs FN23 ⟨e396, ⟨e399, ⟨e403, trivial⟩⟩⟩ (fun ok hA => esref32_Range.calls (x1 := x63) (x4 := x274) (x8 := x277) hxx280 (hA.get (Γx.length + 2 + 2) (getApp2 rfl)) (hA.get 1 rfl) (hA.get 0 rfl)) ?_
  rintro ⟨a281, c282⟩ w hs
  have hs := hs.add (it := vl (tSlice tStr) x280 (.slice a281 x280.length c282)) fun ok hA => hA.get 0 rfl
  exact WL.nil ⟨rfl, _, rfl, ⟨(a281, c282), rfl⟩, hs.cutG 1 3⟩ }
  {
  intro ρ w Γx Λx hs hu hp
  obtain ⟨⟨⟨a405, c406⟩, e407r⟩, hm408⟩ := hp 2 rfl
  have e407 : ρ 44 = .slice a405 x271.length c406 := e407r
  rw [e407r] at hm408
  have hs := hs.memo1 (it := vl (tSlice tStr) x271 (.slice a405 x271.length c406)) (List.mem_append.2 (.inl (hm408 _ (List.mem_of_getElem? (i := 0) rfl))))
  obtain ⟨⟨⟨a409, c410⟩, e411r⟩, hm412⟩ := hp 8 rfl
  have e411 : ρ 50 = .slice a409 x280.length c410 := e411r
  rw [e411r] at hm412
  have hs := hs.memo1 (it := vl (tSlice tStr) x280 (.slice a409 x280.length c410)) (List.mem_cons_of_mem _ (List.mem_append.2 (.inl (hm412 _ (List.mem_of_getElem? (i := 0) rfl)))))
  refine WL.call (vs := [.slice a405 x271.length c406, .slice a409 x280.length c410]) hs FN21 ⟨e407, ⟨e411, trivial⟩⟩ (fun ok hA => esref32_EqualStrings.calls (x1 := x271) (x4 := x280) hxx283 (hA.get 1 rfl) (hA.get 0 rfl)) ?_
  rintro _ w hs
  exact WL.nil ⟨rfl, _, rfl, rfl, hs.cutG 0 2⟩ }
  {
  intro ρ w Γx Λx hs hu hp
  have e413 : ρ 51 = .bool x283 := (hp 9 rfl).1
  refine WL.not e413 ?_
  exact WL.nil ⟨rfl, _, rfl, rfl, hs.cutG 0 0⟩ }
  {
  intro ρ w Γx Λx hs hu hp
  have e414 : ρ 52 = .bool (!x283) := (hp 10 rfl).1
  refine WL.move (v := .bool (!x283)) e414 ?_
  exact WL.nil ⟨rfl, _, rfl, rfl, hs.cutG 0 0⟩ }
  {
  intro ρ w Γx Λx hs hu hp
  have e415 : ρ 53 = .bool (!x283) := (hp 11 rfl).1
  refine WL.loadAll hs (Λx.length + 1) (getApp rfl) TI35 ((hu 12 rfl).trans h250_12) hl49 ?_ (hg := (wanted_of rfl rfl (bool_tr e415 hc284)).trans rfl)
  exact WL.nil ⟨rfl, _, rfl, rfl, hs.cutG 0 0⟩ }
  {
  intro ρ w Γx Λx hs hu hp
  have e416 : ρ 53 = .bool (!x283) := (hp 11 rfl).1
  refine WL.move (v := .int .i64 x5) ((hu 2 rfl).trans h250_2) ?_ (hg := (wanted_of rfl rfl (bool_tr e416 hc284)).trans rfl)
  exact WL.nil ⟨rfl, _, rfl, rfl, hs.cutG 0 0⟩ }
  {
  intro ρ w Γx Λx hs hu hp
  have e417 : ρ 55 = .int .i64 x5 := (hp 13 rfl).1
  have e418 : ρ 53 = .bool (!x283) := (hp 11 rfl).1
  refine WL.call (vs := [.int .i64 x5]) hs FN20 ⟨e417, trivial⟩ (fun ok hA => eslaw32_key.calls (x1 := x5) hxx373) ?_ (hg := (wanted_of rfl rfl (bool_tr e418 hc284)).trans rfl)
  rintro cs374 w hs
  have hl375 := hs.agglen (n := 3) 0 rfl rfl rfl
  have hs := hs.add (it := vl t_index_Key x373 (.agg cs374.toArray)) fun ok hA => hA.get 0 rfl
  exact WL.nil ⟨rfl, _, rfl, ⟨cs374, rfl⟩, hs.cutG 1 1⟩ }
  {
  intro ρ w Γx Λx hs hu hp
  have e419 : ρ 53 = .bool (!x283) := (hp 11 rfl).1
  refine WL.loadAll hs (Λx.length + 0) (getApp rfl) TI47 (hu 15 rfl) hl262 ?_ (hg := (wanted_of rfl rfl (bool_tr e419 hc284)).trans rfl)
  exact WL.nil ⟨rfl, _, rfl, rfl, hs.cutG 0 0⟩ }
  {
  intro ρ w Γx Λx hs hu hp
  have e420 : ρ 54 = .agg cs48.toArray := (hp 12 rfl).1
  obtain ⟨⟨cs421, e423r⟩, hm424⟩ := hp 14 rfl
  have e423 : ρ 56 = .agg cs421.toArray := e423r
  rw [e423r] at hm424
  have hs := hs.memo1 (it := vl t_index_Key x373 (.agg cs421.toArray)) (List.mem_append.2 (.inl (hm424 _ (List.mem_of_getElem? (i := 0) rfl))))
  have hl422 := hs.agglen (n := 3) 0 rfl rfl rfl
  have e425 : ρ 57 = .agg cs261.toArray := (hp 15 rfl).1
  have e426 : ρ 53 = .bool (!x283) := (hp 11 rfl).1
  refine WL.call (vs := [.agg cs48.toArray, .agg cs421.toArray, .agg cs261.toArray]) hs FN24 ⟨e420, ⟨e423, ⟨e425, trivial⟩⟩⟩ (fun ok hA => index_Range.callc (x1 := x31) (x5 := x373) (x9 := x258) hxx376 (hA.get (Γx.length + 4 + 1) (getApp1 rfl)) (hA.get 0 rfl) (hA.get (Γx.length + 0 + 1) (getApp1 rfl))) ?_ (hg := (wanted_of rfl rfl (bool_tr e426 hc284)).trans rfl)
  rintro ⟨a377, c378⟩ w hs
  have hs := hs.add (it := vl (tSlice tStr) x376 (.slice a377 x376.length c378)) fun ok hA => hA.get 0 rfl
  exact WL.nil ⟨rfl, _, rfl, ⟨(a377, c378), rfl⟩, hs.cutG 1 2⟩ }
  {
  intro ρ w Γx Λx hs hu hp
  have e427 : ρ 53 = .bool (!x283) := (hp 11 rfl).1
  refine WL.move (v := .slice a64 x63.length c66) ((hu 13 rfl).trans h250_13) ?_ (hg := (wanted_of rfl rfl (bool_tr e427 hc284)).trans rfl)
  exact WL.nil ⟨rfl, _, rfl, rfl, hs.cutG 0 0⟩ }
  {
  intro ρ w Γx Λx hs hu hp
  have e428 : ρ 53 = .bool (!x283) := (hp 11 rfl).1
  refine WL.move (v := .int .i64 x5) ((hu 2 rfl).trans h250_2) ?_ (hg := (wanted_of rfl rfl (bool_tr e428 hc284)).trans rfl)
  exact WL.nil ⟨rfl, _, rfl, rfl, hs.cutG 0 0⟩ }
  {
  intro ρ w Γx Λx hs hu hp
  have e429 : ρ 60 = .int .i64 x5 := (hp 18 rfl).1
  have e430 : ρ 53 = .bool (!x283) := (hp 11 rfl).1
  refine WL.call (vs := [.int .i64 x5]) hs FN20 ⟨e429, trivial⟩ (fun ok hA => eslaw32_key.calls (x1 := x5) hxx379) ?_ (hg := (wanted_of rfl rfl (bool_tr e430 hc284)).trans rfl)
  rintro cs380 w hs
  have hl381 := hs.agglen (n := 3) 0 rfl rfl rfl
  have hs := hs.add (it := vl t_index_Key x379 (.agg cs380.toArray)) fun ok hA => hA.get 0 rfl
  exact WL.nil ⟨rfl, _, rfl, ⟨cs380, rfl⟩, hs.cutG 1 1⟩ }
  {
  intro ρ w Γx Λx hs hu hp
  obtain ⟨⟨cs431, e433r⟩, hm434⟩ := hp 19 rfl
  have e433 : ρ 61 = .agg cs431.toArray := e433r
  rw [e433r] at hm434
  have hs := hs.memo1 (it := vl t_index_Key x379 (.agg cs431.toArray)) (List.mem_append.2 (.inl (hm434 _ (List.mem_of_getElem? (i := 0) rfl))))
  have hl432 := hs.agglen (n := 3) 0 rfl rfl rfl
  have e435 : ρ 53 = .bool (!x283) := (hp 11 rfl).1
  refine WL.call (vs := [.agg cs431.toArray]) hs FN15 ⟨e433, trivial⟩ (fun ok hA => eslaw32_convert.calls (x1 := x379) hxx382 (hA.get 0 rfl)) ?_ (hg := (wanted_of rfl rfl (bool_tr e435 hc284)).trans rfl)
  rintro cs383 w hs
  have hl384 := hs.agglen (n := 3) 0 rfl rfl rfl
  have hs := hs.add (it := vl t_elasticstoreref32_Key x382 (.agg cs383.toArray)) fun ok hA => hA.get 0 rfl
  exact WL.nil ⟨rfl, _, rfl, ⟨cs383, rfl⟩, hs.cutG 1 2⟩ }
  {
  intro ρ w Γx Λx hs hu hp
  have e436 : ρ 53 = .bool (!x283) := (hp 11 rfl).1
  refine WL.loadAll hs (Λx.length + 0) (getApp rfl) TI47 (hu 15 rfl) hl262 ?_ (hg := (wanted_of rfl rfl (bool_tr e436 hc284)).trans rfl)
  exact WL.nil ⟨rfl, _, rfl, rfl, hs.cutG 0 0⟩ }
  {
  intro ρ w Γx Λx hs hu hp
  have e437 : ρ 63 = .agg cs261.toArray := (hp 21 rfl).1
  have e438 : ρ 53 = .bool (!x283) := (hp 11 rfl).1
  refine WL.call (vs := [.agg cs261.toArray]) hs FN15 ⟨e437, trivial⟩ (fun ok hA => eslaw32_convert.calls (x1 := x258) hxx385 (hA.get (Γx.length + 0) (getApp rfl))) ?_ (hg := (wanted_of rfl rfl (bool_tr e438 hc284)).trans rfl)
  rintro cs386 w hs
  have hl387 := hs.agglen (n := 3) 0 rfl rfl rfl
  have hs := hs.add (it := vl t_elasticstoreref32_Key x385 (.agg cs386.toArray)) fun ok hA => hA.get 0 rfl
  exact WL.nil ⟨rfl, _, rfl, ⟨cs386, rfl⟩, hs.cutG 1 1⟩ }
  {
  intro ρ w Γx Λx hs hu hp
  have e439 : ρ 59 = .slice a64 x63.length c66 := (hp 17 rfl).1
  obtain ⟨⟨cs440, e442r⟩, hm443⟩ := hp 20 rfl
  have e442 : ρ 62 = .agg cs440.toArray := e442r
  rw [e442r] at hm443
  have hs := hs.memo1 (it := vl t_elasticstoreref32_Key x382 (.agg cs440.toArray)) (List.mem_append.2 (.inl (hm443 _ (List.mem_of_getElem? (i := 0) rfl))))
  have hl441 := hs.agglen (n := 3) 0 rfl rfl rfl
  obtain ⟨⟨cs444, e446r⟩, hm447⟩ := hp 22 rfl
  have e446 : ρ 64 = .agg cs444.toArray := e446r
  rw [e446r] at hm447
  have hs := hs.memo1 (it := vl t_elasticstoreref32_Key x385 (.agg cs444.toArray)) (List.mem_cons_of_mem _ (List.mem_append.2 (.inl (hm447 _ (List.mem_of_getElem? (i := 0) rfl)))))
  have hl445 := hs.agglen (n := 3) 0 rfl rfl rfl
  have e448 : ρ 53 = .bool (!x283) := (hp 11 rfl).1
  refine WL.call (vs := [.slice a64 x63.length c66, .agg cs440.toArray, .agg cs444.toArray]) hs FN23 ⟨e439, ⟨e442, ⟨e446, trivial⟩⟩⟩ (fun ok hA => esref32_Range.calls (x1 := x63) (x4 := x382) (x8 := x385) hxx388 (hA.get (Γx.length + 2 + 2) (getApp2 rfl)) (hA.get 1 rfl) (hA.get 0 rfl)) ?_ (hg := (wanted_of rfl rfl (bool_tr e448 hc284)).trans rfl)
  rintro ⟨a389, c390⟩ w hs
  have hs := hs.add (it := vl (tSlice tStr) x388 (.slice a389 x388.length c390)) fun ok hA => hA.get 0 rfl
  exact WL.nil ⟨rfl, _, rfl, ⟨(a389, c390), rfl⟩, hs.cutG 1 3⟩ }
  {
  intro ρ w Γx Λx hs hu hp
  obtain ⟨⟨⟨a449, c450⟩, e451r⟩, hm452⟩ := hp 16 rfl
  have e451 : ρ 58 = .slice a449 x376.length c450 := e451r
  rw [e451r] at hm452
  have hs := hs.memo1 (it := vl (tSlice tStr) x376 (.slice a449 x376.length c450)) (List.mem_append.2 (.inl (hm452 _ (List.mem_of_getElem? (i := 0) rfl))))
  obtain ⟨⟨⟨a453, c454⟩, e455r⟩, hm456⟩ := hp 23 rfl
  have e455 : ρ 65 = .slice a453 x388.length c454 := e455r
  rw [e455r] at hm456
  have hs := hs.memo1 (it := vl (tSlice tStr) x388 (.slice a453 x388.length c454)) (List.mem_cons_of_mem _ (List.mem_append.2 (.inl (hm456 _ (List.mem_of_getElem? (i := 0) rfl)))))
  have e457 : ρ 53 = .bool (!x283) := (hp 11 rfl).1
  refine WL.call (vs := [.slice a449 x376.length c450, .slice a453 x388.length c454]) hs FN21 ⟨e451, ⟨e455, trivial⟩⟩ (fun ok hA => esref32_EqualStrings.calls (x1 := x376) (x4 := x388) hxx391 (hA.get 1 rfl) (hA.get 0 rfl)) ?_ (hg := (wanted_of rfl rfl (bool_tr e457 hc284)).trans rfl)
  rintro _ w hs
  exact WL.nil ⟨rfl, _, rfl, rfl, hs.cutG 0 2⟩ }
  {
  intro ρ w Γx Λx hs hu hp
  have e458 : ρ 66 = .bool x391 := (hp 24 rfl).1
  have e459 : ρ 53 = .bool (!x283) := (hp 11 rfl).1
  refine WL.not e458 ?_ (hg := (wanted_of rfl rfl (bool_tr e459 hc284)).trans rfl)
  exact WL.nil ⟨rfl, _, rfl, rfl, hs.cutG 0 0⟩ }
  {
  intro ρ w Γx Λx hs hu hp
  have e460 : ρ 53 = .bool (!x283) := (hp 11 rfl).1
  have e461 : ρ 67 = .bool (!x391) := (hp 25 rfl).1
  refine WL.pickF (v := .bool (!x391)) (bool_tr e460 hc284) e461 ?_
  exact WL.nil ⟨rfl, _, rfl, rfl, hs.cutG 0 0⟩ }
  {
  intro ρ w hs hu462 hp
  obtain ⟨⟨⟨⟨⟨⟨⟨⟨⟨⟨⟨⟨⟨⟨⟨⟨⟨⟨⟨⟨⟨⟨⟨⟨⟨⟨⟨_, hp0_⟩, hp1_⟩, hp2_⟩, hp3_⟩, hp4_⟩, hp5_⟩, hp6_⟩, hp7_⟩, hp8_⟩, hp9_⟩, hp10_⟩, hp11_⟩, hp12_⟩, hp13_⟩, hp14_⟩, hp15_⟩, hp16_⟩, hp17_⟩, hp18_⟩, hp19_⟩, hp20_⟩, hp21_⟩, hp22_⟩, hp23_⟩, hp24_⟩, hp25_⟩, hp26_⟩ := hp
  have hs : St ok (bz w0) w [vl (tSlice tStr) x388 (ρ 65), vl t_elasticstoreref32_Key x385 (ρ 64), vl t_elasticstoreref32_Key x382 (ρ 62), vl t_index_Key x379 (ρ 61), vl (tSlice tStr) x376 (ρ 58), vl t_index_Key x373 (ρ 56), vl (tSlice tStr) x280 (ρ 50), vl t_elasticstoreref32_Key x277 (ρ 49), vl t_elasticstoreref32_Key x274 (ρ 47), vl (tSlice tStr) x271 (ρ 44), vl t_index_Key x258 (.agg cs261.toArray), pl t_index_Key x258 ad259, vl (tSlice t_elasticstoreref32_Entry) x63 (.slice a64 x63.length c66), vl (tSlice t_index_Key) [x73, x76, x7] (.slice a99 ([x73, x76, x7]).length c100), vl t_index_Index x31 (.agg cs48.toArray)] [blk g263 47 cs261, blk g46 35 cs48] := hs
  have e463 : ρ 68 = .bool (!x391) := hp26_
  have e464 : ρ 67 = .bool (!x391) := hp25_
  have e465 : ρ 66 = .bool x391 := hp24_
  obtain ⟨⟨a466, c467⟩, e468⟩ := hp23_
  have e468 : ρ 65 = .slice a466 x388.length c467 := e468
  try rw [e468] at hs
  obtain ⟨cs469, e471⟩ := hp22_
  have e471 : ρ 64 = .agg cs469.toArray := e471
  try rw [e471] at hs
  have e472 : ρ 63 = .agg cs261.toArray := hp21_
  obtain ⟨cs473, e475⟩ := hp20_
  have e475 : ρ 62 = .agg cs473.toArray := e475
  try rw [e475] at hs
  obtain ⟨cs476, e478⟩ := hp19_
  have e478 : ρ 61 = .agg cs476.toArray := e478
  try rw [e478] at hs
  have e479 : ρ 60 = .int .i64 x5 := hp18_
  have e480 : ρ 59 = .slice a64 x63.length c66 := hp17_
  obtain ⟨⟨a481, c482⟩, e483⟩ := hp16_
  have e483 : ρ 58 = .slice a481 x376.length c482 := e483
  try rw [e483] at hs
  have e484 : ρ 57 = .agg cs261.toArray := hp15_
  obtain ⟨cs485, e487⟩ := hp14_
  have e487 : ρ 56 = .agg cs485.toArray := e487
  try rw [e487] at hs
  have e488 : ρ 55 = .int .i64 x5 := hp13_
  have e489 : ρ 54 = .agg cs48.toArray := hp12_
  have e490 : ρ 53 = .bool (!x283) := hp11_
  have e491 : ρ 52 = .bool (!x283) := hp10_
  have e492 : ρ 51 = .bool x283 := hp9_
  obtain ⟨⟨a493, c494⟩, e495⟩ := hp8_
  have e495 : ρ 50 = .slice a493 x280.length c494 := e495
  try rw [e495] at hs
  obtain ⟨cs496, e498⟩ := hp7_
  have e498 : ρ 49 = .agg cs496.toArray := e498
  try rw [e498] at hs
  have e499 : ρ 48 = .agg cs261.toArray := hp6_
  obtain ⟨cs500, e502⟩ := hp5_
  have e502 : ρ 47 = .agg cs500.toArray := e502
  try rw [e502] at hs
  have e503 : ρ 46 = .agg cs261.toArray := hp4_
  have e504 : ρ 45 = .slice a64 x63.length c66 := hp3_
  obtain ⟨⟨a505, c506⟩, e507⟩ := hp2_
  have e507 : ρ 44 = .slice a505 x271.length c506 := e507
  try rw [e507] at hs
  have e508 : ρ 43 = .agg cs261.toArray := hp1_
  have e509 : ρ 42 = .agg cs48.toArray := hp0_
  have hl501 := hs.agglen (n := 3) 8 rfl rfl rfl
  have hl497 := hs.agglen (n := 3) 7 rfl rfl rfl
  have hl486 := hs.agglen (n := 3) 5 rfl rfl rfl
  have hl477 := hs.agglen (n := 3) 3 rfl rfl rfl
  have hl474 := hs.agglen (n := 3) 2 rfl rfl rfl
  have hl470 := hs.agglen (n := 3) 1 rfl rfl rfl
  refine WA.done (by kernel_rfl) ?_
  exact Jk267 (!x391) _ _ ((hu462 2 rfl).trans h250_2) ((hu462 12 rfl).trans h250_12) ((hu462 13 rfl).trans h250_13) ((hu462 36 rfl).trans h250_36) ((hu462 37 rfl).trans h250_37) ((hu462 38 rfl).trans h250_38) e463 ((hs.mask [false, true]).pick [12, 13, 14]) hf } } }
  {
  refine W.cond_false (bool_tr rfl hc255) ?_
  refine W.exit ?_
  have hr := Option.some.inj hf; subst hr
  have hr := hbbs252 _ rfl; subst hr
  have hf := hfs252
  exact Jk69  _ _  ((hs.mask []).pick []) hf } } } }
end Go.Proofs.YtpfgdjfiimknlaaGreat
set_option linter.unusedVariables false
set_option linter.unusedSimpArgs false
namespace Go.Proofs.YtpfgdjfiimknlaaGreat
open Go Go.Proofs.YtpfgdjfiimknlaaGreatL
structure GD (n : Nat) (objs : List fold_Object) : Prop where
  asc : SA ON_ objs
  len : objs.length ≤ n
  name : ∀ o ∈ objs, o.Name.length ≤ 1000
  ne : ∀ o ∈ objs, o.Fields ≠ []
  fasc : ∀ o ∈ objs, SA FN_ o.Fields
  flen : ∀ o ∈ objs, o.Fields.length ≤ n
  good : ∀ o ∈ objs, ∀ y ∈ o.Fields, GF n y
theorem GD.mono {n m : Nat} {objs : List fold_Object} (h : GD n objs) (hm : n ≤ m) : GD m objs :=
  ⟨h.asc, Nat.le_trans h.len hm, h.name, h.ne, h.fasc, fun o ho => Nat.le_trans (h.flen o ho) hm, fun o ho y hy => (h.good o ho y hy).mono hm⟩
theorem GD_nil (n : Nat) : GD n [] := ⟨List.Pairwise.nil, Nat.zero_le _, by simp, by simp, by simp, by simp, by simp⟩
def appT (u : api_Update) (objs : List fold_Object) : List fold_Object := u.Effects.foldl (effT u) objs
def foldT (s : List api_Update) (objs : List fold_Object) : List fold_Object := s.foldl (fun o u => appT u o) objs
theorem apply_ex {u : api_Update} {n : Nat} {x : fold_B} (h : BI n x) (he : ∀ e ∈ u.Effects, EF e) (hn : n + u.Effects.length ≤ 1000000) :
    ∃ x', fold_apply u x = some x' ∧ BI (n + u.Effects.length) x' ∧ canonB x' = appT u (canonB x) := by
  unfold fold_apply
  refine loopO_inv (I := fun k s => s.1 = (k : Int) ∧ BI (n + k) s.2 ∧ canonB s.2 = (u.Effects.take k).foldl (effT u) (canonB x)) u.Effects.length ⟨rfl, h, rfl⟩ ?_ ?_
  · rintro k ⟨i, y⟩ hk ⟨hi, h1, h2⟩
    simp only at hi h1 h2
    subst hi
    obtain ⟨x', e1, e2, e3⟩ := eff_eq (u := u) h1 (he _ (List.getElem_mem hk)) (by omega)
    refine ⟨(((k + 1 : Nat) : Int), x'), ?_, rfl, e2, ?_⟩
    · unfold fold_apply.l1
      simp only [lt_of_len hk, if_true, idx_nat hk, Option.bind_some, e1, letV, wcast hk (by omega)]
    · rw [take_snoc hk, List.foldl_append, ← h2, e3]
      rfl
  · rintro ⟨i, y⟩ ⟨hi, h1, h2⟩
    simp only at hi h1 h2
    subst hi
    rw [List.take_length] at h2
    refine ⟨y, ?_, h1, h2⟩
    unfold fold_apply.l1
    simp only [not_lt_len, Bool.false_eq_true, if_false]
theorem clone_eq {l : List (List UInt8)} (h : l.length ≤ 1000000) : slices_Clone_string l = some l := by
  unfold slices_Clone_string
  rw [app_of (by simp; omega)]
  rfl
theorem names_ne {α : Type} {key : α → List UInt8} {l : List α} (h : SA key l) : (l.map key).Nodup := by
  refine List.pairwise_map.2 (h.imp fun {a b} hab e => ?_)
  rw [e, bl_irrefl] at hab
  cases hab
def loaded (objs : List fold_Object) : fold_B := objs.map fun o => (o.Name, o.Fields)
theorem load_fields {n : Nat} {o : fold_Object} (h1 : SA FN_ o.Fields) (h2 : o.Fields.length ≤ n) (h3 : ∀ y ∈ o.Fields, GF n y) (hn : n ≤ 1000000) : loopO (fold_load.l1 o) (0, []) = some o.Fields := by
  have := loopO_up (step := fold_load.l1 o) (fun k => ((k : Int), o.Fields.take k)) o.Fields.length (b := o.Fields) (fun k hk => ?_) ?_
  · exact this
  · have hg := h3 _ (List.getElem_mem hk)
    unfold fold_load.l1
    simp only [lt_of_len hk, if_true, idx_nat hk, Option.bind_some]
    rw [clone_eq (by have := hg.len; omega), Option.bind_some, letV, wcast hk (by omega)]
    have e : fput fold_Field.Name o.Fields[k] (o.Fields.take k) = o.Fields.take (k + 1) := by
      rw [take_snoc hk, fput_none]
      rw [List.find?_eq_none]
      intro y hy
      obtain ⟨j, hj, rfl⟩ := List.getElem_of_mem hy
      rw [List.length_take] at hj
      have := List.pairwise_iff_getElem.1 h1 j k (by omega) hk (by omega)
      rw [List.getElem_take]
      intro he
      have he : o.Fields[k].Name = (o.Fields[j]'(by omega)).Name := by simpa using he
      have this : Op.bytesLess (o.Fields[j]'(by omega)).Name o.Fields[k].Name = true := this
      rw [he, bl_irrefl] at this
      cases this
    rw [show ({ o.Fields[k] with Elems := o.Fields[k].Elems } : fold_Field) = o.Fields[k] from rfl, e]
  · unfold fold_load.l1
    simp only [not_lt_len, Bool.false_eq_true, if_false, List.take_length]
theorem load_eq {n : Nat} {t : fold_Store} (h : GD n t.Objects) (hn : n ≤ 1000000) : fold_load t = some (loaded t.Objects) := by
  unfold fold_load
  have hlen := h.len
  have := loopO_up (step := fold_load.l2 t) (fun k => ((k : Int), loaded (t.Objects.take k))) t.Objects.length (b := loaded t.Objects) (fun k hk => ?_) ?_
  · exact this
  · have hm := List.getElem_mem hk
    unfold fold_load.l2
    simp only [lt_of_len hk, if_true, idx_nat hk, Option.bind_some]
    rw [load_fields (h.fasc _ hm) (h.flen _ hm) (h.good _ hm) hn, Option.bind_some, letV, wcast hk (by omega)]
    have e : mset (loaded (t.Objects.take k)) t.Objects[k].Name t.Objects[k].Fields = loaded (t.Objects.take (k + 1)) := by
      unfold loaded
      rw [take_snoc hk, List.map_append, mset_none]
      · rfl
      · cases hl : (List.map (fun o : fold_Object => (o.Name, o.Fields)) (List.take k t.Objects)).lookup t.Objects[k].Name with
        | none => rfl
        | some fs =>
          exfalso
          obtain ⟨o, ho, he⟩ := List.mem_map.1 (lookup_mem hl)
          have he : o.Name = t.Objects[k].Name := congrArg Prod.fst he
          obtain ⟨j, hj, rfl⟩ := List.getElem_of_mem ho
          rw [List.length_take] at hj
          have := List.pairwise_iff_getElem.1 h.asc j k (by omega) hk (by omega)
          rw [List.getElem_take] at he
          have this : Op.bytesLess (t.Objects[j]'(by omega)).Name t.Objects[k].Name = true := this
          rw [he, bl_irrefl] at this
          cases this
    rw [e]
  · unfold fold_load.l2
    simp only [not_lt_len, Bool.false_eq_true, if_false, List.take_length]
theorem BI_loaded {n : Nat} {objs : List fold_Object} (h : GD n objs) : BI n (loaded objs) := by
  have hm : ∀ o ∈ loaded objs, ∃ p ∈ objs, o = (p.Name, p.Fields) := fun o ho => by
    obtain ⟨p, hp, rfl⟩ := List.mem_map.1 ho
    exact ⟨p, hp, rfl⟩
  refine ⟨?_, by unfold loaded; rw [List.length_map]; exact h.len, fun o ho => ?_, fun o ho => ?_, fun o ho => ?_, fun o ho => ?_, fun o ho => ?_⟩
  · unfold loaded
    rw [List.map_map]
    exact names_ne h.asc
  all_goals obtain ⟨p, hp, rfl⟩ := hm o ho
  · exact h.name p hp
  · exact h.ne p hp
  · exact names_ne (h.fasc p hp)
  · exact h.flen p hp
  · exact h.good p hp
theorem canonF_self {fs : List fold_Field} (h : SA FN_ fs) : canonF fs = fs := SA_ext (SA_canonF (names_ne h)) h fun k => get_canonF fs k
theorem loaded_lookup (objs : List fold_Object) (k : List UInt8) : (loaded objs).lookup k = (get ON_ objs k).map (·.Fields) := by
  induction objs with
  | nil => rfl
  | cons a objs ih =>
    unfold loaded at ih ⊢
    rw [List.map_cons, List.lookup_cons, get_cons]
    by_cases h : ON_ a = k
    · rw [if_pos h, show (k == a.Name) = true by rw [← h]; simp]
      rfl
    · rw [if_neg h, show (k == a.Name) = false by rw [beq_eq_false_iff_ne]; exact fun e => h e.symm]
      exact ih
theorem canon_loaded {n : Nat} {objs : List fold_Object} (h : GD n objs) : canonB (loaded objs) = objs := by
  refine SA_ext (SA_canonB (BI_loaded h).keys) h.asc fun k => ?_
  rw [get_canonB, loaded_lookup]
  cases hg : get ON_ objs k with
  | none => rfl
  | some o =>
    show some (⟨k, canonF o.Fields⟩ : fold_Object) = some o
    rw [canonF_self (h.fasc o (get_mem hg)), ← get_key hg]
theorem canonF_mem {fs : List fold_Field} {y : fold_Field} (h : y ∈ canonF fs) : y ∈ fs := by
  unfold canonF at h
  obtain ⟨n, hn, rfl⟩ := List.mem_map.1 h
  rw [mem_srt, get_names] at hn
  cases hg : get FN_ fs n with
  | none => rw [hg] at hn; cases hn
  | some y => exact get_mem hg
theorem GD_canon {n : Nat} {x : fold_B} (h : BI n x) : GD n (canonB x) := by
  have hm : ∀ o ∈ canonB x, ∃ fs, (o.Name, fs) ∈ x ∧ o.Fields = canonF fs := by
    intro o ho
    have hg := get_mem_self (SA_canonB h.keys) ho
    rw [get_canonB] at hg
    cases hl : x.lookup (ON_ o) with
    | none => rw [hl] at hg; cases hg
    | some fs =>
      rw [hl] at hg
      have := Option.some.inj hg
      exact ⟨fs, lookup_mem hl, by rw [← this]⟩
  refine ⟨SA_canonB h.keys, ?_, fun o ho => ?_, fun o ho => ?_, fun o ho => ?_, fun o ho => ?_, fun o ho y hy => ?_⟩
  · unfold canonB
    rw [List.length_map, List.length_mergeSort, List.length_map]
    exact h.len
  all_goals obtain ⟨fs, h1, h2⟩ := hm o ho
  · exact h.name _ h1
  · rw [h2]
    intro he
    have := congrArg List.length he
    unfold canonF at this
    rw [List.length_map, List.length_mergeSort, List.length_map] at this
    exact h.ne _ h1 (List.length_eq_zero_iff.1 this)
  · rw [h2]; exact SA_canonF (h.names _ h1)
  · rw [h2]
    unfold canonF
    rw [List.length_map, List.length_mergeSort, List.length_map]
    exact h.flen _ h1
  · rw [h2] at hy
    exact h.good _ h1 y (canonF_mem hy)
theorem Apply_eq {n : Nat} {t : fold_Store} {u : api_Update} (h : GD n t.Objects) (he : ∀ e ∈ u.Effects, EF e) (hn : n + u.Effects.length ≤ 1000000) :
    fold_Apply t u = some ⟨appT u t.Objects⟩ ∧ GD (n + u.Effects.length) (appT u t.Objects) := by
  unfold fold_Apply
  obtain ⟨x', e1, e2, e3⟩ := apply_ex (u := u) (BI_loaded h) he hn
  rw [canon_loaded h] at e3
  rw [load_eq h (by omega), Option.bind_some, e1, Option.bind_some, fold_store_eq e2 hn, e3]
  exact ⟨rfl, e3 ▸ GD_canon e2⟩
end Go.Proofs.YtpfgdjfiimknlaaGreat
set_option linter.unusedVariables false
set_option linter.unusedSimpArgs false
namespace Go.Proofs.YtpfgdjfiimknlaaGreat
open Go Go.Proofs.YtpfgdjfiimknlaaGreatL
def effN (s : List api_Update) : Nat := (s.map fun u => u.Effects.length).sum
theorem Fold_eq {s : List api_Update} (he : ∀ u ∈ s, ∀ e ∈ u.Effects, EF e) (hn : effN s ≤ 1000000) (hl : s.length ≤ 1000000) :
    fold_Fold s = some ⟨foldT s []⟩ ∧ GD (effN s) (foldT s []) := by
  unfold fold_Fold
  have key : ∃ b, loopO (fold_Fold.l1 s) (0, []) = some b ∧ BI (effN s) b ∧ canonB b = foldT s [] := by
    have hsum : ∀ k, k ≤ s.length → effN (s.take k) ≤ effN s := by
      intro k hk
      unfold effN
      have : s.map (fun u => u.Effects.length) = (s.take k).map (fun u => u.Effects.length) ++ (s.drop k).map (fun u => u.Effects.length) := by rw [← List.map_append, List.take_append_drop]
      rw [this, List.sum_append]
      omega
    refine loopO_inv (I := fun k s' => s'.1 = (k : Int) ∧ BI (effN (s.take k)) s'.2 ∧ canonB s'.2 = foldT (s.take k) []) s.length ⟨rfl, ?_, ?_⟩ ?_ ?_
    · exact ⟨List.nodup_nil, Nat.zero_le _, by simp, by simp, by simp, by simp, by simp⟩
    · simp [canonB, srtN, foldT]
    · rintro k ⟨i, y⟩ hk ⟨hi, h1, h2⟩
      simp only at hi h1 h2
      subst hi
      have hs := hsum (k + 1) hk
      have es : effN (s.take (k + 1)) = effN (s.take k) + s[k].Effects.length := by
        unfold effN
        rw [take_snoc hk, List.map_append, List.sum_append]
        simp
      obtain ⟨x', e1, e2, e3⟩ := apply_ex (u := s[k]) h1 (he _ (List.getElem_mem hk)) (by omega)
      refine ⟨(((k + 1 : Nat) : Int), x'), ?_, rfl, by rw [es]; exact e2, ?_⟩
      · unfold fold_Fold.l1
        simp only [lt_of_len hk, if_true, idx_nat hk, Option.bind_some, e1, letV, wcast hk (by omega)]
      · show canonB x' = _
        rw [e3, h2, take_snoc hk]
        unfold foldT
        rw [List.foldl_append]
        rfl
    · rintro ⟨i, y⟩ ⟨hi, h1, h2⟩
      simp only at hi h1 h2
      subst hi
      rw [List.take_length] at h1 h2
      refine ⟨y, ?_, h1, h2⟩
      unfold fold_Fold.l1
      simp only [not_lt_len, Bool.false_eq_true, if_false]
  obtain ⟨b, e1, e2, e3⟩ := key
  rw [e1, Option.bind_some, fold_store_eq e2 hn, e3]
  exact ⟨rfl, e3 ▸ GD_canon e2⟩
end Go.Proofs.YtpfgdjfiimknlaaGreat
set_option linter.unusedVariables false
set_option linter.unusedSimpArgs false
namespace Go.Proofs.YtpfgdjfiimknlaaGreat
open Go Go.Proofs.YtpfgdjfiimknlaaGreatL
theorem snoc_ind {α : Type} {P : List α → Prop} (h0 : P []) (hs : ∀ l a, P l → P (l ++ [a])) (l : List α) : P l := by
  rw [← l.reverse_reverse]
  induction l.reverse with
  | nil => exact h0
  | cons a m ih => rw [List.reverse_cons]; exact hs _ _ ih
section
variable {α : Type} {lt : α → α → Prop}
theorem srt_ext (irr : ∀ a, ¬ lt a a) (tr : ∀ a b c, lt a b → lt b c → lt a c) : ∀ {l l' : List α}, l.Pairwise lt → l'.Pairwise lt → (∀ x, x ∈ l ↔ x ∈ l') → l = l'
  | [], [], _, _, _ => rfl
  | [], b :: l', _, _, h => by have := (h b).2 (by simp); simp at this
  | a :: l, [], _, _, h => by have := (h a).1 (by simp); simp at this
  | a :: l, b :: l', h1, h2, h => by
    have a1 := (List.pairwise_cons.1 h1).1
    have b1 := (List.pairwise_cons.1 h2).1
    have e : a = b := by
      rcases List.mem_cons.1 ((h a).1 (by simp)) with e | e
      · exact e
      · rcases List.mem_cons.1 ((h b).2 (by simp)) with e' | e'
        · exact e'.symm
        · exact absurd (tr _ _ _ (a1 b e') (b1 a e)) (irr a)
    subst e
    have : l = l' := by
      refine srt_ext irr tr (List.pairwise_cons.1 h1).2 (List.pairwise_cons.1 h2).2 fun x => ?_
      have hx := h x
      rw [List.mem_cons, List.mem_cons] at hx
      constructor
      · intro hm
        rcases hx.1 (.inr hm) with e | e
        · rw [e] at hm; exact absurd (a1 a hm) (irr a)
        · exact e
      · intro hm
        rcases hx.2 (.inr hm) with e | e
        · rw [e] at hm; exact absurd (b1 a hm) (irr a)
        · exact e
    rw [this]
end
section
variable {α : Type} [DecidableEq α]
def dd (l : List α) : List α := l.foldl (fun r a => if r.getLast? = some a then r else r ++ [a]) []
theorem dd_snoc (l : List α) (a : α) : dd (l ++ [a]) = if (dd l).getLast? = some a then dd l else dd l ++ [a] := by
  unfold dd
  rw [List.foldl_append]
  rfl
theorem dd_last (l : List α) : (dd l).getLast? = l.getLast? := by
  refine snoc_ind (P := fun l => (dd l).getLast? = l.getLast?) ?_ (fun l a ih => ?_) l
  · rfl
  · rw [dd_snoc, List.getLast?_concat]
    split
    · rename_i h; exact h
    · rw [List.getLast?_concat]
theorem dd_mem (l : List α) : ∀ x, x ∈ dd l ↔ x ∈ l := by
  refine snoc_ind (P := fun l => ∀ x, x ∈ dd l ↔ x ∈ l) ?_ (fun l a ih => ?_) l
  · intro x; rfl
  · intro x
    rw [dd_snoc, List.mem_append, List.mem_singleton]
    split
    · rename_i h
      rw [ih]
      have : a ∈ l := (ih a).1 (List.mem_of_getLast? h)
      constructor
      · exact .inl
      · rintro (h | rfl)
        · exact h
        · exact this
    · rw [List.mem_append, List.mem_singleton, ih]
theorem dd_length (l : List α) : (dd l).length ≤ l.length := by
  refine snoc_ind (P := fun l => (dd l).length ≤ l.length) (Nat.le_refl _) (fun l a ih => ?_) l
  rw [dd_snoc, List.length_append, List.length_singleton]
  split
  · omega
  · rw [List.length_append, List.length_singleton]; omega
theorem dd_self {l : List α} : l.Pairwise (· ≠ ·) → dd l = l := by
  refine snoc_ind (P := fun l => l.Pairwise (· ≠ ·) → dd l = l) (fun _ => rfl) (fun l a ih h => ?_) l
  rw [List.pairwise_append] at h
  rw [dd_snoc, ih h.1, if_neg]
  intro e
  exact h.2.2 a (List.mem_of_getLast? e) a (by simp) rfl
omit [DecidableEq α] in
theorem last_max {lt : α → α → Prop} {m : List α} {z x : α} (h : m.Pairwise lt) (hz : m.getLast? = some z) (hx : x ∈ m) : x = z ∨ lt x z := by
  obtain ⟨m', rfl⟩ : ∃ m', m = m' ++ [z] := by
    rw [List.getLast?_eq_some_iff] at hz
    exact hz
  rcases List.mem_append.1 hx with hx | hx
  · exact .inr ((List.pairwise_append.1 h).2.2 x hx z (by simp))
  · exact .inl (by simpa using hx)
theorem dd_srt {lt : α → α → Prop} (tri : ∀ a b, ¬ lt a b → ¬ lt b a → a = b) {l : List α} : l.Pairwise (fun a b => ¬ lt b a) → (dd l).Pairwise lt := by
  refine snoc_ind (P := fun l => l.Pairwise (fun a b => ¬ lt b a) → (dd l).Pairwise lt) (fun _ => .nil) (fun l a ih h => ?_) l
  rw [List.pairwise_append] at h
  have h1 := ih h.1
  rw [dd_snoc]
  split
  · exact h1
  · rename_i hn
    rw [List.pairwise_append]
    refine ⟨h1, List.pairwise_singleton _ _, fun x hx b hb => ?_⟩
    have hb : b = a := by simpa using hb
    subst hb
    refine Classical.byContradiction fun hc => ?_
    have ha := h.2.2
    have e := tri _ _ hc (ha x ((dd_mem l x).1 hx) b (by simp))
    subst e
    cases hz : (dd l).getLast? with
    | none =>
      rw [List.getLast?_eq_none_iff] at hz
      rw [hz] at hx
      simp at hx
    | some z =>
      rcases last_max h1 hz hx with e | e
      · exact hn (by rw [hz, e])
      · exact ha z ((dd_mem l z).1 (List.mem_of_getLast? hz)) x (by simp) e
end
section
variable {α : Type} (eq : α → α → Bool) (z : α)
noncomputable def gj2 (x24 : List α) (x26 : Int) : Option ((List α × Int) ⊕ (List α ⊕ List α)) :=
  (letV (IntKind.i64.wrap (x26 + 1)) fun x28 => some (.inl (x24, x28)))
noncomputable def gj3 (x61 : List α) (x63 : Int) : Option ((List α × Int) ⊕ (List α ⊕ List α)) :=
  (if 0 ≤ x63 ∧ x63 ≤ (x61.length : Int) then ((clr x61 x63 z).bind fun x67 => ((cut x67 0 x63).bind fun x69 => some (.inr (.inr x69)))) else none)
noncomputable def gj4 (x74 : Int) (x80 : List α) (x82 : Int) : Option ((List α × Int × Int) ⊕ (List α × Int)) :=
  (letV (IntKind.i64.wrap (x74 + 1)) fun x84 => some (.inl (x80, x82, x84)))
noncomputable def gl1 (x18 : Int) : (List α × Int × Int) → Option ((List α × Int × Int) ⊕ (List α × Int)) := fun (x71, x73, x74) =>
  (if (decide (x74 < ((x71.length - (x18).toNat : Nat) : Int))) then ((idx (List.drop ((x18).toNat) x71) x74).bind fun x86 =>
  (letV (IntKind.i64.wrap (x74 - 1)) fun x89 =>
  ((idx (List.drop ((x18).toNat) x71) x89).bind fun x90 =>
  (if (!eq x86 x90) then ((idx (List.drop ((x18).toNat) x71) x74).bind fun x115 =>
  ((idx x71 x73).bind fun x118 =>
  (letV (x71.set (x73).toNat x115) fun x120 =>
  (letV (IntKind.i64.wrap (x73 + 1)) fun x121 =>
  gj4 x74 x120 x121)))) else gj4 x74 x71 x73)))) else some (.inr (x71, x73)))
noncomputable def gl2 : (List α × Int) → Option ((List α × Int) ⊕ (List α ⊕ List α)) := fun (x16, x18) =>
  (if (decide (x18 < (x16.length : Int))) then ((idx x16 x18).bind fun x30 =>
  (letV (IntKind.i64.wrap (x18 - 1)) fun x33 =>
  ((idx x16 x33).bind fun x34 =>
  (if (eq x30 x34) then (if 0 ≤ x18 ∧ x18 ≤ (x16.length : Int) then ((loopO (gl1 eq x18) (x16, x18, 1)).bind fun (x122, x123) => gj3 z x122 x123) else none) else gj2 x16 x18)))) else some (.inr (.inl x16)))
noncomputable def gC (x1 : List α) : Option (List α) :=
  (if (decide ((x1.length : Int) < 2)) then some x1 else ((loopO (gl2 eq z) (x1, 1)).bind fun b => match b with | .inl x124 => some x124 | .inr x125 => some x125))
end
theorem w64s {k : Nat} (h : k ≤ 4611686018427387904) : IntKind.i64.wrap (((k + 1 : Nat) : Int) - 1) = (k : Int) := by
  rw [w64 (by omega) (by omega)]; omega
theorem take_last {α : Type} {l : List α} {k : Nat} (h : k < l.length) : (l.take (k + 1)).getLast? = some l[k] := by
  rw [take_snoc h, List.getLast?_concat]
theorem drop1 {α : Type} {x y : List α} {k : Nat} (h : y.drop k = x.drop k) : y.drop (k + 1) = x.drop (k + 1) := by
  have : ∀ l : List α, l.drop (k + 1) = (l.drop k).drop 1 := fun l => by rw [List.drop_drop]
  rw [this, this, h]
theorem gC1_eq {α : Type} [DecidableEq α] {eq : α → α → Bool} (heq : ∀ a b, eq a b = true ↔ a = b) {x : List α} (hl : x.length ≤ 4611686018427387903) {k0 : Nat} (h1 : 1 ≤ k0) (h2 : k0 < x.length)
    (hd : dd (x.take (k0 + 1)) = x.take k0) :
    ∃ b : List α × Int, loopO (gl1 eq (k0 : Int)) (x, (k0 : Int), 1) = some b ∧ b.1.length = x.length ∧ b.2 = ((dd x).length : Int) ∧ b.1.take (dd x).length = dd x := by
  refine loopO_inv (fun n s => ∃ (y : List α) (i : Nat), s = (y, (i : Int), ((n + 1 : Nat) : Int)) ∧ y.length = x.length ∧ i ≤ k0 + n ∧ i = (dd (x.take (k0 + n + 1))).length ∧ y.take i = dd (x.take (k0 + n + 1)) ∧ y.drop (k0 + n) = x.drop (k0 + n)) (x.length - k0 - 1) ?_ ?_ ?_
  · refine ⟨x, k0, rfl, rfl, Nat.le_refl _, ?_, ?_, rfl⟩
    · show k0 = (dd (x.take (k0 + 1))).length
      rw [hd, List.length_take]
      omega
    · show x.take k0 = dd (x.take (k0 + 1))
      rw [hd]
  · rintro n s hn ⟨y, i, rfl, e1, e2, e3, e4, e5⟩
    have hi : i < y.length := by omega
    have hb : k0 + n + 1 < x.length := by omega
    have ey : ∀ j, k0 + n ≤ j → (hj : j < x.length) → y[j]'(by omega) = x[j] := by
      intro j hj1 hj
      have := congrArg (fun l => l[j - (k0 + n)]?) e5
      simp only [List.getElem?_drop] at this
      rw [show k0 + n + (j - (k0 + n)) = j by omega, List.getElem?_eq_getElem (by omega), List.getElem?_eq_getElem hj] at this
      exact Option.some.inj this
    have d1 : idx (List.drop ((k0 : Int).toNat) y) ((n + 1 : Nat) : Int) = some (x[k0 + n + 1]'hb) := by
      rw [Int.toNat_natCast, idx_nat (by rw [List.length_drop]; omega), List.getElem_drop]
      congr 1
      have := ey (k0 + (n + 1)) (by omega) (by omega)
      rw [this]
      congr 1
    have d0 : idx (List.drop ((k0 : Int).toNat) y) (n : Int) = some (x[k0 + n]'(by omega)) := by
      rw [Int.toNat_natCast, idx_nat (by rw [List.length_drop]; omega), List.getElem_drop]
      congr 1
      exact ey (k0 + n) (by omega) (by omega)
    have snoc : dd (x.take (k0 + n + 1 + 1)) = if x[k0 + n]'(by omega) = x[k0 + n + 1]'hb then dd (x.take (k0 + n + 1)) else dd (x.take (k0 + n + 1)) ++ [x[k0 + n + 1]'hb] := by
      rw [take_snoc hb, dd_snoc, dd_last, take_last (by omega)]
      simp only [Option.some.injEq]
    unfold gl1
    simp only
    rw [if_pos (by rw [Int.toNat_natCast, e1]; simp; omega), d1, Option.bind_some, letV_of, w64s (by omega), d0, Option.bind_some]
    have nx : IntKind.i64.wrap (((n + 1 : Nat) : Int) + 1) = ((n + 1 + 1 : Nat) : Int) := w64n (by omega)
    by_cases hc : x[k0 + n + 1]'hb = x[k0 + n]'(by omega)
    · rw [if_neg (by rw [(heq _ _).2 hc]; simp)]
      unfold gj4
      rw [letV_of, nx]
      refine ⟨_, rfl, y, i, rfl, e1, by omega, ?_, ?_, ?_⟩
      · rw [show k0 + (n + 1) + 1 = k0 + n + 1 + 1 by omega, snoc, if_pos hc.symm]; exact e3
      · rw [show k0 + (n + 1) + 1 = k0 + n + 1 + 1 by omega, snoc, if_pos hc.symm]; exact e4
      · exact drop1 e5
    · rw [if_pos (by
        cases h : eq (x[k0 + n + 1]'hb) (x[k0 + n]'(by omega)) with
        | true => exact absurd ((heq _ _).1 h) hc
        | false => rfl), Option.bind_some, idx_nat hi, Option.bind_some, letV_of, letV_of]
      unfold gj4
      rw [letV_of, nx, w64n (by omega)]
      have e6 : dd (x.take (k0 + n + 1 + 1)) = dd (x.take (k0 + n + 1)) ++ [x[k0 + n + 1]'hb] := by
        rw [snoc, if_neg (fun e => hc e.symm)]
      refine ⟨_, rfl, y.set i (x[k0 + n + 1]'hb), i + 1, rfl, by rw [List.length_set]; exact e1, by omega, ?_, ?_, ?_⟩
      · rw [show k0 + (n + 1) + 1 = k0 + n + 1 + 1 by omega, e6, List.length_append, ← e3]; rfl
      · rw [show k0 + (n + 1) + 1 = k0 + n + 1 + 1 by omega, e6, ← e4, take_snoc (by rw [List.length_set]; exact hi), List.getElem_set_self, List.take_set_of_le (Nat.le_refl _)]
      · rw [List.drop_set_of_lt (by omega)]; exact drop1 e5
  · rintro s ⟨y, i, rfl, e1, e2, e3, e4, e5⟩
    have e7 : x.take (k0 + (x.length - k0 - 1) + 1) = x := List.take_of_length_le (by omega)
    rw [e7] at e3 e4
    unfold gl1
    simp only
    rw [if_neg (by rw [Int.toNat_natCast, e1]; simp; omega)]
    exact ⟨_, rfl, e1, by rw [e3], by rw [← e3]; exact e4⟩
theorem gC_eq {α : Type} [DecidableEq α] {eq : α → α → Bool} {z : α} (heq : ∀ a b, eq a b = true ↔ a = b) {x : List α} (hl : x.length ≤ 4611686018427387903) : gC eq z x = some (dd x) := by
  unfold gC
  by_cases h0 : x.length < 2
  · rw [if_pos (by simp; omega)]
    have : dd x = x := by
      match x, h0 with
      | [], _ => rfl
      | [a], _ => rfl
    rw [this]
  · rw [if_neg (by simp; omega)]
    have key : ∃ b : List α ⊕ List α, loopO (gl2 eq z) (x, 1) = some b ∧ (match b with | .inl y => y = dd x | .inr y => y = dd x) := by
      refine loopO_ex (fun n s => s = (x, ((n + 1 : Nat) : Int)) ∧ dd (x.take (n + 1)) = x.take (n + 1)) (x.length - 1) ⟨rfl, ?_⟩ ?_ ?_
      · cases x with
        | nil => simp at h0
        | cons a l => rfl
      · rintro n s hn ⟨rfl, hd⟩
        unfold gl2
        simp only
        rw [if_pos (by simp; omega), idx_nat (show n + 1 < x.length by omega), Option.bind_some, letV_of, w64s (by omega), idx_nat (show n < x.length by omega), Option.bind_some]
        by_cases hc : x[n + 1]'(by omega) = x[n]'(by omega)
        · rw [if_pos ((heq _ _).2 hc), if_pos (by omega)]
          refine .inr ?_
          obtain ⟨b, b1, b2, b3, b4⟩ := gC1_eq heq hl (k0 := n + 1) (by omega) (by omega) (by
            rw [take_snoc (by omega), dd_snoc, hd, take_last (by omega), if_pos (by rw [hc])])
          rw [b1, Option.bind_some]
          obtain ⟨y, i⟩ := b
          simp only at b2 b3 b4
          subst b3
          unfold gj3
          have hle : (dd x).length ≤ y.length := by rw [b2]; exact dd_length x
          simp only
          rw [if_pos (by omega)]
          unfold clr
          rw [if_pos (by omega), Option.bind_some, Int.toNat_natCast, cut_of (by omega) (by omega) (by rw [List.length_append, List.length_take, List.length_replicate]; omega), Option.bind_some]
          refine ⟨_, rfl, ?_⟩
          simp only [Int.toNat_zero, List.drop_zero, Int.toNat_natCast]
          rw [List.take_append_of_le_length (by rw [List.length_take]; omega), b4, List.take_of_length_le (by omega)]
        · rw [if_neg (by rw [heq]; exact hc)]
          unfold gj2
          rw [letV_of]
          refine .inl ⟨_, rfl, by rw [w64n (by omega)], ?_⟩
          rw [take_snoc (show n + 1 < x.length by omega), dd_snoc, hd, take_last (show n < x.length by omega), if_neg (fun e => hc (Option.some.inj e).symm)]
      · rintro s ⟨rfl, hd⟩
        unfold gl2
        simp only
        rw [if_neg (by simp; omega)]
        refine ⟨_, rfl, ?_⟩
        rw [show x.length - 1 + 1 = x.length by omega, List.take_length] at hd
        exact hd.symm
    obtain ⟨b, b1, b2⟩ := key
    rw [b1, Option.bind_some]
    cases b with
    | inl y => simp only at b2; rw [b2]
    | inr y => simp only at b2; rw [b2]
theorem compactS_eq {x : List (List UInt8)} (hl : x.length ≤ 4611686018427387903) : slices_Compact_string x = some (dd x) := by
  rw [← gC_eq (eq := fun a b => a == b) (z := ([] : List UInt8)) (fun a b => by simp) hl]
  have e1 : ∀ k, slices_Compact_string.l1 k = gl1 (fun a b : List UInt8 => a == b) k := fun k => rfl
  have e2 : slices_Compact_string.l2 = gl2 (fun a b : List UInt8 => a == b) [] := by
    funext s
    unfold slices_Compact_string.l2 gl2
    simp only [e1]
    rfl
  unfold slices_Compact_string gC
  rw [e2]
  congr 1
  cases loopO (gl2 (fun a b : List UInt8 => a == b) []) (x, 1) with
  | none => rfl
  | some b => cases b <;> rfl
theorem compactK_eq {x : List index_Key} (hl : x.length ≤ 4611686018427387903) : slices_Compact_Key x = some (dd x) := by
  have heq : ∀ a b : index_Key, decide ((⟨a.f_Type, a.N, a.S⟩ : index_Key) = (⟨b.f_Type, b.N, b.S⟩ : index_Key)) = true ↔ a = b := fun a b => by rw [decide_eq_true_eq]
  rw [← gC_eq (eq := fun a b : index_Key => decide ((⟨a.f_Type, a.N, a.S⟩ : index_Key) = (⟨b.f_Type, b.N, b.S⟩ : index_Key))) (z := (⟨0, 0, []⟩ : index_Key)) heq hl]
  have e1 : ∀ k, slices_Compact_Key.l1 k = gl1 (fun a b : index_Key => decide ((⟨a.f_Type, a.N, a.S⟩ : index_Key) = (⟨b.f_Type, b.N, b.S⟩ : index_Key))) k := fun k => rfl
  have e2 : slices_Compact_Key.l2 = gl2 (fun a b : index_Key => decide ((⟨a.f_Type, a.N, a.S⟩ : index_Key) = (⟨b.f_Type, b.N, b.S⟩ : index_Key))) (⟨0, 0, []⟩ : index_Key) := by
    funext s
    unfold slices_Compact_Key.l2 gl2
    simp only [e1]
    rfl
  unfold slices_Compact_Key gC
  rw [e2]
  congr 1
  cases loopO (gl2 (fun a b : index_Key => decide ((⟨a.f_Type, a.N, a.S⟩ : index_Key) = (⟨b.f_Type, b.N, b.S⟩ : index_Key))) (⟨0, 0, []⟩ : index_Key)) (x, 1) with
  | none => rfl
  | some b => cases b <;> rfl
def ascL (l : List (List UInt8)) : List (List UInt8) := dd (l.mergeSort fun a b => decide (a ≤ b))
theorem ascL_mem (l : List (List UInt8)) (x : List UInt8) : x ∈ ascL l ↔ x ∈ l := by
  unfold ascL
  rw [dd_mem, (List.mergeSort_perm l _).mem_iff]
theorem ascL_length (l : List (List UInt8)) : (ascL l).length ≤ l.length := by
  unfold ascL
  refine Nat.le_trans (dd_length _) ?_
  rw [(List.mergeSort_perm l _).length_eq]
  exact Nat.le_refl _
theorem ascL_asc (l : List (List UInt8)) : Asc (ascL l) := by
  have tr : ∀ a b c : List UInt8, (decide (a ≤ b)) = true → (decide (b ≤ c)) = true → (decide (a ≤ c)) = true := fun a b c h1 h2 => by simp only [decide_eq_true_eq] at *; exact List.le_trans h1 h2
  have to : ∀ a b : List UInt8, ((decide (a ≤ b)) || (decide (b ≤ a))) = true := fun a b => by simp only [Bool.or_eq_true, decide_eq_true_eq]; exact List.le_total a b
  refine dd_srt (lt := fun a b => Op.bytesLess a b = true) (fun a b h1 h2 => bl_tri (by simpa using h1) (by simpa using h2)) ?_
  refine (List.pairwise_mergeSort tr to l).imp fun {a b} h => ?_
  rw [Go.Proofs.bytesLess_eq, decide_eq_true_eq]
  rw [decide_eq_true_eq] at h
  exact fun h' => absurd h (by simpa using h')
theorem ascending_eq {l : List (List UInt8)} (h : l.length * 16 ≤ 140737488355328) : index_ascending l = some (ascL l) := by
  unfold index_ascending
  rw [if_pos h]
  exact compactS_eq (by rw [(List.mergeSort_perm l _).length_eq]; omega)
theorem ascS_ext {l l' : List (List UInt8)} (h : Asc l) (h' : Asc l') (hm : ∀ x, x ∈ l ↔ x ∈ l') : l = l' :=
  srt_ext (lt := fun a b => Op.bytesLess a b = true) (fun a => by rw [bl_irrefl]; simp) (fun a b c h1 h2 => bl_trans h1 h2) h h' hm
end Go.Proofs.YtpfgdjfiimknlaaGreat
