/- What the row leans on, as few texts. -/
import Derived.Test.YtpfgdjfiimknlaaGreatQIG2
import Derived.Test.YtpfgdjfiimknlaaGreatQIG3
import Derived.Test.YtpfgdjfiimknlaaGreatQIG1
set_option linter.unusedVariables false
set_option linter.unusedSimpArgs false
namespace Go.Proofs.YtpfgdjfiimknlaaGreat
open Go Go.RowKit Go.Proofs.YtpfgdjfiimknlaaGreatL
set_option maxRecDepth 100000
set_option maxHeartbeats 4000000
theorem eslaw00_Index.calls {ok : Nat → Prop} {w0 : World} {x1 : Int} {x2 : Int}  {r : Int} (hf : eslaw00_Index x1 x2 = some r)  :
    Calls Tryz.prog 33 #[.int .i64 x1, .int .i64 x2] w0 fun e w' => ∃ v, e = .returned v ∧ ∃ y : Unit, v = .int .i64 r ∧ St ok (bz w0) w' [] [] := by
  unfold eslaw00_Index at hf
  refine calls_of_W (fn := Tryz.f33) (N := 14) Tryz.func33 rfl Tryz.ntmps33 rfl ?_
  have hs : St ok (bz w0) w0 [] [] := St.init All.nil
  refine W.seqK fun K3 hK3 => ?_
  refine W.region ?_
  refine WL.assign (v := .int .i64 0) rfl ?_
  refine WL.nil ?_
  refine hK3 _ _ ?_
  refine W.seqK fun K4 hK4 => ?_
  refine W.seqK fun K5 hK5 => ?_
  refine W.region ?_
  refine WL.move (v := .int .i64 x2) rfl ?_
  refine WL.bin (v := .bool (decide (x2 < 1))) rfl rfl (ib_lss _ _ _) ?_
  refine WL.nil ?_
  refine hK5 _ _ ?_
  rcases iteE hf with ⟨hc6, hf⟩ | ⟨hc6, hf⟩
  {
  refine W.cond_true (bool_tr rfl hc6) ?_
  refine W.seqK fun K7 hK7 => ?_
  refine W.region ?_
  refine WL.assign (v := .int .i64 0) rfl ?_
  refine WL.nil ?_
  refine hK7 _ _ ?_
  refine W.ret ?_
  have hr := Option.some.inj hf; subst hr
  exact ⟨_, resOk_one rfl rfl, (), rfl, (hs.mask []).pick []⟩ }
  {
  refine W.cond_false (bool_tr rfl hc6) ?_
  refine W.skip ?_
  refine hK4 _ _ ?_
  refine W.seqK fun K8 hK8 => ?_
  refine W.region ?_
  refine WL.move (v := .int .i64 x1) rfl ?_
  refine WL.move (v := .int .i64 x2) rfl ?_
  obtain ⟨hn9, hf⟩ := guardE hf
  refine WL.bin (v := .int .i64 (Int.tmod x1 x2)) rfl rfl (ib_rem _ _ _ hn9) ?_
  refine WL.move (v := .int .i64 x2) rfl ?_
  obtain ⟨x10, ex10, hf⟩ := letE hf
  refine WL.bin (v := .int .i64 x10) rfl rfl (ib_as ex10 (ib_add _ _ _)) ?_
  refine WL.move (v := .int .i64 x2) rfl ?_
  obtain ⟨hn11, hf⟩ := guardE hf
  refine WL.bin (v := .int .i64 (Int.tmod x10 x2)) rfl rfl (ib_rem _ _ _ hn11) ?_
  refine WL.assign (v := .int .i64 (Int.tmod x10 x2)) rfl ?_
  refine WL.nil ?_
  refine hK8 _ _ ?_
  refine W.ret ?_
  have hr := Option.some.inj hf; subst hr
  exact ⟨_, resOk_one rfl rfl, (), rfl, (hs.mask []).pick []⟩ }
theorem eslaw00_Digit.calls {ok : Nat → Prop} {w0 : World} {x1 : Int} {x2 : Int} {x3 : Int}  {r : Int} (hf : eslaw00_Digit x1 x2 x3 = some r)  :
    Calls Tryz.prog 31 #[.int .i64 x1, .int .i64 x2, .int .i64 x3] w0 fun e w' => ∃ v, e = .returned v ∧ ∃ y : Unit, v = .int .i64 r ∧ St ok (bz w0) w' [] [] := by
  unfold eslaw00_Digit at hf
  refine calls_of_W (fn := Tryz.f31) (N := 22) Tryz.func31 rfl Tryz.ntmps31 rfl ?_
  have hs : St ok (bz w0) w0 [] [] := St.init All.nil
  refine W.seqK fun K4 hK4 => ?_
  refine W.region ?_
  refine WL.assign (v := .int .i64 0) rfl ?_
  refine WL.nil ?_
  refine hK4 _ _ ?_
  refine W.seqK fun K5 hK5 => ?_
  refine W.region ?_
  refine WL.move (v := .int .i64 x1) rfl ?_
  obtain ⟨x6, hxx6, hf⟩ := bindE hf
  refine WL.call (vs := [.int .i64 x1, .int .i64 1099511627776]) hs FN33 ⟨rfl, ⟨rfl, trivial⟩⟩ (fun ok hA => eslaw00_Index.calls (x1 := x1) (x2 := 1099511627776) hxx6) ?_
  rintro _ w hs
  refine WL.assign (v := .int .i64 x6) rfl ?_
  refine WL.nil ?_
  refine hK5 _ _ ?_
  refine W.seqK fun K7 hK7 => ?_
  have Jk10 : ∀ (x9 : Int) (ρ : Env) (w : World), ρ 1 = .int .i64 x2 → ρ 7 = .int .i64 x9 → St ok (bz w0) w [] [] → eslaw00_Digit.j1 x2 x9 = some r → K7 ρ w := by
    intro x9 ρ w h8_1 h8_7 hs hf
    refine hK7 _ _ ?_
    unfold eslaw00_Digit.j1 at hf
    refine W.seqK fun K11 hK11 => ?_
    refine W.region ?_
    refine WL.move (v := .int .i64 x9) h8_7 ?_
    refine WL.move (v := .int .i64 x2) h8_1 ?_
    obtain ⟨hn12, hf⟩ := guardE hf
    refine WL.bin (v := .int .i64 (Int.tmod x9 x2)) rfl rfl (ib_rem _ _ _ hn12) ?_
    refine WL.assign (v := .int .i64 (Int.tmod x9 x2)) rfl ?_
    refine WL.nil ?_
    refine hK11 _ _ ?_
    refine W.ret ?_
    have hr := Option.some.inj hf; subst hr
    exact ⟨_, resOk_one rfl rfl, (), rfl, (hs.mask []).pick []⟩
  refine W.seqK fun K13 hK13 => ?_
  refine W.region ?_
  refine WL.assign (v := .int .i64 0) rfl ?_
  refine WL.nil ?_
  refine hK13 _ _ ?_
  refine W.block ?_
  obtain ⟨bs17, hbs17, hfs17⟩ := bindE hf
  refine W.loop hbs17 (fun s ρ w => match s with | (x15, x16) => ρ 1 = .int .i64 x2 ∧ ρ 2 = .int .i64 x3 ∧ ρ 7 = .int .i64 x15 ∧ ρ 8 = .int .i64 x16 ∧ St ok (bz w0) w [] []) ⟨rfl, rfl, rfl, rfl, (hs.mask []).pick []⟩ ?_
  intro s ρ w os17 hI hf hbbs17
  obtain ⟨x15, x16⟩ := s
  obtain ⟨h14_1, h14_2, h14_7, h14_8, hs⟩ := hI
  unfold eslaw00_Digit.l1 at hf
  refine W.seqK fun K18 hK18 => ?_
  refine W.seqK fun K19 hK19 => ?_
  refine W.region ?_
  refine WL.move (v := .int .i64 x16) h14_8 ?_
  refine WL.move (v := .int .i64 x3) h14_2 ?_
  refine WL.bin (v := .bool (decide (x16 < x3))) rfl rfl (ib_lss _ _ _) ?_
  refine WL.nil ?_
  refine hK19 _ _ ?_
  rcases iteE hf with ⟨hc20, hf⟩ | ⟨hc20, hf⟩
  {
  refine W.cond_true (bool_tr rfl hc20) ?_
  refine W.skip ?_
  refine hK18 _ _ ?_
  refine W.seqK fun K21 hK21 => ?_
  refine W.block ?_
  refine W.region ?_
  refine WL.move (v := .int .i64 x15) h14_7 ?_
  refine WL.move (v := .int .i64 x2) h14_1 ?_
  obtain ⟨hn23, hf⟩ := guardE hf
  obtain ⟨x22, ex22, hf⟩ := letE hf
  refine WL.bin (v := .int .i64 x22) rfl rfl (ib_as ex22 (ib_quo _ _ _ hn23)) ?_
  refine WL.assign (v := .int .i64 x22) rfl ?_
  refine WL.nil ?_
  refine hK21 _ _ ?_
  refine W.region ?_
  refine WL.move (v := .int .i64 x16) h14_8 ?_
  obtain ⟨x24, ex24, hf⟩ := letE hf
  refine WL.bin (v := .int .i64 x24) rfl rfl (ib_as ex24 (ib_add _ _ _)) ?_
  refine WL.assign (v := .int .i64 x24) rfl ?_
  refine WL.nil ?_
  exact ⟨_, (Option.some.inj hf).symm, h14_1, h14_2, rfl, rfl, (hs.mask []).pick []⟩ }
  {
  refine W.cond_false (bool_tr rfl hc20) ?_
  refine W.exit ?_
  have hr := Option.some.inj hf; subst hr
  have hr := hbbs17 _ rfl; subst hr
  have hf := hfs17
  exact Jk10 x15 _ _ h14_1 h14_7 ((hs.mask []).pick []) hf }
theorem eslaw32_field.calls {ok : Nat → Prop} {w0 : World} {x1 : Int}  {r : schema_Field} (hf : eslaw32_field x1 = some r)  :
    Calls Tryz.prog 11 #[.int .i64 x1] w0 fun e w' => ∃ v, e = .returned v ∧ ∃ y : List Value, v = .agg y.toArray ∧ St ok (bz w0) w' [vl t_schema_Field r (.agg y.toArray)] [] := by
  unfold eslaw32_field at hf
  refine calls_of_W (fn := Tryz.f11) (N := 30) Tryz.func11 rfl Tryz.ntmps11 rfl ?_
  have hs : St ok (bz w0) w0 [] [] := St.init All.nil
  refine W.seqK fun K2 hK2 => ?_
  refine W.region ?_
  refine WL.alloc hs ZV31 (fun g3 w hs => ?_)
  refine WL.nil ?_
  refine hK2 _ _ ?_
  refine W.seqK fun K4 hK4 => ?_
  obtain ⟨x7, hxx7, hf⟩ := bindE hf
  obtain ⟨x8, hxx8, hf⟩ := bindE hf
  obtain ⟨x11, hxx11, hf⟩ := bindE hf
  obtain ⟨x12, ex12, hf⟩ := letE hf
  refine W.any (by kernel_rfl) 10 1 [true, true, true, true, true, true, true, true, true, true, false] rfl rfl (poAt [pq (fun y : (Option Addr × Nat) => .slice y.1 ([([97] : List UInt8), ([98] : List UInt8), ([99] : List UInt8), ([120, 49] : List UInt8), ([110, 111, 110, 101] : List UInt8)]).length y.2) (fun v => [vl (tSlice tStr) ([([97] : List UInt8), ([98] : List UInt8), ([99] : List UInt8), ([120, 49] : List UInt8), ([110, 111, 110, 101] : List UInt8)]) v]) (fun v => []), pv (.int .i64 x1), pv (.int .i64 x7), pq (fun y : Addr => .pointer (some y)) (fun v => [pl tStr x8 (adOf v)]) (fun v => []), pv (bstr x8), pv (.int .i64 x1), pv (.int .i64 x11), pv (.int .i64 x12), pv (.agg ([bstr x8, .int .i64 x12, .int .i64 0, .int .i64 0] : List Value).toArray), pq (fun y : Nat => .pointer (some ⟨y, 0, none⟩)) (fun v => []) (fun v => [blk (gOf v) 31 ([bstr [], .int .i64 0, .int .i64 0, .int .i64 0])])]) (Λ := [blk g3 31 ([bstr [], .int .i64 0, .int .i64 0, .int .i64 0])]) hs (by kernel_rfl) (by kernel_rfl) (by kernel_rfl) ⟨⟨⟨⟨⟨⟨⟨⟨⟨⟨trivial, ?_⟩, ?_⟩, ?_⟩, ?_⟩, ?_⟩, ?_⟩, ?_⟩, ?_⟩, ?_⟩, ?_⟩ ?_
  {
  intro ρ w Γx Λx hs hu hp
  refine WL.buildSliceB (ys := [([97] : List UInt8), ([98] : List UInt8), ([99] : List UInt8), ([120, 49] : List UInt8), ([110, 111, 110, 101] : List UInt8)]) (n := 5) (vs := [(0, bstr ([97] : List UInt8)), (1, bstr ([98] : List UInt8)), (2, bstr ([99] : List UInt8)), (3, bstr ([120, 49] : List UInt8)), (4, bstr ([110, 111, 110, 101] : List UInt8))]) (cs := [bstr ([97] : List UInt8), bstr ([98] : List UInt8), bstr ([99] : List UInt8), bstr ([120, 49] : List UInt8), bstr ([110, 111, 110, 101] : List UInt8)]) hs ⟨⟨rfl, rfl⟩, ⟨⟨rfl, rfl⟩, ⟨⟨rfl, rfl⟩, ⟨⟨rfl, rfl⟩, ⟨⟨rfl, rfl⟩, trivial⟩⟩⟩⟩⟩ (bls PS56 (by decide) rfl) (fun ok hA => (Cells.app (Cells.one (T := tStr) rfl) (Cells.app (Cells.one (T := tStr) rfl) (Cells.app (Cells.one (T := tStr) rfl) (Cells.app (Cells.one (T := tStr) rfl) (Cells.one (T := tStr) rfl)))))) rfl (by decide) (fun a6 w hBl hs => ?_)
  have hs := hs.add (it := vl (tSlice tStr) ([([97] : List UInt8), ([98] : List UInt8), ([99] : List UInt8), ([120, 49] : List UInt8), ([110, 111, 110, 101] : List UInt8)]) (.slice a6 ([([97] : List UInt8), ([98] : List UInt8), ([99] : List UInt8), ([120, 49] : List UInt8), ([110, 111, 110, 101] : List UInt8)]).length 5)) fun ok hA => hA.get 0 rfl
  exact WL.nil ⟨rfl, _, rfl, ⟨(a6, 5), rfl⟩, hs.cutG 1 1⟩ }
  {
  intro ρ w Γx Λx hs hu hp
  refine WL.move (v := .int .i64 x1) (hu 0 rfl) ?_
  exact WL.nil ⟨rfl, _, rfl, rfl, hs.cutG 0 0⟩ }
  {
  intro ρ w Γx Λx hs hu hp
  have e14 : ρ 5 = .int .i64 x1 := (hp 1 rfl).1
  refine WL.call (vs := [.int .i64 x1, .int .i64 5, .int .i64 0]) hs FN31 ⟨e14, ⟨rfl, ⟨rfl, trivial⟩⟩⟩ (fun ok hA => eslaw00_Digit.calls (x1 := x1) (x2 := 5) (x3 := 0) hxx7) ?_
  rintro _ w hs
  exact WL.nil ⟨rfl, _, rfl, rfl, hs.cutG 0 0⟩ }
  {
  intro ρ w Γx Λx hs hu hp
  obtain ⟨⟨⟨a15, c16⟩, e17r⟩, hm18⟩ := hp 0 rfl
  have e17 : ρ 4 = .slice a15 ([([97] : List UInt8), ([98] : List UInt8), ([99] : List UInt8), ([120, 49] : List UInt8), ([110, 111, 110, 101] : List UInt8)]).length c16 := e17r
  rw [e17r] at hm18
  have hs := hs.memo1 (it := vl (tSlice tStr) ([([97] : List UInt8), ([98] : List UInt8), ([99] : List UInt8), ([120, 49] : List UInt8), ([110, 111, 110, 101] : List UInt8)]) (.slice a15 ([([97] : List UInt8), ([98] : List UInt8), ([99] : List UInt8), ([120, 49] : List UInt8), ([110, 111, 110, 101] : List UInt8)]).length c16)) (List.mem_append.2 (.inl (hm18 _ (List.mem_of_getElem? (i := 0) rfl))))
  have e19 : ρ 6 = .int .i64 x7 := (hp 2 rfl).1
  refine WL.indexAddr hs 0 rfl UN56 TI9 e17 e19 hxx8 (fun ad9 hs => ?_)
  have hs := hs.add (it := pl tStr x8 ad9) fun ok hA => hA.get 0 rfl
  exact WL.nil ⟨rfl, _, rfl, ⟨ad9, rfl⟩, hs.cutG 1 2⟩ }
  {
  intro ρ w Γx Λx hs hu hp
  obtain ⟨⟨ad20, e21r⟩, hm22⟩ := hp 3 rfl
  have e21 : ρ 7 = .pointer (some ad20) := e21r
  rw [e21r] at hm22
  have hs := hs.memo1 (it := pl tStr x8 ad20) (List.mem_append.2 (.inl (hm22 _ (List.mem_of_getElem? (i := 0) rfl))))
  refine WL.loadP hs 0 rfl TI9 (.inr rfl) e21 (fun v10 hs => ?_)
  obtain rfl := hs.str 0 rfl
  exact WL.nil ⟨rfl, _, rfl, rfl, hs.cutG 0 2⟩ }
  {
  intro ρ w Γx Λx hs hu hp
  refine WL.move (v := .int .i64 x1) (hu 0 rfl) ?_
  exact WL.nil ⟨rfl, _, rfl, rfl, hs.cutG 0 0⟩ }
  {
  intro ρ w Γx Λx hs hu hp
  have e23 : ρ 9 = .int .i64 x1 := (hp 5 rfl).1
  refine WL.call (vs := [.int .i64 x1, .int .i64 5, .int .i64 1]) hs FN31 ⟨e23, ⟨rfl, ⟨rfl, trivial⟩⟩⟩ (fun ok hA => eslaw00_Digit.calls (x1 := x1) (x2 := 5) (x3 := 1) hxx11) ?_
  rintro _ w hs
  exact WL.nil ⟨rfl, _, rfl, rfl, hs.cutG 0 0⟩ }
  {
  intro ρ w Γx Λx hs hu hp
  have e24 : ρ 10 = .int .i64 x11 := (hp 6 rfl).1
  refine WL.bin (v := .int .i64 x12) rfl e24 (ib_as ex12 (ib_add _ _ _)) ?_
  exact WL.nil ⟨rfl, _, rfl, rfl, hs.cutG 0 0⟩ }
  {
  intro ρ w Γx Λx hs hu hp
  have e25 : ρ 8 = bstr x8 := (hp 4 rfl).1
  have e26 : ρ 11 = .int .i64 x12 := (hp 7 rfl).1
  refine WL.build (vs := [(0, bstr x8), (1, .int .i64 x12)]) (cs := [bstr x8, .int .i64 x12, .int .i64 0, .int .i64 0]) ⟨⟨rfl, e25⟩, ⟨⟨rfl, e26⟩, trivial⟩⟩ (bld PL31 rfl) ?_
  exact WL.nil ⟨rfl, _, rfl, rfl, hs.cutG 0 0⟩ }
  {
  intro ρ w Γx Λx hs hu hp
  refine WL.alloc hs ZV31 (fun g13 w hs => ?_)
  exact WL.nil ⟨rfl, _, rfl, ⟨g13, rfl⟩, hs.cutG 0 0⟩ }
  {
  intro ρ w hs hu27 hp
  obtain ⟨⟨⟨⟨⟨⟨⟨⟨⟨⟨_, hp0_⟩, hp1_⟩, hp2_⟩, hp3_⟩, hp4_⟩, hp5_⟩, hp6_⟩, hp7_⟩, hp8_⟩, hp9_⟩ := hp
  have hs : St ok (bz w0) w [pl tStr x8 (adOf (ρ 7)), vl (tSlice tStr) ([([97] : List UInt8), ([98] : List UInt8), ([99] : List UInt8), ([120, 49] : List UInt8), ([110, 111, 110, 101] : List UInt8)]) (ρ 4)] [blk (gOf ((ρ 3))) 31 ([bstr [], .int .i64 0, .int .i64 0, .int .i64 0]), blk g3 31 ([bstr [], .int .i64 0, .int .i64 0, .int .i64 0])] := hs
  obtain ⟨g28, e29⟩ := hp9_
  have e29 : ρ 3 = .pointer (some ⟨g28, 0, none⟩) := e29
  try rw [e29] at hs
  have e30 : ρ 12 = .agg ([bstr x8, .int .i64 x12, .int .i64 0, .int .i64 0] : List Value).toArray := hp8_
  have e31 : ρ 11 = .int .i64 x12 := hp7_
  have e32 : ρ 10 = .int .i64 x11 := hp6_
  have e33 : ρ 9 = .int .i64 x1 := hp5_
  have e34 : ρ 8 = bstr x8 := hp4_
  obtain ⟨ad35, e36⟩ := hp3_
  have e36 : ρ 7 = .pointer (some ad35) := e36
  try rw [e36] at hs
  have e37 : ρ 6 = .int .i64 x7 := hp2_
  have e38 : ρ 5 = .int .i64 x1 := hp1_
  obtain ⟨⟨a39, c40⟩, e41⟩ := hp0_
  have e41 : ρ 4 = .slice a39 ([([97] : List UInt8), ([98] : List UInt8), ([99] : List UInt8), ([120, 49] : List UInt8), ([110, 111, 110, 101] : List UInt8)]).length c40 := e41
  try rw [e41] at hs
  refine WA.step [10] (by kernel_rfl) (by simp) ⟨?_, trivial⟩
  refine WL.storeAll (vs := [bstr x8, .int .i64 x12, .int .i64 0, .int .i64 0]) hs 0 rfl TI31 e29 e30 rfl rfl (ones_of rfl) rfl (fun w hs => ?_)
  refine WL.nil ⟨rfl, _, rfl, ?_⟩
  refine WA.done (by kernel_rfl) ?_
  refine hK4 _ _ ?_
  refine W.seqK fun K42 hK42 => ?_
  have Jk45 : ∀ (x44 : Int) (ρ : Env) (w : World), ρ 0 = .int .i64 x1 → ρ 2 = .pointer (some ⟨g3, 0, none⟩) → ρ 3 = .pointer (some ⟨g28, 0, none⟩) → St ok (bz w0) w [] [blk g28 31 [bstr x8, .int .i64 x44, .int .i64 0, .int .i64 0], blk g3 31 ([bstr [], .int .i64 0, .int .i64 0, .int .i64 0])] → eslaw32_field.j2 x1 x8 x44 = some r → K42 ρ w := by
    intro x44 ρ w h43_0 h43_2 h43_3 hs hf
    refine hK42 _ _ ?_
    unfold eslaw32_field.j2 at hf
    refine W.seqK fun K46 hK46 => ?_
    have Jk49 : ∀ (x48 : Int) (ρ : Env) (w : World), ρ 2 = .pointer (some ⟨g3, 0, none⟩) → ρ 3 = .pointer (some ⟨g28, 0, none⟩) → St ok (bz w0) w [] [blk g28 31 [bstr x8, .int .i64 x44, .int .i64 x48, .int .i64 0], blk g3 31 ([bstr [], .int .i64 0, .int .i64 0, .int .i64 0])] → eslaw32_field.j1 x8 x44 x48 = some r → K46 ρ w := by
      intro x48 ρ w h47_2 h47_3 hs hf
      refine hK46 _ _ ?_
      unfold eslaw32_field.j1 at hf
      refine W.seqK fun K50 hK50 => ?_
      refine W.region ?_
      refine WL.loadN (vs := [bstr x8, .int .i64 x44, .int .i64 x48, .int .i64 0]) hs 0 rfl TI31 h47_3 rfl rfl ?_
      refine WL.storeAll (vs := [bstr x8, .int .i64 x44, .int .i64 x48, .int .i64 0]) hs 1 rfl TI31 h47_2 rfl rfl rfl (ones_of rfl) rfl (fun w hs => ?_)
      refine WL.nil ?_
      refine hK50 _ _ ?_
      refine W.ret ?_
      have hr := Option.some.inj hf; subst hr
      have hs := hs.add (it := vl t_schema_Field (⟨x8, x44, x48, 0⟩ : schema_Field) (.agg [bstr x8, .int .i64 x44, .int .i64 x48, .int .i64 0].toArray)) fun ok hA => V_agg (show t_schema_Field.R ok _ _ _ from ⟨[bstr x8], [.int .i64 x44, .int .i64 x48, .int .i64 0], rfl, rfl, ⟨[.int .i64 x44], [.int .i64 x48, .int .i64 0], rfl, rfl, ⟨[.int .i64 x48], [.int .i64 0], rfl, rfl, rfl⟩⟩⟩) rfl
      exact ⟨_, resOk_one rfl (res_all hs 1 rfl TI31 h47_2 rfl), [bstr x8, .int .i64 x44, .int .i64 x48, .int .i64 0], rfl, (hs.mask []).pick [0]⟩
    refine W.seqK fun K51 hK51 => ?_
    refine W.region ?_
    refine WL.fieldAddr (m := 1) h43_3 FA31_1 rfl ?_
    refine WL.load1 (v := .int .i64 x44) hs 0 rfl TI3 rfl rfl ?_
    refine WL.bin (v := .bool (x44 == 1)) rfl rfl (ib_eql _ _ _) ?_
    refine WL.nil ?_
    refine hK51 _ _ ?_
    rcases iteE hf with ⟨hc52, hf⟩ | ⟨hc52, hf⟩
    {
    refine W.cond_true (bool_tr rfl hc52) ?_
    refine W.region ?_
    refine WL.move (v := .int .i64 x1) h43_0 ?_
    obtain ⟨x53, hxx53, hf⟩ := bindE hf
    refine WL.call (vs := [.int .i64 x1, .int .i64 2, .int .i64 8]) hs FN31 ⟨rfl, ⟨rfl, ⟨rfl, trivial⟩⟩⟩ (fun ok hA => eslaw00_Digit.calls (x1 := x1) (x2 := 2) (x3 := 8) hxx53) ?_
    rintro _ w hs
    obtain ⟨x54, ex54, hf⟩ := letE hf
    refine WL.bin (v := .int .i64 x54) rfl rfl (ib_as ex54 (ib_add _ _ _)) ?_
    refine WL.fieldAddr (m := 2) h43_3 FA31_2 rfl ?_
    refine WL.store (vs := [.int .i64 x54]) (cs' := [bstr x8, .int .i64 x44, .int .i64 x54, .int .i64 0]) hs 0 rfl TI3 rfl rfl rfl rfl (ones_of rfl) (Nat.le_of_ble_eq_true rfl) rfl (fun w hs => ?_)
    refine WL.nil ?_
    exact Jk49 x54 _ _ h43_2 h43_3 ((hs.mask [true, true]).pick []) hf }
    {
    refine W.cond_false (bool_tr rfl hc52) ?_
    refine W.skip ?_
    exact Jk49 0 _ _ h43_2 h43_3 ((hs.mask [true, true]).pick []) hf }
  refine W.seqK fun K55 hK55 => ?_
  refine W.region ?_
  refine WL.move (v := .int .i64 x1) (hu27 0 rfl) ?_
  obtain ⟨x56, hxx56, hf⟩ := bindE hf
  refine WL.call (vs := [.int .i64 x1, .int .i64 3, .int .i64 4]) hs FN31 ⟨rfl, ⟨rfl, ⟨rfl, trivial⟩⟩⟩ (fun ok hA => eslaw00_Digit.calls (x1 := x1) (x2 := 3) (x3 := 4) hxx56) ?_
  rintro _ w hs
  refine WL.bin (v := .bool (decide (0 < x56))) rfl rfl (ib_gtr _ _ _) ?_
  refine WL.nil ?_
  refine hK55 _ _ ?_
  rcases iteE hf with ⟨hc57, hf⟩ | ⟨hc57, hf⟩
  {
  refine W.cond_true (bool_tr rfl hc57) ?_
  refine W.region ?_
  refine WL.buildSlice (n := 2) (vs := [(0, .int .i64 1), (1, .int .i64 4)]) (cs := [.int .i64 1, .int .i64 4]) hs ⟨⟨rfl, rfl⟩, ⟨⟨rfl, rfl⟩, trivial⟩⟩ (bls PS22 (by decide) rfl) (fun g58 w hs => ?_)
  refine WL.move (v := .int .i64 x1) (hu27 0 rfl) ?_
  obtain ⟨x59, hxx59, hf⟩ := bindE hf
  refine WL.call (vs := [.int .i64 x1, .int .i64 2, .int .i64 6]) hs FN31 ⟨rfl, ⟨rfl, ⟨rfl, trivial⟩⟩⟩ (fun ok hA => eslaw00_Digit.calls (x1 := x1) (x2 := 2) (x3 := 6) hxx59) ?_
  rintro _ w hs
  have hs := hs.ownLit (A := tInt .i64) (xs := [1, 4]) 0 rfl (fun ok hA => (Cells.app (Cells.one (T := tInt .i64) rfl) (Cells.one (T := tInt .i64) rfl))) (Nat.le_of_ble_eq_true rfl)
  have hs := hs.freezeOwn 0 rfl
  obtain ⟨x60, hxx60, hf⟩ := bindE hf
  refine WL.indexAddr hs 0 rfl UN22 TI3 rfl rfl hxx60 (fun ad61 hs => ?_)
  refine WL.loadP hs 0 rfl TI3 (.inr rfl) rfl (fun v62 hs => ?_)
  obtain rfl := hs.int 0 rfl
  refine WL.fieldAddr (m := 1) e29 FA31_1 rfl ?_
  refine WL.store (vs := [.int .i64 x60]) (cs' := [bstr x8, .int .i64 x60, .int .i64 0, .int .i64 0]) hs 0 rfl TI3 rfl rfl rfl rfl (ones_of rfl) (Nat.le_of_ble_eq_true rfl) rfl (fun w hs => ?_)
  refine WL.nil ?_
  exact Jk45 x60 _ _ (hu27 0 rfl) (hu27 2 rfl) e29 ((hs.mask [true, true]).pick []) hf }
  {
  refine W.cond_false (bool_tr rfl hc57) ?_
  refine W.skip ?_
  exact Jk45 x12 _ _ (hu27 0 rfl) (hu27 2 rfl) e29 ((hs.mask [true, true]).pick []) hf } }
theorem eslaw00_name.calls {ok : Nat → Prop} {w0 : World} {x1 : Int}  {r : List UInt8} (hf : eslaw00_name x1 = some r)  :
    Calls Tryz.prog 79 #[.int .i64 x1] w0 fun e w' => ∃ v, e = .returned v ∧ ∃ y : Unit, v = bstr r ∧ St ok (bz w0) w' [] [] := by
  unfold eslaw00_name at hf
  refine calls_of_W (fn := Tryz.f79) (N := 8) Tryz.func79 rfl Tryz.ntmps79 rfl ?_
  have hs : St ok (bz w0) w0 [] [] := St.init All.nil
  refine W.seqK fun K2 hK2 => ?_
  refine W.region ?_
  refine WL.assign (v := bstr ([] : List UInt8)) rfl ?_
  refine WL.nil ?_
  refine hK2 _ _ ?_
  refine W.seqK fun K3 hK3 => ?_
  refine W.region ?_
  refine WL.buildSlice (n := 4) (vs := [(0, bstr ([97] : List UInt8)), (1, bstr ([98] : List UInt8)), (2, bstr ([99] : List UInt8)), (3, bstr ([120, 49] : List UInt8))]) (cs := [bstr ([97] : List UInt8), bstr ([98] : List UInt8), bstr ([99] : List UInt8), bstr ([120, 49] : List UInt8)]) hs ⟨⟨rfl, rfl⟩, ⟨⟨rfl, rfl⟩, ⟨⟨rfl, rfl⟩, ⟨⟨rfl, rfl⟩, trivial⟩⟩⟩⟩ (bls PS56 (by decide) rfl) (fun g4 w hs => ?_)
  refine WL.move (v := .int .i64 x1) rfl ?_
  obtain ⟨x5, hxx5, hf⟩ := bindE hf
  refine WL.call (vs := [.int .i64 x1, .int .i64 4]) hs FN33 ⟨rfl, ⟨rfl, trivial⟩⟩ (fun ok hA => eslaw00_Index.calls (x1 := x1) (x2 := 4) hxx5) ?_
  rintro _ w hs
  have hs := hs.ownLit (A := tStr) (xs := [([97] : List UInt8), ([98] : List UInt8), ([99] : List UInt8), ([120, 49] : List UInt8)]) 0 rfl (fun ok hA => (Cells.app (Cells.one (T := tStr) rfl) (Cells.app (Cells.one (T := tStr) rfl) (Cells.app (Cells.one (T := tStr) rfl) (Cells.one (T := tStr) rfl))))) (Nat.le_of_ble_eq_true rfl)
  have hs := hs.freezeOwn 0 rfl
  obtain ⟨x6, hxx6, hf⟩ := bindE hf
  refine WL.indexAddr hs 0 rfl UN56 TI9 rfl rfl hxx6 (fun ad7 hs => ?_)
  refine WL.loadP hs 0 rfl TI9 (.inr rfl) rfl (fun v8 hs => ?_)
  obtain rfl := hs.str 0 rfl
  refine WL.assign (v := bstr x6) rfl ?_
  refine WL.nil ?_
  refine hK3 _ _ ?_
  refine W.ret ?_
  have hr := Option.some.inj hf; subst hr
  exact ⟨_, resOk_one rfl rfl, (), rfl, (hs.mask []).pick []⟩
theorem eslaw00_Effect.calls {ok : Nat → Prop} {w0 : World} {x1 : Int} {x2 : Bool}  {r : api_Effect} (hf : eslaw00_Effect x1 x2 = some r)  :
    Calls Tryz.prog 55 #[.int .i64 x1, .bool x2] w0 fun e w' => ∃ v, e = .returned v ∧ ∃ y : List Value, v = .agg y.toArray ∧ St ok (bz w0) w' [vl t_api_Effect r (.agg y.toArray)] [] := by
  unfold eslaw00_Effect at hf
  refine calls_of_W (fn := Tryz.f55) (N := 51) Tryz.func55 rfl Tryz.ntmps55 rfl ?_
  have hs : St ok (bz w0) w0 [] [] := St.init All.nil
  refine W.seqK fun K3 hK3 => ?_
  refine W.region ?_
  refine WL.alloc hs ZV96 (fun g4 w hs => ?_)
  refine WL.nil ?_
  refine hK3 _ _ ?_
  refine W.seqK fun K5 hK5 => ?_
  refine W.region ?_
  refine WL.move (v := .int .i64 x1) rfl ?_
  obtain ⟨x6, hxx6, hf⟩ := bindE hf
  refine WL.call (vs := [.int .i64 x1, .int .i64 4, .int .i64 1]) hs FN31 ⟨rfl, ⟨rfl, ⟨rfl, trivial⟩⟩⟩ (fun ok hA => eslaw00_Digit.calls (x1 := x1) (x2 := 4) (x3 := 1) hxx6) ?_
  rintro _ w hs
  obtain ⟨x7, hxx7, hf⟩ := bindE hf
  refine WL.call (vs := [.int .i64 x6]) hs FN79 ⟨rfl, trivial⟩ (fun ok hA => eslaw00_name.calls (x1 := x6) hxx7) ?_
  rintro _ w hs
  refine WL.move (v := .int .i64 x1) rfl ?_
  obtain ⟨x8, hxx8, hf⟩ := bindE hf
  refine WL.call (vs := [.int .i64 x1, .int .i64 4, .int .i64 2]) hs FN31 ⟨rfl, ⟨rfl, ⟨rfl, trivial⟩⟩⟩ (fun ok hA => eslaw00_Digit.calls (x1 := x1) (x2 := 4) (x3 := 2) hxx8) ?_
  rintro _ w hs
  obtain ⟨x9, hxx9, hf⟩ := bindE hf
  refine WL.call (vs := [.int .i64 x8]) hs FN79 ⟨rfl, trivial⟩ (fun ok hA => eslaw00_name.calls (x1 := x8) hxx9) ?_
  rintro _ w hs
  refine WL.build (vs := [(1, bstr x7), (2, bstr x9)]) (cs := [.int .i64 0, bstr x7, bstr x9, .int .i64 0, bstr []]) ⟨⟨rfl, rfl⟩, ⟨⟨rfl, rfl⟩, trivial⟩⟩ (bld PL96 rfl) ?_
  refine WL.alloc hs ZV96 (fun g10 w hs => ?_)
  refine WL.storeAll (vs := [.int .i64 0, bstr x7, bstr x9, .int .i64 0, bstr []]) hs 0 rfl TI96 rfl rfl rfl rfl (ones_of rfl) rfl (fun w hs => ?_)
  refine WL.nil ?_
  refine hK5 _ _ ?_
  refine W.seqK fun K11 hK11 => ?_
  refine W.region ?_
  refine WL.move (v := .int .i64 x1) rfl ?_
  obtain ⟨x12, hxx12, hf⟩ := bindE hf
  refine WL.call (vs := [.int .i64 x1, .int .i64 16, .int .i64 3]) hs FN31 ⟨rfl, ⟨rfl, ⟨rfl, trivial⟩⟩⟩ (fun ok hA => eslaw00_Digit.calls (x1 := x1) (x2 := 16) (x3 := 3) hxx12) ?_
  rintro _ w hs
  obtain ⟨x13, ex13, hf⟩ := letE hf
  refine WL.bin (v := .int .i64 x13) rfl rfl (ib_as ex13 (ib_sub _ _ _)) ?_
  refine WL.assign (v := .int .i64 x13) rfl ?_
  refine WL.nil ?_
  refine hK11 _ _ ?_
  refine W.seqK fun K14 hK14 => ?_
  have Jk19 : ∀ (x16 : Int) (x17 : Int) (x18 : List UInt8) (ρ : Env) (w : World), ρ 4 = .pointer (some ⟨g4, 0, none⟩) → ρ 5 = .pointer (some ⟨g10, 0, none⟩) → St ok (bz w0) w [] [blk g10 96 [.int .i64 x16, bstr x7, bstr x9, .int .i64 x17, bstr x18], blk g4 96 ([.int .i64 0, bstr [], bstr [], .int .i64 0, bstr []])] → eslaw00_Effect.j1 x7 x9 x16 x17 x18 = some r → K14 ρ w := by
    intro x16 x17 x18 ρ w h15_4 h15_5 hs hf
    refine hK14 _ _ ?_
    unfold eslaw00_Effect.j1 at hf
    refine W.seqK fun K20 hK20 => ?_
    refine W.region ?_
    refine WL.loadN (vs := [.int .i64 x16, bstr x7, bstr x9, .int .i64 x17, bstr x18]) hs 0 rfl TI96 h15_5 rfl rfl ?_
    refine WL.storeAll (vs := [.int .i64 x16, bstr x7, bstr x9, .int .i64 x17, bstr x18]) hs 1 rfl TI96 h15_4 rfl rfl rfl (ones_of rfl) rfl (fun w hs => ?_)
    refine WL.nil ?_
    refine hK20 _ _ ?_
    refine W.ret ?_
    have hr := Option.some.inj hf; subst hr
    have hs := hs.add (it := vl t_api_Effect (⟨x16, x7, x9, x17, x18⟩ : api_Effect) (.agg [.int .i64 x16, bstr x7, bstr x9, .int .i64 x17, bstr x18].toArray)) fun ok hA => V_agg (show t_api_Effect.R ok _ _ _ from ⟨[.int .i64 x16], [bstr x7, bstr x9, .int .i64 x17, bstr x18], rfl, rfl, ⟨[bstr x7], [bstr x9, .int .i64 x17, bstr x18], rfl, rfl, ⟨[bstr x9], [.int .i64 x17, bstr x18], rfl, rfl, ⟨[.int .i64 x17], [bstr x18], rfl, rfl, rfl⟩⟩⟩⟩) rfl
    exact ⟨_, resOk_one rfl (res_all hs 1 rfl TI96 h15_4 rfl), [.int .i64 x16, bstr x7, bstr x9, .int .i64 x17, bstr x18], rfl, (hs.mask []).pick [0]⟩
  refine W.block ?_
  refine W.seqK fun K21 hK21 => ?_
  refine W.region ?_
  refine WL.move (v := .bool x2) rfl ?_
  refine WL.assign (v := .bool x2) rfl ?_
  refine WL.nil ?_
  refine hK21 _ _ ?_
  rcases iteE hf with ⟨hc22, hf⟩ | ⟨hc22, hf⟩
  {
  refine W.cond_true (bool_tr rfl hc22) ?_
  refine W.seqK fun K23 hK23 => ?_
  refine W.region ?_
  refine WL.fieldAddr (m := 0) rfl FA96_0 rfl ?_
  refine WL.store (vs := [.int .i64 1]) (cs' := [.int .i64 1, bstr x7, bstr x9, .int .i64 0, bstr []]) hs 0 rfl TI3 rfl rfl rfl rfl (ones_of rfl) (Nat.le_of_ble_eq_true rfl) rfl (fun w hs => ?_)
  refine WL.nil ?_
  refine hK23 _ _ ?_
  refine W.seqK fun K24 hK24 => ?_
  refine W.region ?_
  refine WL.move (v := .int .i64 x13) rfl ?_
  refine WL.fieldAddr (m := 3) rfl FA96_3 rfl ?_
  refine WL.store (vs := [.int .i64 x13]) (cs' := [.int .i64 1, bstr x7, bstr x9, .int .i64 x13, bstr []]) hs 0 rfl TI2 rfl rfl rfl rfl (ones_of rfl) (Nat.le_of_ble_eq_true rfl) rfl (fun w hs => ?_)
  refine WL.nil ?_
  refine hK24 _ _ ?_
  refine W.region ?_
  refine WL.move (v := .int .i64 x1) rfl ?_
  obtain ⟨x25, hxx25, hf⟩ := bindE hf
  refine WL.call (vs := [.int .i64 x1, .int .i64 4, .int .i64 5]) hs FN31 ⟨rfl, ⟨rfl, ⟨rfl, trivial⟩⟩⟩ (fun ok hA => eslaw00_Digit.calls (x1 := x1) (x2 := 4) (x3 := 5) hxx25) ?_
  rintro _ w hs
  obtain ⟨x26, hxx26, hf⟩ := bindE hf
  refine WL.call (vs := [.int .i64 x25]) hs FN79 ⟨rfl, trivial⟩ (fun ok hA => eslaw00_name.calls (x1 := x25) hxx26) ?_
  rintro _ w hs
  refine WL.fieldAddr (m := 4) rfl FA96_4 rfl ?_
  refine WL.store (vs := [bstr x26]) (cs' := [.int .i64 1, bstr x7, bstr x9, .int .i64 x13, bstr x26]) hs 0 rfl TI9 rfl rfl rfl rfl (ones_of rfl) (Nat.le_of_ble_eq_true rfl) rfl (fun w hs => ?_)
  refine WL.nil ?_
  exact Jk19 1 x13 x26 _ _ rfl rfl ((hs.mask [true, true]).pick []) hf }
  {
  refine W.cond_false (bool_tr rfl hc22) ?_
  refine W.seqK fun K27 hK27 => ?_
  refine W.region ?_
  refine WL.move (v := .int .i64 x1) rfl ?_
  obtain ⟨x28, hxx28, hf⟩ := bindE hf
  refine WL.call (vs := [.int .i64 x1, .int .i64 4, .int .i64 0]) hs FN31 ⟨rfl, ⟨rfl, ⟨rfl, trivial⟩⟩⟩ (fun ok hA => eslaw00_Digit.calls (x1 := x1) (x2 := 4) (x3 := 0) hxx28) ?_
  rintro _ w hs
  refine WL.bin (v := .bool (x28 == 0)) rfl rfl (ib_eql _ _ _) ?_
  refine WL.assign (v := .bool (x28 == 0)) rfl ?_
  refine WL.nil ?_
  refine hK27 _ _ ?_
  rcases iteE hf with ⟨hc29, hf⟩ | ⟨hc29, hf⟩
  {
  refine W.cond_true (bool_tr rfl hc29) ?_
  refine W.seqK fun K30 hK30 => ?_
  refine W.region ?_
  refine WL.fieldAddr (m := 0) rfl FA96_0 rfl ?_
  refine WL.store (vs := [.int .i64 2]) (cs' := [.int .i64 2, bstr x7, bstr x9, .int .i64 0, bstr []]) hs 0 rfl TI3 rfl rfl rfl rfl (ones_of rfl) (Nat.le_of_ble_eq_true rfl) rfl (fun w hs => ?_)
  refine WL.nil ?_
  refine hK30 _ _ ?_
  refine W.region ?_
  refine WL.move (v := .int .i64 x13) rfl ?_
  refine WL.fieldAddr (m := 3) rfl FA96_3 rfl ?_
  refine WL.store (vs := [.int .i64 x13]) (cs' := [.int .i64 2, bstr x7, bstr x9, .int .i64 x13, bstr []]) hs 0 rfl TI2 rfl rfl rfl rfl (ones_of rfl) (Nat.le_of_ble_eq_true rfl) rfl (fun w hs => ?_)
  refine WL.nil ?_
  exact Jk19 2 x13 [] _ _ rfl rfl ((hs.mask [true, true]).pick []) hf }
  {
  refine W.cond_false (bool_tr rfl hc29) ?_
  refine W.seqK fun K31 hK31 => ?_
  refine W.region ?_
  refine WL.move (v := .int .i64 x1) rfl ?_
  obtain ⟨x32, hxx32, hf⟩ := bindE hf
  refine WL.call (vs := [.int .i64 x1, .int .i64 4, .int .i64 0]) hs FN31 ⟨rfl, ⟨rfl, ⟨rfl, trivial⟩⟩⟩ (fun ok hA => eslaw00_Digit.calls (x1 := x1) (x2 := 4) (x3 := 0) hxx32) ?_
  rintro _ w hs
  refine WL.bin (v := .bool (x32 == 1)) rfl rfl (ib_eql _ _ _) ?_
  refine WL.assign (v := .bool (x32 == 1)) rfl ?_
  refine WL.nil ?_
  refine hK31 _ _ ?_
  rcases iteE hf with ⟨hc33, hf⟩ | ⟨hc33, hf⟩
  {
  refine W.cond_true (bool_tr rfl hc33) ?_
  refine W.seqK fun K34 hK34 => ?_
  refine W.region ?_
  refine WL.fieldAddr (m := 0) rfl FA96_0 rfl ?_
  refine WL.store (vs := [.int .i64 3]) (cs' := [.int .i64 3, bstr x7, bstr x9, .int .i64 0, bstr []]) hs 0 rfl TI3 rfl rfl rfl rfl (ones_of rfl) (Nat.le_of_ble_eq_true rfl) rfl (fun w hs => ?_)
  refine WL.nil ?_
  refine hK34 _ _ ?_
  refine W.region ?_
  refine WL.move (v := .int .i64 x13) rfl ?_
  refine WL.fieldAddr (m := 3) rfl FA96_3 rfl ?_
  refine WL.store (vs := [.int .i64 x13]) (cs' := [.int .i64 3, bstr x7, bstr x9, .int .i64 x13, bstr []]) hs 0 rfl TI2 rfl rfl rfl rfl (ones_of rfl) (Nat.le_of_ble_eq_true rfl) rfl (fun w hs => ?_)
  refine WL.nil ?_
  exact Jk19 3 x13 [] _ _ rfl rfl ((hs.mask [true, true]).pick []) hf }
  {
  refine W.cond_false (bool_tr rfl hc33) ?_
  refine W.seqK fun K35 hK35 => ?_
  refine W.region ?_
  refine WL.move (v := .int .i64 x1) rfl ?_
  obtain ⟨x36, hxx36, hf⟩ := bindE hf
  refine WL.call (vs := [.int .i64 x1, .int .i64 4, .int .i64 0]) hs FN31 ⟨rfl, ⟨rfl, ⟨rfl, trivial⟩⟩⟩ (fun ok hA => eslaw00_Digit.calls (x1 := x1) (x2 := 4) (x3 := 0) hxx36) ?_
  rintro _ w hs
  refine WL.bin (v := .bool (x36 == 2)) rfl rfl (ib_eql _ _ _) ?_
  refine WL.assign (v := .bool (x36 == 2)) rfl ?_
  refine WL.nil ?_
  refine hK35 _ _ ?_
  rcases iteE hf with ⟨hc37, hf⟩ | ⟨hc37, hf⟩
  {
  refine W.cond_true (bool_tr rfl hc37) ?_
  refine W.seqK fun K38 hK38 => ?_
  refine W.region ?_
  refine WL.fieldAddr (m := 0) rfl FA96_0 rfl ?_
  refine WL.store (vs := [.int .i64 4]) (cs' := [.int .i64 4, bstr x7, bstr x9, .int .i64 0, bstr []]) hs 0 rfl TI3 rfl rfl rfl rfl (ones_of rfl) (Nat.le_of_ble_eq_true rfl) rfl (fun w hs => ?_)
  refine WL.nil ?_
  refine hK38 _ _ ?_
  refine W.region ?_
  refine WL.move (v := .int .i64 x1) rfl ?_
  obtain ⟨x39, hxx39, hf⟩ := bindE hf
  refine WL.call (vs := [.int .i64 x1, .int .i64 4, .int .i64 5]) hs FN31 ⟨rfl, ⟨rfl, ⟨rfl, trivial⟩⟩⟩ (fun ok hA => eslaw00_Digit.calls (x1 := x1) (x2 := 4) (x3 := 5) hxx39) ?_
  rintro _ w hs
  obtain ⟨x40, hxx40, hf⟩ := bindE hf
  refine WL.call (vs := [.int .i64 x39]) hs FN79 ⟨rfl, trivial⟩ (fun ok hA => eslaw00_name.calls (x1 := x39) hxx40) ?_
  rintro _ w hs
  refine WL.fieldAddr (m := 4) rfl FA96_4 rfl ?_
  refine WL.store (vs := [bstr x40]) (cs' := [.int .i64 4, bstr x7, bstr x9, .int .i64 0, bstr x40]) hs 0 rfl TI9 rfl rfl rfl rfl (ones_of rfl) (Nat.le_of_ble_eq_true rfl) rfl (fun w hs => ?_)
  refine WL.nil ?_
  exact Jk19 4 0 x40 _ _ rfl rfl ((hs.mask [true, true]).pick []) hf }
  {
  refine W.cond_false (bool_tr rfl hc37) ?_
  refine W.region ?_
  refine WL.fieldAddr (m := 0) rfl FA96_0 rfl ?_
  refine WL.store (vs := [.int .i64 5]) (cs' := [.int .i64 5, bstr x7, bstr x9, .int .i64 0, bstr []]) hs 0 rfl TI3 rfl rfl rfl rfl (ones_of rfl) (Nat.le_of_ble_eq_true rfl) rfl (fun w hs => ?_)
  refine WL.nil ?_
  exact Jk19 5 0 [] _ _ rfl rfl ((hs.mask [true, true]).pick []) hf } } } }
theorem eslaw00_Update.calls {ok : Nat → Prop} {w0 : World} {x1 : Int} {x2 : Int} {x3 : Int}  {r : api_Update} (hf : eslaw00_Update x1 x2 x3 = some r)  :
    Calls Tryz.prog 32 #[.int .i64 x1, .int .i64 x2, .int .i64 x3] w0 fun e w' => ∃ v, e = .returned v ∧ ∃ y : (Option Addr × Nat × Nat), v = .agg ([.int .i64 r.Client, .int .i64 r.Seq, .int .i64 r.Tag, .slice y.1 y.2.1 y.2.2] : List Value).toArray ∧ St ok (bz w0) w' [] [own t_api_Effect 96 (.slice y.1 y.2.1 y.2.2) r.Effects] := by
  unfold eslaw00_Update at hf
  refine calls_of_W (fn := Tryz.f32) (N := 41) Tryz.func32 rfl Tryz.ntmps32 rfl ?_
  have hs : St ok (bz w0) w0 [] [] := St.init All.nil
  refine W.seqK fun K4 hK4 => ?_
  refine W.region ?_
  refine WL.alloc hs ZV74 (fun g5 w hs => ?_)
  refine WL.nil ?_
  refine hK4 _ _ ?_
  refine W.seqK fun K6 hK6 => ?_
  refine W.region ?_
  refine WL.move (v := .int .i64 x1) rfl ?_
  refine WL.move (v := .int .i64 x2) rfl ?_
  refine WL.build (vs := [(0, .int .i64 x1), (1, .int .i64 x2)]) (cs := [.int .i64 x1, .int .i64 x2, .int .i64 0, .slice none 0 0]) ⟨⟨rfl, rfl⟩, ⟨⟨rfl, rfl⟩, trivial⟩⟩ (bld PL74 rfl) ?_
  refine WL.alloc hs ZV74 (fun g7 w hs => ?_)
  refine WL.storeAll (vs := [.int .i64 x1, .int .i64 x2, .int .i64 0, .slice none 0 0]) hs 0 rfl TI74 rfl rfl rfl rfl (ones_of rfl) rfl (fun w hs => ?_)
  refine WL.nil ?_
  refine hK6 _ _ ?_
  refine W.seqK fun K8 hK8 => ?_
  refine W.seqK fun K9 hK9 => ?_
  refine W.region ?_
  refine WL.move (v := .int .i64 x3) rfl ?_
  obtain ⟨x10, hxx10, hf⟩ := bindE hf
  refine WL.call (vs := [.int .i64 x3, .int .i64 3, .int .i64 8]) hs FN31 ⟨rfl, ⟨rfl, ⟨rfl, trivial⟩⟩⟩ (fun ok hA => eslaw00_Digit.calls (x1 := x3) (x2 := 3) (x3 := 8) hxx10) ?_
  rintro _ w hs
  refine WL.bin (v := .bool (x10 == 0)) rfl rfl (ib_eql _ _ _) ?_
  refine WL.nil ?_
  refine hK9 _ _ ?_
  rcases iteE hf with ⟨hc11, hf⟩ | ⟨hc11, hf⟩
  {
  refine W.cond_true (bool_tr rfl hc11) ?_
  refine W.seqK fun K12 hK12 => ?_
  refine W.region ?_
  refine WL.move (v := .int .i64 x3) rfl ?_
  obtain ⟨x13, hxx13, hf⟩ := bindE hf
  refine WL.call (vs := [.int .i64 x3, .int .i64 16, .int .i64 4]) hs FN31 ⟨rfl, ⟨rfl, ⟨rfl, trivial⟩⟩⟩ (fun ok hA => eslaw00_Digit.calls (x1 := x3) (x2 := 16) (x3 := 4) hxx13) ?_
  rintro _ w hs
  refine WL.fieldAddr (m := 2) rfl FA74_2 rfl ?_
  refine WL.store (vs := [.int .i64 x13]) (cs' := [.int .i64 x1, .int .i64 x2, .int .i64 x13, .slice none 0 0]) hs 0 rfl TI3 rfl rfl rfl rfl (ones_of rfl) (Nat.le_of_ble_eq_true rfl) rfl (fun w hs => ?_)
  refine WL.nil ?_
  refine hK12 _ _ ?_
  refine W.seqK fun K14 hK14 => ?_
  refine W.region ?_
  refine WL.move (v := .int .i64 x3) rfl ?_
  obtain ⟨x15, hxx15, hf⟩ := bindE hf
  refine WL.call (vs := [.int .i64 x3, .bool true]) hs FN55 ⟨rfl, ⟨rfl, trivial⟩⟩ (fun ok hA => eslaw00_Effect.calls (x1 := x3) (x2 := true) hxx15) ?_
  rintro cs16 w hs
  have hl17 := hs.agglen (n := 5) 0 rfl rfl rfl
  refine WL.buildSlice (n := 1) (vs := [(0, .agg cs16.toArray)]) (cs := cs16) hs ⟨⟨rfl, rfl⟩, trivial⟩ (bls PS72 (by decide) (by simp [fillS, fillL, Value.cells, hl17])) (fun g18 w hs => ?_)
  refine WL.fieldAddr (m := 3) rfl FA74_3 rfl ?_
  refine WL.store (vs := [.slice (some ⟨g18, 0, none⟩) ([x15]).length 1]) (cs' := [.int .i64 x1, .int .i64 x2, .int .i64 x13, .slice (some ⟨g18, 0, none⟩) ([x15]).length 1]) hs 1 rfl TI72 rfl rfl rfl rfl (ones_of rfl) (Nat.le_of_ble_eq_true rfl) rfl (fun w hs => ?_)
  refine WL.nil ?_
  refine hK14 _ _ ?_
  refine W.seqK fun K19 hK19 => ?_
  refine W.region ?_
  refine WL.loadN (vs := [.int .i64 x1, .int .i64 x2, .int .i64 x13, .slice (some ⟨g18, 0, none⟩) ([x15]).length 1]) hs 1 rfl TI74 rfl rfl rfl ?_
  refine WL.storeAll (vs := [.int .i64 x1, .int .i64 x2, .int .i64 x13, .slice (some ⟨g18, 0, none⟩) ([x15]).length 1]) hs 2 rfl TI74 rfl rfl rfl rfl (ones_of rfl) rfl (fun w hs => ?_)
  have hs := hs.ownLit (A := t_api_Effect) (xs := [x15]) 0 rfl (fun ok hA => (Cells.one (T := t_api_Effect) (R_agg (hA.get 0 rfl) rfl))) (Nat.le_of_ble_eq_true rfl)
  refine WL.nil ?_
  refine hK19 _ _ ?_
  refine W.ret ?_
  have hr := Option.some.inj hf; subst hr
  exact ⟨_, resOk_one rfl (res_all hs 2 rfl TI74 rfl rfl), ((some ⟨g18, 0, none⟩), ([x15]).length, 1), rfl, (hs.mask [true]).pick []⟩ }
  {
  refine W.cond_false (bool_tr rfl hc11) ?_
  refine W.skip ?_
  refine hK8 _ _ ?_
  refine W.seqK fun K20 hK20 => ?_
  have hs := hs.ownNil t_api_Effect 96
  have Jk26 : ∀ (x22 : List api_Effect) (a23 : Option Addr) (c24 : Nat) (n25 : Nat) (ρ : Env) (w : World), ρ 6 = .pointer (some ⟨g5, 0, none⟩) → ρ 7 = .pointer (some ⟨g7, 0, none⟩) → St ok (bz w0) w [] [own t_api_Effect 96 (.slice a23 n25 c24) x22, blk g7 74 [.int .i64 x1, .int .i64 x2, .int .i64 0, .slice a23 n25 c24], blk g5 74 [.int .i64 0, .int .i64 0, .int .i64 0, .slice none 0 0]] → eslaw00_Update.j1 x1 x2 x22 = some r → K20 ρ w := by
    intro x22 a23 c24 n25 ρ w h21_6 h21_7 hs hf
    refine hK20 _ _ ?_
    unfold eslaw00_Update.j1 at hf
    refine W.seqK fun K27 hK27 => ?_
    refine W.region ?_
    refine WL.loadN (vs := [.int .i64 x1, .int .i64 x2, .int .i64 0, .slice a23 n25 c24]) hs 1 rfl TI74 h21_7 rfl rfl ?_
    refine WL.storeAll (vs := [.int .i64 x1, .int .i64 x2, .int .i64 0, .slice a23 n25 c24]) hs 2 rfl TI74 h21_6 rfl rfl rfl (ones_of rfl) rfl (fun w hs => ?_)
    refine WL.nil ?_
    refine hK27 _ _ ?_
    refine W.ret ?_
    have hr := Option.some.inj hf; subst hr
    exact ⟨_, resOk_one rfl (res_all hs 2 rfl TI74 h21_6 rfl), (a23, n25, c24), rfl, (hs.mask [true]).pick []⟩
  refine W.seqK fun K28 hK28 => ?_
  refine W.region ?_
  refine WL.assign (v := .int .i64 0) rfl ?_
  refine WL.nil ?_
  refine hK28 _ _ ?_
  refine W.block ?_
  obtain ⟨bs35, hbs35, hfs35⟩ := bindE hf
  refine W.loop hbs35 (fun s ρ w => match s with | (x30, x31) => ∃ (a32 : Option Addr), ∃ (c33 : Nat), ∃ (n34 : Nat), ρ 2 = .int .i64 x3 ∧ ρ 6 = .pointer (some ⟨g5, 0, none⟩) ∧ ρ 7 = .pointer (some ⟨g7, 0, none⟩) ∧ ρ 8 = .int .i64 x30 ∧ St ok (bz w0) w [] [own t_api_Effect 96 (.slice a32 n34 c33) x31, blk g7 74 [.int .i64 x1, .int .i64 x2, .int .i64 0, .slice a32 n34 c33], blk g5 74 [.int .i64 0, .int .i64 0, .int .i64 0, .slice none 0 0]]) ⟨none, 0, 0, rfl, rfl, rfl, rfl, (hs.mask [true, true, true]).pick []⟩ ?_
  intro s ρ w os35 hI hf hbbs35
  obtain ⟨x30, x31⟩ := s
  obtain ⟨a32, c33, n34, h29_2, h29_6, h29_7, h29_8, hs⟩ := hI
  unfold eslaw00_Update.l1 at hf
  refine W.seqK fun K36 hK36 => ?_
  refine W.seqK fun K37 hK37 => ?_
  refine W.region ?_
  refine WL.move (v := .int .i64 x30) h29_8 ?_
  refine WL.move (v := .int .i64 x3) h29_2 ?_
  obtain ⟨x38, hxx38, hf⟩ := bindE hf
  refine WL.call (vs := [.int .i64 x3, .int .i64 3, .int .i64 9]) hs FN31 ⟨rfl, ⟨rfl, ⟨rfl, trivial⟩⟩⟩ (fun ok hA => eslaw00_Digit.calls (x1 := x3) (x2 := 3) (x3 := 9) hxx38) ?_
  rintro _ w hs
  refine WL.bin (v := .bool (decide (x30 ≤ x38))) rfl rfl (ib_leq _ _ _) ?_
  refine WL.nil ?_
  refine hK37 _ _ ?_
  rcases iteE hf with ⟨hc39, hf⟩ | ⟨hc39, hf⟩
  {
  refine W.cond_true (bool_tr rfl hc39) ?_
  refine W.skip ?_
  refine hK36 _ _ ?_
  refine W.seqK fun K40 hK40 => ?_
  refine W.block ?_
  obtain ⟨x41, hxx41, hf⟩ := bindE hf
  obtain ⟨x42, ex42, hf⟩ := letE hf
  obtain ⟨hn44, hf⟩ := guardE hf
  obtain ⟨x43, ex43, hf⟩ := letE hf
  obtain ⟨x45, hxx45, hf⟩ := bindE hf
  refine W.any (by kernel_rfl) 9 3 [true, true, true, true, true, true, true, true, true, false, false, false] rfl rfl (poAt [pv (.pointer (some ⟨g7, 3, none⟩)), pv (.slice a32 n34 c33), pv (.int .i64 x3), pv (.int .i64 x41), pv (.int .i64 x30), pv (.int .i64 x42), pv (.int .i64 x43), pq (fun y : List Value => .agg y.toArray) (fun v => [vl t_api_Effect x45 v]) (fun v => []), pq (fun y : (Option Addr × Nat) => .slice y.1 ([x45]).length y.2) (fun v => [vl (tSlice t_api_Effect) [x45] v]) (fun v => [])]) (Λ := [own t_api_Effect 96 (.slice a32 n34 c33) x31, blk g7 74 [.int .i64 x1, .int .i64 x2, .int .i64 0, .slice a32 n34 c33], blk g5 74 [.int .i64 0, .int .i64 0, .int .i64 0, .slice none 0 0]]) hs (by kernel_rfl) (by kernel_rfl) (by kernel_rfl) ⟨⟨⟨⟨⟨⟨⟨⟨⟨trivial, ?_⟩, ?_⟩, ?_⟩, ?_⟩, ?_⟩, ?_⟩, ?_⟩, ?_⟩, ?_⟩ ?_
  {
  intro ρ w Γx Λx hs hu hp
  refine WL.fieldAddr (m := 3) ((hu 7 rfl).trans h29_7) FA74_3 rfl ?_
  exact WL.nil ⟨rfl, _, rfl, rfl, hs.cutG 0 0⟩ }
  {
  intro ρ w Γx Λx hs hu hp
  have e50 : ρ 29 = .pointer (some ⟨g7, 3, none⟩) := (hp 0 rfl).1
  refine WL.load1 (v := .slice a32 n34 c33) hs (Λx.length + 1) (getApp rfl) TI72 e50 rfl ?_
  exact WL.nil ⟨rfl, _, rfl, rfl, hs.cutG 0 0⟩ }
  {
  intro ρ w Γx Λx hs hu hp
  refine WL.move (v := .int .i64 x3) ((hu 2 rfl).trans h29_2) ?_
  exact WL.nil ⟨rfl, _, rfl, rfl, hs.cutG 0 0⟩ }
  {
  intro ρ w Γx Λx hs hu hp
  have e51 : ρ 31 = .int .i64 x3 := (hp 2 rfl).1
  refine WL.call (vs := [.int .i64 x3, .int .i64 1099511627776]) hs FN33 ⟨e51, ⟨rfl, trivial⟩⟩ (fun ok hA => eslaw00_Index.calls (x1 := x3) (x2 := 1099511627776) hxx41) ?_
  rintro _ w hs
  exact WL.nil ⟨rfl, _, rfl, rfl, hs.cutG 0 0⟩ }
  {
  intro ρ w Γx Λx hs hu hp
  refine WL.move (v := .int .i64 x30) ((hu 8 rfl).trans h29_8) ?_
  exact WL.nil ⟨rfl, _, rfl, rfl, hs.cutG 0 0⟩ }
  {
  intro ρ w Γx Λx hs hu hp
  have e52 : ρ 33 = .int .i64 x30 := (hp 4 rfl).1
  refine WL.bin (v := .int .i64 x42) e52 rfl (ib_as ex42 (ib_add _ _ _)) ?_
  exact WL.nil ⟨rfl, _, rfl, rfl, hs.cutG 0 0⟩ }
  {
  intro ρ w Γx Λx hs hu hp
  have e53 : ρ 32 = .int .i64 x41 := (hp 3 rfl).1
  have e54 : ρ 34 = .int .i64 x42 := (hp 5 rfl).1
  refine WL.bin (v := .int .i64 x43) e53 e54 (ib_as ex43 (ib_quo _ _ _ hn44)) ?_
  exact WL.nil ⟨rfl, _, rfl, rfl, hs.cutG 0 0⟩ }
  {
  intro ρ w Γx Λx hs hu hp
  have e55 : ρ 35 = .int .i64 x43 := (hp 6 rfl).1
  refine WL.call (vs := [.int .i64 x43, .bool false]) hs FN55 ⟨e55, ⟨rfl, trivial⟩⟩ (fun ok hA => eslaw00_Effect.calls (x1 := x43) (x2 := false) hxx45) ?_
  rintro cs46 w hs
  have hl47 := hs.agglen (n := 5) 0 rfl rfl rfl
  have hs := hs.add (it := vl t_api_Effect x45 (.agg cs46.toArray)) fun ok hA => hA.get 0 rfl
  exact WL.nil ⟨rfl, _, rfl, ⟨cs46, rfl⟩, hs.cutG 1 1⟩ }
  {
  intro ρ w Γx Λx hs hu hp
  obtain ⟨⟨cs56, e58r⟩, hm59⟩ := hp 7 rfl
  have e58 : ρ 36 = .agg cs56.toArray := e58r
  rw [e58r] at hm59
  have hs := hs.memo1 (it := vl t_api_Effect x45 (.agg cs56.toArray)) (List.mem_append.2 (.inl (hm59 _ (List.mem_of_getElem? (i := 0) rfl))))
  have hl57 := hs.agglen (n := 5) 0 rfl rfl rfl
  refine WL.buildSliceB (ys := [x45]) (n := 1) (vs := [(0, .agg cs56.toArray)]) (cs := cs56) hs ⟨⟨rfl, e58⟩, trivial⟩ (bls PS72 (by decide) (by simp [fillS, fillL, Value.cells, hl57])) (fun ok hA => (Cells.one (T := t_api_Effect) (R_agg (hA.get 0 rfl) rfl))) rfl (by decide) (fun a49 w hBl hs => ?_)
  have hs := hs.add (it := vl (tSlice t_api_Effect) [x45] (.slice a49 ([x45]).length 1)) fun ok hA => hA.get 0 rfl
  exact WL.nil ⟨rfl, _, rfl, ⟨(a49, 1), rfl⟩, hs.cutG 1 2⟩ }
  {
  intro ρ w hs hu60 hp
  obtain ⟨⟨⟨⟨⟨⟨⟨⟨⟨_, hp0_⟩, hp1_⟩, hp2_⟩, hp3_⟩, hp4_⟩, hp5_⟩, hp6_⟩, hp7_⟩, hp8_⟩ := hp
  have hs : St ok (bz w0) w [vl (tSlice t_api_Effect) [x45] (ρ 37), vl t_api_Effect x45 (ρ 36)] [own t_api_Effect 96 (.slice a32 n34 c33) x31, blk g7 74 [.int .i64 x1, .int .i64 x2, .int .i64 0, .slice a32 n34 c33], blk g5 74 [.int .i64 0, .int .i64 0, .int .i64 0, .slice none 0 0]] := hs
  obtain ⟨⟨a61, c62⟩, e63⟩ := hp8_
  have e63 : ρ 37 = .slice a61 ([x45]).length c62 := e63
  try rw [e63] at hs
  obtain ⟨cs64, e66⟩ := hp7_
  have e66 : ρ 36 = .agg cs64.toArray := e66
  try rw [e66] at hs
  have e67 : ρ 35 = .int .i64 x43 := hp6_
  have e68 : ρ 34 = .int .i64 x42 := hp5_
  have e69 : ρ 33 = .int .i64 x30 := hp4_
  have e70 : ρ 32 = .int .i64 x41 := hp3_
  have e71 : ρ 31 = .int .i64 x3 := hp2_
  have e72 : ρ 30 = .slice a32 n34 c33 := hp1_
  have e73 : ρ 29 = .pointer (some ⟨g7, 3, none⟩) := hp0_
  have hl65 := hs.agglen (n := 5) 1 rfl rfl rfl
  refine WA.step [9] (by kernel_rfl) (by simp) ⟨?_, trivial⟩
  obtain ⟨x74, hxx74, hf⟩ := bindE hf
  obtain ⟨hbx74, hex74⟩ := appE hxx74
  refine WL.appendS (zs := x74) hs 0 rfl 0 rfl UN72 UN72 EI96 e72 e63 hbx74 (by omega) hex74 (fun v75 w hs => ?_)
  obtain ⟨a76, n78, c77, rfl⟩ := hs.ownv3 0 rfl
  refine WL.nil ⟨rfl, _, rfl, ?_⟩
  refine WA.step [10] (by kernel_rfl) (by simp) ⟨?_, trivial⟩
  refine WL.fieldAddr (m := 3) ((hu60 7 rfl).trans h29_7) FA74_3 rfl ?_
  refine WL.nil ⟨rfl, _, rfl, ?_⟩
  refine WA.step [11] (by kernel_rfl) (by simp) ⟨?_, trivial⟩
  refine WL.store (vs := [.slice a76 n78 c77]) (cs' := [.int .i64 x1, .int .i64 x2, .int .i64 0, .slice a76 n78 c77]) hs 1 rfl TI72 rfl rfl rfl rfl (ones_of rfl) (Nat.le_of_ble_eq_true rfl) rfl (fun w hs => ?_)
  refine WL.nil ⟨rfl, _, rfl, ?_⟩
  refine WA.done (by kernel_rfl) ?_
  refine hK40 _ _ ?_
  refine W.region ?_
  refine WL.move (v := .int .i64 x30) ((hu60 8 rfl).trans h29_8) ?_
  obtain ⟨x79, ex79, hf⟩ := letE hf
  refine WL.bin (v := .int .i64 x79) rfl rfl (ib_as ex79 (ib_add _ _ _)) ?_
  refine WL.assign (v := .int .i64 x79) rfl ?_
  refine WL.nil ?_
  exact ⟨_, (Option.some.inj hf).symm, a76, c77, n78, ((hu60 2 rfl).trans h29_2), ((hu60 6 rfl).trans h29_6), ((hu60 7 rfl).trans h29_7), rfl, (hs.mask [true, true, true]).pick []⟩ } }
  {
  refine W.cond_false (bool_tr rfl hc39) ?_
  refine W.exit ?_
  have hr := Option.some.inj hf; subst hr
  have hr := hbbs35 _ rfl; subst hr
  have hf := hfs35
  exact Jk26 x31 a32 c33 n34 _ _ h29_6 h29_7 ((hs.mask [true, true, true]).pick []) hf } }
theorem eslaw00_Update.callc {ok : Nat → Prop} {w0 : World} {x1 : Int} {x2 : Int} {x3 : Int}  {r : api_Update} (hf : eslaw00_Update x1 x2 x3 = some r)  :
    Calls Tryz.prog 32 #[.int .i64 x1, .int .i64 x2, .int .i64 x3] w0 fun e w' => ∃ v, e = .returned v ∧ ∃ y : List Value, v = .agg y.toArray ∧ St ok (bz w0) w' [vl t_api_Update r (.agg y.toArray)] [] := by
  refine (eslaw00_Update.calls (ok := ok) (w0 := w0) (x1 := x1) (x2 := x2) (x3 := x3) hf).mono ?_
  rintro e w' ⟨v, rfl, ⟨a81, n82, c83⟩, rfl, hs⟩
  obtain rfl := hs.ownLen 0 rfl
  have hs := hs.freezeOwn 0 rfl
  have hs := hs.add (it := vl t_api_Update (⟨r.Client, r.Seq, r.Tag, r.Effects⟩ : api_Update) (.agg [.int .i64 r.Client, .int .i64 r.Seq, .int .i64 r.Tag, .slice a81 (r.Effects).length c83].toArray)) fun ok hA => V_agg (show t_api_Update.R ok _ _ _ from ⟨[.int .i64 r.Client], [.int .i64 r.Seq, .int .i64 r.Tag, .slice a81 (r.Effects).length c83], rfl, rfl, ⟨[.int .i64 r.Seq], [.int .i64 r.Tag, .slice a81 (r.Effects).length c83], rfl, rfl, ⟨[.int .i64 r.Tag], [.slice a81 (r.Effects).length c83], rfl, rfl, (R_one (hA.get 0 rfl))⟩⟩⟩) rfl
  exact ⟨_, rfl, [.int .i64 r.Client, .int .i64 r.Seq, .int .i64 r.Tag, .slice a81 (r.Effects).length c83], rfl, hs.pick [0]⟩
theorem eslaw00_Updates.calls {ok : Nat → Prop} {w0 : World} {x1 : List Int} {a2 : Option Addr} {c3 : Nat} {r : List api_Update} (hf : eslaw00_Updates x1 = some r) (i0 : (vl (tSlice (tInt .i64)) x1 (.slice a2 x1.length c3)).holds ok w0) :
    Calls Tryz.prog 10 #[.slice a2 x1.length c3] w0 fun e w' => ∃ v, e = .returned v ∧ ∃ y : (Option Addr × Nat × Nat), v = .slice y.1 y.2.1 y.2.2 ∧ St ok (bz w0) w' [] [own t_api_Update 74 (.slice y.1 y.2.1 y.2.2) r] := by
  unfold eslaw00_Updates at hf
  refine calls_of_W (fn := Tryz.f10) (N := 48) Tryz.func10 rfl Tryz.ntmps10 rfl ?_
  have hs : St ok (bz w0) w0 [vl (tSlice (tInt .i64)) x1 (.slice a2 x1.length c3)] [] := St.init (All.cons i0 All.nil)
  clear i0
  refine W.seqK fun K4 hK4 => ?_
  refine W.region ?_
  refine WL.assign (v := .slice none 0 0) rfl ?_
  refine WL.nil ?_
  refine hK4 _ _ ?_
  refine W.seqK fun K5 hK5 => ?_
  refine W.region ?_
  refine WL.assign (v := .slice none 0 0) rfl ?_
  refine WL.nil ?_
  refine hK5 _ _ ?_
  refine W.seqK fun K6 hK6 => ?_
  have hs := hs.ownNil t_api_Update 74
  have Jk12 : ∀ (x8 : List api_Update) (a9 : Option Addr) (c10 : Nat) (n11 : Nat) (ρ : Env) (w : World), ρ 3 = .slice a9 n11 c10 → St ok (bz w0) w [] [own t_api_Update 74 (.slice a9 n11 c10) x8] → eslaw00_Updates.j1 x8 = some r → K6 ρ w := by
    intro x8 a9 c10 n11 ρ w h7_3 hs hf
    refine hK6 _ _ ?_
    unfold eslaw00_Updates.j1 at hf
    refine W.seqK fun K13 hK13 => ?_
    refine W.region ?_
    refine WL.move (v := .slice a9 n11 c10) h7_3 ?_
    refine WL.assign (v := .slice a9 n11 c10) rfl ?_
    refine WL.nil ?_
    refine hK13 _ _ ?_
    refine W.ret ?_
    have hr := Option.some.inj hf; subst hr
    exact ⟨_, resOk_one rfl rfl, (a9, n11, c10), rfl, (hs.mask [true]).pick []⟩
  refine W.seqK fun K14 hK14 => ?_
  refine W.region ?_
  refine WL.assign (v := .int .i64 0) rfl ?_
  refine WL.nil ?_
  refine hK14 _ _ ?_
  refine W.block ?_
  obtain ⟨bs21, hbs21, hfs21⟩ := bindE hf
  refine W.loop hbs21 (fun s ρ w => match s with | (x16, x20) => ∃ (a17 : Option Addr), ∃ (c18 : Nat), ∃ (n19 : Nat), ρ 0 = .slice a2 x1.length c3 ∧ ρ 3 = .slice a17 n19 c18 ∧ ρ 4 = .int .i64 x20 ∧ St ok (bz w0) w [vl (tSlice (tInt .i64)) x1 (.slice a2 x1.length c3)] [own t_api_Update 74 (.slice a17 n19 c18) x16]) ⟨none, 0, 0, rfl, rfl, rfl, (hs.mask [true]).pick [0]⟩ ?_
  intro s ρ w os21 hI hf hbbs21
  obtain ⟨x16, x20⟩ := s
  obtain ⟨a17, c18, n19, h15_0, h15_3, h15_4, hs⟩ := hI
  unfold eslaw00_Updates.l2 at hf
  refine W.seqK fun K22 hK22 => ?_
  refine W.seqK fun K23 hK23 => ?_
  refine W.region ?_
  refine WL.move (v := .int .i64 x20) h15_4 ?_
  refine WL.bin (v := .bool (decide (x20 < 3))) rfl rfl (ib_lss _ _ _) ?_
  refine WL.nil ?_
  refine hK23 _ _ ?_
  rcases iteE hf with ⟨hc24, hf⟩ | ⟨hc24, hf⟩
  {
  refine W.cond_true (bool_tr rfl hc24) ?_
  refine W.skip ?_
  refine hK22 _ _ ?_
  refine W.seqK fun K25 hK25 => ?_
  have Jk31 : ∀ (x27 : List api_Update) (a28 : Option Addr) (c29 : Nat) (n30 : Nat) (ρ : Env) (w : World), ρ 0 = .slice a2 x1.length c3 → ρ 3 = .slice a28 n30 c29 → ρ 4 = .int .i64 x20 → St ok (bz w0) w [vl (tSlice (tInt .i64)) x1 (.slice a2 x1.length c3)] [own t_api_Update 74 (.slice a28 n30 c29) x27] → eslaw00_Updates.j2 x20 x27 = some os21 → K25 ρ w := by
    intro x27 a28 c29 n30 ρ w h26_0 h26_3 h26_4 hs hf
    refine hK25 _ _ ?_
    unfold eslaw00_Updates.j2 at hf
    refine W.region ?_
    refine WL.move (v := .int .i64 x20) h26_4 ?_
    obtain ⟨x32, ex32, hf⟩ := letE hf
    refine WL.bin (v := .int .i64 x32) rfl rfl (ib_as ex32 (ib_add _ _ _)) ?_
    refine WL.assign (v := .int .i64 x32) rfl ?_
    refine WL.nil ?_
    exact ⟨_, (Option.some.inj hf).symm, a28, c29, n30, h26_0, h26_3, rfl, (hs.mask [true]).pick [0]⟩
  refine W.block ?_
  refine W.seqK fun K33 hK33 => ?_
  refine W.region ?_
  refine WL.assign (v := .int .i64 0) rfl ?_
  refine WL.nil ?_
  refine hK33 _ _ ?_
  refine W.seqK fun K34 hK34 => ?_
  refine W.region ?_
  refine WL.assign (v := .int .i64 0) rfl ?_
  refine WL.nil ?_
  refine hK34 _ _ ?_
  refine W.block ?_
  obtain ⟨bs42, hbs42, hfs42⟩ := bindE hf
  refine W.loop hbs42 (fun s ρ w => match s with | (x36, x40, x41) => ∃ (a37 : Option Addr), ∃ (c38 : Nat), ∃ (n39 : Nat), ρ 0 = .slice a2 x1.length c3 ∧ ρ 3 = .slice a37 n39 c38 ∧ ρ 4 = .int .i64 x20 ∧ ρ 5 = .int .i64 x40 ∧ ρ 6 = .int .i64 x41 ∧ St ok (bz w0) w [vl (tSlice (tInt .i64)) x1 (.slice a2 x1.length c3)] [own t_api_Update 74 (.slice a37 n39 c38) x36]) ⟨a17, c18, n19, h15_0, h15_3, h15_4, rfl, rfl, (hs.mask [true]).pick [0]⟩ ?_
  intro s ρ w os42 hI hf hbbs42
  obtain ⟨x36, x40, x41⟩ := s
  obtain ⟨a37, c38, n39, h35_0, h35_3, h35_4, h35_5, h35_6, hs⟩ := hI
  unfold eslaw00_Updates.l1 at hf
  refine W.seqK fun K43 hK43 => ?_
  refine W.seqK fun K44 hK44 => ?_
  have Jk47 : ∀ (x46 : Bool) (ρ : Env) (w : World), ρ 0 = .slice a2 x1.length c3 → ρ 3 = .slice a37 n39 c38 → ρ 4 = .int .i64 x20 → ρ 5 = .int .i64 x40 → ρ 6 = .int .i64 x41 → ρ 18 = .bool x46 → St ok (bz w0) w [vl (tSlice (tInt .i64)) x1 (.slice a2 x1.length c3)] [own t_api_Update 74 (.slice a37 n39 c38) x36] → eslaw00_Updates.j5 x1 x20 x36 x40 x41 x46 = some os42 → K44 ρ w := by
    intro x46 ρ w h45_0 h45_3 h45_4 h45_5 h45_6 h45_18 hs hf
    refine hK44 _ _ ?_
    unfold eslaw00_Updates.j5 at hf
    rcases iteE hf with ⟨hc48, hf⟩ | ⟨hc48, hf⟩
    {
    refine W.cond_true (bool_tr h45_18 hc48) ?_
    refine W.skip ?_
    refine hK43 _ _ ?_
    refine W.seqK fun K49 hK49 => ?_
    have Jk56 : ∀ (x51 : List api_Update) (x55 : Int) (a52 : Option Addr) (c53 : Nat) (n54 : Nat) (ρ : Env) (w : World), ρ 0 = .slice a2 x1.length c3 → ρ 3 = .slice a52 n54 c53 → ρ 4 = .int .i64 x20 → ρ 5 = .int .i64 x55 → ρ 6 = .int .i64 x41 → St ok (bz w0) w [vl (tSlice (tInt .i64)) x1 (.slice a2 x1.length c3)] [own t_api_Update 74 (.slice a52 n54 c53) x51] → eslaw00_Updates.j3 x41 x51 x55 = some os42 → K49 ρ w := by
      intro x51 x55 a52 c53 n54 ρ w h50_0 h50_3 h50_4 h50_5 h50_6 hs hf
      refine hK49 _ _ ?_
      unfold eslaw00_Updates.j3 at hf
      refine W.region ?_
      refine WL.move (v := .int .i64 x41) h50_6 ?_
      obtain ⟨x57, ex57, hf⟩ := letE hf
      refine WL.bin (v := .int .i64 x57) rfl rfl (ib_as ex57 (ib_add _ _ _)) ?_
      refine WL.assign (v := .int .i64 x57) rfl ?_
      refine WL.nil ?_
      exact ⟨_, (Option.some.inj hf).symm, a52, c53, n54, h50_0, h50_3, h50_4, h50_5, rfl, (hs.mask [true]).pick [0]⟩
    refine W.block ?_
    refine W.seqK fun K58 hK58 => ?_
    have Jk61 : ∀ (x60 : Bool) (ρ : Env) (w : World), ρ 0 = .slice a2 x1.length c3 → ρ 3 = .slice a37 n39 c38 → ρ 4 = .int .i64 x20 → ρ 5 = .int .i64 x40 → ρ 6 = .int .i64 x41 → ρ 31 = .bool x60 → St ok (bz w0) w [vl (tSlice (tInt .i64)) x1 (.slice a2 x1.length c3)] [own t_api_Update 74 (.slice a37 n39 c38) x36] → eslaw00_Updates.j4 x1 x20 x36 x40 x41 x60 = some os42 → K58 ρ w := by
      intro x60 ρ w h59_0 h59_3 h59_4 h59_5 h59_6 h59_31 hs hf
      refine hK58 _ _ ?_
      unfold eslaw00_Updates.j4 at hf
      rcases iteE hf with ⟨hc62, hf⟩ | ⟨hc62, hf⟩
      {
      refine W.cond_true (bool_tr h59_31 hc62) ?_
      refine W.seqK fun K63 hK63 => ?_
      refine W.region ?_
      refine WL.move (v := .int .i64 x40) h59_5 ?_
      obtain ⟨x64, ex64, hf⟩ := letE hf
      refine WL.bin (v := .int .i64 x64) rfl rfl (ib_as ex64 (ib_add _ _ _)) ?_
      refine WL.assign (v := .int .i64 x64) rfl ?_
      refine WL.nil ?_
      refine hK63 _ _ ?_
      refine W.region ?_
      refine WL.move (v := .slice a37 n39 c38) h59_3 ?_
      refine WL.move (v := .int .i64 x20) h59_4 ?_
      obtain ⟨x65, ex65, hf⟩ := letE hf
      refine WL.bin (v := .int .i64 x65) rfl rfl (ib_as ex65 (ib_add _ _ _)) ?_
      refine WL.move (v := .int .i64 x64) rfl ?_
      refine WL.move (v := .slice a2 x1.length c3) h59_0 ?_
      refine WL.move (v := .int .i64 x41) h59_6 ?_
      obtain ⟨x66, hxx66, hf⟩ := bindE hf
      refine WL.indexAddr hs 0 rfl UN22 TI3 rfl rfl hxx66 (fun ad67 hs => ?_)
      refine WL.loadP hs 0 rfl TI3 (.inr rfl) rfl (fun v68 hs => ?_)
      obtain rfl := hs.int 0 rfl
      obtain ⟨x69, hxx69, hf⟩ := bindE hf
      refine WL.call (vs := [.int .i64 x66, .int .i64 1099511627776]) hs FN33 ⟨rfl, ⟨rfl, trivial⟩⟩ (fun ok hA => eslaw00_Index.calls (x1 := x66) (x2 := 1099511627776) hxx69) ?_
      rintro _ w hs
      obtain ⟨x70, ex70, hf⟩ := letE hf
      refine WL.bin (v := .int .i64 x70) rfl rfl (ib_as ex70 (ib_quo _ _ _ (by decide))) ?_
      obtain ⟨x71, hxx71, hf⟩ := bindE hf
      refine WL.call (vs := [.int .i64 x65, .int .i64 x64, .int .i64 x70]) hs FN32 ⟨rfl, ⟨rfl, ⟨rfl, trivial⟩⟩⟩ (fun ok hA => eslaw00_Update.calls (x1 := x65) (x2 := x64) (x3 := x70) hxx71) ?_
      rintro ⟨a72, n73, c74⟩ w hs
      refine WL.buildSlice (n := 1) (vs := [(0, .agg ([.int .i64 x71.Client, .int .i64 x71.Seq, .int .i64 x71.Tag, .slice a72 n73 c74] : List Value).toArray)]) (cs := [.int .i64 x71.Client, .int .i64 x71.Seq, .int .i64 x71.Tag, .slice a72 n73 c74]) hs ⟨⟨rfl, rfl⟩, trivial⟩ (bls PS28 (by decide) rfl) (fun g75 w hs => ?_)
      obtain rfl := hs.ownLen 1 rfl
      have hs := hs.freezeOwn 1 rfl
      obtain ⟨x76, hxx76, hf⟩ := bindE hf
      obtain ⟨hbx76, hex76⟩ := appE hxx76
      refine WL.append (ys := [(⟨x71.Client, x71.Seq, x71.Tag, x71.Effects⟩ : api_Update)]) (zs := x76) hs 1 rfl 0 rfl UN28 EI74 rfl rfl (fun ok hA => (Cells.one (T := t_api_Update) (show t_api_Update.R ok _ (⟨x71.Client, x71.Seq, x71.Tag, x71.Effects⟩ : api_Update) _ from ⟨[.int .i64 x71.Client], [.int .i64 x71.Seq, .int .i64 x71.Tag, .slice a72 (x71.Effects).length c74], rfl, rfl, ⟨[.int .i64 x71.Seq], [.int .i64 x71.Tag, .slice a72 (x71.Effects).length c74], rfl, rfl, ⟨[.int .i64 x71.Tag], [.slice a72 (x71.Effects).length c74], rfl, rfl, (R_one (hA.get 0 rfl))⟩⟩⟩))) hbx76 (by omega) hex76 (fun v77 w hs => ?_)
      obtain ⟨a78, n80, c79, rfl⟩ := hs.ownv3 1 rfl
      refine WL.assign (v := .slice a78 n80 c79) rfl ?_
      refine WL.nil ?_
      exact Jk56 x76 x64 a78 c79 n80 _ _ h59_0 rfl h59_4 rfl h59_6 ((hs.mask [false, true]).pick [3]) hf }
      {
      refine W.cond_false (bool_tr h59_31 hc62) ?_
      refine W.skip ?_
      exact Jk56 x36 x40 a37 c38 n39 _ _ h59_0 h59_3 h59_4 h59_5 h59_6 ((hs.mask [true]).pick [0]) hf }
    refine W.region ?_
    refine WL.move (v := .slice a2 x1.length c3) h45_0 ?_
    refine WL.move (v := .int .i64 x41) h45_6 ?_
    obtain ⟨x81, hxx81, hf⟩ := bindE hf
    refine WL.indexAddr hs 0 rfl UN22 TI3 rfl rfl hxx81 (fun ad82 hs => ?_)
    refine WL.loadP hs 0 rfl TI3 (.inr rfl) rfl (fun v83 hs => ?_)
    obtain rfl := hs.int 0 rfl
    obtain ⟨x84, hxx84, hf⟩ := bindE hf
    refine WL.call (vs := [.int .i64 x81, .int .i64 3, .int .i64 0]) hs FN31 ⟨rfl, ⟨rfl, ⟨rfl, trivial⟩⟩⟩ (fun ok hA => eslaw00_Digit.calls (x1 := x81) (x2 := 3) (x3 := 0) hxx84) ?_
    rintro _ w hs
    refine WL.move (v := .int .i64 x20) h45_4 ?_
    refine WL.bin (v := .bool (x84 == x20)) rfl rfl (ib_eql _ _ _) ?_
    refine WL.move (v := .bool (x84 == x20)) rfl ?_
    rcases iteE hf with ⟨hc85, hf⟩ | ⟨hc85, hf⟩
    {
    refine WL.move (v := .int .i64 x40) h45_5 ?_ (hg := (wanted_of rfl rfl (bool_tr rfl hc85)).trans rfl)
    refine WL.bin (v := .bool (decide (x40 < 8))) rfl rfl (ib_lss _ _ _) ?_ (hg := (wanted_of rfl rfl (bool_tr rfl hc85)).trans rfl)
    refine WL.pickT (v := .bool (decide (x40 < 8))) (bool_tr rfl hc85) rfl ?_
    refine WL.nil ?_
    exact Jk61 (decide (x40 < 8)) _ _ h45_0 h45_3 h45_4 h45_5 h45_6 rfl ((hs.mask [true]).pick [2]) hf }
    {
    refine WL.pass ((wanted_of rfl rfl (bool_tr rfl hc85)).trans rfl) rfl ?_
    refine WL.pass ((wanted_of rfl rfl (bool_tr rfl hc85)).trans rfl) rfl ?_
    refine WL.pickF (v := .bool false) (bool_tr rfl hc85) rfl ?_
    refine WL.nil ?_
    exact Jk61 false _ _ h45_0 h45_3 h45_4 h45_5 h45_6 rfl ((hs.mask [true]).pick [2]) hf } }
    {
    refine W.cond_false (bool_tr h45_18 hc48) ?_
    refine W.exit ?_
    have hr := Option.some.inj hf; subst hr
    have hr := hbbs42 _ rfl; subst hr
    have hf := hfs42
    exact Jk31 x36 a37 c38 n39 _ _ h45_0 h45_3 h45_4 ((hs.mask [true]).pick [0]) hf }
  refine W.region ?_
  refine WL.move (v := .int .i64 x41) h35_6 ?_
  refine WL.move (v := .slice a2 x1.length c3) h35_0 ?_
  refine WL.len (v := .slice a2 x1.length c3) rfl (len_slice UN22) ?_
  refine WL.bin (v := .bool (decide (x41 < (x1.length : Int)))) rfl rfl (ib_lss _ _ _) ?_
  refine WL.move (v := .bool (decide (x41 < (x1.length : Int)))) rfl ?_
  rcases iteE hf with ⟨hc86, hf⟩ | ⟨hc86, hf⟩
  {
  refine WL.move (v := .int .i64 x41) h35_6 ?_ (hg := (wanted_of rfl rfl (bool_tr rfl hc86)).trans rfl)
  refine WL.bin (v := .bool (decide (x41 < 24))) rfl rfl (ib_lss _ _ _) ?_ (hg := (wanted_of rfl rfl (bool_tr rfl hc86)).trans rfl)
  refine WL.pickT (v := .bool (decide (x41 < 24))) (bool_tr rfl hc86) rfl ?_
  refine WL.nil ?_
  exact Jk47 (decide (x41 < 24)) _ _ h35_0 h35_3 h35_4 h35_5 h35_6 rfl ((hs.mask [true]).pick [0]) hf }
  {
  refine WL.pass ((wanted_of rfl rfl (bool_tr rfl hc86)).trans rfl) rfl ?_
  refine WL.pass ((wanted_of rfl rfl (bool_tr rfl hc86)).trans rfl) rfl ?_
  refine WL.pickF (v := .bool false) (bool_tr rfl hc86) rfl ?_
  refine WL.nil ?_
  exact Jk47 false _ _ h35_0 h35_3 h35_4 h35_5 h35_6 rfl ((hs.mask [true]).pick [0]) hf } }
  {
  refine W.cond_false (bool_tr rfl hc24) ?_
  refine W.exit ?_
  have hr := Option.some.inj hf; subst hr
  have hr := hbbs21 _ rfl; subst hr
  have hf := hfs21
  exact Jk12 x16 a17 c18 n19 _ _ h15_3 ((hs.mask [true]).pick []) hf }
theorem eslaw00_Updates.callc {ok : Nat → Prop} {w0 : World} {x1 : List Int} {a2 : Option Addr} {c3 : Nat} {r : List api_Update} (hf : eslaw00_Updates x1 = some r) (i0 : (vl (tSlice (tInt .i64)) x1 (.slice a2 x1.length c3)).holds ok w0) :
    Calls Tryz.prog 10 #[.slice a2 x1.length c3] w0 fun e w' => ∃ v, e = .returned v ∧ ∃ y : (Option Addr × Nat), v = .slice y.1 r.length y.2 ∧ St ok (bz w0) w' [vl (tSlice t_api_Update) r (.slice y.1 r.length y.2)] [] := by
  refine (eslaw00_Updates.calls (ok := ok) (w0 := w0) (x1 := x1) hf i0).mono ?_
  rintro e w' ⟨v, rfl, ⟨a89, n90, c91⟩, rfl, hs⟩
  obtain rfl := hs.ownLen 0 rfl
  have hs := hs.freezeOwn 0 rfl
  exact ⟨_, rfl, (a89, c91), rfl, hs.pick [0]⟩
theorem eslaw32_convert.calls {ok : Nat → Prop} {w0 : World} {x1 : index_Key} {v2 : Value} {r : elasticstoreref32_Key} (hf : eslaw32_convert x1 = some r) (i0 : (vl t_index_Key x1 v2).holds ok w0) :
    Calls Tryz.prog 15 #[v2] w0 fun e w' => ∃ v, e = .returned v ∧ ∃ y : List Value, v = .agg y.toArray ∧ St ok (bz w0) w' [vl t_elasticstoreref32_Key r (.agg y.toArray)] [] := by
  unfold eslaw32_convert at hf
  refine calls_of_W (fn := Tryz.f15) (N := 10) Tryz.func15 rfl Tryz.ntmps15 rfl ?_
  have hs : St ok (bz w0) w0 [vl t_index_Key x1 v2] [] := St.init (All.cons i0 All.nil)
  clear i0
  obtain ⟨cs3, hl4, rfl⟩ := hs.aggv (n := 3) 0 rfl rfl rfl
  refine W.seqK fun K5 hK5 => ?_
  refine W.region ?_
  refine WL.box (vs := cs3) hs rfl rfl (fun g6 w hs => ?_)
  refine WL.alloc hs ZV45 (fun g7 w hs => ?_)
  refine WL.nil ?_
  refine hK5 _ _ ?_
  refine W.seqK fun K8 hK8 => ?_
  refine W.region ?_
  refine WL.fieldAddr (m := 0) rfl FA47_0 rfl ?_
  refine WL.loadF (z := x1.f_Type) F_index_Key_f_Type hs 1 rfl 0 rfl rfl TI3 (.inr rfl) rfl rfl (fun v9 hs => ?_)
  obtain rfl := hs.int 0 rfl
  refine WL.fieldAddr (m := 1) rfl FA47_1 rfl ?_
  refine WL.loadF (z := x1.N) F_index_Key_N hs 1 rfl 1 rfl rfl TI2 (.inr rfl) rfl rfl (fun v10 hs => ?_)
  obtain rfl := hs.int 0 rfl
  refine WL.fieldAddr (m := 2) rfl FA47_2 rfl ?_
  refine WL.loadF (z := x1.S) F_index_Key_S hs 1 rfl 2 rfl rfl TI9 (.inr rfl) rfl rfl (fun v11 hs => ?_)
  obtain rfl := hs.str 0 rfl
  refine WL.build (vs := [(0, .int .i64 x1.f_Type), (1, .int .i64 x1.N), (2, bstr x1.S)]) (cs := [.int .i64 x1.f_Type, .int .i64 x1.N, bstr x1.S]) ⟨⟨rfl, rfl⟩, ⟨⟨rfl, rfl⟩, ⟨⟨rfl, rfl⟩, trivial⟩⟩⟩ (bld PL45 rfl) ?_
  refine WL.storeAll (vs := [.int .i64 x1.f_Type, .int .i64 x1.N, bstr x1.S]) hs 0 rfl TI45 rfl rfl rfl rfl (ones_of rfl) rfl (fun w hs => ?_)
  refine WL.nil ?_
  refine hK8 _ _ ?_
  refine W.ret ?_
  have hr := Option.some.inj hf; subst hr
  have hs := hs.add (it := vl t_elasticstoreref32_Key (⟨x1.f_Type, x1.N, x1.S⟩ : elasticstoreref32_Key) (.agg [.int .i64 x1.f_Type, .int .i64 x1.N, bstr x1.S].toArray)) fun ok hA => V_agg (show t_elasticstoreref32_Key.R ok _ _ _ from ⟨[.int .i64 x1.f_Type], [.int .i64 x1.N, bstr x1.S], rfl, rfl, ⟨[.int .i64 x1.N], [bstr x1.S], rfl, rfl, rfl⟩⟩) rfl
  exact ⟨_, resOk_one rfl (res_all hs 0 rfl TI45 rfl rfl), [.int .i64 x1.f_Type, .int .i64 x1.N, bstr x1.S], rfl, (hs.mask []).pick [0]⟩
theorem eslaw32_entries.calls {ok : Nat → Prop} {w0 : World} {x1 : List index_Entry} {a2 : Option Addr} {c3 : Nat} {r : List elasticstoreref32_Entry} (hf : eslaw32_entries x1 = some r) (i0 : (vl (tSlice t_index_Entry) x1 (.slice a2 x1.length c3)).holds ok w0) :
    Calls Tryz.prog 19 #[.slice a2 x1.length c3] w0 fun e w' => ∃ v, e = .returned v ∧ ∃ y : (Option Addr × Nat × Nat), v = .slice y.1 y.2.1 y.2.2 ∧ St ok (bz w0) w' [] [own t_elasticstoreref32_Entry 92 (.slice y.1 y.2.1 y.2.2) r] := by
  unfold eslaw32_entries at hf
  refine calls_of_W (fn := Tryz.f19) (N := 27) Tryz.func19 rfl Tryz.ntmps19 rfl ?_
  have hs : St ok (bz w0) w0 [vl (tSlice t_index_Entry) x1 (.slice a2 x1.length c3)] [] := St.init (All.cons i0 All.nil)
  clear i0
  refine W.seqK fun K4 hK4 => ?_
  refine W.region ?_
  refine WL.assign (v := .slice none 0 0) rfl ?_
  refine WL.nil ?_
  refine hK4 _ _ ?_
  refine W.seqK fun K5 hK5 => ?_
  refine W.region ?_
  refine WL.assign (v := .slice none 0 0) rfl ?_
  refine WL.nil ?_
  refine hK5 _ _ ?_
  refine W.seqK fun K6 hK6 => ?_
  have hs := hs.ownNil t_elasticstoreref32_Entry 92
  have Jk12 : ∀ (x8 : List elasticstoreref32_Entry) (a9 : Option Addr) (c10 : Nat) (n11 : Nat) (ρ : Env) (w : World), ρ 3 = .slice a9 n11 c10 → St ok (bz w0) w [] [own t_elasticstoreref32_Entry 92 (.slice a9 n11 c10) x8] → eslaw32_entries.j1 x8 = some r → K6 ρ w := by
    intro x8 a9 c10 n11 ρ w h7_3 hs hf
    refine hK6 _ _ ?_
    unfold eslaw32_entries.j1 at hf
    refine W.seqK fun K13 hK13 => ?_
    refine W.region ?_
    refine WL.move (v := .slice a9 n11 c10) h7_3 ?_
    refine WL.assign (v := .slice a9 n11 c10) rfl ?_
    refine WL.nil ?_
    refine hK13 _ _ ?_
    refine W.ret ?_
    have hr := Option.some.inj hf; subst hr
    exact ⟨_, resOk_one rfl rfl, (a9, n11, c10), rfl, (hs.mask [true]).pick []⟩
  refine W.seqK fun K14 hK14 => ?_
  refine W.region ?_
  refine WL.assign (v := .int .i64 0) rfl ?_
  refine WL.nil ?_
  refine hK14 _ _ ?_
  refine W.block ?_
  obtain ⟨bs21, hbs21, hfs21⟩ := bindE hf
  refine W.loop hbs21 (fun s ρ w => match s with | (x16, x20) => ∃ (a17 : Option Addr), ∃ (c18 : Nat), ∃ (n19 : Nat), ρ 0 = .slice a2 x1.length c3 ∧ ρ 3 = .slice a17 n19 c18 ∧ ρ 4 = .int .i64 x20 ∧ St ok (bz w0) w [vl (tSlice t_index_Entry) x1 (.slice a2 x1.length c3)] [own t_elasticstoreref32_Entry 92 (.slice a17 n19 c18) x16]) ⟨none, 0, 0, rfl, rfl, rfl, (hs.mask [true]).pick [0]⟩ ?_
  intro s ρ w os21 hI hf hbbs21
  obtain ⟨x16, x20⟩ := s
  obtain ⟨a17, c18, n19, h15_0, h15_3, h15_4, hs⟩ := hI
  unfold eslaw32_entries.l1 at hf
  refine W.seqK fun K22 hK22 => ?_
  refine W.seqK fun K23 hK23 => ?_
  refine W.region ?_
  refine WL.move (v := .int .i64 x20) h15_4 ?_
  refine WL.move (v := .slice a2 x1.length c3) h15_0 ?_
  refine WL.len (v := .slice a2 x1.length c3) rfl (len_slice UN33) ?_
  refine WL.bin (v := .bool (decide (x20 < (x1.length : Int)))) rfl rfl (ib_lss _ _ _) ?_
  refine WL.nil ?_
  refine hK23 _ _ ?_
  rcases iteE hf with ⟨hc24, hf⟩ | ⟨hc24, hf⟩
  {
  refine W.cond_true (bool_tr rfl hc24) ?_
  refine W.skip ?_
  refine hK22 _ _ ?_
  refine W.seqK fun K25 hK25 => ?_
  refine W.block ?_
  obtain ⟨x26, hxx26, hf⟩ := bindE hf
  obtain ⟨x32, hxx32, hf⟩ := bindE hf
  obtain ⟨x35, hxx35, hf⟩ := bindE hf
  refine W.any (by kernel_rfl) 14 2 [true, true, true, true, true, true, true, true, true, true, true, true, true, true, false, false] rfl rfl (poAt [pv (.slice a17 n19 c18), pv (.slice a2 x1.length c3), pv (.int .i64 x20), pq (fun y : Addr => .pointer (some y)) (fun v => [pl t_index_Entry x26 (adOf v)]) (fun v => []), pq (fun y : Addr => .pointer (some y)) (fun v => [pl t_index_Key x26.Key (adOf v)]) (fun v => []), pq (fun y : List Value => .agg y.toArray) (fun v => [vl t_index_Key x26.Key v]) (fun v => []), pq (fun y : List Value => .agg y.toArray) (fun v => [vl t_elasticstoreref32_Key x32 v]) (fun v => []), pv (.slice a2 x1.length c3), pv (.int .i64 x20), pq (fun y : Addr => .pointer (some y)) (fun v => [pl t_index_Entry x35 (adOf v)]) (fun v => []), pq (fun y : Addr => .pointer (some y)) (fun v => [pl (tSlice tStr) x35.Objects (adOf v)]) (fun v => []), pq (fun y : (Option Addr × Nat) => .slice y.1 (x35.Objects).length y.2) (fun v => [vl (tSlice tStr) x35.Objects v]) (fun v => []), pn [6, 11] (fun r => .agg (cellsOf (r.getD 0 undef) ++ [r.getD 1 undef] : List Value).toArray), pq (fun y : (Option Addr × Nat) => .slice y.1 ([(⟨x32, x35.Objects⟩ : elasticstoreref32_Entry)]).length y.2) (fun v => [vl (tSlice t_elasticstoreref32_Entry) [(⟨x32, x35.Objects⟩ : elasticstoreref32_Entry)] v]) (fun v => [])]) (Λ := [own t_elasticstoreref32_Entry 92 (.slice a17 n19 c18) x16]) hs (by kernel_rfl) (by kernel_rfl) (by kernel_rfl) ⟨⟨⟨⟨⟨⟨⟨⟨⟨⟨⟨⟨⟨⟨trivial, ?_⟩, ?_⟩, ?_⟩, ?_⟩, ?_⟩, ?_⟩, ?_⟩, ?_⟩, ?_⟩, ?_⟩, ?_⟩, ?_⟩, ?_⟩, ?_⟩ ?_
  {
  intro ρ w Γx Λx hs hu hp
  refine WL.move (v := .slice a17 n19 c18) ((hu 3 rfl).trans h15_3) ?_
  exact WL.nil ⟨rfl, _, rfl, rfl, hs.cutG 0 0⟩ }
  {
  intro ρ w Γx Λx hs hu hp
  refine WL.move (v := .slice a2 x1.length c3) ((hu 0 rfl).trans h15_0) ?_
  exact WL.nil ⟨rfl, _, rfl, rfl, hs.cutG 0 0⟩ }
  {
  intro ρ w Γx Λx hs hu hp
  refine WL.move (v := .int .i64 x20) ((hu 4 rfl).trans h15_4) ?_
  exact WL.nil ⟨rfl, _, rfl, rfl, hs.cutG 0 0⟩ }
  {
  intro ρ w Γx Λx hs hu hp
  have e43 : ρ 12 = .slice a2 x1.length c3 := (hp 1 rfl).1
  have e44 : ρ 13 = .int .i64 x20 := (hp 2 rfl).1
  refine WL.indexAddr hs (Γx.length + 0) (getApp rfl) UN33 TI65 e43 e44 hxx26 (fun ad27 hs => ?_)
  have hs := hs.add (it := pl t_index_Entry x26 ad27) fun ok hA => hA.get 0 rfl
  exact WL.nil ⟨rfl, _, rfl, ⟨ad27, rfl⟩, hs.cutG 1 1⟩ }
  {
  intro ρ w Γx Λx hs hu hp
  obtain ⟨⟨ad45, e46r⟩, hm47⟩ := hp 3 rfl
  have e46 : ρ 14 = .pointer (some ad45) := e46r
  rw [e46r] at hm47
  have hs := hs.memo1 (it := pl t_index_Entry x26 ad45) (List.mem_append.2 (.inl (hm47 _ (List.mem_of_getElem? (i := 0) rfl))))
  refine WL.fieldAddrP (z := x26.Key) F_index_Entry_Key hs 0 rfl e46 FA65_0 rfl (fun ad28 hs => ?_)
  have hs := hs.add (it := pl t_index_Key x26.Key ad28) fun ok hA => hA.get 0 rfl
  exact WL.nil ⟨rfl, _, rfl, ⟨ad28, rfl⟩, hs.cutG 1 2⟩ }
  {
  intro ρ w Γx Λx hs hu hp
  obtain ⟨⟨ad48, e49r⟩, hm50⟩ := hp 4 rfl
  have e49 : ρ 15 = .pointer (some ad48) := e49r
  rw [e49r] at hm50
  have hs := hs.memo1 (it := pl t_index_Key x26.Key ad48) (List.mem_append.2 (.inl (hm50 _ (List.mem_of_getElem? (i := 0) rfl))))
  refine WL.loadP hs 0 rfl TI47 (.inl rfl) e49 (fun v29 hs => ?_)
  obtain ⟨cs30, hl31, rfl⟩ := hs.aggv (n := 3) 0 rfl rfl rfl
  have hs := hs.add (it := vl t_index_Key x26.Key (.agg cs30.toArray)) fun ok hA => hA.get 0 rfl
  exact WL.nil ⟨rfl, _, rfl, ⟨cs30, rfl⟩, hs.cutG 1 2⟩ }
  {
  intro ρ w Γx Λx hs hu hp
  obtain ⟨⟨cs51, e53r⟩, hm54⟩ := hp 5 rfl
  have e53 : ρ 16 = .agg cs51.toArray := e53r
  rw [e53r] at hm54
  have hs := hs.memo1 (it := vl t_index_Key x26.Key (.agg cs51.toArray)) (List.mem_append.2 (.inl (hm54 _ (List.mem_of_getElem? (i := 0) rfl))))
  have hl52 := hs.agglen (n := 3) 0 rfl rfl rfl
  refine WL.call (vs := [.agg cs51.toArray]) hs FN15 ⟨e53, trivial⟩ (fun ok hA => eslaw32_convert.calls (x1 := x26.Key) hxx32 (hA.get 0 rfl)) ?_
  rintro cs33 w hs
  have hl34 := hs.agglen (n := 3) 0 rfl rfl rfl
  have hs := hs.add (it := vl t_elasticstoreref32_Key x32 (.agg cs33.toArray)) fun ok hA => hA.get 0 rfl
  exact WL.nil ⟨rfl, _, rfl, ⟨cs33, rfl⟩, hs.cutG 1 2⟩ }
  {
  intro ρ w Γx Λx hs hu hp
  refine WL.move (v := .slice a2 x1.length c3) ((hu 0 rfl).trans h15_0) ?_
  exact WL.nil ⟨rfl, _, rfl, rfl, hs.cutG 0 0⟩ }
  {
  intro ρ w Γx Λx hs hu hp
  refine WL.move (v := .int .i64 x20) ((hu 4 rfl).trans h15_4) ?_
  exact WL.nil ⟨rfl, _, rfl, rfl, hs.cutG 0 0⟩ }
  {
  intro ρ w Γx Λx hs hu hp
  have e55 : ρ 18 = .slice a2 x1.length c3 := (hp 7 rfl).1
  have e56 : ρ 19 = .int .i64 x20 := (hp 8 rfl).1
  refine WL.indexAddr hs (Γx.length + 0) (getApp rfl) UN33 TI65 e55 e56 hxx35 (fun ad36 hs => ?_)
  have hs := hs.add (it := pl t_index_Entry x35 ad36) fun ok hA => hA.get 0 rfl
  exact WL.nil ⟨rfl, _, rfl, ⟨ad36, rfl⟩, hs.cutG 1 1⟩ }
  {
  intro ρ w Γx Λx hs hu hp
  obtain ⟨⟨ad57, e58r⟩, hm59⟩ := hp 9 rfl
  have e58 : ρ 20 = .pointer (some ad57) := e58r
  rw [e58r] at hm59
  have hs := hs.memo1 (it := pl t_index_Entry x35 ad57) (List.mem_append.2 (.inl (hm59 _ (List.mem_of_getElem? (i := 0) rfl))))
  refine WL.fieldAddrP (z := x35.Objects) F_index_Entry_Objects hs 0 rfl e58 FA65_1 rfl (fun ad37 hs => ?_)
  have hs := hs.add (it := pl (tSlice tStr) x35.Objects ad37) fun ok hA => hA.get 0 rfl
  exact WL.nil ⟨rfl, _, rfl, ⟨ad37, rfl⟩, hs.cutG 1 2⟩ }
  {
  intro ρ w Γx Λx hs hu hp
  obtain ⟨⟨ad60, e61r⟩, hm62⟩ := hp 10 rfl
  have e61 : ρ 21 = .pointer (some ad60) := e61r
  rw [e61r] at hm62
  have hs := hs.memo1 (it := pl (tSlice tStr) x35.Objects ad60) (List.mem_append.2 (.inl (hm62 _ (List.mem_of_getElem? (i := 0) rfl))))
  refine WL.loadP hs 0 rfl TI56 (.inr rfl) e61 (fun v38 hs => ?_)
  obtain ⟨a39, c40, rfl⟩ := hs.slice 0 rfl
  have hs := hs.add (it := vl (tSlice tStr) x35.Objects (.slice a39 (x35.Objects).length c40)) fun ok hA => hA.get 0 rfl
  exact WL.nil ⟨rfl, _, rfl, ⟨(a39, c40), rfl⟩, hs.cutG 1 2⟩ }
  {
  intro ρ w Γx Λx hs hu hp
  obtain ⟨⟨cs63, e65r⟩, hm66⟩ := hp 6 rfl
  have e65 : ρ 17 = .agg cs63.toArray := e65r
  rw [e65r] at hm66
  have hs := hs.memo1 (it := vl t_elasticstoreref32_Key x32 (.agg cs63.toArray)) (List.mem_append.2 (.inl (hm66 _ (List.mem_of_getElem? (i := 0) rfl))))
  have hl64 := hs.agglen (n := 3) 0 rfl rfl rfl
  obtain ⟨⟨⟨a67, c68⟩, e69r⟩, hm70⟩ := hp 11 rfl
  have e69 : ρ 22 = .slice a67 (x35.Objects).length c68 := e69r
  rw [e69r] at hm70
  have hs := hs.memo1 (it := vl (tSlice tStr) x35.Objects (.slice a67 (x35.Objects).length c68)) (List.mem_cons_of_mem _ (List.mem_append.2 (.inl (hm70 _ (List.mem_of_getElem? (i := 0) rfl)))))
  refine WL.build (vs := [(0, .agg cs63.toArray), (1, .slice a67 (x35.Objects).length c68)]) (cs := cs63 ++ ([.slice a67 (x35.Objects).length c68] : List Value)) ⟨⟨rfl, e65⟩, ⟨⟨rfl, e69⟩, trivial⟩⟩ (bld PL92 (by simp [fillL, Value.cells, hl64])) ?_
  exact WL.nil ⟨rfl, _, rfl, (show (.agg (cs63 ++ ([.slice a67 (x35.Objects).length c68] : List Value) : List Value).toArray : Value) = (.agg (cellsOf (ρ 17) ++ [ρ 22] : List Value).toArray : Value) by rw [e65, e69]; rfl), hs.cutG 0 2⟩ }
  {
  intro ρ w Γx Λx hs hu hp
  obtain ⟨⟨cs71, e73r⟩, hm74⟩ := hp 6 rfl
  have e73 : ρ 17 = .agg cs71.toArray := e73r
  rw [e73r] at hm74
  have hs := hs.memo1 (it := vl t_elasticstoreref32_Key x32 (.agg cs71.toArray)) (List.mem_append.2 (.inl (hm74 _ (List.mem_of_getElem? (i := 0) rfl))))
  have hl72 := hs.agglen (n := 3) 0 rfl rfl rfl
  obtain ⟨⟨⟨a75, c76⟩, e77r⟩, hm78⟩ := hp 11 rfl
  have e77 : ρ 22 = .slice a75 (x35.Objects).length c76 := e77r
  rw [e77r] at hm78
  have hs := hs.memo1 (it := vl (tSlice tStr) x35.Objects (.slice a75 (x35.Objects).length c76)) (List.mem_cons_of_mem _ (List.mem_append.2 (.inl (hm78 _ (List.mem_of_getElem? (i := 0) rfl)))))
  have e79 : ρ 23 = .agg (cellsOf (ρ 17) ++ [ρ 22] : List Value).toArray := (hp 12 rfl).1
  rw [e73, e77] at e79
  simp only [cellsOf] at e79
  refine WL.buildSliceB (ys := [(⟨x32, x35.Objects⟩ : elasticstoreref32_Entry)]) (n := 1) (vs := [(0, .agg (cs71 ++ ([.slice a75 (x35.Objects).length c76] : List Value) : List Value).toArray)]) (cs := cs71 ++ ([.slice a75 (x35.Objects).length c76] : List Value)) hs ⟨⟨rfl, e79⟩, trivial⟩ (bls PS49 (by decide) (by simp [fillS, fillL, Value.cells, hl72])) (fun ok hA => (Cells.one (T := t_elasticstoreref32_Entry) (show t_elasticstoreref32_Entry.R ok _ (⟨x32, x35.Objects⟩ : elasticstoreref32_Entry) _ from ⟨cs71, [.slice a75 (x35.Objects).length c76], by simp, (R_agg (hA.get 1 rfl) rfl), (R_one (hA.get 0 rfl))⟩))) rfl (by decide) (fun a42 w hBl hs => ?_)
  have hs := hs.add (it := vl (tSlice t_elasticstoreref32_Entry) [(⟨x32, x35.Objects⟩ : elasticstoreref32_Entry)] (.slice a42 ([(⟨x32, x35.Objects⟩ : elasticstoreref32_Entry)]).length 1)) fun ok hA => hA.get 0 rfl
  exact WL.nil ⟨rfl, _, rfl, ⟨(a42, 1), rfl⟩, hs.cutG 1 3⟩ }
  {
  intro ρ w hs hu80 hp
  obtain ⟨⟨⟨⟨⟨⟨⟨⟨⟨⟨⟨⟨⟨⟨_, hp0_⟩, hp1_⟩, hp2_⟩, hp3_⟩, hp4_⟩, hp5_⟩, hp6_⟩, hp7_⟩, hp8_⟩, hp9_⟩, hp10_⟩, hp11_⟩, hp12_⟩, hp13_⟩ := hp
  have hs : St ok (bz w0) w [vl (tSlice t_elasticstoreref32_Entry) [(⟨x32, x35.Objects⟩ : elasticstoreref32_Entry)] (ρ 24), vl (tSlice tStr) x35.Objects (ρ 22), pl (tSlice tStr) x35.Objects (adOf (ρ 21)), pl t_index_Entry x35 (adOf (ρ 20)), vl t_elasticstoreref32_Key x32 (ρ 17), vl t_index_Key x26.Key (ρ 16), pl t_index_Key x26.Key (adOf (ρ 15)), pl t_index_Entry x26 (adOf (ρ 14)), vl (tSlice t_index_Entry) x1 (.slice a2 x1.length c3)] [own t_elasticstoreref32_Entry 92 (.slice a17 n19 c18) x16] := hs
  obtain ⟨⟨a81, c82⟩, e83⟩ := hp13_
  have e83 : ρ 24 = .slice a81 ([(⟨x32, x35.Objects⟩ : elasticstoreref32_Entry)]).length c82 := e83
  try rw [e83] at hs
  obtain ⟨⟨a84, c85⟩, e86⟩ := hp11_
  have e86 : ρ 22 = .slice a84 (x35.Objects).length c85 := e86
  try rw [e86] at hs
  obtain ⟨ad87, e88⟩ := hp10_
  have e88 : ρ 21 = .pointer (some ad87) := e88
  try rw [e88] at hs
  obtain ⟨ad89, e90⟩ := hp9_
  have e90 : ρ 20 = .pointer (some ad89) := e90
  try rw [e90] at hs
  have e91 : ρ 19 = .int .i64 x20 := hp8_
  have e92 : ρ 18 = .slice a2 x1.length c3 := hp7_
  obtain ⟨cs93, e95⟩ := hp6_
  have e95 : ρ 17 = .agg cs93.toArray := e95
  try rw [e95] at hs
  obtain ⟨cs96, e98⟩ := hp5_
  have e98 : ρ 16 = .agg cs96.toArray := e98
  try rw [e98] at hs
  obtain ⟨ad99, e100⟩ := hp4_
  have e100 : ρ 15 = .pointer (some ad99) := e100
  try rw [e100] at hs
  obtain ⟨ad101, e102⟩ := hp3_
  have e102 : ρ 14 = .pointer (some ad101) := e102
  try rw [e102] at hs
  have e103 : ρ 13 = .int .i64 x20 := hp2_
  have e104 : ρ 12 = .slice a2 x1.length c3 := hp1_
  have e105 : ρ 11 = .slice a17 n19 c18 := hp0_
  have e106 : ρ 23 = .agg (cellsOf (ρ 17) ++ [ρ 22] : List Value).toArray := hp12_
  rw [e95, e86] at e106
  simp only [cellsOf] at e106
  have hl97 := hs.agglen (n := 3) 5 rfl rfl rfl
  have hl94 := hs.agglen (n := 3) 4 rfl rfl rfl
  refine WA.step [14] (by kernel_rfl) (by simp) ⟨?_, trivial⟩
  obtain ⟨x107, hxx107, hf⟩ := bindE hf
  obtain ⟨hbx107, hex107⟩ := appE hxx107
  refine WL.appendS (zs := x107) hs 0 rfl 0 rfl UN49 UN49 EI92 e105 e83 hbx107 (by omega) hex107 (fun v108 w hs => ?_)
  obtain ⟨a109, n111, c110, rfl⟩ := hs.ownv3 0 rfl
  refine WL.nil ⟨rfl, _, rfl, ?_⟩
  refine WA.step [15] (by kernel_rfl) (by simp) ⟨?_, trivial⟩
  refine WL.assign (v := .slice a109 n111 c110) rfl ?_
  refine WL.nil ⟨rfl, _, rfl, ?_⟩
  refine WA.done (by kernel_rfl) ?_
  refine hK25 _ _ ?_
  refine W.region ?_
  refine WL.move (v := .int .i64 x20) ((hu80 4 rfl).trans h15_4) ?_
  obtain ⟨x112, ex112, hf⟩ := letE hf
  refine WL.bin (v := .int .i64 x112) rfl rfl (ib_as ex112 (ib_add _ _ _)) ?_
  refine WL.assign (v := .int .i64 x112) rfl ?_
  refine WL.nil ?_
  exact ⟨_, (Option.some.inj hf).symm, a109, c110, n111, ((hu80 0 rfl).trans h15_0), rfl, rfl, (hs.mask [true]).pick [8]⟩ } }
  {
  refine W.cond_false (bool_tr rfl hc24) ?_
  refine W.exit ?_
  have hr := Option.some.inj hf; subst hr
  have hr := hbbs21 _ rfl; subst hr
  have hf := hfs21
  exact Jk12 x16 a17 c18 n19 _ _ h15_3 ((hs.mask [true]).pick []) hf }
theorem eslaw32_entries.callc {ok : Nat → Prop} {w0 : World} {x1 : List index_Entry} {a2 : Option Addr} {c3 : Nat} {r : List elasticstoreref32_Entry} (hf : eslaw32_entries x1 = some r) (i0 : (vl (tSlice t_index_Entry) x1 (.slice a2 x1.length c3)).holds ok w0) :
    Calls Tryz.prog 19 #[.slice a2 x1.length c3] w0 fun e w' => ∃ v, e = .returned v ∧ ∃ y : (Option Addr × Nat), v = .slice y.1 r.length y.2 ∧ St ok (bz w0) w' [vl (tSlice t_elasticstoreref32_Entry) r (.slice y.1 r.length y.2)] [] := by
  refine (eslaw32_entries.calls (ok := ok) (w0 := w0) (x1 := x1) hf i0).mono ?_
  rintro e w' ⟨v, rfl, ⟨a114, n115, c116⟩, rfl, hs⟩
  obtain rfl := hs.ownLen 0 rfl
  have hs := hs.freezeOwn 0 rfl
  exact ⟨_, rfl, (a114, c116), rfl, hs.pick [0]⟩
end Go.Proofs.YtpfgdjfiimknlaaGreat
set_option linter.unusedVariables false
set_option linter.unusedSimpArgs false
namespace Go.Proofs.YtpfgdjfiimknlaaGreat
open Go Go.RowKit Go.Proofs.YtpfgdjfiimknlaaGreatL
set_option maxRecDepth 100000
set_option maxHeartbeats 4000000
theorem esref32_Has.calls {ok : Nat → Prop} {w0 : World} {x1 : List (List UInt8)} {x4 : List UInt8} {a2 : Option Addr} {c3 : Nat} {r : Bool} (hf : esref32_Has x1 x4 = some r) (i0 : (vl (tSlice tStr) x1 (.slice a2 x1.length c3)).holds ok w0) :
    Calls Tryz.prog 25 #[.slice a2 x1.length c3, bstr x4] w0 fun e w' => ∃ v, e = .returned v ∧ ∃ y : Unit, v = .bool r ∧ St ok (bz w0) w' [] [] := by
  unfold esref32_Has at hf
  refine calls_of_W (fn := Tryz.f25) (N := 18) Tryz.func25 rfl Tryz.ntmps25 rfl ?_
  have hs : St ok (bz w0) w0 [vl (tSlice tStr) x1 (.slice a2 x1.length c3)] [] := St.init (All.cons i0 All.nil)
  clear i0
  refine W.seqK fun K5 hK5 => ?_
  refine W.region ?_
  refine WL.assign (v := .bool false) rfl ?_
  refine WL.nil ?_
  refine hK5 _ _ ?_
  refine W.seqK fun K6 hK6 => ?_
  have Jk8 : ∀  (ρ : Env) (w : World), St ok (bz w0) w [] [] → esref32_Has.j1 = some r → K6 ρ w := by
    intro  ρ w  hs hf
    refine hK6 _ _ ?_
    unfold esref32_Has.j1 at hf
    refine W.seqK fun K9 hK9 => ?_
    refine W.region ?_
    refine WL.assign (v := .bool false) rfl ?_
    refine WL.nil ?_
    refine hK9 _ _ ?_
    refine W.ret ?_
    have hr := Option.some.inj hf; subst hr
    exact ⟨_, resOk_one rfl rfl, (), rfl, (hs.mask []).pick []⟩
  refine W.seqK fun K10 hK10 => ?_
  refine W.region ?_
  refine WL.assign (v := .int .i64 0) rfl ?_
  refine WL.nil ?_
  refine hK10 _ _ ?_
  refine W.block ?_
  obtain ⟨bs13, hbs13, hfs13⟩ := bindE hf
  refine W.loop hbs13 (fun s ρ w => match s with | x12 => ρ 0 = .slice a2 x1.length c3 ∧ ρ 1 = bstr x4 ∧ ρ 5 = .int .i64 x12 ∧ St ok (bz w0) w [vl (tSlice tStr) x1 (.slice a2 x1.length c3)] []) ⟨rfl, rfl, rfl, (hs.mask []).pick [0]⟩ ?_
  intro x12 ρ w os13 hI hf hbbs13
  obtain ⟨h11_0, h11_1, h11_5, hs⟩ := hI
  unfold esref32_Has.l1 at hf
  refine W.seqK fun K14 hK14 => ?_
  refine W.seqK fun K15 hK15 => ?_
  refine W.region ?_
  refine WL.move (v := .int .i64 x12) h11_5 ?_
  refine WL.move (v := .slice a2 x1.length c3) h11_0 ?_
  refine WL.len (v := .slice a2 x1.length c3) rfl (len_slice UN56) ?_
  refine WL.bin (v := .bool (decide (x12 < (x1.length : Int)))) rfl rfl (ib_lss _ _ _) ?_
  refine WL.nil ?_
  refine hK15 _ _ ?_
  rcases iteE hf with ⟨hc16, hf⟩ | ⟨hc16, hf⟩
  {
  refine W.cond_true (bool_tr rfl hc16) ?_
  refine W.skip ?_
  refine hK14 _ _ ?_
  refine W.seqK fun K17 hK17 => ?_
  refine W.block ?_
  refine W.seqK fun K18 hK18 => ?_
  refine W.region ?_
  refine WL.move (v := .slice a2 x1.length c3) h11_0 ?_
  refine WL.move (v := .int .i64 x12) h11_5 ?_
  obtain ⟨x19, hxx19, hf⟩ := bindE hf
  refine WL.indexAddr hs 0 rfl UN56 TI9 rfl rfl hxx19 (fun ad20 hs => ?_)
  refine WL.loadP hs 0 rfl TI9 (.inr rfl) rfl (fun v21 hs => ?_)
  obtain rfl := hs.str 0 rfl
  refine WL.move (v := bstr x4) h11_1 ?_
  refine WL.binS (v := .bool (x19 == x4)) rfl rfl (sb_eql _ _) ?_
  refine WL.nil ?_
  refine hK18 _ _ ?_
  rcases iteE hf with ⟨hc22, hf⟩ | ⟨hc22, hf⟩
  {
  refine W.cond_true (bool_tr rfl hc22) ?_
  refine W.seqK fun K23 hK23 => ?_
  refine W.region ?_
  refine WL.assign (v := .bool true) rfl ?_
  refine WL.nil ?_
  refine hK23 _ _ ?_
  refine W.ret ?_
  have hr := Option.some.inj hf; subst hr
  have hr := hbbs13 _ rfl; subst hr
  have hf := hfs13
  have hr := Option.some.inj hf; subst hr
  exact ⟨_, resOk_one rfl rfl, (), rfl, (hs.mask []).pick []⟩ }
  {
  refine W.cond_false (bool_tr rfl hc22) ?_
  refine W.skip ?_
  refine hK17 _ _ ?_
  refine W.region ?_
  refine WL.move (v := .int .i64 x12) h11_5 ?_
  obtain ⟨x24, ex24, hf⟩ := letE hf
  refine WL.bin (v := .int .i64 x24) rfl rfl (ib_as ex24 (ib_add _ _ _)) ?_
  refine WL.assign (v := .int .i64 x24) rfl ?_
  refine WL.nil ?_
  exact ⟨_, (Option.some.inj hf).symm, h11_0, h11_1, rfl, (hs.mask []).pick [2]⟩ } }
  {
  refine W.cond_false (bool_tr rfl hc16) ?_
  refine W.exit ?_
  have hr := Option.some.inj hf; subst hr
  have hr := hbbs13 _ rfl; subst hr
  have hf := hfs13
  exact Jk8  _ _  ((hs.mask []).pick []) hf }
end Go.Proofs.YtpfgdjfiimknlaaGreat
set_option linter.unusedVariables false
set_option linter.unusedSimpArgs false
namespace Go.Proofs.YtpfgdjfiimknlaaGreat
open Go Go.RowKit Go.Proofs.YtpfgdjfiimknlaaGreatL
set_option maxRecDepth 100000
set_option maxHeartbeats 4000000
theorem eslaw00_Some.calls {ok : Nat → Prop} {w0 : World} {x1 : List api_Update} {x4 : Int} {a2 : Option Addr} {c3 : Nat} {r : List api_Update} (hf : eslaw00_Some x1 x4 = some r) (i0 : (vl (tSlice t_api_Update) x1 (.slice a2 x1.length c3)).holds ok w0) :
    Calls Tryz.prog 26 #[.slice a2 x1.length c3, .int .i64 x4] w0 fun e w' => ∃ v, e = .returned v ∧ ∃ y : (Option Addr × Nat × Nat), v = .slice y.1 y.2.1 y.2.2 ∧ St ok (bz w0) w' [] [own t_api_Update 74 (.slice y.1 y.2.1 y.2.2) r] := by
  unfold eslaw00_Some at hf
  refine calls_of_W (fn := Tryz.f26) (N := 35) Tryz.func26 rfl Tryz.ntmps26 rfl ?_
  have hs : St ok (bz w0) w0 [vl (tSlice t_api_Update) x1 (.slice a2 x1.length c3)] [] := St.init (All.cons i0 All.nil)
  clear i0
  refine W.seqK fun K5 hK5 => ?_
  refine W.region ?_
  refine WL.assign (v := .slice none 0 0) rfl ?_
  refine WL.nil ?_
  refine hK5 _ _ ?_
  refine W.seqK fun K6 hK6 => ?_
  refine W.region ?_
  refine WL.assign (v := .slice none 0 0) rfl ?_
  refine WL.nil ?_
  refine hK6 _ _ ?_
  refine W.seqK fun K7 hK7 => ?_
  have hs := hs.ownNil t_api_Update 74
  have Jk13 : ∀ (x9 : List api_Update) (a10 : Option Addr) (c11 : Nat) (n12 : Nat) (ρ : Env) (w : World), ρ 5 = .slice a10 n12 c11 → St ok (bz w0) w [] [own t_api_Update 74 (.slice a10 n12 c11) x9] → eslaw00_Some.j1 x9 = some r → K7 ρ w := by
    intro x9 a10 c11 n12 ρ w h8_5 hs hf
    refine hK7 _ _ ?_
    unfold eslaw00_Some.j1 at hf
    refine W.seqK fun K14 hK14 => ?_
    refine W.region ?_
    refine WL.move (v := .slice a10 n12 c11) h8_5 ?_
    refine WL.assign (v := .slice a10 n12 c11) rfl ?_
    refine WL.nil ?_
    refine hK14 _ _ ?_
    refine W.ret ?_
    have hr := Option.some.inj hf; subst hr
    exact ⟨_, resOk_one rfl rfl, (a10, n12, c11), rfl, (hs.mask [true]).pick []⟩
  refine W.seqK fun K15 hK15 => ?_
  refine W.region ?_
  refine WL.assign (v := .int .i64 0) rfl ?_
  refine WL.nil ?_
  refine hK15 _ _ ?_
  refine W.block ?_
  obtain ⟨bs22, hbs22, hfs22⟩ := bindE hf
  refine W.loop hbs22 (fun s ρ w => match s with | (x17, x21) => ∃ (a18 : Option Addr), ∃ (c19 : Nat), ∃ (n20 : Nat), ρ 0 = .slice a2 x1.length c3 ∧ ρ 1 = .int .i64 x4 ∧ ρ 5 = .slice a18 n20 c19 ∧ ρ 6 = .int .i64 x21 ∧ St ok (bz w0) w [vl (tSlice t_api_Update) x1 (.slice a2 x1.length c3)] [own t_api_Update 74 (.slice a18 n20 c19) x17]) ⟨none, 0, 0, rfl, rfl, rfl, rfl, (hs.mask [true]).pick [0]⟩ ?_
  intro s ρ w os22 hI hf hbbs22
  obtain ⟨x17, x21⟩ := s
  obtain ⟨a18, c19, n20, h16_0, h16_1, h16_5, h16_6, hs⟩ := hI
  unfold eslaw00_Some.l1 at hf
  refine W.seqK fun K23 hK23 => ?_
  refine W.seqK fun K24 hK24 => ?_
  refine W.region ?_
  refine WL.move (v := .int .i64 x21) h16_6 ?_
  refine WL.move (v := .slice a2 x1.length c3) h16_0 ?_
  refine WL.len (v := .slice a2 x1.length c3) rfl (len_slice UN28) ?_
  refine WL.bin (v := .bool (decide (x21 < (x1.length : Int)))) rfl rfl (ib_lss _ _ _) ?_
  refine WL.nil ?_
  refine hK24 _ _ ?_
  rcases iteE hf with ⟨hc25, hf⟩ | ⟨hc25, hf⟩
  {
  refine W.cond_true (bool_tr rfl hc25) ?_
  refine W.skip ?_
  refine hK23 _ _ ?_
  refine W.seqK fun K26 hK26 => ?_
  have Jk32 : ∀ (x28 : List api_Update) (a29 : Option Addr) (c30 : Nat) (n31 : Nat) (ρ : Env) (w : World), ρ 0 = .slice a2 x1.length c3 → ρ 1 = .int .i64 x4 → ρ 5 = .slice a29 n31 c30 → ρ 6 = .int .i64 x21 → St ok (bz w0) w [vl (tSlice t_api_Update) x1 (.slice a2 x1.length c3)] [own t_api_Update 74 (.slice a29 n31 c30) x28] → eslaw00_Some.j2 x21 x28 = some os22 → K26 ρ w := by
    intro x28 a29 c30 n31 ρ w h27_0 h27_1 h27_5 h27_6 hs hf
    refine hK26 _ _ ?_
    unfold eslaw00_Some.j2 at hf
    refine W.region ?_
    refine WL.move (v := .int .i64 x21) h27_6 ?_
    obtain ⟨x33, ex33, hf⟩ := letE hf
    refine WL.bin (v := .int .i64 x33) rfl rfl (ib_as ex33 (ib_add _ _ _)) ?_
    refine WL.assign (v := .int .i64 x33) rfl ?_
    refine WL.nil ?_
    exact ⟨_, (Option.some.inj hf).symm, a29, c30, n31, h27_0, h27_1, h27_5, rfl, (hs.mask [true]).pick [0]⟩
  refine W.block ?_
  refine W.seqK fun K34 hK34 => ?_
  obtain ⟨x35, hxx35, hf⟩ := bindE hf
  obtain ⟨x39, hxx39, hf⟩ := bindE hf
  obtain ⟨x43, ex43, hf⟩ := letE hf
  obtain ⟨x44, hxx44, hf⟩ := bindE hf
  refine W.any (by kernel_rfl) 14 0 [true, true, true, true, true, true, true, true, true, true, true, true, true, true] rfl rfl (poAt [pv (.slice a2 x1.length c3), pv (.int .i64 x21), pq (fun y : Addr => .pointer (some y)) (fun v => [pl t_api_Update x35 (adOf v)]) (fun v => []), pq (fun y : Addr => .pointer (some y)) (fun v => [pl (tInt .i64) x35.Seq (adOf v)]) (fun v => []), pv (.int .i64 x35.Seq), pv (.int .i64 x4), pv (.slice a2 x1.length c3), pv (.int .i64 x21), pq (fun y : Addr => .pointer (some y)) (fun v => [pl t_api_Update x39 (adOf v)]) (fun v => []), pq (fun y : Addr => .pointer (some y)) (fun v => [pl (tInt .i64) x39.Client (adOf v)]) (fun v => []), pv (.int .i64 x39.Client), pv (.int .i64 x43), pv (.int .i64 x44), pv (.bool (decide (x35.Seq ≤ x44)))]) (Λ := [own t_api_Update 74 (.slice a18 n20 c19) x17]) hs (by kernel_rfl) (by kernel_rfl) (by kernel_rfl) ⟨⟨⟨⟨⟨⟨⟨⟨⟨⟨⟨⟨⟨⟨trivial, ?_⟩, ?_⟩, ?_⟩, ?_⟩, ?_⟩, ?_⟩, ?_⟩, ?_⟩, ?_⟩, ?_⟩, ?_⟩, ?_⟩, ?_⟩, ?_⟩ ?_
  {
  intro ρ w Γx Λx hs hu hp
  refine WL.move (v := .slice a2 x1.length c3) ((hu 0 rfl).trans h16_0) ?_
  exact WL.nil ⟨rfl, _, rfl, rfl, hs.cutG 0 0⟩ }
  {
  intro ρ w Γx Λx hs hu hp
  refine WL.move (v := .int .i64 x21) ((hu 6 rfl).trans h16_6) ?_
  exact WL.nil ⟨rfl, _, rfl, rfl, hs.cutG 0 0⟩ }
  {
  intro ρ w Γx Λx hs hu hp
  have e45 : ρ 13 = .slice a2 x1.length c3 := (hp 0 rfl).1
  have e46 : ρ 14 = .int .i64 x21 := (hp 1 rfl).1
  refine WL.indexAddr hs (Γx.length + 0) (getApp rfl) UN28 TI74 e45 e46 hxx35 (fun ad36 hs => ?_)
  have hs := hs.add (it := pl t_api_Update x35 ad36) fun ok hA => hA.get 0 rfl
  exact WL.nil ⟨rfl, _, rfl, ⟨ad36, rfl⟩, hs.cutG 1 1⟩ }
  {
  intro ρ w Γx Λx hs hu hp
  obtain ⟨⟨ad47, e48r⟩, hm49⟩ := hp 2 rfl
  have e48 : ρ 15 = .pointer (some ad47) := e48r
  rw [e48r] at hm49
  have hs := hs.memo1 (it := pl t_api_Update x35 ad47) (List.mem_append.2 (.inl (hm49 _ (List.mem_of_getElem? (i := 0) rfl))))
  refine WL.fieldAddrP (z := x35.Seq) F_api_Update_Seq hs 0 rfl e48 FA74_1 rfl (fun ad37 hs => ?_)
  have hs := hs.add (it := pl (tInt .i64) x35.Seq ad37) fun ok hA => hA.get 0 rfl
  exact WL.nil ⟨rfl, _, rfl, ⟨ad37, rfl⟩, hs.cutG 1 2⟩ }
  {
  intro ρ w Γx Λx hs hu hp
  obtain ⟨⟨ad50, e51r⟩, hm52⟩ := hp 3 rfl
  have e51 : ρ 16 = .pointer (some ad50) := e51r
  rw [e51r] at hm52
  have hs := hs.memo1 (it := pl (tInt .i64) x35.Seq ad50) (List.mem_append.2 (.inl (hm52 _ (List.mem_of_getElem? (i := 0) rfl))))
  refine WL.loadP hs 0 rfl TI3 (.inr rfl) e51 (fun v38 hs => ?_)
  obtain rfl := hs.int 0 rfl
  exact WL.nil ⟨rfl, _, rfl, rfl, hs.cutG 0 2⟩ }
  {
  intro ρ w Γx Λx hs hu hp
  refine WL.move (v := .int .i64 x4) ((hu 1 rfl).trans h16_1) ?_
  exact WL.nil ⟨rfl, _, rfl, rfl, hs.cutG 0 0⟩ }
  {
  intro ρ w Γx Λx hs hu hp
  refine WL.move (v := .slice a2 x1.length c3) ((hu 0 rfl).trans h16_0) ?_
  exact WL.nil ⟨rfl, _, rfl, rfl, hs.cutG 0 0⟩ }
  {
  intro ρ w Γx Λx hs hu hp
  refine WL.move (v := .int .i64 x21) ((hu 6 rfl).trans h16_6) ?_
  exact WL.nil ⟨rfl, _, rfl, rfl, hs.cutG 0 0⟩ }
  {
  intro ρ w Γx Λx hs hu hp
  have e53 : ρ 19 = .slice a2 x1.length c3 := (hp 6 rfl).1
  have e54 : ρ 20 = .int .i64 x21 := (hp 7 rfl).1
  refine WL.indexAddr hs (Γx.length + 0) (getApp rfl) UN28 TI74 e53 e54 hxx39 (fun ad40 hs => ?_)
  have hs := hs.add (it := pl t_api_Update x39 ad40) fun ok hA => hA.get 0 rfl
  exact WL.nil ⟨rfl, _, rfl, ⟨ad40, rfl⟩, hs.cutG 1 1⟩ }
  {
  intro ρ w Γx Λx hs hu hp
  obtain ⟨⟨ad55, e56r⟩, hm57⟩ := hp 8 rfl
  have e56 : ρ 21 = .pointer (some ad55) := e56r
  rw [e56r] at hm57
  have hs := hs.memo1 (it := pl t_api_Update x39 ad55) (List.mem_append.2 (.inl (hm57 _ (List.mem_of_getElem? (i := 0) rfl))))
  refine WL.fieldAddrP (z := x39.Client) F_api_Update_Client hs 0 rfl e56 FA74_0 rfl (fun ad41 hs => ?_)
  have hs := hs.add (it := pl (tInt .i64) x39.Client ad41) fun ok hA => hA.get 0 rfl
  exact WL.nil ⟨rfl, _, rfl, ⟨ad41, rfl⟩, hs.cutG 1 2⟩ }
  {
  intro ρ w Γx Λx hs hu hp
  obtain ⟨⟨ad58, e59r⟩, hm60⟩ := hp 9 rfl
  have e59 : ρ 22 = .pointer (some ad58) := e59r
  rw [e59r] at hm60
  have hs := hs.memo1 (it := pl (tInt .i64) x39.Client ad58) (List.mem_append.2 (.inl (hm60 _ (List.mem_of_getElem? (i := 0) rfl))))
  refine WL.loadP hs 0 rfl TI3 (.inr rfl) e59 (fun v42 hs => ?_)
  obtain rfl := hs.int 0 rfl
  exact WL.nil ⟨rfl, _, rfl, rfl, hs.cutG 0 2⟩ }
  {
  intro ρ w Γx Λx hs hu hp
  have e61 : ρ 23 = .int .i64 x39.Client := (hp 10 rfl).1
  refine WL.bin (v := .int .i64 x43) e61 rfl (ib_as ex43 (ib_sub _ _ _)) ?_
  exact WL.nil ⟨rfl, _, rfl, rfl, hs.cutG 0 0⟩ }
  {
  intro ρ w Γx Λx hs hu hp
  have e62 : ρ 18 = .int .i64 x4 := (hp 5 rfl).1
  have e63 : ρ 24 = .int .i64 x43 := (hp 11 rfl).1
  refine WL.call (vs := [.int .i64 x4, .int .i64 9, .int .i64 x43]) hs FN31 ⟨e62, ⟨rfl, ⟨e63, trivial⟩⟩⟩ (fun ok hA => eslaw00_Digit.calls (x1 := x4) (x2 := 9) (x3 := x43) hxx44) ?_
  rintro _ w hs
  exact WL.nil ⟨rfl, _, rfl, rfl, hs.cutG 0 0⟩ }
  {
  intro ρ w Γx Λx hs hu hp
  have e64 : ρ 17 = .int .i64 x35.Seq := (hp 4 rfl).1
  have e65 : ρ 25 = .int .i64 x44 := (hp 12 rfl).1
  refine WL.bin (v := .bool (decide (x35.Seq ≤ x44))) e64 e65 (ib_leq _ _ _) ?_
  exact WL.nil ⟨rfl, _, rfl, rfl, hs.cutG 0 0⟩ }
  {
  intro ρ w hs hu66 hp
  obtain ⟨⟨⟨⟨⟨⟨⟨⟨⟨⟨⟨⟨⟨⟨_, hp0_⟩, hp1_⟩, hp2_⟩, hp3_⟩, hp4_⟩, hp5_⟩, hp6_⟩, hp7_⟩, hp8_⟩, hp9_⟩, hp10_⟩, hp11_⟩, hp12_⟩, hp13_⟩ := hp
  have hs : St ok (bz w0) w [pl (tInt .i64) x39.Client (adOf (ρ 22)), pl t_api_Update x39 (adOf (ρ 21)), pl (tInt .i64) x35.Seq (adOf (ρ 16)), pl t_api_Update x35 (adOf (ρ 15)), vl (tSlice t_api_Update) x1 (.slice a2 x1.length c3)] [own t_api_Update 74 (.slice a18 n20 c19) x17] := hs
  have e67 : ρ 26 = .bool (decide (x35.Seq ≤ x44)) := hp13_
  have e68 : ρ 25 = .int .i64 x44 := hp12_
  have e69 : ρ 24 = .int .i64 x43 := hp11_
  have e70 : ρ 23 = .int .i64 x39.Client := hp10_
  obtain ⟨ad71, e72⟩ := hp9_
  have e72 : ρ 22 = .pointer (some ad71) := e72
  try rw [e72] at hs
  obtain ⟨ad73, e74⟩ := hp8_
  have e74 : ρ 21 = .pointer (some ad73) := e74
  try rw [e74] at hs
  have e75 : ρ 20 = .int .i64 x21 := hp7_
  have e76 : ρ 19 = .slice a2 x1.length c3 := hp6_
  have e77 : ρ 18 = .int .i64 x4 := hp5_
  have e78 : ρ 17 = .int .i64 x35.Seq := hp4_
  obtain ⟨ad79, e80⟩ := hp3_
  have e80 : ρ 16 = .pointer (some ad79) := e80
  try rw [e80] at hs
  obtain ⟨ad81, e82⟩ := hp2_
  have e82 : ρ 15 = .pointer (some ad81) := e82
  try rw [e82] at hs
  have e83 : ρ 14 = .int .i64 x21 := hp1_
  have e84 : ρ 13 = .slice a2 x1.length c3 := hp0_
  refine WA.done (by kernel_rfl) ?_
  refine hK34 _ _ ?_
  rcases iteE hf with ⟨hc85, hf⟩ | ⟨hc85, hf⟩
  {
  refine W.cond_true (bool_tr e67 hc85) ?_
  refine W.region ?_
  refine WL.move (v := .slice a18 n20 c19) ((hu66 5 rfl).trans h16_5) ?_
  refine WL.move (v := .slice a2 x1.length c3) ((hu66 0 rfl).trans h16_0) ?_
  refine WL.move (v := .int .i64 x21) ((hu66 6 rfl).trans h16_6) ?_
  obtain ⟨x86, hxx86, hf⟩ := bindE hf
  refine WL.indexAddr hs 4 rfl UN28 TI74 rfl rfl hxx86 (fun ad87 hs => ?_)
  refine WL.loadP hs 0 rfl TI74 (.inl rfl) rfl (fun v88 hs => ?_)
  obtain ⟨cs89, hl90, rfl⟩ := hs.aggv (n := 4) 0 rfl rfl rfl
  refine WL.buildSlice (n := 1) (vs := [(0, .agg cs89.toArray)]) (cs := cs89) hs ⟨⟨rfl, rfl⟩, trivial⟩ (bls PS28 (by decide) (by simp [fillS, fillL, Value.cells, hl90])) (fun g91 w hs => ?_)
  obtain ⟨x92, hxx92, hf⟩ := bindE hf
  obtain ⟨hbx92, hex92⟩ := appE hxx92
  refine WL.append (ys := [x86]) (zs := x92) hs 1 rfl 0 rfl UN28 EI74 rfl rfl (fun ok hA => (Cells.one (T := t_api_Update) (R_agg (hA.get 0 rfl) rfl))) hbx92 (by omega) hex92 (fun v93 w hs => ?_)
  obtain ⟨a94, n96, c95, rfl⟩ := hs.ownv3 1 rfl
  refine WL.assign (v := .slice a94 n96 c95) rfl ?_
  refine WL.nil ?_
  exact Jk32 x92 a94 c95 n96 _ _ ((hu66 0 rfl).trans h16_0) ((hu66 1 rfl).trans h16_1) rfl ((hu66 6 rfl).trans h16_6) ((hs.mask [false, true]).pick [6]) hf }
  {
  refine W.cond_false (bool_tr e67 hc85) ?_
  refine W.skip ?_
  exact Jk32 x17 a18 c19 n20 _ _ ((hu66 0 rfl).trans h16_0) ((hu66 1 rfl).trans h16_1) ((hu66 5 rfl).trans h16_5) ((hu66 6 rfl).trans h16_6) ((hs.mask [true]).pick [4]) hf } } }
  {
  refine W.cond_false (bool_tr rfl hc25) ?_
  refine W.exit ?_
  have hr := Option.some.inj hf; subst hr
  have hr := hbbs22 _ rfl; subst hr
  have hf := hfs22
  exact Jk13 x17 a18 c19 n20 _ _ h16_5 ((hs.mask [true]).pick []) hf }
theorem eslaw00_Some.callc {ok : Nat → Prop} {w0 : World} {x1 : List api_Update} {x4 : Int} {a2 : Option Addr} {c3 : Nat} {r : List api_Update} (hf : eslaw00_Some x1 x4 = some r) (i0 : (vl (tSlice t_api_Update) x1 (.slice a2 x1.length c3)).holds ok w0) :
    Calls Tryz.prog 26 #[.slice a2 x1.length c3, .int .i64 x4] w0 fun e w' => ∃ v, e = .returned v ∧ ∃ y : (Option Addr × Nat), v = .slice y.1 r.length y.2 ∧ St ok (bz w0) w' [vl (tSlice t_api_Update) r (.slice y.1 r.length y.2)] [] := by
  refine (eslaw00_Some.calls (ok := ok) (w0 := w0) (x1 := x1) (x4 := x4) hf i0).mono ?_
  rintro e w' ⟨v, rfl, ⟨a98, n99, c100⟩, rfl, hs⟩
  obtain rfl := hs.ownLen 0 rfl
  have hs := hs.freezeOwn 0 rfl
  exact ⟨_, rfl, (a98, c100), rfl, hs.pick [0]⟩
theorem eslaw32_IndexGrows.calls {ok : Nat → Prop} {w0 : World} {x1 : List Int} {x4 : Int} {x5 : Int} {a2 : Option Addr} {c3 : Nat} {r : Bool} (hf : eslaw32_IndexGrows x1 x4 x5 = some r) (i0 : (vl (tSlice (tInt .i64)) x1 (.slice a2 x1.length c3)).holds ok w0) :
    Calls Tryz.prog 6 #[.slice a2 x1.length c3, .int .i64 x4, .int .i64 x5] w0 fun e w' => ∃ v, e = .returned v ∧ ∃ y : Unit, v = .bool r ∧ St ok (bz w0) w' [] [] := by
  unfold eslaw32_IndexGrows at hf
  refine calls_of_W (fn := Tryz.f6) (N := 69) Tryz.func6 rfl Tryz.ntmps6 rfl ?_
  have hs : St ok (bz w0) w0 [vl (tSlice (tInt .i64)) x1 (.slice a2 x1.length c3)] [] := St.init (All.cons i0 All.nil)
  clear i0
  refine W.seqK fun K6 hK6 => ?_
  refine W.region ?_
  refine WL.assign (v := .bool false) rfl ?_
  refine WL.nil ?_
  refine hK6 _ _ ?_
  refine W.seqK fun K7 hK7 => ?_
  refine W.region ?_
  refine WL.move (v := .slice a2 x1.length c3) rfl ?_
  obtain ⟨x8, hxx8, hf⟩ := bindE hf
  refine WL.call (vs := [.slice a2 x1.length c3]) hs FN10 ⟨rfl, trivial⟩ (fun ok hA => eslaw00_Updates.calls (x1 := x1) hxx8 (hA.get 0 rfl)) ?_
  rintro ⟨a9, n10, c11⟩ w hs
  refine WL.assign (v := .slice a9 n10 c11) rfl ?_
  refine WL.nil ?_
  refine hK7 _ _ ?_
  refine W.seqK fun K12 hK12 => ?_
  refine W.region ?_
  refine WL.move (v := .int .i64 x4) rfl ?_
  obtain ⟨x13, hxx13, hf⟩ := bindE hf
  refine WL.call (vs := [.int .i64 x4]) hs FN11 ⟨rfl, trivial⟩ (fun ok hA => eslaw32_field.calls (x1 := x4) hxx13) ?_
  rintro cs14 w hs
  have hl15 := hs.agglen (n := 4) 0 rfl rfl rfl
  refine WL.alloc hs ZV31 (fun g16 w hs => ?_)
  obtain rfl := open_schema_Field hs 0 rfl
  refine WL.storeAll (vs := [bstr x13.Name, .int .i64 x13.Kind, .int .i64 x13.f_Type, .int .i64 x13.At]) hs 0 rfl TI31 rfl rfl rfl rfl (ones_of rfl) rfl (fun w hs => ?_)
  refine WL.nil ?_
  refine hK12 _ _ ?_
  refine W.seqK fun K17 hK17 => ?_
  refine W.region ?_
  refine WL.fieldAddr (m := 1) rfl FA31_1 rfl ?_
  refine WL.store (vs := [.int .i64 4]) (cs' := [bstr x13.Name, .int .i64 4, .int .i64 x13.f_Type, .int .i64 x13.At]) hs 0 rfl TI3 rfl rfl rfl rfl (ones_of rfl) (Nat.le_of_ble_eq_true rfl) rfl (fun w hs => ?_)
  refine WL.fieldAddr (m := 2) rfl FA31_2 rfl ?_
  refine WL.store (vs := [.int .i64 0]) (cs' := [bstr x13.Name, .int .i64 4, .int .i64 0, .int .i64 x13.At]) hs 0 rfl TI3 rfl rfl rfl rfl (ones_of rfl) (Nat.le_of_ble_eq_true rfl) rfl (fun w hs => ?_)
  refine WL.nil ?_
  refine hK17 _ _ ?_
  refine W.seqK fun K18 hK18 => ?_
  obtain rfl := hs.ownLen 1 rfl
  have hs := hs.freezeOwn 1 rfl
  obtain ⟨x19, hxx19, hf⟩ := bindE hf
  obtain ⟨x22, hxx22, hf⟩ := bindE hf
  obtain ⟨x25, hxx25, hf⟩ := bindE hf
  obtain ⟨x28, hxx28, hf⟩ := bindE hf
  obtain ⟨x31, hxx31, hf⟩ := bindE hf
  refine W.any (by kernel_rfl) 12 2 [true, true, true, true, true, true, true, true, true, true, true, true, false, false] rfl rfl (poAt [pv (.agg ([bstr x13.Name, .int .i64 4, .int .i64 0, .int .i64 x13.At] : List Value).toArray), pv (.slice a9 x8.length c11), pv (.int .i64 x5), pq (fun y : (Option Addr × Nat) => .slice y.1 x19.length y.2) (fun v => [vl (tSlice t_api_Update) x19 v]) (fun v => []), pq (fun y : List Value => .agg y.toArray) (fun v => [vl t_fold_Store x22 v]) (fun v => []), pq (fun y : List Value => .agg y.toArray) (fun v => [vl t_index_Index x25 v]) (fun v => []), pv (.agg ([bstr x13.Name, .int .i64 4, .int .i64 0, .int .i64 x13.At] : List Value).toArray), pv (.slice a9 x8.length c11), pq (fun y : List Value => .agg y.toArray) (fun v => [vl t_fold_Store x28 v]) (fun v => []), pq (fun y : List Value => .agg y.toArray) (fun v => [vl t_index_Index x31 v]) (fun v => []), pq (fun y : Nat => .pointer (some ⟨y, 0, none⟩)) (fun v => []) (fun v => [blk (gOf v) 35 ([bstr [], .int .i64 0, .int .i64 0, .int .i64 0, .slice none 0 0])]), pq (fun y : Nat => .pointer (some ⟨y, 0, none⟩)) (fun v => []) (fun v => [blk (gOf v) 35 ([bstr [], .int .i64 0, .int .i64 0, .int .i64 0, .slice none 0 0])])]) (Λ := [blk g16 31 [bstr x13.Name, .int .i64 4, .int .i64 0, .int .i64 x13.At]]) hs (by kernel_rfl) (by kernel_rfl) (by kernel_rfl) ⟨⟨⟨⟨⟨⟨⟨⟨⟨⟨⟨⟨trivial, ?_⟩, ?_⟩, ?_⟩, ?_⟩, ?_⟩, ?_⟩, ?_⟩, ?_⟩, ?_⟩, ?_⟩, ?_⟩, ?_⟩ ?_
  {
  intro ρ w Γx Λx hs hu hp
  refine WL.loadN (vs := [bstr x13.Name, .int .i64 4, .int .i64 0, .int .i64 x13.At]) hs (Λx.length + 0) (getApp rfl) TI31 (hu 8 rfl) rfl rfl ?_
  exact WL.nil ⟨rfl, _, rfl, rfl, hs.cutG 0 0⟩ }
  {
  intro ρ w Γx Λx hs hu hp
  refine WL.move (v := .slice a9 x8.length c11) (hu 7 rfl) ?_
  exact WL.nil ⟨rfl, _, rfl, rfl, hs.cutG 0 0⟩ }
  {
  intro ρ w Γx Λx hs hu hp
  refine WL.move (v := .int .i64 x5) (hu 2 rfl) ?_
  exact WL.nil ⟨rfl, _, rfl, rfl, hs.cutG 0 0⟩ }
  {
  intro ρ w Γx Λx hs hu hp
  have e36 : ρ 21 = .slice a9 x8.length c11 := (hp 1 rfl).1
  have e37 : ρ 22 = .int .i64 x5 := (hp 2 rfl).1
  refine WL.call (vs := [.slice a9 x8.length c11, .int .i64 x5]) hs FN26 ⟨e36, ⟨e37, trivial⟩⟩ (fun ok hA => eslaw00_Some.callc (x1 := x8) (x4 := x5) hxx19 (hA.get (Γx.length + 0) (getApp rfl))) ?_
  rintro ⟨a20, c21⟩ w hs
  have hs := hs.add (it := vl (tSlice t_api_Update) x19 (.slice a20 x19.length c21)) fun ok hA => hA.get 0 rfl
  exact WL.nil ⟨rfl, _, rfl, ⟨(a20, c21), rfl⟩, hs.cutG 1 1⟩ }
  {
  intro ρ w Γx Λx hs hu hp
  obtain ⟨⟨⟨a38, c39⟩, e40r⟩, hm41⟩ := hp 3 rfl
  have e40 : ρ 23 = .slice a38 x19.length c39 := e40r
  rw [e40r] at hm41
  have hs := hs.memo1 (it := vl (tSlice t_api_Update) x19 (.slice a38 x19.length c39)) (List.mem_append.2 (.inl (hm41 _ (List.mem_of_getElem? (i := 0) rfl))))
  refine WL.call (vs := [.slice a38 x19.length c39]) hs FN9 ⟨e40, trivial⟩ (fun ok hA => fold_Fold.calls (x1 := x19) hxx22 (hA.get 0 rfl)) ?_
  rintro cs23 w hs
  have hl24 := hs.agglen (n := 1) 0 rfl rfl rfl
  have hs := hs.add (it := vl t_fold_Store x22 (.agg cs23.toArray)) fun ok hA => hA.get 0 rfl
  exact WL.nil ⟨rfl, _, rfl, ⟨cs23, rfl⟩, hs.cutG 1 2⟩ }
  {
  intro ρ w Γx Λx hs hu hp
  have e42 : ρ 20 = .agg ([bstr x13.Name, .int .i64 4, .int .i64 0, .int .i64 x13.At] : List Value).toArray := (hp 0 rfl).1
  obtain ⟨⟨cs43, e45r⟩, hm46⟩ := hp 4 rfl
  have e45 : ρ 24 = .agg cs43.toArray := e45r
  rw [e45r] at hm46
  have hs := hs.memo1 (it := vl t_fold_Store x22 (.agg cs43.toArray)) (List.mem_append.2 (.inl (hm46 _ (List.mem_of_getElem? (i := 0) rfl))))
  have hl44 := hs.agglen (n := 1) 0 rfl rfl rfl
  have hs := hs.add (it := vl t_schema_Field (⟨x13.Name, 4, 0, x13.At⟩ : schema_Field) (.agg [bstr x13.Name, .int .i64 4, .int .i64 0, .int .i64 x13.At].toArray)) fun ok hA => V_agg (show t_schema_Field.R ok _ _ _ from ⟨[bstr x13.Name], [.int .i64 4, .int .i64 0, .int .i64 x13.At], rfl, rfl, ⟨[.int .i64 4], [.int .i64 0, .int .i64 x13.At], rfl, rfl, ⟨[.int .i64 0], [.int .i64 x13.At], rfl, rfl, rfl⟩⟩⟩) rfl
  refine WL.call (vs := [.agg ([bstr x13.Name, .int .i64 4, .int .i64 0, .int .i64 x13.At] : List Value).toArray, .agg cs43.toArray]) hs FN12 ⟨e42, ⟨e45, trivial⟩⟩ (fun ok hA => index_Build.calls (x1 := (⟨x13.Name, 4, 0, x13.At⟩ : schema_Field)) (x5 := x22) hxx25 (hA.get 0 rfl) (hA.get 1 rfl)) ?_
  rintro cs26 w hs
  have hl27 := hs.agglen (n := 5) 0 rfl rfl rfl
  have hs := hs.add (it := vl t_index_Index x25 (.agg cs26.toArray)) fun ok hA => hA.get 0 rfl
  exact WL.nil ⟨rfl, _, rfl, ⟨cs26, rfl⟩, hs.cutG 1 3⟩ }
  {
  intro ρ w Γx Λx hs hu hp
  refine WL.loadN (vs := [bstr x13.Name, .int .i64 4, .int .i64 0, .int .i64 x13.At]) hs (Λx.length + 0) (getApp rfl) TI31 (hu 8 rfl) rfl rfl ?_
  exact WL.nil ⟨rfl, _, rfl, rfl, hs.cutG 0 0⟩ }
  {
  intro ρ w Γx Λx hs hu hp
  refine WL.move (v := .slice a9 x8.length c11) (hu 7 rfl) ?_
  exact WL.nil ⟨rfl, _, rfl, rfl, hs.cutG 0 0⟩ }
  {
  intro ρ w Γx Λx hs hu hp
  have e47 : ρ 27 = .slice a9 x8.length c11 := (hp 7 rfl).1
  refine WL.call (vs := [.slice a9 x8.length c11]) hs FN9 ⟨e47, trivial⟩ (fun ok hA => fold_Fold.calls (x1 := x8) hxx28 (hA.get (Γx.length + 0) (getApp rfl))) ?_
  rintro cs29 w hs
  have hl30 := hs.agglen (n := 1) 0 rfl rfl rfl
  have hs := hs.add (it := vl t_fold_Store x28 (.agg cs29.toArray)) fun ok hA => hA.get 0 rfl
  exact WL.nil ⟨rfl, _, rfl, ⟨cs29, rfl⟩, hs.cutG 1 1⟩ }
  {
  intro ρ w Γx Λx hs hu hp
  have e48 : ρ 26 = .agg ([bstr x13.Name, .int .i64 4, .int .i64 0, .int .i64 x13.At] : List Value).toArray := (hp 6 rfl).1
  obtain ⟨⟨cs49, e51r⟩, hm52⟩ := hp 8 rfl
  have e51 : ρ 28 = .agg cs49.toArray := e51r
  rw [e51r] at hm52
  have hs := hs.memo1 (it := vl t_fold_Store x28 (.agg cs49.toArray)) (List.mem_append.2 (.inl (hm52 _ (List.mem_of_getElem? (i := 0) rfl))))
  have hl50 := hs.agglen (n := 1) 0 rfl rfl rfl
  have hs := hs.add (it := vl t_schema_Field (⟨x13.Name, 4, 0, x13.At⟩ : schema_Field) (.agg [bstr x13.Name, .int .i64 4, .int .i64 0, .int .i64 x13.At].toArray)) fun ok hA => V_agg (show t_schema_Field.R ok _ _ _ from ⟨[bstr x13.Name], [.int .i64 4, .int .i64 0, .int .i64 x13.At], rfl, rfl, ⟨[.int .i64 4], [.int .i64 0, .int .i64 x13.At], rfl, rfl, ⟨[.int .i64 0], [.int .i64 x13.At], rfl, rfl, rfl⟩⟩⟩) rfl
  refine WL.call (vs := [.agg ([bstr x13.Name, .int .i64 4, .int .i64 0, .int .i64 x13.At] : List Value).toArray, .agg cs49.toArray]) hs FN12 ⟨e48, ⟨e51, trivial⟩⟩ (fun ok hA => index_Build.calls (x1 := (⟨x13.Name, 4, 0, x13.At⟩ : schema_Field)) (x5 := x28) hxx31 (hA.get 0 rfl) (hA.get 1 rfl)) ?_
  rintro cs32 w hs
  have hl33 := hs.agglen (n := 5) 0 rfl rfl rfl
  have hs := hs.add (it := vl t_index_Index x31 (.agg cs32.toArray)) fun ok hA => hA.get 0 rfl
  exact WL.nil ⟨rfl, _, rfl, ⟨cs32, rfl⟩, hs.cutG 1 3⟩ }
  {
  intro ρ w Γx Λx hs hu hp
  refine WL.alloc hs ZV35 (fun g34 w hs => ?_)
  exact WL.nil ⟨rfl, _, rfl, ⟨g34, rfl⟩, hs.cutG 0 0⟩ }
  {
  intro ρ w Γx Λx hs hu hp
  refine WL.alloc hs ZV35 (fun g35 w hs => ?_)
  exact WL.nil ⟨rfl, _, rfl, ⟨g35, rfl⟩, hs.cutG 0 0⟩ }
  {
  intro ρ w hs hu53 hp
  obtain ⟨⟨⟨⟨⟨⟨⟨⟨⟨⟨⟨⟨_, hp0_⟩, hp1_⟩, hp2_⟩, hp3_⟩, hp4_⟩, hp5_⟩, hp6_⟩, hp7_⟩, hp8_⟩, hp9_⟩, hp10_⟩, hp11_⟩ := hp
  have hs : St ok (bz w0) w [vl t_index_Index x31 (ρ 29), vl t_fold_Store x28 (ρ 28), vl t_index_Index x25 (ρ 25), vl t_fold_Store x22 (ρ 24), vl (tSlice t_api_Update) x19 (ρ 23), vl (tSlice t_api_Update) x8 (.slice a9 x8.length c11), vl t_schema_Field x13 (.agg [bstr x13.Name, .int .i64 x13.Kind, .int .i64 x13.f_Type, .int .i64 x13.At].toArray), vl (tSlice (tInt .i64)) x1 (.slice a2 x1.length c3)] [blk (gOf ((ρ 10))) 35 ([bstr [], .int .i64 0, .int .i64 0, .int .i64 0, .slice none 0 0]), blk (gOf ((ρ 9))) 35 ([bstr [], .int .i64 0, .int .i64 0, .int .i64 0, .slice none 0 0]), blk g16 31 [bstr x13.Name, .int .i64 4, .int .i64 0, .int .i64 x13.At]] := hs
  obtain ⟨g54, e55⟩ := hp11_
  have e55 : ρ 10 = .pointer (some ⟨g54, 0, none⟩) := e55
  try rw [e55] at hs
  obtain ⟨g56, e57⟩ := hp10_
  have e57 : ρ 9 = .pointer (some ⟨g56, 0, none⟩) := e57
  try rw [e57] at hs
  obtain ⟨cs58, e60⟩ := hp9_
  have e60 : ρ 29 = .agg cs58.toArray := e60
  try rw [e60] at hs
  obtain ⟨cs61, e63⟩ := hp8_
  have e63 : ρ 28 = .agg cs61.toArray := e63
  try rw [e63] at hs
  have e64 : ρ 27 = .slice a9 x8.length c11 := hp7_
  have e65 : ρ 26 = .agg ([bstr x13.Name, .int .i64 4, .int .i64 0, .int .i64 x13.At] : List Value).toArray := hp6_
  obtain ⟨cs66, e68⟩ := hp5_
  have e68 : ρ 25 = .agg cs66.toArray := e68
  try rw [e68] at hs
  obtain ⟨cs69, e71⟩ := hp4_
  have e71 : ρ 24 = .agg cs69.toArray := e71
  try rw [e71] at hs
  obtain ⟨⟨a72, c73⟩, e74⟩ := hp3_
  have e74 : ρ 23 = .slice a72 x19.length c73 := e74
  try rw [e74] at hs
  have e75 : ρ 22 = .int .i64 x5 := hp2_
  have e76 : ρ 21 = .slice a9 x8.length c11 := hp1_
  have e77 : ρ 20 = .agg ([bstr x13.Name, .int .i64 4, .int .i64 0, .int .i64 x13.At] : List Value).toArray := hp0_
  have hl70 := hs.agglen (n := 1) 3 rfl rfl rfl
  have hl67 := hs.agglen (n := 5) 2 rfl rfl rfl
  have hl62 := hs.agglen (n := 1) 1 rfl rfl rfl
  have hl59 := hs.agglen (n := 5) 0 rfl rfl rfl
  refine WA.step [12] (by kernel_rfl) (by simp) ⟨?_, trivial⟩
  refine WL.storeAll (vs := cs66) hs 1 rfl TI35 e57 e68 rfl hl67 (hs.ones 2 rfl rfl) rfl (fun w hs => ?_)
  refine WL.nil ⟨rfl, _, rfl, ?_⟩
  refine WA.step [13] (by kernel_rfl) (by simp) ⟨?_, trivial⟩
  refine WL.storeAll (vs := cs58) hs 0 rfl TI35 e55 e60 rfl hl59 (hs.ones 0 rfl rfl) rfl (fun w hs => ?_)
  refine WL.nil ⟨rfl, _, rfl, ?_⟩
  refine WA.done (by kernel_rfl) ?_
  refine hK18 _ _ ?_
  refine W.seqK fun K78 hK78 => ?_
  have Jk80 : ∀  (ρ : Env) (w : World), St ok (bz w0) w [] [] → eslaw32_IndexGrows.j1 = some r → K78 ρ w := by
    intro  ρ w  hs hf
    refine hK78 _ _ ?_
    unfold eslaw32_IndexGrows.j1 at hf
    refine W.seqK fun K81 hK81 => ?_
    refine W.region ?_
    obtain ⟨x82, hxx82, hf⟩ := bindE hf
    refine WL.call (vs := []) hs FN18 trivial (fun ok hA => eslaw32_awake.calls hxx82) ?_
    rintro _ w hs
    refine WL.assign (v := .bool x82) rfl ?_
    refine WL.nil ?_
    refine hK81 _ _ ?_
    refine W.ret ?_
    have hr := Option.some.inj hf; subst hr
    exact ⟨_, resOk_one rfl rfl, (), rfl, (hs.mask []).pick []⟩
  refine W.seqK fun K83 hK83 => ?_
  refine W.region ?_
  refine WL.assign (v := .int .i64 0) rfl ?_
  refine WL.nil ?_
  refine hK83 _ _ ?_
  refine W.block ?_
  obtain ⟨bs86, hbs86, hfs86⟩ := bindE hf
  refine W.loop hbs86 (fun s ρ w => match s with | x85 => ρ 9 = .pointer (some ⟨g56, 0, none⟩) ∧ ρ 10 = .pointer (some ⟨g54, 0, none⟩) ∧ ρ 11 = .int .i64 x85 ∧ St ok (bz w0) w [vl t_index_Index x31 (.agg cs58.toArray), vl t_index_Index x25 (.agg cs66.toArray)] [blk g54 35 cs58, blk g56 35 cs66]) ⟨e57, e55, rfl, (hs.mask [true, true]).pick [0, 2]⟩ ?_
  intro x85 ρ w os86 hI hf hbbs86
  obtain ⟨h84_9, h84_10, h84_11, hs⟩ := hI
  unfold eslaw32_IndexGrows.l2 at hf
  refine W.seqK fun K87 hK87 => ?_
  refine W.seqK fun K88 hK88 => ?_
  refine W.region ?_
  refine WL.move (v := .int .i64 x85) h84_11 ?_
  refine WL.fieldAddr (m := 4) h84_9 FA35_1 rfl ?_
  refine WL.loadF (z := x25.Entries) F_index_Index_Entries hs 1 rfl 1 rfl rfl TI33 (.inr rfl) rfl rfl (fun v89 hs => ?_)
  obtain ⟨a90, c91, rfl⟩ := hs.slice 0 rfl
  refine WL.len (v := .slice a90 (x25.Entries).length c91) rfl (len_slice UN33) ?_
  refine WL.bin (v := .bool (decide (x85 < ((x25.Entries).length : Int)))) rfl rfl (ib_lss _ _ _) ?_
  refine WL.nil ?_
  refine hK88 _ _ ?_
  rcases iteE hf with ⟨hc92, hf⟩ | ⟨hc92, hf⟩
  {
  refine W.cond_true (bool_tr rfl hc92) ?_
  refine W.skip ?_
  refine hK87 _ _ ?_
  refine W.seqK fun K93 hK93 => ?_
  have Jk95 : ∀  (ρ : Env) (w : World), ρ 9 = .pointer (some ⟨g56, 0, none⟩) → ρ 10 = .pointer (some ⟨g54, 0, none⟩) → ρ 11 = .int .i64 x85 → St ok (bz w0) w [vl t_index_Index x31 (.agg cs58.toArray), vl t_index_Index x25 (.agg cs66.toArray)] [blk g54 35 cs58, blk g56 35 cs66] → eslaw32_IndexGrows.j2 x85 = some os86 → K93 ρ w := by
    intro  ρ w h94_9 h94_10 h94_11 hs hf
    refine hK93 _ _ ?_
    unfold eslaw32_IndexGrows.j2 at hf
    refine W.region ?_
    refine WL.move (v := .int .i64 x85) h94_11 ?_
    obtain ⟨x96, ex96, hf⟩ := letE hf
    refine WL.bin (v := .int .i64 x96) rfl rfl (ib_as ex96 (ib_add _ _ _)) ?_
    refine WL.assign (v := .int .i64 x96) rfl ?_
    refine WL.nil ?_
    exact ⟨_, (Option.some.inj hf).symm, h94_9, h94_10, rfl, (hs.mask [true, true]).pick [0, 1]⟩
  refine W.block ?_
  refine W.seqK fun K97 hK97 => ?_
  obtain ⟨x101, hxx101, hf⟩ := bindE hf
  obtain ⟨x107, hxx107, hf⟩ := bindE hf
  refine W.any (by kernel_rfl) 8 1 [true, true, true, true, true, true, true, true, false] rfl rfl (poAt [pv (.agg cs58.toArray), pv (.pointer (some ⟨g56, 4, none⟩)), pq (fun y : (Option Addr × Nat) => .slice y.1 (x25.Entries).length y.2) (fun v => [vl (tSlice t_index_Entry) x25.Entries v]) (fun v => []), pv (.int .i64 x85), pq (fun y : Addr => .pointer (some y)) (fun v => [pl t_index_Entry x101 (adOf v)]) (fun v => []), pq (fun y : Addr => .pointer (some y)) (fun v => [pl t_index_Key x101.Key (adOf v)]) (fun v => []), pq (fun y : List Value => .agg y.toArray) (fun v => [vl t_index_Key x101.Key v]) (fun v => []), pq (fun y : (Option Addr × Nat × Nat) => .slice y.1 y.2.1 y.2.2) (fun v => []) (fun v => [own tStr 9 v x107])]) (Λ := [blk g54 35 cs58, blk g56 35 cs66]) hs (by kernel_rfl) (by kernel_rfl) (by kernel_rfl) ⟨⟨⟨⟨⟨⟨⟨⟨trivial, ?_⟩, ?_⟩, ?_⟩, ?_⟩, ?_⟩, ?_⟩, ?_⟩, ?_⟩ ?_
  {
  intro ρ w Γx Λx hs hu hp
  refine WL.loadAll hs (Λx.length + 0) (getApp rfl) TI35 ((hu 10 rfl).trans h84_10) hl59 ?_
  exact WL.nil ⟨rfl, _, rfl, rfl, hs.cutG 0 0⟩ }
  {
  intro ρ w Γx Λx hs hu hp
  refine WL.fieldAddr (m := 4) ((hu 9 rfl).trans h84_9) FA35_1 rfl ?_
  exact WL.nil ⟨rfl, _, rfl, rfl, hs.cutG 0 0⟩ }
  {
  intro ρ w Γx Λx hs hu hp
  have e111 : ρ 38 = .pointer (some ⟨g56, 4, none⟩) := (hp 1 rfl).1
  refine WL.loadF (z := x25.Entries) F_index_Index_Entries hs (Λx.length + 1) (getApp rfl) (Γx.length + 2) (getApp rfl) rfl TI33 (.inr rfl) e111 rfl (fun v98 hs => ?_)
  obtain ⟨a99, c100, rfl⟩ := hs.slice 0 rfl
  have hs := hs.add (it := vl (tSlice t_index_Entry) x25.Entries (.slice a99 (x25.Entries).length c100)) fun ok hA => hA.get 0 rfl
  exact WL.nil ⟨rfl, _, rfl, ⟨(a99, c100), rfl⟩, hs.cutG 1 1⟩ }
  {
  intro ρ w Γx Λx hs hu hp
  refine WL.move (v := .int .i64 x85) ((hu 11 rfl).trans h84_11) ?_
  exact WL.nil ⟨rfl, _, rfl, rfl, hs.cutG 0 0⟩ }
  {
  intro ρ w Γx Λx hs hu hp
  obtain ⟨⟨⟨a112, c113⟩, e114r⟩, hm115⟩ := hp 2 rfl
  have e114 : ρ 39 = .slice a112 (x25.Entries).length c113 := e114r
  rw [e114r] at hm115
  have hs := hs.memo1 (it := vl (tSlice t_index_Entry) x25.Entries (.slice a112 (x25.Entries).length c113)) (List.mem_append.2 (.inl (hm115 _ (List.mem_of_getElem? (i := 0) rfl))))
  have e116 : ρ 40 = .int .i64 x85 := (hp 3 rfl).1
  refine WL.indexAddr hs 0 rfl UN33 TI65 e114 e116 hxx101 (fun ad102 hs => ?_)
  have hs := hs.add (it := pl t_index_Entry x101 ad102) fun ok hA => hA.get 0 rfl
  exact WL.nil ⟨rfl, _, rfl, ⟨ad102, rfl⟩, hs.cutG 1 2⟩ }
  {
  intro ρ w Γx Λx hs hu hp
  obtain ⟨⟨ad117, e118r⟩, hm119⟩ := hp 4 rfl
  have e118 : ρ 41 = .pointer (some ad117) := e118r
  rw [e118r] at hm119
  have hs := hs.memo1 (it := pl t_index_Entry x101 ad117) (List.mem_append.2 (.inl (hm119 _ (List.mem_of_getElem? (i := 0) rfl))))
  refine WL.fieldAddrP (z := x101.Key) F_index_Entry_Key hs 0 rfl e118 FA65_0 rfl (fun ad103 hs => ?_)
  have hs := hs.add (it := pl t_index_Key x101.Key ad103) fun ok hA => hA.get 0 rfl
  exact WL.nil ⟨rfl, _, rfl, ⟨ad103, rfl⟩, hs.cutG 1 2⟩ }
  {
  intro ρ w Γx Λx hs hu hp
  obtain ⟨⟨ad120, e121r⟩, hm122⟩ := hp 5 rfl
  have e121 : ρ 42 = .pointer (some ad120) := e121r
  rw [e121r] at hm122
  have hs := hs.memo1 (it := pl t_index_Key x101.Key ad120) (List.mem_append.2 (.inl (hm122 _ (List.mem_of_getElem? (i := 0) rfl))))
  refine WL.loadP hs 0 rfl TI47 (.inl rfl) e121 (fun v104 hs => ?_)
  obtain ⟨cs105, hl106, rfl⟩ := hs.aggv (n := 3) 0 rfl rfl rfl
  have hs := hs.add (it := vl t_index_Key x101.Key (.agg cs105.toArray)) fun ok hA => hA.get 0 rfl
  exact WL.nil ⟨rfl, _, rfl, ⟨cs105, rfl⟩, hs.cutG 1 2⟩ }
  {
  intro ρ w Γx Λx hs hu hp
  have e123 : ρ 37 = .agg cs58.toArray := (hp 0 rfl).1
  obtain ⟨⟨cs124, e126r⟩, hm127⟩ := hp 6 rfl
  have e126 : ρ 43 = .agg cs124.toArray := e126r
  rw [e126r] at hm127
  have hs := hs.memo1 (it := vl t_index_Key x101.Key (.agg cs124.toArray)) (List.mem_append.2 (.inl (hm127 _ (List.mem_of_getElem? (i := 0) rfl))))
  have hl125 := hs.agglen (n := 3) 0 rfl rfl rfl
  refine WL.call (vs := [.agg cs58.toArray, .agg cs124.toArray]) hs FN22 ⟨e123, ⟨e126, trivial⟩⟩ (fun ok hA => index_Lookup.calls (x1 := x31) (x5 := x101.Key) hxx107 (hA.get (Γx.length + 1 + 1) (getApp1 rfl)) (hA.get 0 rfl)) ?_
  rintro ⟨a108, n109, c110⟩ w hs
  exact WL.nil ⟨rfl, _, rfl, ⟨(a108, n109, c110), rfl⟩, hs.cutG 0 1⟩ }
  {
  intro ρ w hs hu128 hp
  obtain ⟨⟨⟨⟨⟨⟨⟨⟨_, hp0_⟩, hp1_⟩, hp2_⟩, hp3_⟩, hp4_⟩, hp5_⟩, hp6_⟩, hp7_⟩ := hp
  have hs : St ok (bz w0) w [vl t_index_Key x101.Key (ρ 43), pl t_index_Key x101.Key (adOf (ρ 42)), pl t_index_Entry x101 (adOf (ρ 41)), vl (tSlice t_index_Entry) x25.Entries (ρ 39), vl (tSlice t_index_Entry) x25.Entries (.slice a90 (x25.Entries).length c91), vl t_index_Index x31 (.agg cs58.toArray), vl t_index_Index x25 (.agg cs66.toArray)] [own tStr 9 ((ρ 44)) x107, blk g54 35 cs58, blk g56 35 cs66] := hs
  obtain ⟨⟨a129, n131, c130⟩, e132⟩ := hp7_
  have e132 : ρ 44 = .slice a129 n131 c130 := e132
  try rw [e132] at hs
  obtain ⟨cs133, e135⟩ := hp6_
  have e135 : ρ 43 = .agg cs133.toArray := e135
  try rw [e135] at hs
  obtain ⟨ad136, e137⟩ := hp5_
  have e137 : ρ 42 = .pointer (some ad136) := e137
  try rw [e137] at hs
  obtain ⟨ad138, e139⟩ := hp4_
  have e139 : ρ 41 = .pointer (some ad138) := e139
  try rw [e139] at hs
  have e140 : ρ 40 = .int .i64 x85 := hp3_
  obtain ⟨⟨a141, c142⟩, e143⟩ := hp2_
  have e143 : ρ 39 = .slice a141 (x25.Entries).length c142 := e143
  try rw [e143] at hs
  have e144 : ρ 38 = .pointer (some ⟨g56, 4, none⟩) := hp1_
  have e145 : ρ 37 = .agg cs58.toArray := hp0_
  have hl134 := hs.agglen (n := 3) 0 rfl rfl rfl
  refine WA.step [8] (by kernel_rfl) (by simp) ⟨?_, trivial⟩
  refine WL.assign (v := .slice a129 n131 c130) e132 ?_
  refine WL.nil ⟨rfl, _, rfl, ?_⟩
  refine WA.done (by kernel_rfl) ?_
  refine hK97 _ _ ?_
  refine W.seqK fun K146 hK146 => ?_
  refine W.region ?_
  refine WL.assign (v := .int .i64 0) rfl ?_
  refine WL.nil ?_
  refine hK146 _ _ ?_
  refine W.block ?_
  obtain ⟨bs149, hbs149, hfs149⟩ := bindE hf
  refine W.loop hbs149 (fun s ρ w => match s with | x148 => ρ 9 = .pointer (some ⟨g56, 0, none⟩) ∧ ρ 10 = .pointer (some ⟨g54, 0, none⟩) ∧ ρ 11 = .int .i64 x85 ∧ ρ 12 = .slice a129 n131 c130 ∧ ρ 13 = .int .i64 x148 ∧ St ok (bz w0) w [vl t_index_Index x31 (.agg cs58.toArray), vl t_index_Index x25 (.agg cs66.toArray)] [own tStr 9 (.slice a129 n131 c130) x107, blk g54 35 cs58, blk g56 35 cs66]) ⟨((hu128 9 rfl).trans h84_9), ((hu128 10 rfl).trans h84_10), ((hu128 11 rfl).trans h84_11), rfl, rfl, (hs.mask [true, true, true]).pick [5, 6]⟩ ?_
  intro x148 ρ w os149 hI hf hbbs149
  obtain ⟨h147_9, h147_10, h147_11, h147_12, h147_13, hs⟩ := hI
  unfold eslaw32_IndexGrows.l1 at hf
  refine W.seqK fun K150 hK150 => ?_
  refine W.seqK fun K151 hK151 => ?_
  refine W.region ?_
  refine WL.move (v := .int .i64 x148) h147_13 ?_
  refine WL.fieldAddr (m := 4) h147_9 FA35_1 rfl ?_
  refine WL.loadF (z := x25.Entries) F_index_Index_Entries hs 2 rfl 1 rfl rfl TI33 (.inr rfl) rfl rfl (fun v152 hs => ?_)
  obtain ⟨a153, c154, rfl⟩ := hs.slice 0 rfl
  refine WL.move (v := .int .i64 x85) h147_11 ?_
  obtain ⟨x155, hxx155, hf⟩ := bindE hf
  refine WL.indexAddr hs 0 rfl UN33 TI65 rfl rfl hxx155 (fun ad156 hs => ?_)
  refine WL.fieldAddrP (z := x155.Objects) F_index_Entry_Objects hs 0 rfl rfl FA65_1 rfl (fun ad157 hs => ?_)
  refine WL.loadP hs 0 rfl TI56 (.inr rfl) rfl (fun v158 hs => ?_)
  obtain ⟨a159, c160, rfl⟩ := hs.slice 0 rfl
  refine WL.len (v := .slice a159 (x155.Objects).length c160) rfl (len_slice UN56) ?_
  refine WL.bin (v := .bool (decide (x148 < ((x155.Objects).length : Int)))) rfl rfl (ib_lss _ _ _) ?_
  refine WL.nil ?_
  refine hK151 _ _ ?_
  rcases iteE hf with ⟨hc161, hf⟩ | ⟨hc161, hf⟩
  {
  refine W.cond_true (bool_tr rfl hc161) ?_
  refine W.skip ?_
  refine hK150 _ _ ?_
  refine W.seqK fun K162 hK162 => ?_
  refine W.block ?_
  refine W.seqK fun K163 hK163 => ?_
  refine W.region ?_
  refine WL.move (v := .slice a129 n131 c130) h147_12 ?_
  refine WL.fieldAddr (m := 4) h147_9 FA35_1 rfl ?_
  refine WL.loadF (z := x25.Entries) F_index_Index_Entries hs 2 rfl 5 rfl rfl TI33 (.inr rfl) rfl rfl (fun v164 hs => ?_)
  obtain ⟨a165, c166, rfl⟩ := hs.slice 0 rfl
  refine WL.move (v := .int .i64 x85) h147_11 ?_
  obtain ⟨x167, hxx167, hf⟩ := bindE hf
  refine WL.indexAddr hs 0 rfl UN33 TI65 rfl rfl hxx167 (fun ad168 hs => ?_)
  refine WL.fieldAddrP (z := x167.Objects) F_index_Entry_Objects hs 0 rfl rfl FA65_1 rfl (fun ad169 hs => ?_)
  refine WL.loadP hs 0 rfl TI56 (.inr rfl) rfl (fun v170 hs => ?_)
  obtain ⟨a171, c172, rfl⟩ := hs.slice 0 rfl
  refine WL.move (v := .int .i64 x148) h147_13 ?_
  obtain ⟨x173, hxx173, hf⟩ := bindE hf
  refine WL.indexAddr hs 0 rfl UN56 TI9 rfl rfl hxx173 (fun ad174 hs => ?_)
  refine WL.loadP hs 0 rfl TI9 (.inr rfl) rfl (fun v175 hs => ?_)
  obtain rfl := hs.str 0 rfl
  obtain ⟨x176, hxx176, hf⟩ := bindE hf
  refine WL.callL (vs := [.slice a129 x107.length c130, bstr x173]) hs FN25 ⟨(Eq.trans rfl (sl_len (hs.ownLen 0 rfl))), ⟨rfl, trivial⟩⟩ (esref32_Has.calls (x1 := x107) (x4 := x173) hxx176 (hs.ownN 0 rfl)) ?_
  rintro _ w hs
  refine WL.not rfl ?_
  refine WL.nil ?_
  refine hK163 _ _ ?_
  rcases iteE hf with ⟨hc177, hf⟩ | ⟨hc177, hf⟩
  {
  refine W.cond_true (bool_tr rfl hc177) ?_
  refine W.seqK fun K178 hK178 => ?_
  refine W.region ?_
  refine WL.assign (v := .bool false) rfl ?_
  refine WL.nil ?_
  refine hK178 _ _ ?_
  refine W.ret ?_
  have hr := Option.some.inj hf; subst hr
  have hr := hbbs149 _ rfl; subst hr
  have hf := hfs149
  have hr := Option.some.inj hf; subst hr
  have hr := hbbs86 _ rfl; subst hr
  have hf := hfs86
  have hr := Option.some.inj hf; subst hr
  exact ⟨_, resOk_one rfl rfl, (), rfl, (hs.mask []).pick []⟩ }
  {
  refine W.cond_false (bool_tr rfl hc177) ?_
  refine W.skip ?_
  refine hK162 _ _ ?_
  refine W.region ?_
  refine WL.move (v := .int .i64 x148) h147_13 ?_
  obtain ⟨x179, ex179, hf⟩ := letE hf
  refine WL.bin (v := .int .i64 x179) rfl rfl (ib_as ex179 (ib_add _ _ _)) ?_
  refine WL.assign (v := .int .i64 x179) rfl ?_
  refine WL.nil ?_
  exact ⟨_, (Option.some.inj hf).symm, h147_9, h147_10, h147_11, h147_12, rfl, (hs.mask [true, true, true]).pick [10, 11]⟩ } }
  {
  refine W.cond_false (bool_tr rfl hc161) ?_
  refine W.exit ?_
  have hr := Option.some.inj hf; subst hr
  have hr := hbbs149 _ rfl; subst hr
  have hf := hfs149
  exact Jk95  _ _ h147_9 h147_10 h147_11 ((hs.mask [false, true, true]).pick [4, 5]) hf } } }
  {
  refine W.cond_false (bool_tr rfl hc92) ?_
  refine W.exit ?_
  have hr := Option.some.inj hf; subst hr
  have hr := hbbs86 _ rfl; subst hr
  have hf := hfs86
  exact Jk80  _ _  ((hs.mask []).pick []) hf } }
end Go.Proofs.YtpfgdjfiimknlaaGreat
set_option linter.unusedVariables false
set_option linter.unusedSimpArgs false
namespace Go.Proofs.YtpfgdjfiimknlaaGreat
open Go Go.Proofs.YtpfgdjfiimknlaaGreatL
structure GD (n : Nat) (objs : List fold_Object) : Prop where
  asc : SA ON_ objs
  len : objs.length ≤ n
  name : ∀ o ∈ objs, o.Name.length ≤ 1000
  ne : ∀ o ∈ objs, o.Fields ≠ []
  fasc : ∀ o ∈ objs, SA FN_ o.Fields
  flen : ∀ o ∈ objs, o.Fields.length ≤ n
  good : ∀ o ∈ objs, ∀ y ∈ o.Fields, GF n y
theorem GD.mono {n m : Nat} {objs : List fold_Object} (h : GD n objs) (hm : n ≤ m) : GD m objs :=
  ⟨h.asc, Nat.le_trans h.len hm, h.name, h.ne, h.fasc, fun o ho => Nat.le_trans (h.flen o ho) hm, fun o ho y hy => (h.good o ho y hy).mono hm⟩
theorem GD_nil (n : Nat) : GD n [] := ⟨List.Pairwise.nil, Nat.zero_le _, by simp, by simp, by simp, by simp, by simp⟩
def appT (u : api_Update) (objs : List fold_Object) : List fold_Object := u.Effects.foldl (effT u) objs
def foldT (s : List api_Update) (objs : List fold_Object) : List fold_Object := s.foldl (fun o u => appT u o) objs
theorem apply_ex {u : api_Update} {n : Nat} {x : fold_B} (h : BI n x) (he : ∀ e ∈ u.Effects, EF e) (hn : n + u.Effects.length ≤ 1000000) :
    ∃ x', fold_apply u x = some x' ∧ BI (n + u.Effects.length) x' ∧ canonB x' = appT u (canonB x) := by
  unfold fold_apply
  refine loopO_inv (I := fun k s => s.1 = (k : Int) ∧ BI (n + k) s.2 ∧ canonB s.2 = (u.Effects.take k).foldl (effT u) (canonB x)) u.Effects.length ⟨rfl, h, rfl⟩ ?_ ?_
  · rintro k ⟨i, y⟩ hk ⟨hi, h1, h2⟩
    simp only at hi h1 h2
    subst hi
    obtain ⟨x', e1, e2, e3⟩ := eff_eq (u := u) h1 (he _ (List.getElem_mem hk)) (by omega)
    refine ⟨(((k + 1 : Nat) : Int), x'), ?_, rfl, e2, ?_⟩
    · unfold fold_apply.l1
      simp only [lt_of_len hk, if_true, idx_nat hk, Option.bind_some, e1, letV, wcast hk (by omega)]
    · rw [take_snoc hk, List.foldl_append, ← h2, e3]
      rfl
  · rintro ⟨i, y⟩ ⟨hi, h1, h2⟩
    simp only at hi h1 h2
    subst hi
    rw [List.take_length] at h2
    refine ⟨y, ?_, h1, h2⟩
    unfold fold_apply.l1
    simp only [not_lt_len, Bool.false_eq_true, if_false]
theorem clone_eq {l : List (List UInt8)} (h : l.length ≤ 1000000) : slices_Clone_string l = some l := by
  unfold slices_Clone_string
  rw [app_of (by simp; omega)]
  rfl
theorem names_ne {α : Type} {key : α → List UInt8} {l : List α} (h : SA key l) : (l.map key).Nodup := by
  refine List.pairwise_map.2 (h.imp fun {a b} hab e => ?_)
  rw [e, bl_irrefl] at hab
  cases hab
def loaded (objs : List fold_Object) : fold_B := objs.map fun o => (o.Name, o.Fields)
theorem load_fields {n : Nat} {o : fold_Object} (h1 : SA FN_ o.Fields) (h2 : o.Fields.length ≤ n) (h3 : ∀ y ∈ o.Fields, GF n y) (hn : n ≤ 1000000) : loopO (fold_load.l1 o) (0, []) = some o.Fields := by
  have := loopO_up (step := fold_load.l1 o) (fun k => ((k : Int), o.Fields.take k)) o.Fields.length (b := o.Fields) (fun k hk => ?_) ?_
  · exact this
  · have hg := h3 _ (List.getElem_mem hk)
    unfold fold_load.l1
    simp only [lt_of_len hk, if_true, idx_nat hk, Option.bind_some]
    rw [clone_eq (by have := hg.len; omega), Option.bind_some, letV, wcast hk (by omega)]
    have e : fput fold_Field.Name o.Fields[k] (o.Fields.take k) = o.Fields.take (k + 1) := by
      rw [take_snoc hk, fput_none]
      rw [List.find?_eq_none]
      intro y hy
      obtain ⟨j, hj, rfl⟩ := List.getElem_of_mem hy
      rw [List.length_take] at hj
      have := List.pairwise_iff_getElem.1 h1 j k (by omega) hk (by omega)
      rw [List.getElem_take]
      intro he
      have he : o.Fields[k].Name = (o.Fields[j]'(by omega)).Name := by simpa using he
      have this : Op.bytesLess (o.Fields[j]'(by omega)).Name o.Fields[k].Name = true := this
      rw [he, bl_irrefl] at this
      cases this
    rw [show ({ o.Fields[k] with Elems := o.Fields[k].Elems } : fold_Field) = o.Fields[k] from rfl, e]
  · unfold fold_load.l1
    simp only [not_lt_len, Bool.false_eq_true, if_false, List.take_length]
theorem load_eq {n : Nat} {t : fold_Store} (h : GD n t.Objects) (hn : n ≤ 1000000) : fold_load t = some (loaded t.Objects) := by
  unfold fold_load
  have hlen := h.len
  have := loopO_up (step := fold_load.l2 t) (fun k => ((k : Int), loaded (t.Objects.take k))) t.Objects.length (b := loaded t.Objects) (fun k hk => ?_) ?_
  · exact this
  · have hm := List.getElem_mem hk
    unfold fold_load.l2
    simp only [lt_of_len hk, if_true, idx_nat hk, Option.bind_some]
    rw [load_fields (h.fasc _ hm) (h.flen _ hm) (h.good _ hm) hn, Option.bind_some, letV, wcast hk (by omega)]
    have e : mset (loaded (t.Objects.take k)) t.Objects[k].Name t.Objects[k].Fields = loaded (t.Objects.take (k + 1)) := by
      unfold loaded
      rw [take_snoc hk, List.map_append, mset_none]
      · rfl
      · cases hl : (List.map (fun o : fold_Object => (o.Name, o.Fields)) (List.take k t.Objects)).lookup t.Objects[k].Name with
        | none => rfl
        | some fs =>
          exfalso
          obtain ⟨o, ho, he⟩ := List.mem_map.1 (lookup_mem hl)
          have he : o.Name = t.Objects[k].Name := congrArg Prod.fst he
          obtain ⟨j, hj, rfl⟩ := List.getElem_of_mem ho
          rw [List.length_take] at hj
          have := List.pairwise_iff_getElem.1 h.asc j k (by omega) hk (by omega)
          rw [List.getElem_take] at he
          have this : Op.bytesLess (t.Objects[j]'(by omega)).Name t.Objects[k].Name = true := this
          rw [he, bl_irrefl] at this
          cases this
    rw [e]
  · unfold fold_load.l2
    simp only [not_lt_len, Bool.false_eq_true, if_false, List.take_length]
theorem BI_loaded {n : Nat} {objs : List fold_Object} (h : GD n objs) : BI n (loaded objs) := by
  have hm : ∀ o ∈ loaded objs, ∃ p ∈ objs, o = (p.Name, p.Fields) := fun o ho => by
    obtain ⟨p, hp, rfl⟩ := List.mem_map.1 ho
    exact ⟨p, hp, rfl⟩
  refine ⟨?_, by unfold loaded; rw [List.length_map]; exact h.len, fun o ho => ?_, fun o ho => ?_, fun o ho => ?_, fun o ho => ?_, fun o ho => ?_⟩
  · unfold loaded
    rw [List.map_map]
    exact names_ne h.asc
  all_goals obtain ⟨p, hp, rfl⟩ := hm o ho
  · exact h.name p hp
  · exact h.ne p hp
  · exact names_ne (h.fasc p hp)
  · exact h.flen p hp
  · exact h.good p hp
theorem canonF_self {fs : List fold_Field} (h : SA FN_ fs) : canonF fs = fs := SA_ext (SA_canonF (names_ne h)) h fun k => get_canonF fs k
theorem loaded_lookup (objs : List fold_Object) (k : List UInt8) : (loaded objs).lookup k = (get ON_ objs k).map (·.Fields) := by
  induction objs with
  | nil => rfl
  | cons a objs ih =>
    unfold loaded at ih ⊢
    rw [List.map_cons, List.lookup_cons, get_cons]
    by_cases h : ON_ a = k
    · rw [if_pos h, show (k == a.Name) = true by rw [← h]; simp]
      rfl
    · rw [if_neg h, show (k == a.Name) = false by rw [beq_eq_false_iff_ne]; exact fun e => h e.symm]
      exact ih
theorem canon_loaded {n : Nat} {objs : List fold_Object} (h : GD n objs) : canonB (loaded objs) = objs := by
  refine SA_ext (SA_canonB (BI_loaded h).keys) h.asc fun k => ?_
  rw [get_canonB, loaded_lookup]
  cases hg : get ON_ objs k with
  | none => rfl
  | some o =>
    show some (⟨k, canonF o.Fields⟩ : fold_Object) = some o
    rw [canonF_self (h.fasc o (get_mem hg)), ← get_key hg]
theorem canonF_mem {fs : List fold_Field} {y : fold_Field} (h : y ∈ canonF fs) : y ∈ fs := by
  unfold canonF at h
  obtain ⟨n, hn, rfl⟩ := List.mem_map.1 h
  rw [mem_srt, get_names] at hn
  cases hg : get FN_ fs n with
  | none => rw [hg] at hn; cases hn
  | some y => exact get_mem hg
theorem GD_canon {n : Nat} {x : fold_B} (h : BI n x) : GD n (canonB x) := by
  have hm : ∀ o ∈ canonB x, ∃ fs, (o.Name, fs) ∈ x ∧ o.Fields = canonF fs := by
    intro o ho
    have hg := get_mem_self (SA_canonB h.keys) ho
    rw [get_canonB] at hg
    cases hl : x.lookup (ON_ o) with
    | none => rw [hl] at hg; cases hg
    | some fs =>
      rw [hl] at hg
      have := Option.some.inj hg
      exact ⟨fs, lookup_mem hl, by rw [← this]⟩
  refine ⟨SA_canonB h.keys, ?_, fun o ho => ?_, fun o ho => ?_, fun o ho => ?_, fun o ho => ?_, fun o ho y hy => ?_⟩
  · unfold canonB
    rw [List.length_map, List.length_mergeSort, List.length_map]
    exact h.len
  all_goals obtain ⟨fs, h1, h2⟩ := hm o ho
  · exact h.name _ h1
  · rw [h2]
    intro he
    have := congrArg List.length he
    unfold canonF at this
    rw [List.length_map, List.length_mergeSort, List.length_map] at this
    exact h.ne _ h1 (List.length_eq_zero_iff.1 this)
  · rw [h2]; exact SA_canonF (h.names _ h1)
  · rw [h2]
    unfold canonF
    rw [List.length_map, List.length_mergeSort, List.length_map]
    exact h.flen _ h1
  · rw [h2] at hy
    exact h.good _ h1 y (canonF_mem hy)
theorem Apply_eq {n : Nat} {t : fold_Store} {u : api_Update} (h : GD n t.Objects) (he : ∀ e ∈ u.Effects, EF e) (hn : n + u.Effects.length ≤ 1000000) :
    fold_Apply t u = some ⟨appT u t.Objects⟩ ∧ GD (n + u.Effects.length) (appT u t.Objects) := by
  unfold fold_Apply
  obtain ⟨x', e1, e2, e3⟩ := apply_ex (u := u) (BI_loaded h) he hn
  rw [canon_loaded h] at e3
  rw [load_eq h (by omega), Option.bind_some, e1, Option.bind_some, fold_store_eq e2 hn, e3]
  exact ⟨rfl, e3 ▸ GD_canon e2⟩
end Go.Proofs.YtpfgdjfiimknlaaGreat
set_option linter.unusedVariables false
set_option linter.unusedSimpArgs false
namespace Go.Proofs.YtpfgdjfiimknlaaGreat
open Go Go.Proofs.YtpfgdjfiimknlaaGreatL
def effN (s : List api_Update) : Nat := (s.map fun u => u.Effects.length).sum
theorem Fold_eq {s : List api_Update} (he : ∀ u ∈ s, ∀ e ∈ u.Effects, EF e) (hn : effN s ≤ 1000000) (hl : s.length ≤ 1000000) :
    fold_Fold s = some ⟨foldT s []⟩ ∧ GD (effN s) (foldT s []) := by
  unfold fold_Fold
  have key : ∃ b, loopO (fold_Fold.l1 s) (0, []) = some b ∧ BI (effN s) b ∧ canonB b = foldT s [] := by
    have hsum : ∀ k, k ≤ s.length → effN (s.take k) ≤ effN s := by
      intro k hk
      unfold effN
      have : s.map (fun u => u.Effects.length) = (s.take k).map (fun u => u.Effects.length) ++ (s.drop k).map (fun u => u.Effects.length) := by rw [← List.map_append, List.take_append_drop]
      rw [this, List.sum_append]
      omega
    refine loopO_inv (I := fun k s' => s'.1 = (k : Int) ∧ BI (effN (s.take k)) s'.2 ∧ canonB s'.2 = foldT (s.take k) []) s.length ⟨rfl, ?_, ?_⟩ ?_ ?_
    · exact ⟨List.nodup_nil, Nat.zero_le _, by simp, by simp, by simp, by simp, by simp⟩
    · simp [canonB, srtN, foldT]
    · rintro k ⟨i, y⟩ hk ⟨hi, h1, h2⟩
      simp only at hi h1 h2
      subst hi
      have hs := hsum (k + 1) hk
      have es : effN (s.take (k + 1)) = effN (s.take k) + s[k].Effects.length := by
        unfold effN
        rw [take_snoc hk, List.map_append, List.sum_append]
        simp
      obtain ⟨x', e1, e2, e3⟩ := apply_ex (u := s[k]) h1 (he _ (List.getElem_mem hk)) (by omega)
      refine ⟨(((k + 1 : Nat) : Int), x'), ?_, rfl, by rw [es]; exact e2, ?_⟩
      · unfold fold_Fold.l1
        simp only [lt_of_len hk, if_true, idx_nat hk, Option.bind_some, e1, letV, wcast hk (by omega)]
      · show canonB x' = _
        rw [e3, h2, take_snoc hk]
        unfold foldT
        rw [List.foldl_append]
        rfl
    · rintro ⟨i, y⟩ ⟨hi, h1, h2⟩
      simp only at hi h1 h2
      subst hi
      rw [List.take_length] at h1 h2
      refine ⟨y, ?_, h1, h2⟩
      unfold fold_Fold.l1
      simp only [not_lt_len, Bool.false_eq_true, if_false]
  obtain ⟨b, e1, e2, e3⟩ := key
  rw [e1, Option.bind_some, fold_store_eq e2 hn, e3]
  exact ⟨rfl, e3 ▸ GD_canon e2⟩
end Go.Proofs.YtpfgdjfiimknlaaGreat
set_option linter.unusedVariables false
set_option linter.unusedSimpArgs false
namespace Go.Proofs.YtpfgdjfiimknlaaGreat
open Go Go.Proofs.YtpfgdjfiimknlaaGreatL
theorem snoc_ind {α : Type} {P : List α → Prop} (h0 : P []) (hs : ∀ l a, P l → P (l ++ [a])) (l : List α) : P l := by
  rw [← l.reverse_reverse]
  induction l.reverse with
  | nil => exact h0
  | cons a m ih => rw [List.reverse_cons]; exact hs _ _ ih
section
variable {α : Type} {lt : α → α → Prop}
theorem srt_ext (irr : ∀ a, ¬ lt a a) (tr : ∀ a b c, lt a b → lt b c → lt a c) : ∀ {l l' : List α}, l.Pairwise lt → l'.Pairwise lt → (∀ x, x ∈ l ↔ x ∈ l') → l = l'
  | [], [], _, _, _ => rfl
  | [], b :: l', _, _, h => by have := (h b).2 (by simp); simp at this
  | a :: l, [], _, _, h => by have := (h a).1 (by simp); simp at this
  | a :: l, b :: l', h1, h2, h => by
    have a1 := (List.pairwise_cons.1 h1).1
    have b1 := (List.pairwise_cons.1 h2).1
    have e : a = b := by
      rcases List.mem_cons.1 ((h a).1 (by simp)) with e | e
      · exact e
      · rcases List.mem_cons.1 ((h b).2 (by simp)) with e' | e'
        · exact e'.symm
        · exact absurd (tr _ _ _ (a1 b e') (b1 a e)) (irr a)
    subst e
    have : l = l' := by
      refine srt_ext irr tr (List.pairwise_cons.1 h1).2 (List.pairwise_cons.1 h2).2 fun x => ?_
      have hx := h x
      rw [List.mem_cons, List.mem_cons] at hx
      constructor
      · intro hm
        rcases hx.1 (.inr hm) with e | e
        · rw [e] at hm; exact absurd (a1 a hm) (irr a)
        · exact e
      · intro hm
        rcases hx.2 (.inr hm) with e | e
        · rw [e] at hm; exact absurd (b1 a hm) (irr a)
        · exact e
    rw [this]
end
section
variable {α : Type} [DecidableEq α]
def dd (l : List α) : List α := l.foldl (fun r a => if r.getLast? = some a then r else r ++ [a]) []
theorem dd_snoc (l : List α) (a : α) : dd (l ++ [a]) = if (dd l).getLast? = some a then dd l else dd l ++ [a] := by
  unfold dd
  rw [List.foldl_append]
  rfl
theorem dd_last (l : List α) : (dd l).getLast? = l.getLast? := by
  refine snoc_ind (P := fun l => (dd l).getLast? = l.getLast?) ?_ (fun l a ih => ?_) l
  · rfl
  · rw [dd_snoc, List.getLast?_concat]
    split
    · rename_i h; exact h
    · rw [List.getLast?_concat]
theorem dd_mem (l : List α) : ∀ x, x ∈ dd l ↔ x ∈ l := by
  refine snoc_ind (P := fun l => ∀ x, x ∈ dd l ↔ x ∈ l) ?_ (fun l a ih => ?_) l
  · intro x; rfl
  · intro x
    rw [dd_snoc, List.mem_append, List.mem_singleton]
    split
    · rename_i h
      rw [ih]
      have : a ∈ l := (ih a).1 (List.mem_of_getLast? h)
      constructor
      · exact .inl
      · rintro (h | rfl)
        · exact h
        · exact this
    · rw [List.mem_append, List.mem_singleton, ih]
theorem dd_length (l : List α) : (dd l).length ≤ l.length := by
  refine snoc_ind (P := fun l => (dd l).length ≤ l.length) (Nat.le_refl _) (fun l a ih => ?_) l
  rw [dd_snoc, List.length_append, List.length_singleton]
  split
  · omega
  · rw [List.length_append, List.length_singleton]; omega
theorem dd_self {l : List α} : l.Pairwise (· ≠ ·) → dd l = l := by
  refine snoc_ind (P := fun l => l.Pairwise (· ≠ ·) → dd l = l) (fun _ => rfl) (fun l a ih h => ?_) l
  rw [List.pairwise_append] at h
  rw [dd_snoc, ih h.1, if_neg]
  intro e
  exact h.2.2 a (List.mem_of_getLast? e) a (by simp) rfl
omit [DecidableEq α] in
theorem last_max {lt : α → α → Prop} {m : List α} {z x : α} (h : m.Pairwise lt) (hz : m.getLast? = some z) (hx : x ∈ m) : x = z ∨ lt x z := by
  obtain ⟨m', rfl⟩ : ∃ m', m = m' ++ [z] := by
    rw [List.getLast?_eq_some_iff] at hz
    exact hz
  rcases List.mem_append.1 hx with hx | hx
  · exact .inr ((List.pairwise_append.1 h).2.2 x hx z (by simp))
  · exact .inl (by simpa using hx)
theorem dd_srt {lt : α → α → Prop} (tri : ∀ a b, ¬ lt a b → ¬ lt b a → a = b) {l : List α} : l.Pairwise (fun a b => ¬ lt b a) → (dd l).Pairwise lt := by
  refine snoc_ind (P := fun l => l.Pairwise (fun a b => ¬ lt b a) → (dd l).Pairwise lt) (fun _ => .nil) (fun l a ih h => ?_) l
  rw [List.pairwise_append] at h
  have h1 := ih h.1
  rw [dd_snoc]
  split
  · exact h1
  · rename_i hn
    rw [List.pairwise_append]
    refine ⟨h1, List.pairwise_singleton _ _, fun x hx b hb => ?_⟩
    have hb : b = a := by simpa using hb
    subst hb
    refine Classical.byContradiction fun hc => ?_
    have ha := h.2.2
    have e := tri _ _ hc (ha x ((dd_mem l x).1 hx) b (by simp))
    subst e
    cases hz : (dd l).getLast? with
    | none =>
      rw [List.getLast?_eq_none_iff] at hz
      rw [hz] at hx
      simp at hx
    | some z =>
      rcases last_max h1 hz hx with e | e
      · exact hn (by rw [hz, e])
      · exact ha z ((dd_mem l z).1 (List.mem_of_getLast? hz)) x (by simp) e
end
section
variable {α : Type} (eq : α → α → Bool) (z : α)
noncomputable def gj2 (x24 : List α) (x26 : Int) : Option ((List α × Int) ⊕ (List α ⊕ List α)) :=
  (letV (IntKind.i64.wrap (x26 + 1)) fun x28 => some (.inl (x24, x28)))
noncomputable def gj3 (x61 : List α) (x63 : Int) : Option ((List α × Int) ⊕ (List α ⊕ List α)) :=
  (if 0 ≤ x63 ∧ x63 ≤ (x61.length : Int) then ((clr x61 x63 z).bind fun x67 => ((cut x67 0 x63).bind fun x69 => some (.inr (.inr x69)))) else none)
noncomputable def gj4 (x74 : Int) (x80 : List α) (x82 : Int) : Option ((List α × Int × Int) ⊕ (List α × Int)) :=
  (letV (IntKind.i64.wrap (x74 + 1)) fun x84 => some (.inl (x80, x82, x84)))
noncomputable def gl1 (x18 : Int) : (List α × Int × Int) → Option ((List α × Int × Int) ⊕ (List α × Int)) := fun (x71, x73, x74) =>
  (if (decide (x74 < ((x71.length - (x18).toNat : Nat) : Int))) then ((idx (List.drop ((x18).toNat) x71) x74).bind fun x86 =>
  (letV (IntKind.i64.wrap (x74 - 1)) fun x89 =>
  ((idx (List.drop ((x18).toNat) x71) x89).bind fun x90 =>
  (if (!eq x86 x90) then ((idx (List.drop ((x18).toNat) x71) x74).bind fun x115 =>
  ((idx x71 x73).bind fun x118 =>
  (letV (x71.set (x73).toNat x115) fun x120 =>
  (letV (IntKind.i64.wrap (x73 + 1)) fun x121 =>
  gj4 x74 x120 x121)))) else gj4 x74 x71 x73)))) else some (.inr (x71, x73)))
noncomputable def gl2 : (List α × Int) → Option ((List α × Int) ⊕ (List α ⊕ List α)) := fun (x16, x18) =>
  (if (decide (x18 < (x16.length : Int))) then ((idx x16 x18).bind fun x30 =>
  (letV (IntKind.i64.wrap (x18 - 1)) fun x33 =>
  ((idx x16 x33).bind fun x34 =>
  (if (eq x30 x34) then (if 0 ≤ x18 ∧ x18 ≤ (x16.length : Int) then ((loopO (gl1 eq x18) (x16, x18, 1)).bind fun (x122, x123) => gj3 z x122 x123) else none) else gj2 x16 x18)))) else some (.inr (.inl x16)))
noncomputable def gC (x1 : List α) : Option (List α) :=
  (if (decide ((x1.length : Int) < 2)) then some x1 else ((loopO (gl2 eq z) (x1, 1)).bind fun b => match b with | .inl x124 => some x124 | .inr x125 => some x125))
end
theorem w64s {k : Nat} (h : k ≤ 4611686018427387904) : IntKind.i64.wrap (((k + 1 : Nat) : Int) - 1) = (k : Int) := by
  rw [w64 (by omega) (by omega)]; omega
theorem take_last {α : Type} {l : List α} {k : Nat} (h : k < l.length) : (l.take (k + 1)).getLast? = some l[k] := by
  rw [take_snoc h, List.getLast?_concat]
theorem drop1 {α : Type} {x y : List α} {k : Nat} (h : y.drop k = x.drop k) : y.drop (k + 1) = x.drop (k + 1) := by
  have : ∀ l : List α, l.drop (k + 1) = (l.drop k).drop 1 := fun l => by rw [List.drop_drop]
  rw [this, this, h]
theorem gC1_eq {α : Type} [DecidableEq α] {eq : α → α → Bool} (heq : ∀ a b, eq a b = true ↔ a = b) {x : List α} (hl : x.length ≤ 4611686018427387903) {k0 : Nat} (h1 : 1 ≤ k0) (h2 : k0 < x.length)
    (hd : dd (x.take (k0 + 1)) = x.take k0) :
    ∃ b : List α × Int, loopO (gl1 eq (k0 : Int)) (x, (k0 : Int), 1) = some b ∧ b.1.length = x.length ∧ b.2 = ((dd x).length : Int) ∧ b.1.take (dd x).length = dd x := by
  refine loopO_inv (fun n s => ∃ (y : List α) (i : Nat), s = (y, (i : Int), ((n + 1 : Nat) : Int)) ∧ y.length = x.length ∧ i ≤ k0 + n ∧ i = (dd (x.take (k0 + n + 1))).length ∧ y.take i = dd (x.take (k0 + n + 1)) ∧ y.drop (k0 + n) = x.drop (k0 + n)) (x.length - k0 - 1) ?_ ?_ ?_
  · refine ⟨x, k0, rfl, rfl, Nat.le_refl _, ?_, ?_, rfl⟩
    · show k0 = (dd (x.take (k0 + 1))).length
      rw [hd, List.length_take]
      omega
    · show x.take k0 = dd (x.take (k0 + 1))
      rw [hd]
  · rintro n s hn ⟨y, i, rfl, e1, e2, e3, e4, e5⟩
    have hi : i < y.length := by omega
    have hb : k0 + n + 1 < x.length := by omega
    have ey : ∀ j, k0 + n ≤ j → (hj : j < x.length) → y[j]'(by omega) = x[j] := by
      intro j hj1 hj
      have := congrArg (fun l => l[j - (k0 + n)]?) e5
      simp only [List.getElem?_drop] at this
      rw [show k0 + n + (j - (k0 + n)) = j by omega, List.getElem?_eq_getElem (by omega), List.getElem?_eq_getElem hj] at this
      exact Option.some.inj this
    have d1 : idx (List.drop ((k0 : Int).toNat) y) ((n + 1 : Nat) : Int) = some (x[k0 + n + 1]'hb) := by
      rw [Int.toNat_natCast, idx_nat (by rw [List.length_drop]; omega), List.getElem_drop]
      congr 1
      have := ey (k0 + (n + 1)) (by omega) (by omega)
      rw [this]
      congr 1
    have d0 : idx (List.drop ((k0 : Int).toNat) y) (n : Int) = some (x[k0 + n]'(by omega)) := by
      rw [Int.toNat_natCast, idx_nat (by rw [List.length_drop]; omega), List.getElem_drop]
      congr 1
      exact ey (k0 + n) (by omega) (by omega)
    have snoc : dd (x.take (k0 + n + 1 + 1)) = if x[k0 + n]'(by omega) = x[k0 + n + 1]'hb then dd (x.take (k0 + n + 1)) else dd (x.take (k0 + n + 1)) ++ [x[k0 + n + 1]'hb] := by
      rw [take_snoc hb, dd_snoc, dd_last, take_last (by omega)]
      simp only [Option.some.injEq]
    unfold gl1
    simp only
    rw [if_pos (by rw [Int.toNat_natCast, e1]; simp; omega), d1, Option.bind_some, letV_of, w64s (by omega), d0, Option.bind_some]
    have nx : IntKind.i64.wrap (((n + 1 : Nat) : Int) + 1) = ((n + 1 + 1 : Nat) : Int) := w64n (by omega)
    by_cases hc : x[k0 + n + 1]'hb = x[k0 + n]'(by omega)
    · rw [if_neg (by rw [(heq _ _).2 hc]; simp)]
      unfold gj4
      rw [letV_of, nx]
      refine ⟨_, rfl, y, i, rfl, e1, by omega, ?_, ?_, ?_⟩
      · rw [show k0 + (n + 1) + 1 = k0 + n + 1 + 1 by omega, snoc, if_pos hc.symm]; exact e3
      · rw [show k0 + (n + 1) + 1 = k0 + n + 1 + 1 by omega, snoc, if_pos hc.symm]; exact e4
      · exact drop1 e5
    · rw [if_pos (by
        cases h : eq (x[k0 + n + 1]'hb) (x[k0 + n]'(by omega)) with
        | true => exact absurd ((heq _ _).1 h) hc
        | false => rfl), Option.bind_some, idx_nat hi, Option.bind_some, letV_of, letV_of]
      unfold gj4
      rw [letV_of, nx, w64n (by omega)]
      have e6 : dd (x.take (k0 + n + 1 + 1)) = dd (x.take (k0 + n + 1)) ++ [x[k0 + n + 1]'hb] := by
        rw [snoc, if_neg (fun e => hc e.symm)]
      refine ⟨_, rfl, y.set i (x[k0 + n + 1]'hb), i + 1, rfl, by rw [List.length_set]; exact e1, by omega, ?_, ?_, ?_⟩
      · rw [show k0 + (n + 1) + 1 = k0 + n + 1 + 1 by omega, e6, List.length_append, ← e3]; rfl
      · rw [show k0 + (n + 1) + 1 = k0 + n + 1 + 1 by omega, e6, ← e4, take_snoc (by rw [List.length_set]; exact hi), List.getElem_set_self, List.take_set_of_le (Nat.le_refl _)]
      · rw [List.drop_set_of_lt (by omega)]; exact drop1 e5
  · rintro s ⟨y, i, rfl, e1, e2, e3, e4, e5⟩
    have e7 : x.take (k0 + (x.length - k0 - 1) + 1) = x := List.take_of_length_le (by omega)
    rw [e7] at e3 e4
    unfold gl1
    simp only
    rw [if_neg (by rw [Int.toNat_natCast, e1]; simp; omega)]
    exact ⟨_, rfl, e1, by rw [e3], by rw [← e3]; exact e4⟩
theorem gC_eq {α : Type} [DecidableEq α] {eq : α → α → Bool} {z : α} (heq : ∀ a b, eq a b = true ↔ a = b) {x : List α} (hl : x.length ≤ 4611686018427387903) : gC eq z x = some (dd x) := by
  unfold gC
  by_cases h0 : x.length < 2
  · rw [if_pos (by simp; omega)]
    have : dd x = x := by
      match x, h0 with
      | [], _ => rfl
      | [a], _ => rfl
    rw [this]
  · rw [if_neg (by simp; omega)]
    have key : ∃ b : List α ⊕ List α, loopO (gl2 eq z) (x, 1) = some b ∧ (match b with | .inl y => y = dd x | .inr y => y = dd x) := by
      refine loopO_ex (fun n s => s = (x, ((n + 1 : Nat) : Int)) ∧ dd (x.take (n + 1)) = x.take (n + 1)) (x.length - 1) ⟨rfl, ?_⟩ ?_ ?_
      · cases x with
        | nil => simp at h0
        | cons a l => rfl
      · rintro n s hn ⟨rfl, hd⟩
        unfold gl2
        simp only
        rw [if_pos (by simp; omega), idx_nat (show n + 1 < x.length by omega), Option.bind_some, letV_of, w64s (by omega), idx_nat (show n < x.length by omega), Option.bind_some]
        by_cases hc : x[n + 1]'(by omega) = x[n]'(by omega)
        · rw [if_pos ((heq _ _).2 hc), if_pos (by omega)]
          refine .inr ?_
          obtain ⟨b, b1, b2, b3, b4⟩ := gC1_eq heq hl (k0 := n + 1) (by omega) (by omega) (by
            rw [take_snoc (by omega), dd_snoc, hd, take_last (by omega), if_pos (by rw [hc])])
          rw [b1, Option.bind_some]
          obtain ⟨y, i⟩ := b
          simp only at b2 b3 b4
          subst b3
          unfold gj3
          have hle : (dd x).length ≤ y.length := by rw [b2]; exact dd_length x
          simp only
          rw [if_pos (by omega)]
          unfold clr
          rw [if_pos (by omega), Option.bind_some, Int.toNat_natCast, cut_of (by omega) (by omega) (by rw [List.length_append, List.length_take, List.length_replicate]; omega), Option.bind_some]
          refine ⟨_, rfl, ?_⟩
          simp only [Int.toNat_zero, List.drop_zero, Int.toNat_natCast]
          rw [List.take_append_of_le_length (by rw [List.length_take]; omega), b4, List.take_of_length_le (by omega)]
        · rw [if_neg (by rw [heq]; exact hc)]
          unfold gj2
          rw [letV_of]
          refine .inl ⟨_, rfl, by rw [w64n (by omega)], ?_⟩
          rw [take_snoc (show n + 1 < x.length by omega), dd_snoc, hd, take_last (show n < x.length by omega), if_neg (fun e => hc (Option.some.inj e).symm)]
      · rintro s ⟨rfl, hd⟩
        unfold gl2
        simp only
        rw [if_neg (by simp; omega)]
        refine ⟨_, rfl, ?_⟩
        rw [show x.length - 1 + 1 = x.length by omega, List.take_length] at hd
        exact hd.symm
    obtain ⟨b, b1, b2⟩ := key
    rw [b1, Option.bind_some]
    cases b with
    | inl y => simp only at b2; rw [b2]
    | inr y => simp only at b2; rw [b2]
theorem compactS_eq {x : List (List UInt8)} (hl : x.length ≤ 4611686018427387903) : slices_Compact_string x = some (dd x) := by
  rw [← gC_eq (eq := fun a b => a == b) (z := ([] : List UInt8)) (fun a b => by simp) hl]
  have e1 : ∀ k, slices_Compact_string.l1 k = gl1 (fun a b : List UInt8 => a == b) k := fun k => rfl
  have e2 : slices_Compact_string.l2 = gl2 (fun a b : List UInt8 => a == b) [] := by
    funext s
    unfold slices_Compact_string.l2 gl2
    simp only [e1]
    rfl
  unfold slices_Compact_string gC
  rw [e2]
  congr 1
  cases loopO (gl2 (fun a b : List UInt8 => a == b) []) (x, 1) with
  | none => rfl
  | some b => cases b <;> rfl
theorem compactK_eq {x : List index_Key} (hl : x.length ≤ 4611686018427387903) : slices_Compact_Key x = some (dd x) := by
  have heq : ∀ a b : index_Key, decide ((⟨a.f_Type, a.N, a.S⟩ : index_Key) = (⟨b.f_Type, b.N, b.S⟩ : index_Key)) = true ↔ a = b := fun a b => by rw [decide_eq_true_eq]
  rw [← gC_eq (eq := fun a b : index_Key => decide ((⟨a.f_Type, a.N, a.S⟩ : index_Key) = (⟨b.f_Type, b.N, b.S⟩ : index_Key))) (z := (⟨0, 0, []⟩ : index_Key)) heq hl]
  have e1 : ∀ k, slices_Compact_Key.l1 k = gl1 (fun a b : index_Key => decide ((⟨a.f_Type, a.N, a.S⟩ : index_Key) = (⟨b.f_Type, b.N, b.S⟩ : index_Key))) k := fun k => rfl
  have e2 : slices_Compact_Key.l2 = gl2 (fun a b : index_Key => decide ((⟨a.f_Type, a.N, a.S⟩ : index_Key) = (⟨b.f_Type, b.N, b.S⟩ : index_Key))) (⟨0, 0, []⟩ : index_Key) := by
    funext s
    unfold slices_Compact_Key.l2 gl2
    simp only [e1]
    rfl
  unfold slices_Compact_Key gC
  rw [e2]
  congr 1
  cases loopO (gl2 (fun a b : index_Key => decide ((⟨a.f_Type, a.N, a.S⟩ : index_Key) = (⟨b.f_Type, b.N, b.S⟩ : index_Key))) (⟨0, 0, []⟩ : index_Key)) (x, 1) with
  | none => rfl
  | some b => cases b <;> rfl
def ascL (l : List (List UInt8)) : List (List UInt8) := dd (l.mergeSort fun a b => decide (a ≤ b))
theorem ascL_mem (l : List (List UInt8)) (x : List UInt8) : x ∈ ascL l ↔ x ∈ l := by
  unfold ascL
  rw [dd_mem, (List.mergeSort_perm l _).mem_iff]
theorem ascL_length (l : List (List UInt8)) : (ascL l).length ≤ l.length := by
  unfold ascL
  refine Nat.le_trans (dd_length _) ?_
  rw [(List.mergeSort_perm l _).length_eq]
  exact Nat.le_refl _
theorem ascL_asc (l : List (List UInt8)) : Asc (ascL l) := by
  have tr : ∀ a b c : List UInt8, (decide (a ≤ b)) = true → (decide (b ≤ c)) = true → (decide (a ≤ c)) = true := fun a b c h1 h2 => by simp only [decide_eq_true_eq] at *; exact List.le_trans h1 h2
  have to : ∀ a b : List UInt8, ((decide (a ≤ b)) || (decide (b ≤ a))) = true := fun a b => by simp only [Bool.or_eq_true, decide_eq_true_eq]; exact List.le_total a b
  refine dd_srt (lt := fun a b => Op.bytesLess a b = true) (fun a b h1 h2 => bl_tri (by simpa using h1) (by simpa using h2)) ?_
  refine (List.pairwise_mergeSort tr to l).imp fun {a b} h => ?_
  rw [Go.Proofs.bytesLess_eq, decide_eq_true_eq]
  rw [decide_eq_true_eq] at h
  exact fun h' => absurd h (by simpa using h')
theorem ascending_eq {l : List (List UInt8)} (h : l.length * 16 ≤ 140737488355328) : index_ascending l = some (ascL l) := by
  unfold index_ascending
  rw [if_pos h]
  exact compactS_eq (by rw [(List.mergeSort_perm l _).length_eq]; omega)
theorem ascS_ext {l l' : List (List UInt8)} (h : Asc l) (h' : Asc l') (hm : ∀ x, x ∈ l ↔ x ∈ l') : l = l' :=
  srt_ext (lt := fun a b => Op.bytesLess a b = true) (fun a => by rw [bl_irrefl]; simp) (fun a b c h1 h2 => bl_trans h1 h2) h h' hm
end Go.Proofs.YtpfgdjfiimknlaaGreat
set_option linter.unusedVariables false
set_option linter.unusedSimpArgs false
namespace Go.Proofs.YtpfgdjfiimknlaaGreat
open Go Go.Proofs.YtpfgdjfiimknlaaGreatL
theorem FieldOf_eq {n : Nat} {o : fold_Object} (h1 : o.Fields.length ≤ n) (h2 : ∀ y ∈ o.Fields, GF n y) (hn : n ≤ 1000000) (k : List UInt8) :
    fold_FieldOf o k = some ((get FN_ o.Fields k).getD { fold_zero with Name := k }) := by
  unfold fold_FieldOf
  have key : loopO (fold_FieldOf.l1 o k) (0, (⟨[], (⟨false, 0, 0, 0, 0, []⟩ : fold_Register), false, 0, 0, [], false⟩ : fold_Field)) = some (match get FN_ o.Fields k with | some y => .inr y | none => .inl ⟨[], ⟨false, 0, 0, 0, 0, []⟩, false, 0, 0, [], false⟩) := by
    have h1 := loopO_runL (step := fold_FieldOf.l1 o k) (fun i (z : fold_Field) => ((i : Int), z)) (fun _ y (z : fold_Field) => if y.Name = k then some (.inr (.inr y)) else some (.inl z)) (fun z => some (.inl z)) o.Fields (fun i hi z => ?_) (fun z => ?_) ⟨[], ⟨false, 0, 0, 0, 0, []⟩, false, 0, 0, [], false⟩
    · have h2 : ∀ (l : List fold_Field) (i : Nat) (z : fold_Field), runL (fun _ (y : fold_Field) (z : fold_Field) => if y.Name = k then some (.inr (.inr y : fold_Field ⊕ fold_Field)) else some (.inl z)) (fun z => some (.inl z)) i l z = some (match get FN_ l k with | some y => .inr y | none => .inl z) := by
        intro l
        induction l with
        | nil => intro i z; rfl
        | cons o l ih =>
          intro i z
          rw [runL, get_cons]
          by_cases he : o.Name = k
          · rw [if_pos he, if_pos he]
          · rw [if_neg he, if_neg he]
            exact ih _ z
      rw [← h2 o.Fields 0]
      exact h1
    · have hm := List.getElem_mem hi
      unfold fold_FieldOf.l1
      simp only [lt_of_len hi, if_true, idx_nat hi, Option.bind_some]
      by_cases he : o.Fields[i].Name = k
      · rw [if_pos (by simp [he]), if_pos he, clone_eq (by have := (h2 _ hm).len; omega)]
        rfl
      · rw [if_neg (by simpa using he), if_neg he, letV, wcast hi (by omega)]
    · unfold fold_FieldOf.l1
      simp only [not_lt_len, Bool.false_eq_true, if_false]
      rfl
  rw [key, Option.bind_some]
  cases get FN_ o.Fields k with
  | none => rfl
  | some o => rfl
structure GO (o : fold_Object) : Prop where
  len : o.Fields.length ≤ 100
  good : ∀ y ∈ o.Fields, GF 100 y
theorem GD.go {objs : List fold_Object} (h : GD 100 objs) : ∀ o ∈ objs, GO o := fun o ho => ⟨h.flen o ho, h.good o ho⟩
def fieldN (o : fold_Object) (k : List UInt8) : fold_Field := (get FN_ o.Fields k).getD { fold_zero with Name := k }
theorem fieldN_good {o : fold_Object} (g : GO o) (k : List UInt8) : Asc (fieldN o k).Elems ∧ (fieldN o k).Elems.length ≤ 100 := by
  unfold fieldN
  cases h : get FN_ o.Fields k with
  | none => exact ⟨List.Pairwise.nil, Nat.zero_le _⟩
  | some y =>
    have := g.good y (get_mem h)
    exact ⟨this.asc, this.len⟩
def keysF (f : schema_Field) (y : fold_Field) : List index_Key :=
  if f.Kind = 1 ∧ y.Register.Set = true ∧ f.f_Type = 1 then [⟨1, y.Register.N, []⟩]
  else if f.Kind = 1 ∧ y.Register.Set = true ∧ f.f_Type = 2 then [⟨2, 0, y.Register.S⟩]
  else if f.Kind = 4 then y.Elems.map fun s => ⟨2, 0, s⟩ else []
def keysOf (f : schema_Field) (o : fold_Object) : List index_Key := keysF f (fieldN o f.Name)
theorem keysF_srt {f : schema_Field} {y : fold_Field} (h : Asc y.Elems) : (keysF f y).Pairwise keyLt := by
  unfold keysF
  split
  · exact List.pairwise_singleton _ _
  · split
    · exact List.pairwise_singleton _ _
    · split
      · refine List.pairwise_map.2 (h.imp fun {a b} hab => ?_)
        exact .inr ⟨rfl, .inr ⟨rfl, hab⟩⟩
      · exact List.Pairwise.nil
theorem keysF_length {f : schema_Field} {y : fold_Field} (h : y.Elems.length ≤ 100) : (keysF f y).length ≤ 100 := by
  unfold keysF
  split
  · simp
  · split
    · simp
    · split
      · rw [List.length_map]; exact h
      · simp
theorem keysOf_srt {f : schema_Field} {o : fold_Object} (g : GO o) : (keysOf f o).Pairwise keyLt := keysF_srt (fieldN_good g f.Name).1
theorem keysOf_length {f : schema_Field} {o : fold_Object} (g : GO o) : (keysOf f o).length ≤ 100 := keysF_length (fieldN_good g f.Name).2
theorem keyLt_ne {a b : index_Key} (h : keyLt a b) : a ≠ b := fun e => keyLt_irrefl a (by rw [← e] at h; exact h)
theorem keyLt_asymm {a b : index_Key} (h : keyLt a b) : ¬ keyLt b a := fun k => keyLt_irrefl a (keyLt_trans h k)
theorem sortKeys_self {l : List index_Key} (h : l.Pairwise keyLt) (hl : l.length ≤ 1000000) : slices_SortFunc_Key l = some l := by
  unfold slices_SortFunc_Key sortU
  rw [if_pos ⟨h.imp fun {a b} hab => .inl (by rw [decide_eq_true_eq, keyCmp_lt]; exact hab), by omega⟩]
  congr 1
  refine List.mergeSort_of_pairwise (h.imp fun {a b} hab => ?_)
  have : ¬ keyCmp b a < 0 := by rw [keyCmp_lt]; exact keyLt_asymm hab
  simpa using this
theorem keys_j1 {l : List index_Key} (h : l.Pairwise keyLt) (hl : l.length ≤ 1000000) : index_Keys.j1 l = some l := by
  unfold index_Keys.j1
  rw [sortKeys_self h hl, Option.bind_some, compactK_eq (by omega), Option.bind_some, dd_self (h.imp fun {a b} hab => keyLt_ne hab)]
theorem index_Keys_eq {f : schema_Field} {o : fold_Object} (g : GO o) : index_Keys f o = some (keysOf f o) := by
  unfold index_Keys
  rw [FieldOf_eq g.len g.good (by decide), Option.bind_some]
  obtain ⟨h1, h2⟩ := fieldN_good g f.Name
  have hs : (keysOf f o).Pairwise keyLt := keysOf_srt g
  have hlen : (keysOf f o).length ≤ 100 := keysOf_length g
  unfold keysOf at hs hlen ⊢
  change (let y := fieldN o f.Name; _) = _
  obtain ⟨y, hy⟩ : ∃ y, y = fieldN o f.Name := ⟨_, rfl⟩
  have hy' : (get FN_ o.Fields f.Name).getD { fold_zero with Name := f.Name } = y := hy.symm
  rw [← hy] at h1 h2 hs hlen ⊢
  simp only [hy']
  have fin : ∀ l, l = keysF f y → index_Keys.j1 l = some (keysF f y) := fun l hl => by
    rw [hl]; exact keys_j1 hs (by omega)
  have loop : loopO (index_Keys.l1 y) ([], 0) = some (y.Elems.map fun s => (⟨2, 0, s⟩ : index_Key)) := by
    have := loopO_up (step := index_Keys.l1 y) (fun k => ((y.Elems.take k).map fun s => (⟨2, 0, s⟩ : index_Key), (k : Int))) y.Elems.length (b := y.Elems.map fun s => (⟨2, 0, s⟩ : index_Key)) (fun k hk => ?_) ?_
    · exact this
    · unfold index_Keys.l1
      simp only [lt_of_len hk, if_true, idx_nat hk, Option.bind_some]
      rw [app_of (by simp; omega), Option.bind_some, letV_of, wcast hk (by omega), take_snoc hk, List.map_append]
      rfl
    · unfold index_Keys.l1
      simp only [not_lt_len, Bool.false_eq_true, if_false, List.take_length]
  have hf2 : index_Keys.j2 f y false = some (if f.Kind = 4 then y.Elems.map fun s => (⟨2, 0, s⟩ : index_Key) else []) := by
    unfold index_Keys.j2
    rw [if_neg (by simp)]
    by_cases hk : f.Kind = 4
    · rw [if_pos (by simpa using hk), if_pos hk, loop, Option.bind_some]
      refine keys_j1 ?_ (by rw [List.length_map]; omega)
      exact List.pairwise_map.2 (h1.imp fun {a b} hab => .inr ⟨rfl, .inr ⟨rfl, hab⟩⟩)
    · rw [if_neg (by simpa using hk), if_neg hk]
      exact keys_j1 .nil (by simp)
  have hf3 : index_Keys.j3 f y false = some (if f.Kind = 1 ∧ y.Register.Set = true ∧ f.f_Type = 2 then [⟨2, 0, y.Register.S⟩] else if f.Kind = 4 then y.Elems.map fun s => (⟨2, 0, s⟩ : index_Key) else []) := by
    unfold index_Keys.j3
    rw [if_neg (by simp)]
    by_cases hk : f.Kind = 1
    · rw [if_pos (by simpa using hk)]
      cases hS : y.Register.Set with
      | false => rw [if_neg (by simp), hf2]; simp
      | true =>
        rw [if_pos rfl]
        by_cases ht : f.f_Type = 2
        · rw [if_pos ⟨hk, rfl, ht⟩]
          unfold index_Keys.j2
          rw [if_pos (by simpa using ht), app_of (by simp), Option.bind_some, ht]
          exact keys_j1 (List.pairwise_singleton _ _) (by simp)
        · rw [if_neg (fun h => ht h.2.2), show (f.f_Type == 2) = false by simpa using ht, hf2]
    · rw [if_neg (by simpa using hk), hf2]; simp [hk]
  unfold keysF
  by_cases hk : f.Kind = 1
  · rw [if_pos (by simpa using hk)]
    cases hS : y.Register.Set with
    | false => rw [if_neg (by simp), hf3]; simp [hS]
    | true =>
      rw [if_pos rfl]
      by_cases ht : f.f_Type = 1
      · rw [if_pos ⟨hk, rfl, ht⟩]
        unfold index_Keys.j3
        rw [if_pos (by simpa using ht), app_of (by simp), Option.bind_some, ht]
        exact keys_j1 (List.pairwise_singleton _ _) (by simp)
      · rw [if_neg (fun h => ht h.2.2), show (f.f_Type == 1) = false by simpa using ht, hf3, hS]
  · rw [if_neg (by simpa using hk), hf3]; simp [hk]
def pairsOf (f : schema_Field) (objs : List fold_Object) : List index_pair := objs.flatMap fun o => (keysOf f o).map fun k => ⟨k, o.Name⟩
theorem pairsOf_mem {f : schema_Field} {objs : List fold_Object} {p : index_pair} : p ∈ pairsOf f objs ↔ ∃ o ∈ objs, o.Name = p.f_object ∧ p.f_key ∈ keysOf f o := by
  unfold pairsOf
  rw [List.mem_flatMap]
  constructor
  · rintro ⟨o, ho, hp⟩
    obtain ⟨k, hk, rfl⟩ := List.mem_map.1 hp
    exact ⟨o, ho, rfl, hk⟩
  · rintro ⟨o, ho, hn, hk⟩
    refine ⟨o, ho, List.mem_map.2 ⟨p.f_key, hk, ?_⟩⟩
    rw [hn]
theorem pairsOf_length {f : schema_Field} : ∀ {objs : List fold_Object}, (∀ o ∈ objs, GO o) → (pairsOf f objs).length ≤ 100 * objs.length
  | [], _ => Nat.zero_le _
  | o :: objs, h => by
    have h1 := keysOf_length (f := f) (h o (by simp))
    have h2 := pairsOf_length (f := f) (objs := objs) fun q hq => h q (by simp [hq])
    unfold pairsOf at h2 ⊢
    rw [List.flatMap_cons, List.length_append, List.length_map, List.length_cons]
    omega
theorem pairsOf_snoc (f : schema_Field) (objs : List fold_Object) (o : fold_Object) : pairsOf f (objs ++ [o]) = pairsOf f objs ++ (keysOf f o).map fun k => ⟨k, o.Name⟩ := by
  unfold pairsOf
  rw [List.flatMap_append, List.flatMap_cons, List.flatMap_nil, List.append_nil]
theorem pairs_eq {f : schema_Field} {objs : List fold_Object} (h : ∀ o ∈ objs, GO o) (hl : objs.length ≤ 1000) : index_pairs f objs = some (pairsOf f objs) := by
  unfold index_pairs
  have := loopO_up (step := index_pairs.l2 f objs) (fun k => (pairsOf f (objs.take k), (k : Int))) objs.length (b := pairsOf f objs) (fun k hk => ?_) ?_
  · have this : loopO (index_pairs.l2 f objs) ([], 0) = some (pairsOf f objs) := this
    rw [this]
    rfl
  · have hg := h _ (List.getElem_mem hk)
    have hkl := keysOf_length (f := f) hg
    have hpl : (pairsOf f (objs.take k)).length ≤ 100 * 1000 := by
      have := pairsOf_length (f := f) (objs := objs.take k) fun q hq => h q (List.mem_of_mem_take hq)
      rw [List.length_take] at this
      omega
    unfold index_pairs.l2
    simp only [lt_of_len hk, if_true, idx_nat hk, Option.bind_some]
    rw [index_Keys_eq hg, Option.bind_some]
    have inner := loopO_up (step := index_pairs.l1 objs[k] (keysOf f objs[k])) (fun j => (pairsOf f (objs.take k) ++ ((keysOf f objs[k]).take j).map fun q => ⟨q, objs[k].Name⟩, (j : Int))) (keysOf f objs[k]).length (b := pairsOf f (objs.take k) ++ (keysOf f objs[k]).map fun q => ⟨q, objs[k].Name⟩) (fun j hj => ?_) ?_
    · have inner : loopO (index_pairs.l1 objs[k] (keysOf f objs[k])) (pairsOf f (objs.take k) ++ [], 0) = _ := inner
      rw [List.append_nil] at inner
      rw [inner, Option.bind_some]
      unfold index_pairs.j2
      rw [letV_of, wcast hk (by omega), take_snoc hk, pairsOf_snoc]
    · unfold index_pairs.l1
      simp only [lt_of_len hj, if_true, idx_nat hj, Option.bind_some]
      rw [app_of (by simp only [List.length_append, List.length_map, List.length_take, List.length_singleton]; omega), Option.bind_some, letV_of, wcast hj (by omega), take_snoc hj, List.map_append, List.append_assoc]
      rfl
    · unfold index_pairs.l1
      simp only [not_lt_len, Bool.false_eq_true, if_false, List.take_length]
  · unfold index_pairs.l2
    simp only [not_lt_len, Bool.false_eq_true, if_false, List.take_length]
end Go.Proofs.YtpfgdjfiimknlaaGreat
set_option linter.unusedVariables false
set_option linter.unusedSimpArgs false
namespace Go.Proofs.YtpfgdjfiimknlaaGreat
open Go Go.Proofs.YtpfgdjfiimknlaaGreatL
structure IsIx (P : index_Key → List UInt8 → Prop) (es : List index_Entry) : Prop where
  srt : es.Pairwise fun a b => keyLt a.Key b.Key
  asc : ∀ e ∈ es, Asc e.Objects
  ne : ∀ e ∈ es, e.Objects ≠ []
  mem : ∀ k s, (∃ e ∈ es, e.Key = k ∧ s ∈ e.Objects) ↔ P k s
theorem ix_key {es : List index_Entry} (h : es.Pairwise fun a b => keyLt a.Key b.Key) {a b : index_Entry} (ha : a ∈ es) (hb : b ∈ es) (e : a.Key = b.Key) : a = b := by
  induction es with
  | nil => simp at ha
  | cons c es ih =>
    have h1 := (List.pairwise_cons.1 h).1
    have h2 := (List.pairwise_cons.1 h).2
    rcases List.mem_cons.1 ha with p | p <;> rcases List.mem_cons.1 hb with q | q
    · rw [p, q]
    · rw [p] at e; exact absurd e (keyLt_ne (h1 b q))
    · rw [q] at e; exact absurd e.symm (keyLt_ne (h1 a p))
    · exact ih h2 p q
theorem IsIx.obj {P : index_Key → List UInt8 → Prop} {es : List index_Entry} (h : IsIx P es) {e : index_Entry} (he : e ∈ es) (s : List UInt8) : s ∈ e.Objects ↔ P e.Key s := by
  rw [← h.mem]
  constructor
  · exact fun hs => ⟨e, he, rfl, hs⟩
  · rintro ⟨e', he', hk, hs⟩
    rw [← ix_key h.srt he' he hk]
    exact hs
theorem IsIx.sub {P : index_Key → List UInt8 → Prop} {es es' : List index_Entry} (h : IsIx P es) (h' : IsIx P es') {e : index_Entry} (he : e ∈ es) : e ∈ es' := by
  obtain ⟨s, hs⟩ : ∃ s, s ∈ e.Objects := by
    cases ho : e.Objects with
    | nil => exact absurd ho (h.ne e he)
    | cons s l => exact ⟨s, by simp⟩
  obtain ⟨e', he', hk, _⟩ := (h'.mem e.Key s).2 ((h.obj he s).1 hs)
  have : e.Objects = e'.Objects := ascS_ext (h.asc e he) (h'.asc e' he') fun x => by rw [h.obj he, h'.obj he', hk]
  have e2 : e = e' := by
    obtain ⟨k, o⟩ := e
    obtain ⟨k', o'⟩ := e'
    simp only at this hk
    rw [this, hk]
  rw [e2]
  exact he'
theorem IsIx.uniq {P : index_Key → List UInt8 → Prop} {es es' : List index_Entry} (h : IsIx P es) (h' : IsIx P es') : es = es' :=
  srt_ext (lt := fun a b => keyLt a.Key b.Key) (fun _ => keyLt_irrefl _) (fun _ _ _ => keyLt_trans) h.srt h'.srt fun x => ⟨fun hx => h.sub h' hx, fun hx => h'.sub h hx⟩
theorem IsIx.congr {P Q : index_Key → List UInt8 → Prop} {es : List index_Entry} (h : IsIx P es) (hpq : ∀ k s, P k s ↔ Q k s) : IsIx Q es := ⟨h.srt, h.asc, h.ne, fun k s => by rw [h.mem, hpq]⟩
section
variable {κ β : Type} [BEq κ] [LawfulBEq κ]
theorem nodup_lookupK : ∀ {x : List (κ × β)}, (x.map (·.1)).Nodup → ∀ o ∈ x, x.lookup o.1 = some o.2
  | [], _, o, h => by simp at h
  | a :: x, hn, o, h => by
    rw [List.map_cons, List.nodup_cons] at hn
    rw [List.lookup_cons]
    rcases List.mem_cons.1 h with rfl | h
    · simp
    · have : (o.1 == a.1) = false := by
        rw [beq_eq_false_iff_ne]
        exact fun e => hn.1 (List.mem_map.2 ⟨o, h, e⟩)
      rw [this]
      exact nodup_lookupK hn.2 o h
theorem lookup_memK {x : List (κ × β)} {k : κ} {b : β} (h : x.lookup k = some b) : (k, b) ∈ x := by
  induction x with
  | nil => cases h
  | cons a x ih =>
    rw [List.lookup_cons] at h
    cases hk : k == a.1 with
    | true =>
      rw [hk] at h
      have e : k = a.1 := by simpa using hk
      have : a = (k, b) := by rw [e]; exact Prod.ext rfl (Option.some.inj h)
      rw [this]; simp
    | false => rw [hk] at h; exact List.mem_cons_of_mem _ (ih h)
end
structure Grp (l : List index_pair) (gs : List (index_Key × List index_pair)) : Prop where
  nd : (gs.map (·.1)).Nodup
  len : gs.length ≤ l.length
  at_ : ∀ k, gs.lookup k = if l.filter (fun p => decide (p.f_key = k)) = [] then none else some (l.filter fun p => decide (p.f_key = k))
theorem groupBy_ex {l : List index_pair} (hl : l.length ≤ 1000000000) : ∃ gs, index_groupBy l = some gs ∧ Grp l gs := by
  unfold index_groupBy
  refine loopO_inv (fun n s => s.1 = (n : Int) ∧ Grp (l.take n) s.2) l.length ⟨rfl, ⟨by simp, by simp, fun k => by simp⟩⟩ ?_ ?_
  · rintro n ⟨i, gs⟩ hn ⟨hi, g⟩
    simp only at hi g
    subst hi
    have glen := g.len
    rw [List.length_take] at glen
    unfold index_groupBy.l1
    simp only [lt_of_len hn, if_true, idx_nat hn, Option.bind_some]
    have e1 : index_pair_group l[n] = some l[n].f_key := rfl
    have hfl : ((gs.lookup l[n].f_key).getD []) = (l.take n).filter fun p => decide (p.f_key = l[n].f_key) := by
      rw [g.at_]
      split
      · rename_i h; rw [h]; rfl
      · rfl
    have hfl2 := List.length_filter_le (fun p => decide (p.f_key = l[n].f_key)) (l.take n)
    rw [List.length_take] at hfl2
    rw [e1, Option.bind_some, hfl, app_of (by rw [List.length_singleton]; omega), Option.bind_some, letV_of, wcast hn (by omega)]
    refine ⟨_, rfl, rfl, ?_⟩
    simp only
    refine ⟨(mset_keys _ _ _ g.nd).1, ?_, fun k => ?_⟩
    · have := mset_length l[n].f_key ((l.take n).filter (fun p => decide (p.f_key = l[n].f_key)) ++ [l[n]]) gs
      rw [List.length_take]
      omega
    · rw [mset_lookup, take_snoc hn, List.filter_append]
      by_cases hk : k = l[n].f_key
      · rw [if_pos (by simp [hk]), ← hk, if_neg]
        · congr 2
          rw [List.filter_cons, if_pos (by simp [hk])]
          rfl
        · rw [List.filter_cons, if_pos (by simp [hk])]
          simp
      · have e2 : [l[n]].filter (fun p => decide (p.f_key = k)) = [] := by
          rw [List.filter_cons, if_neg (by simpa using fun e => hk e.symm)]
          rfl
        rw [if_neg (by simpa using hk), g.at_, e2, List.append_nil]
  · rintro ⟨i, gs⟩ ⟨hi, g⟩
    simp only at hi g
    subst hi
    unfold index_groupBy.l1
    simp only [not_lt_len, Bool.false_eq_true, if_false]
    rw [List.take_length] at g
    exact ⟨gs, rfl, g⟩
def ent (p : index_Key × List index_pair) : index_Entry := ⟨p.1, ascL (p.2.map fun q => q.f_object)⟩
def srtE (es : List index_Entry) : List index_Entry := es.mergeSort fun a b => !decide (keyCmp b.Key a.Key < 0)
theorem objs_loop {g : List index_pair} (hl : g.length ≤ 1000000000) : loopO (index_collect.l1 g) (0, []) = some (g.map fun q => q.f_object) := by
  have := loopO_up (step := index_collect.l1 g) (fun k => ((k : Int), (g.take k).map fun q => q.f_object)) g.length (b := g.map fun q => q.f_object) (fun k hk => ?_) ?_
  · exact this
  · unfold index_collect.l1
    simp only [lt_of_len hk, if_true, idx_nat hk, Option.bind_some]
    rw [app_of (by simp only [List.length_map, List.length_take, List.length_singleton]; omega), Option.bind_some, letV_of, wcast hk (by omega), take_snoc hk, List.map_append]
    rfl
  · unfold index_collect.l1
    simp only [not_lt_len, Bool.false_eq_true, if_false, List.take_length]
theorem ents_fold : ∀ (t : List (index_Key × List index_pair)) (es : List index_Entry), (∀ p ∈ t, p.2.length ≤ 1000000000) → es.length + t.length ≤ 1000000000 →
    foldO (fun p : index_Key × (List index_pair) => index_collect.l2 p.1 p.2) t es = some (.inl (es ++ t.map ent))
  | [], es, _, _ => by rw [foldO, List.map_nil, List.append_nil]
  | p :: t, es, h, hl => by
    have hp := h p (by simp)
    rw [List.length_cons] at hl
    have step : index_collect.l2 p.1 p.2 es = some (.inl (es ++ [ent p])) := by
      unfold index_collect.l2 index_collect.j2
      rw [objs_loop hp, Option.bind_some, ascending_eq (by rw [List.length_map]; omega), Option.bind_some, app_of (by rw [List.length_singleton]; omega), Option.bind_some]
      rfl
    rw [foldO, step]
    have := ents_fold t (es ++ [ent p]) (fun q hq => h q (by simp [hq])) (by rw [List.length_append, List.length_singleton]; omega)
    simp only
    rw [this, List.map_cons, List.append_assoc]
    rfl
theorem srtE_perm (es : List index_Entry) : (srtE es).Perm es := List.mergeSort_perm _ _
theorem sortE_eq {es : List index_Entry} (h : (es.map (·.Key)).Nodup) (hl : es.length ≤ 1000000000) : slices_SortFunc_Entry es = some (srtE es) ∧ (srtE es).Pairwise fun a b => keyLt a.Key b.Key := by
  have hp : es.Pairwise fun a b => decide (keyCmp a.Key b.Key < 0) = true ∨ decide (keyCmp b.Key a.Key < 0) = true := by
    refine (List.pairwise_map.1 h).imp fun {a b} hab => ?_
    simp only [decide_eq_true_eq, keyCmp_lt]
    refine Classical.byContradiction fun hc => ?_
    rw [not_or] at hc
    exact hab (key_tri hc.1 hc.2)
  have e1 : slices_SortFunc_Entry es = some (srtE es) := by
    unfold slices_SortFunc_Entry sortU
    rw [if_pos ⟨hp, by omega⟩]
    rfl
  refine ⟨e1, ?_⟩
  have h1 := sortU_sorted (swo_keys fun e : index_Entry => e.Key) (xs := es) (ys := srtE es) e1
  have h2 := pairwise_perm (fun a b h => h.symm) (srtE_perm es).symm hp
  refine (h1.and h2).imp fun {a b} hab => ?_
  obtain ⟨a1, a2⟩ := hab
  simp only [decide_eq_true_eq, decide_eq_false_iff_not, keyCmp_lt] at a1 a2
  exact a2.resolve_right a1
theorem collect_eq {f : schema_Field} {l : List index_pair} (hl : l.length ≤ 1000000000) :
    ∃ es, index_collect f l = some ⟨f, es⟩ ∧ IsIx (fun k s => (⟨k, s⟩ : index_pair) ∈ l) es ∧ es.length ≤ l.length ∧ ∀ e ∈ es, e.Objects.length ≤ l.length := by
  obtain ⟨gs, e1, g⟩ := groupBy_ex hl
  have glen := g.len
  have gmem : ∀ p : index_Key × List index_pair, p ∈ gs → p.2 = (l.filter fun q => decide (q.f_key = p.1)) ∧ p.2 ≠ [] := by
    intro p hp
    have h1 := nodup_lookupK g.nd p hp
    rw [g.at_] at h1
    split at h1
    · cases h1
    · rename_i hne
      have := Option.some.inj h1
      exact ⟨this.symm, by rw [← this]; exact hne⟩
  have facts : ∀ t : List (index_Key × List index_pair), t.Perm gs → (foldO (fun p : index_Key × (List index_pair) => index_collect.l2 p.1 p.2) t []) = some (.inl (t.map ent)) ∧ slices_SortFunc_Entry (t.map ent) = some (srtE (t.map ent)) ∧ IsIx (fun k s => (⟨k, s⟩ : index_pair) ∈ l) (srtE (t.map ent)) := by
    intro t ht
    have tl : t.length ≤ 1000000000 := by rw [ht.length_eq]; omega
    have tm : ∀ p ∈ t, p.2.length ≤ l.length := fun p hp => by
      rw [(gmem p (ht.mem_iff.1 hp)).1]
      exact List.length_filter_le _ _
    have f1 := ents_fold t [] (fun p hp => Nat.le_trans (tm p hp) hl) (by simpa using tl)
    rw [List.nil_append] at f1
    have nd : ((t.map ent).map (·.Key)).Nodup := by
      rw [List.map_map]
      exact ((ht.map (·.1)).nodup_iff).2 g.nd
    obtain ⟨s1, s2⟩ := sortE_eq nd (by rw [List.length_map]; exact tl)
    refine ⟨f1, s1, s2, fun e he => ?_, fun e he => ?_, fun k s => ?_⟩
    · obtain ⟨p, _, rfl⟩ := List.mem_map.1 ((srtE_perm _).mem_iff.1 he)
      exact ascL_asc _
    · obtain ⟨p, hp, rfl⟩ := List.mem_map.1 ((srtE_perm _).mem_iff.1 he)
      obtain ⟨q, hq⟩ : ∃ q, q ∈ p.2 := by
        cases h2 : p.2 with
        | nil => exact absurd h2 (gmem p (ht.mem_iff.1 hp)).2
        | cons q _ => exact ⟨q, by simp⟩
      intro h0
      have : q.f_object ∈ (ent p).Objects := (ascL_mem _ _).2 (List.mem_map.2 ⟨q, hq, rfl⟩)
      rw [h0] at this
      simp at this
    · constructor
      · rintro ⟨e, he, hk, hs⟩
        obtain ⟨p, hp, rfl⟩ := List.mem_map.1 ((srtE_perm _).mem_iff.1 he)
        obtain ⟨q, hq, rfl⟩ := List.mem_map.1 ((ascL_mem _ _).1 hs)
        rw [(gmem p (ht.mem_iff.1 hp)).1, List.mem_filter] at hq
        have hk2 : q.f_key = p.1 := by simpa using hq.2
        have hk : p.1 = k := hk
        rw [← hk, ← hk2]
        exact hq.1
      · intro hm
        have hf : (⟨k, s⟩ : index_pair) ∈ l.filter fun q => decide (q.f_key = k) := List.mem_filter.2 ⟨hm, by simp⟩
        have hlk : gs.lookup k = some (l.filter fun q => decide (q.f_key = k)) := by
          rw [g.at_, if_neg]
          intro h0
          rw [h0] at hf
          simp at hf
        have hg := lookup_memK hlk
        refine ⟨ent (k, l.filter fun q => decide (q.f_key = k)), (srtE_perm _).mem_iff.2 (List.mem_map.2 ⟨_, ht.mem_iff.2 hg, rfl⟩), rfl, ?_⟩
        exact (ascL_mem _ _).2 (List.mem_map.2 ⟨_, hf, rfl⟩)
  obtain ⟨_, _, ix0⟩ := facts gs (.refl _)
  refine ⟨srtE (gs.map ent), ?_, ix0, ?_, fun e he => ?_⟩
  · unfold index_collect
    rw [e1, Option.bind_some]
    refine permI fun t ht => ?_
    obtain ⟨f1, f2, f3⟩ := facts t ht
    rw [f1, Option.bind_some]
    simp only
    unfold index_collect.j1
    rw [f2, Option.bind_some, f3.uniq ix0]
  · rw [(srtE_perm _).length_eq, List.length_map]
    exact glen
  · obtain ⟨p, hp, rfl⟩ := List.mem_map.1 ((srtE_perm _).mem_iff.1 he)
    refine Nat.le_trans (ascL_length _) ?_
    rw [List.length_map, (gmem p hp).1]
    exact List.length_filter_le _ _
def PB (f : schema_Field) (objs : List fold_Object) (k : index_Key) (s : List UInt8) : Prop := ∃ o ∈ objs, o.Name = s ∧ k ∈ keysOf f o
structure GX (P : index_Key → List UInt8 → Prop) (es : List index_Entry) : Prop where
  ix : IsIx P es
  len : es.length ≤ 10000
  olen : ∀ e ∈ es, e.Objects.length ≤ 10000
theorem Build_eq (f : schema_Field) {objs : List fold_Object} (h : ∀ o ∈ objs, GO o) (hl : objs.length ≤ 100) : ∃ es, index_Build f ⟨objs⟩ = some ⟨f, es⟩ ∧ GX (PB f objs) es := by
  have hpl := pairsOf_length (f := f) h
  obtain ⟨es, e1, e2, e3, e4⟩ := collect_eq (f := f) (l := pairsOf f objs) (by omega)
  refine ⟨es, ?_, e2.congr fun k s => pairsOf_mem, by omega, fun e he => by have := e4 e he; omega⟩
  unfold index_Build
  rw [pairs_eq h (by omega), Option.bind_some, e1, Option.bind_some]
theorem GX.uniq {P : index_Key → List UInt8 → Prop} {es es' : List index_Entry} (h : GX P es) (h' : GX P es') : es = es' := h.ix.uniq h'.ix
end Go.Proofs.YtpfgdjfiimknlaaGreat
set_option linter.unusedVariables false
set_option linter.unusedSimpArgs false
namespace Go.Proofs.YtpfgdjfiimknlaaGreat
open Go Go.Proofs.YtpfgdjfiimknlaaGreatL
theorem Compare_eq (a b : index_Key) : index_Compare a b = some (keyCmp a b) := by
  unfold index_Compare
  rw [compare_eq, Option.bind_some, compare64_eq, Option.bind_some, compareS_eq, Option.bind_some, or_eq, Option.bind_some]
  rfl
theorem cmpI_swap (x y : Int) : cmpI y x = - cmpI x y := by
  unfold cmpI
  split <;> split <;> omega
theorem cmpS_swap (x y : List UInt8) : cmpS y x = - cmpS x y := by
  unfold cmpS
  cases h1 : Op.bytesLess x y with
  | true => rw [bl_asymm h1]; rfl
  | false => cases h2 : Op.bytesLess y x <;> rfl
theorem keyCmp_swap (a b : index_Key) : keyCmp b a = - keyCmp a b := by
  unfold keyCmp
  rw [cmpI_swap a.f_Type, cmpI_swap a.N, cmpS_swap a.S]
  by_cases h1 : cmpI a.f_Type b.f_Type = 0
  · by_cases h2 : cmpI a.N b.N = 0
    · simp [h1, h2]
    · simp [h1, h2]
  · simp [h1]
theorem keyCmp_gt (a b : index_Key) : 0 < keyCmp a b ↔ keyLt b a := by
  rw [← keyCmp_lt, keyCmp_swap b a]
  omega
theorem keyCmp_le (a b : index_Key) : keyCmp a b ≤ 0 ↔ ¬ keyLt b a := by
  rw [← keyCmp_gt]
  omega
end Go.Proofs.YtpfgdjfiimknlaaGreat
set_option linter.unusedVariables false
set_option linter.unusedSimpArgs false
namespace Go.Proofs.YtpfgdjfiimknlaaGreat
open Go Go.Proofs.YtpfgdjfiimknlaaGreatL
end Go.Proofs.YtpfgdjfiimknlaaGreat
set_option linter.unusedVariables false
set_option linter.unusedSimpArgs false
namespace Go.Proofs.YtpfgdjfiimknlaaGreat
open Go Go.Proofs.YtpfgdjfiimknlaaGreatL
theorem Index_ex (n k : Int) (h1 : 1 ≤ k) (h2 : k ≤ 4611686018427387904) : ∃ d, eslaw00_Index n k = some d ∧ 0 ≤ d ∧ d < k := by
  unfold eslaw00_Index
  rw [if_neg (by simp; omega), if_pos (by omega)]
  have e1 : Int.tmod n k < k := Int.tmod_lt_of_pos _ (by omega)
  have e2 : -k < Int.tmod n k := by
    have : Int.tmod (-n) k < k := Int.tmod_lt_of_pos _ (by omega)
    rw [Int.neg_tmod] at this
    omega
  simp only [letV_of]
  rw [w64 (by omega) (by omega), if_pos (by omega)]
  exact ⟨_, rfl, Int.tmod_nonneg _ (by omega), Int.tmod_lt_of_pos _ (by omega)⟩
theorem Digit_ex (n b : Int) (i : Nat) (h1 : 2 ≤ b) (h2 : b ≤ 16) (hi : i ≤ 100000) : ∃ d, eslaw00_Digit n b (i : Int) = some d ∧ 0 ≤ d ∧ d < b := by
  obtain ⟨x, hx, hx0, hx1⟩ := Index_ex n 1099511627776 (by decide) (by decide)
  unfold eslaw00_Digit
  rw [hx]
  simp only [Option.bind_some]
  have key : ∃ r, loopO (eslaw00_Digit.l1 b (i : Int)) (x, 0) = some r ∧ 0 ≤ r := by
    refine loopO_inv (fun k s => ∃ y : Int, s = (y, (k : Int)) ∧ 0 ≤ y ∧ y < 1099511627776) i ⟨x, rfl, hx0, hx1⟩ (fun k s hk hI => ?_) (fun s hI => ?_)
    · obtain ⟨y, rfl, h3, h4⟩ := hI
      simp only [eslaw00_Digit.l1]
      rw [if_pos (by simpa using hk), if_pos (by omega)]
      have h5 : 0 ≤ Int.tdiv y b := Int.tdiv_nonneg h3 (by omega)
      have h6 : Int.tdiv y b ≤ y := by
        rw [Int.tdiv_eq_ediv_of_nonneg h3]
        exact Int.ediv_le_self _ h3
      simp only [letV_of]
      rw [w64 (x := Int.tdiv y b) (by omega) (by omega), wcast hk (by omega)]
      exact ⟨_, rfl, _, rfl, h5, by omega⟩
    · obtain ⟨y, rfl, h3, h4⟩ := hI
      simp only [eslaw00_Digit.l1]
      rw [if_neg (by simp)]
      exact ⟨_, rfl, h3⟩
  obtain ⟨r, hr, hr0⟩ := key
  rw [hr]
  simp only [Option.bind_some, eslaw00_Digit.j1]
  rw [if_pos (by omega)]
  exact ⟨_, rfl, Int.tmod_nonneg _ hr0, Int.tmod_lt_of_pos _ (by omega)⟩
theorem name_ex (d : Int) : ∃ s, eslaw00_name d = some s ∧ s.length ≤ 2 ∧ s ≠ [] := by
  unfold eslaw00_name
  obtain ⟨x, hx, h0, h1⟩ := Index_ex d 4 (by decide) (by decide)
  rw [hx, Option.bind_some]
  have : x = 0 ∨ x = 1 ∨ x = 2 ∨ x = 3 := by omega
  rcases this with rfl | rfl | rfl | rfl
  · exact ⟨[97], rfl, by decide, by decide⟩
  · exact ⟨[98], rfl, by decide, by decide⟩
  · exact ⟨[99], rfl, by decide, by decide⟩
  · exact ⟨[120, 49], rfl, by decide, by decide⟩
end Go.Proofs.YtpfgdjfiimknlaaGreat
set_option linter.unusedVariables false
set_option linter.unusedSimpArgs false
namespace Go.Proofs.YtpfgdjfiimknlaaGreat
open Go Go.Proofs.YtpfgdjfiimknlaaGreatL
theorem Effect_ex (n : Int) (b : Bool) : ∃ e, eslaw00_Effect n b = some e ∧ EF e ∧ (b = false → e.Kind ≠ 1) := by
  unfold eslaw00_Effect
  obtain ⟨d1, e1, _⟩ := Digit_ex n 4 1 (by decide) (by decide) (by decide)
  obtain ⟨s1, f1, l1, _⟩ := name_ex d1
  obtain ⟨d2, e2, _⟩ := Digit_ex n 4 2 (by decide) (by decide) (by decide)
  obtain ⟨s2, f2, l2, _⟩ := name_ex d2
  obtain ⟨d3, e3, _⟩ := Digit_ex n 16 3 (by decide) (by decide) (by decide)
  obtain ⟨d5, e5, _⟩ := Digit_ex n 4 5 (by decide) (by decide) (by decide)
  obtain ⟨s5, f5, l5, _⟩ := name_ex d5
  obtain ⟨d0, e0, _⟩ := Digit_ex n 4 0 (by decide) (by decide) (by decide)
  have e1 : eslaw00_Digit n 4 1 = some d1 := e1
  have e2 : eslaw00_Digit n 4 2 = some d2 := e2
  have e3 : eslaw00_Digit n 16 3 = some d3 := e3
  have e5 : eslaw00_Digit n 4 5 = some d5 := e5
  have e0 : eslaw00_Digit n 4 0 = some d0 := e0
  simp only [e1, f1, e2, f2, e3, e5, f5, e0, Option.bind_some, letV_of, eslaw00_Effect.j1]
  have m1 : s1.length ≤ 1000 := by omega
  have m2 : s2.length ≤ 1000 := by omega
  have m5 : s5.length ≤ 1000 := by omega
  cases b with
  | true => exact ⟨_, rfl, ⟨m1, m2, m5⟩, by simp⟩
  | false =>
    simp only [Bool.false_eq_true, if_false]
    split
    · exact ⟨_, rfl, ⟨m1, m2, by simp⟩, by simp⟩
    · split
      · exact ⟨_, rfl, ⟨m1, m2, by simp⟩, by simp⟩
      · split
        · exact ⟨_, rfl, ⟨m1, m2, m5⟩, by simp⟩
        · exact ⟨_, rfl, ⟨m1, m2, by simp⟩, by simp⟩
structure UOK (u : api_Update) : Prop where
  len : u.Effects.length ≤ 4
  ef : ∀ e ∈ u.Effects, EF e
  one : u.Effects.length ≤ 1 ∨ ∀ e ∈ u.Effects, e.Kind ≠ 1
theorem Update_ex (c s n : Int) : ∃ u, eslaw00_Update c s n = some u ∧ u.Client = c ∧ u.Seq = s ∧ UOK u := by
  unfold eslaw00_Update
  obtain ⟨d8, e8, _⟩ := Digit_ex n 3 8 (by decide) (by decide) (by decide)
  obtain ⟨d4, e4, _⟩ := Digit_ex n 16 4 (by decide) (by decide) (by decide)
  obtain ⟨ef, hef, hE, _⟩ := Effect_ex n true
  have e8 : eslaw00_Digit n 3 8 = some d8 := e8
  have e4 : eslaw00_Digit n 16 4 = some d4 := e4
  simp only [e8, Option.bind_some]
  split
  · simp only [e4, hef, Option.bind_some]
    refine ⟨_, rfl, rfl, rfl, ⟨by simp, fun e he => ?_, .inl (by simp)⟩⟩
    simp at he
    subst he
    exact hE
  · obtain ⟨d9, e9, h90, h91⟩ := Digit_ex n 3 9 (by decide) (by decide) (by decide)
    have e9 : eslaw00_Digit n 3 9 = some d9 := e9
    have key : ∃ l, loopO (eslaw00_Update.l1 n) (0, []) = some l ∧ (l.length ≤ 4 ∧ ∀ e ∈ l, EF e ∧ e.Kind ≠ 1) := by
      refine loopO_mu (fun s : Int × List api_Effect => 0 ≤ s.1 ∧ s.1 ≤ 3 ∧ s.2.length ≤ s.1.toNat ∧ ∀ e ∈ s.2, EF e ∧ e.Kind ≠ 1) (fun s => (4 - s.1).toNat) ⟨by decide, by decide, by simp, by simp⟩ ?_
      rintro ⟨i, l⟩ ⟨h0, h1, h2, h3⟩
      simp only at h0 h1 h2 h3
      unfold eslaw00_Update.l1
      simp only [e9, Option.bind_some]
      by_cases hc : i ≤ d9
      · rw [if_pos (by simpa using hc)]
        obtain ⟨x, hx, hx0, hx1⟩ := Index_ex n 1099511627776 (by decide) (by decide)
        simp only [hx, Option.bind_some, letV_of]
        rw [w64 (x := i + 1) (by omega) (by omega), if_pos (by omega)]
        obtain ⟨e, he, hE, hk⟩ := Effect_ex (IntKind.i64.wrap (Int.tdiv x (i + 1))) false
        rw [he, Option.bind_some, app_of (by simp only [List.length_singleton]; omega), Option.bind_some]
        refine .inl ⟨_, rfl, ⟨by omega, by omega, ?_, fun q hq => ?_⟩, by simp only; omega⟩
        · simp only [List.length_append, List.length_singleton]; omega
        · rcases List.mem_append.1 hq with hq | hq
          · exact h3 q hq
          · simp at hq; subst hq; exact ⟨hE, hk rfl⟩
      · rw [if_neg (by simpa using hc)]
        exact .inr ⟨l, rfl, by omega, h3⟩
    obtain ⟨l, hl, h1, h2⟩ := key
    rw [hl, Option.bind_some]
    exact ⟨_, rfl, rfl, rfl, ⟨h1, fun e he => (h2 e he).1, .inr fun e he => (h2 e he).2⟩⟩
def ult (a b : api_Update) : Prop := a.Client < b.Client ∨ a.Client = b.Client ∧ a.Seq < b.Seq
structure US (c q : Int) (s : List api_Update) : Prop where
  ok : ∀ u ∈ s, UOK u
  cl : ∀ u ∈ s, 101 ≤ u.Client ∧ (u.Client < 101 + c ∨ u.Client = 101 + c ∧ u.Seq ≤ q)
  sq : ∀ u ∈ s, 1 ≤ u.Seq ∧ u.Seq ≤ 8
  asc : s.Pairwise ult
  len : (s.length : Int) ≤ 8 * c + q
theorem Updates_ex (l : List Int) : ∃ s, eslaw00_Updates l = some s ∧ US 3 0 s := by
  unfold eslaw00_Updates
  have key : ∃ s, loopO (eslaw00_Updates.l2 l) ([], 0) = some s ∧ US 3 0 s := by
    refine loopO_inv (I := fun k s => s.2 = (k : Int) ∧ US (k : Int) 0 s.1) 3 ⟨rfl, ⟨by simp, by simp, by simp, List.Pairwise.nil, by simp⟩⟩ ?_ ?_
    · rintro k ⟨s, c⟩ hk ⟨hc, hU⟩
      simp only at hc hU
      subst hc
      unfold eslaw00_Updates.l2
      simp only
      rw [if_pos (by rw [decide_eq_true_eq]; omega)]
      have inner : ∃ s', loopO (eslaw00_Updates.l1 l (k : Int)) (s, 0, 0) = some s' ∧ US ((k : Int) + 1) 0 s' := by
        refine loopO_mu (fun t : List api_Update × Int × Int => 0 ≤ t.2.2 ∧ t.2.2 ≤ 24 ∧ 0 ≤ t.2.1 ∧ t.2.1 ≤ 8 ∧ US (k : Int) t.2.1 t.1) (fun t => (25 - t.2.2).toNat) ⟨Int.le_refl 0, (by decide : (0 : Int) ≤ 24), Int.le_refl 0, (by decide : (0 : Int) ≤ 8), hU⟩ ?_
        rintro ⟨s, q, i⟩ ⟨h0, h1, h2, h3, hU⟩
        simp only at h0 h1 h2 h3 hU
        have stop : US ((k : Int) + 1) 0 s := ⟨hU.ok, fun u hu => ⟨(hU.cl u hu).1, .inl (by rcases (hU.cl u hu).2 with h | h <;> omega)⟩, hU.sq, hU.asc, by have := hU.len; omega⟩
        unfold eslaw00_Updates.l1
        simp only
        have next : ∀ (s' : List api_Update) (q' : Int), 0 ≤ q' → q' ≤ 8 → US (k : Int) q' s' → i < 24 → (∃ t, eslaw00_Updates.j3 i s' q' = some (.inl t) ∧ (0 ≤ t.2.2 ∧ t.2.2 ≤ 24 ∧ 0 ≤ t.2.1 ∧ t.2.1 ≤ 8 ∧ US (k : Int) t.2.1 t.1) ∧ (25 - t.2.2).toNat < (25 - i).toNat) := by
          intro s' q' hq0 hq1 hU' hi
          unfold eslaw00_Updates.j3
          rw [letV_of, w64 (x := i + 1) (by omega) (by omega)]
          exact ⟨_, rfl, ⟨by simp only; omega, by simp only; omega, hq0, hq1, hU'⟩, by simp only; omega⟩
        by_cases hi1 : i < (l.length : Int)
        · rw [if_pos (by simpa using hi1)]
          by_cases hi2 : i < 24
          · rw [show decide (i < 24) = true by simpa using hi2]
            unfold eslaw00_Updates.j5
            rw [if_pos rfl]
            obtain ⟨j, rfl⟩ : ∃ j : Nat, i = j := ⟨i.toNat, by omega⟩
            have hj : j < l.length := by omega
            rw [idx_nat hj, Option.bind_some]
            obtain ⟨d, hd, hd0, hd1⟩ := Digit_ex l[j] 3 0 (by decide) (by decide) (by decide)
            have hd : eslaw00_Digit l[j] 3 0 = some d := hd
            rw [hd, Option.bind_some]
            have skip := next s q h2 h3 hU hi2
            have j4f : eslaw00_Updates.j4 l (k : Int) s q (j : Int) false = eslaw00_Updates.j3 (j : Int) s q := by
              unfold eslaw00_Updates.j4
              rw [if_neg (by simp)]
            split
            · by_cases hq : q < 8
              · rw [show decide (q < 8) = true by simpa using hq]
                unfold eslaw00_Updates.j4
                rw [if_pos rfl, letV_of, letV_of, idx_nat hj, Option.bind_some]
                obtain ⟨x, hx, hx0, hx1⟩ := Index_ex l[j] 1099511627776 (by decide) (by decide)
                rw [hx, Option.bind_some, letV_of]
                rw [w64 (x := 101 + (k : Int)) (by omega) (by omega), w64 (x := q + 1) (by omega) (by omega)]
                obtain ⟨u, hu, huc, hus, hok⟩ := Update_ex (101 + (k : Int)) (q + 1) (IntKind.i64.wrap (Int.tdiv x 3))
                have hlen := hU.len
                rw [hu, Option.bind_some, app_of (by simp only [List.length_singleton]; omega), Option.bind_some]
                refine .inl (next _ (q + 1) (by omega) (by omega) ?_ hi2)
                have eu : (⟨u.Client, u.Seq, u.Tag, u.Effects⟩ : api_Update) = u := rfl
                rw [eu]
                refine ⟨fun v hv => ?_, fun v hv => ?_, fun v hv => ?_, ?_, by simp only [List.length_append, List.length_singleton]; omega⟩
                · rcases List.mem_append.1 hv with hv | hv
                  · exact hU.ok v hv
                  · simp at hv; subst hv; exact hok
                · rcases List.mem_append.1 hv with hv | hv
                  · obtain ⟨a, b⟩ := hU.cl v hv
                    exact ⟨a, by rcases b with b | b <;> omega⟩
                  · simp at hv; subst hv; rw [huc, hus]; omega
                · rcases List.mem_append.1 hv with hv | hv
                  · exact hU.sq v hv
                  · simp at hv; subst hv; rw [hus]; omega
                · rw [List.pairwise_append]
                  refine ⟨hU.asc, List.pairwise_singleton _ _, fun a ha b hb => ?_⟩
                  simp at hb; subst hb
                  unfold ult
                  rw [huc, hus]
                  rcases (hU.cl a ha).2 with h | h <;> omega
              · rw [show decide (q < 8) = false by simpa using hq, j4f]
                exact .inl skip
            · rw [j4f]
              exact .inl skip
          · rw [show decide (i < 24) = false by simpa using hi2]
            exact .inr ⟨s, rfl, stop⟩
        · rw [if_neg (by simpa using hi1)]
          exact .inr ⟨s, rfl, stop⟩
      obtain ⟨s', e1, e2⟩ := inner
      rw [e1, Option.bind_some]
      unfold eslaw00_Updates.j2
      rw [letV_of, w64n (by omega)]
      refine ⟨_, rfl, rfl, ?_⟩
      have : ((k + 1 : Nat) : Int) = (k : Int) + 1 := by omega
      rw [this]
      exact e2
    · rintro ⟨s, c⟩ ⟨hc, hU⟩
      simp only at hc hU
      subst hc
      exact ⟨s, rfl, hU⟩
  obtain ⟨s, e1, e2⟩ := key
  rw [e1]
  exact ⟨s, rfl, e2⟩
theorem US_effN {c q : Int} {s : List api_Update} (h : US c q s) : effN s ≤ 4 * s.length := by
  have : ∀ l : List api_Update, (∀ u ∈ l, UOK u) → effN l ≤ 4 * l.length := by
    intro l
    induction l with
    | nil => intro _; exact Nat.zero_le _
    | cons u l ih =>
      intro h
      have h1 := (h u (by simp)).len
      have h2 := ih fun v hv => h v (by simp [hv])
      unfold effN at h2 ⊢
      rw [List.map_cons, List.sum_cons, List.length_cons]
      omega
  exact this s h.ok
theorem US_sub {c q : Int} {s t : List api_Update} (h : US c q s) (ht : t.Sublist s) : US c q t :=
  ⟨fun u hu => h.ok u (ht.subset hu), fun u hu => h.cl u (ht.subset hu), fun u hu => h.sq u (ht.subset hu), h.asc.sublist ht, by have := h.len; have := ht.length_le; omega⟩
theorem Some_ex {s : List api_Update} (h : US 3 0 s) (n : Int) : ∃ p : api_Update → Bool, eslaw00_Some s n = some (s.filter p) := by
  refine ⟨fun u => decide (u.Seq ≤ (eslaw00_Digit n 9 (u.Client - 101)).getD 0), ?_⟩
  obtain ⟨p, hp⟩ : ∃ p : api_Update → Bool, p = fun u => decide (u.Seq ≤ (eslaw00_Digit n 9 (u.Client - 101)).getD 0) := ⟨_, rfl⟩
  rw [← hp]
  unfold eslaw00_Some
  have hlen := h.len
  have := loopO_up (step := eslaw00_Some.l1 s n) (fun k => ((s.take k).filter p, (k : Int))) s.length (b := s.filter p) (fun k hk => ?_) ?_
  · have this : loopO (eslaw00_Some.l1 s n) ([], 0) = some (s.filter p) := this
    rw [this]
    rfl
  · have hm := List.getElem_mem hk
    have hc := h.cl _ hm
    unfold eslaw00_Some.l1
    simp only [lt_of_len hk, if_true, idx_nat hk, Option.bind_some, letV_of]
    rw [w64 (x := s[k].Client - 101) (by omega) (by omega)]
    obtain ⟨d, hd, _⟩ := Digit_ex n 9 (s[k].Client - 101).toNat (by decide) (by decide) (by omega)
    rw [show (((s[k].Client - 101).toNat : Nat) : Int) = s[k].Client - 101 by omega] at hd
    rw [hd, Option.bind_some, take_snoc hk, List.filter_append]
    have ep : p s[k] = decide (s[k].Seq ≤ d) := by rw [hp]; simp only [hd, Option.getD_some]
    have hle : ((s.take k).filter p).length ≤ s.length := Nat.le_trans (List.length_filter_le _ _) (by rw [List.length_take]; omega)
    unfold eslaw00_Some.j2
    by_cases hs : s[k].Seq ≤ d
    · rw [if_pos (by simpa using hs), app_of (by simp only [List.length_singleton]; omega), Option.bind_some, letV_of, wcast hk (by omega)]
      have : [s[k]].filter p = [s[k]] := by rw [List.filter_cons, ep, if_pos (by simpa using hs)]; rfl
      rw [this]
    · rw [if_neg (by simpa using hs), letV_of, wcast hk (by omega)]
      have : [s[k]].filter p = [] := by rw [List.filter_cons, ep, if_neg (by simpa using hs)]; rfl
      rw [this, List.append_nil]
  · unfold eslaw00_Some.l1
    simp only [not_lt_len, Bool.false_eq_true, if_false, List.take_length]
end Go.Proofs.YtpfgdjfiimknlaaGreat
set_option linter.unusedVariables false
set_option linter.unusedSimpArgs false
namespace Go.Proofs.YtpfgdjfiimknlaaGreat
open Go Go.Proofs.YtpfgdjfiimknlaaGreatL
structure RG (es : List index_Entry) (lo hi : index_Key) (r : List (List UInt8)) : Prop where
  asc : Asc r
  len : r.length ≤ 100000000
  mem : ∀ x, x ∈ r ↔ ∃ e ∈ es, ¬ keyLt e.Key lo ∧ ¬ keyLt hi e.Key ∧ x ∈ e.Objects
theorem RG.uniq {es : List index_Entry} {lo hi : index_Key} {r r' : List (List UInt8)} (h : RG es lo hi r) (h' : RG es lo hi r') : r = r' := ascS_ext h.asc h'.asc fun x => by rw [h.mem, h'.mem]
structure EB (es : List index_Entry) : Prop where
  len : es.length ≤ 10000
  olen : ∀ e ∈ es, e.Objects.length ≤ 10000
theorem GX.eb {P : index_Key → List UInt8 → Prop} {es : List index_Entry} (h : GX P es) : EB es := ⟨h.len, h.olen⟩
theorem Range_eq {f : schema_Field} {es : List index_Entry} (hb : EB es) (lo hi : index_Key) : ∃ r, index_Range ⟨f, es⟩ lo hi = some r ∧ RG es lo hi r := by
  unfold index_Range
  have hlen := hb.len
  have key : ∃ b : List (List UInt8), loopO (index_Range.l1 ⟨f, es⟩ lo hi) ([], 0) = some b ∧ b.length ≤ 100000000 ∧ ∀ x, x ∈ b ↔ ∃ e ∈ es, ¬ keyLt e.Key lo ∧ ¬ keyLt hi e.Key ∧ x ∈ e.Objects := by
    refine loopO_inv (fun n s => s.2 = (n : Int) ∧ s.1.length ≤ 10000 * n ∧ ∀ x, x ∈ s.1 ↔ ∃ e ∈ es.take n, ¬ keyLt e.Key lo ∧ ¬ keyLt hi e.Key ∧ x ∈ e.Objects) es.length ⟨rfl, Nat.le_refl _, by simp⟩ ?_ ?_
    · rintro n ⟨r, i⟩ hn ⟨hi', h1, h2⟩
      simp only at hi' h1 h2
      subst hi'
      have ho := hb.olen _ (List.getElem_mem hn)
      unfold index_Range.l1
      simp only [lt_of_len hn, if_true, idx_nat hn, Option.bind_some, Compare_eq]
      have tk : ∀ x, (∃ e ∈ es.take (n + 1), ¬ keyLt e.Key lo ∧ ¬ keyLt hi e.Key ∧ x ∈ e.Objects) ↔ (x ∈ r ∨ (¬ keyLt es[n].Key lo ∧ ¬ keyLt hi es[n].Key ∧ x ∈ es[n].Objects)) := by
        intro x
        rw [take_snoc hn, h2]
        constructor
        · rintro ⟨e, he, h⟩
          rcases List.mem_append.1 he with he | he
          · exact .inl ⟨e, he, h⟩
          · have : e = es[n] := by simpa using he
            rw [this] at h
            exact .inr h
        · rintro (⟨e, he, h⟩ | h)
          · exact ⟨e, List.mem_append.2 (.inl he), h⟩
          · exact ⟨es[n], List.mem_append.2 (.inr (by simp)), h⟩
      have skip : (¬ (¬ keyLt es[n].Key lo ∧ ¬ keyLt hi es[n].Key)) → ∃ s', index_Range.j3 r (n : Int) es[n] false = some (.inl s') ∧ s'.2 = ((n + 1 : Nat) : Int) ∧ s'.1.length ≤ 10000 * (n + 1) ∧ ∀ x, x ∈ s'.1 ↔ ∃ e ∈ es.take (n + 1), ¬ keyLt e.Key lo ∧ ¬ keyLt hi e.Key ∧ x ∈ e.Objects := by
        intro hc
        unfold index_Range.j3 index_Range.j2
        rw [if_neg (by simp), letV_of, wcast hn (by omega)]
        refine ⟨_, rfl, rfl, by simp only; omega, fun x => ?_⟩
        rw [tk]
        constructor
        · exact .inl
        · rintro (h | h)
          · exact h
          · exact absurd ⟨h.1, h.2.1⟩ hc
      by_cases c1 : keyLt es[n].Key lo
      · rw [if_neg (by rw [decide_eq_true_eq, keyCmp_le]; exact fun h => h c1)]
        exact skip fun h => h.1 c1
      · rw [if_pos (by rw [decide_eq_true_eq, keyCmp_le]; exact c1)]
        by_cases c2 : keyLt hi es[n].Key
        · rw [decide_eq_false (by rw [keyCmp_le]; exact fun h => h c2)]
          exact skip fun h => h.2 c2
        · rw [decide_eq_true (by rw [keyCmp_le]; exact c2)]
          unfold index_Range.j3 index_Range.j2
          rw [if_pos rfl, app_of (by omega), Option.bind_some, letV_of, wcast hn (by omega)]
          refine ⟨_, rfl, rfl, by simp only [List.length_append]; omega, fun x => ?_⟩
          rw [tk, List.mem_append]
          constructor
          · rintro (h | h)
            · exact .inl h
            · exact .inr ⟨c1, c2, h⟩
          · rintro (h | h)
            · exact .inl h
            · exact .inr h.2.2
    · rintro ⟨r, i⟩ ⟨hi', h1, h2⟩
      simp only at hi' h1 h2
      subst hi'
      unfold index_Range.l1
      simp only [not_lt_len, Bool.false_eq_true, if_false]
      rw [List.take_length] at h2
      exact ⟨r, rfl, by omega, h2⟩
  obtain ⟨b, b1, b2, b3⟩ := key
  rw [b1, Option.bind_some]
  unfold index_Range.j1
  rw [ascending_eq (by omega), Option.bind_some]
  exact ⟨_, rfl, ascL_asc b, by have := ascL_length b; omega, fun x => by rw [ascL_mem, b3]⟩
theorem Lookup_eq {f : schema_Field} {es : List index_Entry} (hb : EB es) (k : index_Key) : ∃ r, index_Lookup ⟨f, es⟩ k = some r ∧ RG es k k r := by
  unfold index_Lookup
  obtain ⟨r, h1, h2⟩ := Range_eq (f := f) hb k k
  rw [h1, Option.bind_some]
  exact ⟨r, rfl, h2⟩
theorem RG.look {es : List index_Entry} {k : index_Key} {r : List (List UInt8)} (h : RG es k k r) (x : List UInt8) : x ∈ r ↔ ∃ e ∈ es, e.Key = k ∧ x ∈ e.Objects := by
  rw [h.mem]
  constructor
  · rintro ⟨e, he, h1, h2, h3⟩
    exact ⟨e, he, key_tri h1 h2, h3⟩
  · rintro ⟨e, he, rfl, h3⟩
    exact ⟨e, he, keyLt_irrefl _, keyLt_irrefl _, h3⟩
theorem RG.lookP {P : index_Key → List UInt8 → Prop} {es : List index_Entry} (hx : IsIx P es) {k : index_Key} {r : List (List UInt8)} (h : RG es k k r) (x : List UInt8) : x ∈ r ↔ P k x := by
  rw [h.look, hx.mem]
theorem idx_ex {α : Type} {l : List α} {d : Int} (h0 : 0 ≤ d) (h1 : d < l.length) : ∃ x, idx l d = some x := by
  obtain ⟨k, rfl⟩ : ∃ k : Nat, d = k := ⟨d.toNat, by omega⟩
  exact ⟨_, idx_nat (show k < l.length by omega)⟩
theorem field_ex (n : Int) : ∃ f, eslaw32_field n = some f := by
  unfold eslaw32_field
  obtain ⟨d, e1, a1, a2⟩ := Digit_ex n 5 0 (by decide) (by decide) (by decide)
  have e1 : eslaw00_Digit n 5 0 = some d := e1
  rw [e1, Option.bind_some]
  obtain ⟨x, e2⟩ := idx_ex (l := ([([97] : List UInt8), ([98] : List UInt8), ([99] : List UInt8), ([120, 49] : List UInt8), ([110, 111, 110, 101] : List UInt8)])) a1 (by simpa using a2)
  rw [e2, Option.bind_some]
  obtain ⟨d2, e3, b1, b2⟩ := Digit_ex n 5 1 (by decide) (by decide) (by decide)
  have e3 : eslaw00_Digit n 5 1 = some d2 := e3
  rw [e3, Option.bind_some, letV_of]
  obtain ⟨d3, e4, c1, c2⟩ := Digit_ex n 3 4 (by decide) (by decide) (by decide)
  have e4 : eslaw00_Digit n 3 4 = some d3 := e4
  rw [e4, Option.bind_some]
  obtain ⟨d5, e7, g1, g2⟩ := Digit_ex n 2 8 (by decide) (by decide) (by decide)
  have e7 : eslaw00_Digit n 2 8 = some d5 := e7
  have j2 : ∀ y, ∃ f, eslaw32_field.j2 n x y = some f := by
    intro y
    unfold eslaw32_field.j2
    split
    · rw [e7, Option.bind_some, letV_of]
      exact ⟨_, rfl⟩
    · exact ⟨_, rfl⟩
  split
  · obtain ⟨d4, e5, f1, f2⟩ := Digit_ex n 2 6 (by decide) (by decide) (by decide)
    have e5 : eslaw00_Digit n 2 6 = some d4 := e5
    rw [e5, Option.bind_some]
    obtain ⟨y, e6⟩ := idx_ex (l := [(1 : Int), 4]) f1 (by simpa using f2)
    rw [e6, Option.bind_some]
    exact j2 y
  · exact j2 _
end Go.Proofs.YtpfgdjfiimknlaaGreat
set_option linter.unusedVariables false
namespace Go.Proofs.YtpfgdjfiimknlaaGreat
open Go Go.Proofs.YtpfgdjfiimknlaaGreatL
theorem made_fold {s : List api_Update} (h : US 3 0 s) : fold_Fold s = some ⟨foldT s []⟩ ∧ GD 100 (foldT s []) := by
  have h1 := h.len
  have h2 := US_effN h
  obtain ⟨a, b⟩ := Fold_eq (s := s) (fun u hu => (h.ok u hu).ef) (by omega) (by omega)
  exact ⟨a, b.mono (by omega)⟩
end Go.Proofs.YtpfgdjfiimknlaaGreat
set_option linter.unusedVariables false
set_option linter.unusedSimpArgs false
namespace Go.Proofs.YtpfgdjfiimknlaaGreat
open Go Go.Proofs.YtpfgdjfiimknlaaGreatL
abbrev wOwn : List UInt8 := [111, 119, 110, 101, 114]
abbrev wAnn : List UInt8 := [97, 110, 110]
abbrev wBob : List UInt8 := [98, 111, 98]
def wE (o s : List UInt8) : api_Effect := ⟨1, o, wOwn, 0, s⟩
def wFl (c : Int) (s : List UInt8) : fold_Field := ⟨wOwn, ⟨true, 0, c, 1, 0, s⟩, false, 0, 0, [], false⟩
def wT3 : List fold_Object := [⟨[97], [wFl 102 wAnn]⟩, ⟨[98], [wFl 101 wAnn]⟩, ⟨[99], [wFl 103 wBob]⟩]
def wX : List index_Entry := [⟨⟨2, 0, wAnn⟩, [[97], [98]]⟩, ⟨⟨2, 0, wBob⟩, [[99]]⟩]
def wF : schema_Field := ⟨wOwn, 1, 2, 0⟩
theorem wE_ef (c : Int) {o s : List UInt8} (h1 : o.length ≤ 1000) (h2 : s.length ≤ 1000) : ∀ e ∈ (⟨c, 1, 0, [wE o s]⟩ : api_Update).Effects, EF e := by
  intro e he
  have : e = wE o s := by simpa using he
  subst this
  exact ⟨h1, by show wOwn.length ≤ 1000; decide, h2⟩
theorem w_store : loopO eslaw32_awake.l1 (0, []) = some wT3 ∧ GD 100 wT3 := by
  obtain ⟨a1, g1⟩ := Apply_eq (n := 0) (t := ⟨[]⟩) (u := ⟨101, 1, 0, [wE [98] wAnn]⟩) (GD_nil 0) (wE_ef 101 (by decide) (by decide)) (by decide)
  obtain ⟨a2, g2⟩ := Apply_eq (t := ⟨appT ⟨101, 1, 0, [wE [98] wAnn]⟩ []⟩) (u := ⟨102, 1, 0, [wE [97] wAnn]⟩) g1 (wE_ef 102 (by decide) (by decide)) (by decide)
  obtain ⟨a3, g3⟩ := Apply_eq (t := ⟨appT ⟨102, 1, 0, [wE [97] wAnn]⟩ (appT ⟨101, 1, 0, [wE [98] wAnn]⟩ [])⟩) (u := ⟨103, 1, 0, [wE [99] wBob]⟩) g2 (wE_ef 103 (by decide) (by decide)) (by decide)
  have ew : appT ⟨103, 1, 0, [wE [99] wBob]⟩ (appT ⟨102, 1, 0, [wE [97] wAnn]⟩ (appT ⟨101, 1, 0, [wE [98] wAnn]⟩ [])) = wT3 := by decide
  have ew' : appT ⟨103, 1, 0, [wE [99] wBob]⟩ (⟨appT ⟨102, 1, 0, [wE [97] wAnn]⟩ (appT ⟨101, 1, 0, [wE [98] wAnn]⟩ [])⟩ : fold_Store).Objects = wT3 := ew
  rw [ew'] at a3 g3
  refine ⟨?_, g3.mono (by decide)⟩
  rw [loopO_next (s' := (1, appT ⟨101, 1, 0, [wE [98] wAnn]⟩ [])), loopO_next (s' := (2, appT ⟨102, 1, 0, [wE [97] wAnn]⟩ (appT ⟨101, 1, 0, [wE [98] wAnn]⟩ []))), loopO_next (s' := (3, wT3)), loopO_done (b := wT3)]
  · rfl
  · unfold eslaw32_awake.l1
    simp only
    rw [if_pos (by decide), show idx [([98] : List UInt8), ([97] : List UInt8), ([99] : List UInt8)] 2 = some [99] from rfl, Option.bind_some, letV_of, show IntKind.i64.wrap (101 + 2) = 103 from rfl, show idx [([97, 110, 110] : List UInt8), ([97, 110, 110] : List UInt8), ([98, 111, 98] : List UInt8)] 2 = some wBob from rfl, Option.bind_some]
    show (fold_Apply ⟨appT ⟨102, 1, 0, [wE [97] wAnn]⟩ (appT ⟨101, 1, 0, [wE [98] wAnn]⟩ [])⟩ ⟨103, 1, 0, [wE [99] wBob]⟩).bind _ = _
    rw [a3]
    rfl
  · unfold eslaw32_awake.l1
    simp only
    rw [if_pos (by decide), show idx [([98] : List UInt8), ([97] : List UInt8), ([99] : List UInt8)] 1 = some [97] from rfl, Option.bind_some, letV_of, show IntKind.i64.wrap (101 + 1) = 102 from rfl, show idx [([97, 110, 110] : List UInt8), ([97, 110, 110] : List UInt8), ([98, 111, 98] : List UInt8)] 1 = some wAnn from rfl, Option.bind_some]
    show (fold_Apply ⟨appT ⟨101, 1, 0, [wE [98] wAnn]⟩ []⟩ ⟨102, 1, 0, [wE [97] wAnn]⟩).bind _ = _
    rw [a2]
    rfl
  · unfold eslaw32_awake.l1
    simp only
    rw [if_pos (by decide), show idx [([98] : List UInt8), ([97] : List UInt8), ([99] : List UInt8)] 0 = some [98] from rfl, Option.bind_some, letV_of, show IntKind.i64.wrap (101 + 0) = 101 from rfl, show idx [([97, 110, 110] : List UInt8), ([97, 110, 110] : List UInt8), ([98, 111, 98] : List UInt8)] 0 = some wAnn from rfl, Option.bind_some]
    show (fold_Apply ⟨[]⟩ ⟨101, 1, 0, [wE [98] wAnn]⟩).bind _ = _
    rw [a1]
    rfl
theorem wk1 : keysOf wF ⟨[97], [wFl 102 wAnn]⟩ = [⟨2, 0, wAnn⟩] := by decide
theorem wk2 : keysOf wF ⟨[98], [wFl 101 wAnn]⟩ = [⟨2, 0, wAnn⟩] := by decide
theorem wk3 : keysOf wF ⟨[99], [wFl 103 wBob]⟩ = [⟨2, 0, wBob⟩] := by decide
theorem wX_ix : IsIx (PB wF wT3) wX := by
  refine ⟨?_, ?_, ?_, fun k s => ?_⟩
  · unfold wX
    refine List.pairwise_cons.2 ⟨fun b hb => ?_, List.pairwise_singleton _ _⟩
    have : b = ⟨⟨2, 0, wBob⟩, [[99]]⟩ := by simpa using hb
    subst this
    exact .inr ⟨rfl, .inr ⟨rfl, by decide⟩⟩
  · intro e he
    have : e = ⟨⟨2, 0, wAnn⟩, [[97], [98]]⟩ ∨ e = ⟨⟨2, 0, wBob⟩, [[99]]⟩ := by simpa [wX] using he
    rcases this with rfl | rfl
    · show List.Pairwise _ _
      refine List.pairwise_cons.2 ⟨fun b hb => ?_, List.pairwise_singleton _ _⟩
      have : b = [98] := by simpa using hb
      subst this
      decide
    · exact List.pairwise_singleton _ _
  · intro e he
    have : e = ⟨⟨2, 0, wAnn⟩, [[97], [98]]⟩ ∨ e = ⟨⟨2, 0, wBob⟩, [[99]]⟩ := by simpa [wX] using he
    rcases this with rfl | rfl <;> simp
  · constructor
    · rintro ⟨e, he, rfl, hs⟩
      have : e = ⟨⟨2, 0, wAnn⟩, [[97], [98]]⟩ ∨ e = ⟨⟨2, 0, wBob⟩, [[99]]⟩ := by simpa [wX] using he
      rcases this with rfl | rfl
      · have : s = [97] ∨ s = [98] := by simpa using hs
        rcases this with rfl | rfl
        · exact ⟨⟨[97], [wFl 102 wAnn]⟩, by simp [wT3], rfl, by rw [wk1]; simp⟩
        · exact ⟨⟨[98], [wFl 101 wAnn]⟩, by simp [wT3], rfl, by rw [wk2]; simp⟩
      · have : s = [99] := by simpa using hs
        subst this
        exact ⟨⟨[99], [wFl 103 wBob]⟩, by simp [wT3], rfl, by rw [wk3]; simp⟩
    · rintro ⟨o, ho, rfl, hk⟩
      have : o = ⟨[97], [wFl 102 wAnn]⟩ ∨ o = ⟨[98], [wFl 101 wAnn]⟩ ∨ o = ⟨[99], [wFl 103 wBob]⟩ := by simpa [wT3] using ho
      rcases this with rfl | rfl | rfl
      · rw [wk1] at hk
        have : k = ⟨2, 0, wAnn⟩ := by simpa using hk
        subst this
        exact ⟨⟨⟨2, 0, wAnn⟩, [[97], [98]]⟩, by simp [wX], rfl, by simp⟩
      · rw [wk2] at hk
        have : k = ⟨2, 0, wAnn⟩ := by simpa using hk
        subst this
        exact ⟨⟨⟨2, 0, wAnn⟩, [[97], [98]]⟩, by simp [wX], rfl, by simp⟩
      · rw [wk3] at hk
        have : k = ⟨2, 0, wBob⟩ := by simpa using hk
        subst this
        exact ⟨⟨⟨2, 0, wBob⟩, [[99]]⟩, by simp [wX], rfl, by simp⟩
theorem wX_mem {e : index_Entry} : e ∈ wX ↔ e = ⟨⟨2, 0, wAnn⟩, [[97], [98]]⟩ ∨ e = ⟨⟨2, 0, wBob⟩, [[99]]⟩ := by simp [wX]
theorem awake_true : eslaw32_awake = some true := by
  unfold eslaw32_awake
  obtain ⟨e1, g⟩ := w_store
  obtain ⟨es, e2, x2⟩ := Build_eq wF (objs := wT3) g.go (by decide)
  have : es = wX := x2.ix.uniq wX_ix
  subst this
  have e2 : index_Build (⟨([111, 119, 110, 101, 114] : List UInt8), 1, 2, 0⟩ : schema_Field) (⟨wT3⟩ : fold_Store) = some ⟨wF, wX⟩ := e2
  rw [e1, Option.bind_some]
  unfold eslaw32_awake.j2
  rw [e2, Option.bind_some]
  obtain ⟨r1, e3, x3⟩ := Lookup_eq (f := wF) x2.eb ⟨2, 0, wAnn⟩
  have h1 : r1 = [[97], [98]] := by
    refine ascS_ext x3.asc (List.pairwise_cons.2 ⟨fun b hb => ?_, List.pairwise_singleton _ _⟩) fun x => ?_
    · have : b = [98] := by simpa using hb
      subst this
      decide
    · rw [x3.look]
      constructor
      · rintro ⟨e, he, hk, hx⟩
        rcases wX_mem.1 he with rfl | rfl
        · exact hx
        · exact absurd hk (by decide)
      · exact fun hx => ⟨_, wX_mem.2 (.inl rfl), rfl, hx⟩
  subst h1
  have e3 : index_Lookup ⟨wF, wX⟩ (⟨2, 0, ([97, 110, 110] : List UInt8)⟩ : index_Key) = some [[97], [98]] := e3
  rw [e3, Option.bind_some]
  obtain ⟨r2, e4, x4⟩ := Range_eq (f := wF) x2.eb ⟨2, 0, [98]⟩ ⟨2, 0, [99]⟩
  have kl : ∀ a b : List UInt8, keyLt ⟨2, 0, a⟩ ⟨2, 0, b⟩ ↔ Op.bytesLess a b = true := fun a b => by simp [keyLt]
  have h2 : r2 = [[99]] := by
    refine ascS_ext x4.asc (List.pairwise_singleton _ _) fun x => ?_
    rw [x4.mem]
    constructor
    · rintro ⟨e, he, h1, h2, hx⟩
      rcases wX_mem.1 he with rfl | rfl
      · exact absurd ((kl wAnn [98]).2 (by decide)) h1
      · exact hx
    · exact fun hx => ⟨_, wX_mem.2 (.inr rfl), fun h => absurd ((kl wBob [98]).1 h) (by decide), fun h => absurd ((kl [99] wBob).1 h) (by decide), hx⟩
  subst h2
  rw [e4, Option.bind_some]
  obtain ⟨r3, e5, x5⟩ := Lookup_eq (f := wF) x2.eb ⟨0, 0, []⟩
  have h3 : r3 = [] := by
    refine ascS_ext x5.asc .nil fun x => ?_
    rw [x5.look]
    constructor
    · rintro ⟨e, he, hk, hx⟩
      rcases wX_mem.1 he with rfl | rfl
      · exact absurd hk (by decide)
      · exact absurd hk (by decide)
    · intro hx
      simp at hx
  subst h3
  rw [if_pos (by decide), if_pos (by decide), show idx [([97] : List UInt8), [98]] 0 = some [97] from rfl, Option.bind_some, if_pos (by decide), show idx [([97] : List UInt8), [98]] 1 = some [98] from rfl, Option.bind_some, if_pos (by decide), if_pos (by decide), show idx [([99] : List UInt8)] 0 = some [99] from rfl, Option.bind_some, if_pos (by decide), e5, Option.bind_some]
  rfl
end Go.Proofs.YtpfgdjfiimknlaaGreat
set_option linter.unusedVariables false
set_option linter.unusedSimpArgs false
namespace Go.Proofs.YtpfgdjfiimknlaaGreat
open Go Go.Proofs.YtpfgdjfiimknlaaGreatL
theorem rHas_eq {l : List (List UInt8)} (hl : l.length ≤ 1000000000) (s : List UInt8) : esref32_Has l s = some (decide (s ∈ l)) := by
  unfold esref32_Has
  have key : ∃ b : Unit ⊕ Bool, loopO (esref32_Has.l1 l s) 0 = some b ∧ b = if s ∈ l then .inr true else .inl () := by
    refine loopO_ex (fun n t => t = (n : Int) ∧ s ∉ l.take n) l.length ⟨rfl, by simp⟩ ?_ ?_
    · rintro n t hn ⟨rfl, h⟩
      unfold esref32_Has.l1
      simp only [lt_of_len hn, if_true, idx_nat hn, Option.bind_some]
      by_cases hc : l[n] = s
      · rw [if_pos (by simpa using hc)]
        exact .inr ⟨_, rfl, by rw [if_pos (by rw [← hc]; exact List.getElem_mem hn)]⟩
      · rw [if_neg (by simpa using hc), letV_of, wcast hn (by omega)]
        refine .inl ⟨_, rfl, rfl, fun hm => ?_⟩
        rw [take_snoc hn] at hm
        rcases List.mem_append.1 hm with hm | hm
        · exact h hm
        · exact hc (List.mem_singleton.1 hm).symm
    · rintro t ⟨rfl, h⟩
      unfold esref32_Has.l1
      simp only [not_lt_len, Bool.false_eq_true, if_false]
      rw [List.take_length] at h
      exact ⟨_, rfl, by rw [if_neg h]⟩
  obtain ⟨b, b1, b2⟩ := key
  rw [b1, Option.bind_some, b2]
  by_cases h : s ∈ l
  · rw [if_pos h]; simp [h]
  · rw [if_neg h]; simp [h, esref32_Has.j1]
end Go.Proofs.YtpfgdjfiimknlaaGreat
set_option linter.unusedVariables false
set_option linter.unusedSimpArgs false
namespace Go.Proofs.YtpfgdjfiimknlaaGreat
open Go Go.Proofs.YtpfgdjfiimknlaaGreatL
def rgS (u : api_Update) (e : api_Effect) (r : fold_Register) : fold_Register := if e.Kind = 1 then (if newerS u r then ⟨true, u.Tag, u.Client, u.Seq, e.N, e.S⟩ else r) else r
def mxS (e : api_Effect) (m : Bool × Int) : Bool × Int := if e.Kind = 2 then (if !m.1 || decide (m.2 < e.N) then (true, e.N) else m) else m
def smS (e : api_Effect) (s : Int) : Int := if e.Kind = 3 then IntKind.i64.wrap (s + e.N) else s
def elS (e : api_Effect) (l : List (List UInt8)) : List (List UInt8) := if e.Kind = 4 then insS l e.S else l
def flS (e : api_Effect) (b : Bool) : Bool := if e.Kind = 5 then true else b
theorem updF_parts (u : api_Update) (e : api_Effect) (f : fold_Field) : updF u e f = ⟨f.Name, rgS u e f.Register, (mxS e (f.HasMax, f.Max)).1, (mxS e (f.HasMax, f.Max)).2, smS e f.Sum, elS e f.Elems, flS e f.Flag⟩ := by
  unfold updF rgS mxS smS elS flS
  by_cases h1 : e.Kind = 1
  · simp only [h1, if_true, (by decide : ¬ (1 : Int) = 2), (by decide : ¬ (1 : Int) = 3), (by decide : ¬ (1 : Int) = 4), (by decide : ¬ (1 : Int) = 5), if_false]
    split <;> rfl
  · by_cases h2 : e.Kind = 2
    · simp only [h2, if_true, (by decide : ¬ (2 : Int) = 1), (by decide : ¬ (2 : Int) = 3), (by decide : ¬ (2 : Int) = 4), (by decide : ¬ (2 : Int) = 5), if_false]
      split <;> rfl
    · by_cases h3 : e.Kind = 3
      · simp only [h3, if_true, (by decide : ¬ (3 : Int) = 1), (by decide : ¬ (3 : Int) = 2), (by decide : ¬ (3 : Int) = 4), (by decide : ¬ (3 : Int) = 5), if_false]
      · by_cases h4 : e.Kind = 4
        · simp only [h4, if_true, (by decide : ¬ (4 : Int) = 1), (by decide : ¬ (4 : Int) = 2), (by decide : ¬ (4 : Int) = 3), (by decide : ¬ (4 : Int) = 5), if_false]
        · by_cases h5 : e.Kind = 5
          · simp only [h5, if_true, (by decide : ¬ (5 : Int) = 1), (by decide : ¬ (5 : Int) = 2), (by decide : ¬ (5 : Int) = 3), (by decide : ¬ (5 : Int) = 4), if_false]
          · simp only [h1, h2, h3, h4, h5, if_false]
def idne (u v : api_Update) : Prop := u.Client ≠ v.Client ∨ u.Seq ≠ v.Seq
theorem rg_comm {u v : api_Update} (h : idne u v) (e e' : api_Effect) (r : fold_Register) : rgS v e' (rgS u e r) = rgS u e (rgS v e' r) := by
  unfold rgS
  by_cases h1 : e.Kind = 1
  · by_cases h2 : e'.Kind = 1
    · simp only [h1, h2, if_true]
      unfold idne at h
      unfold newerS
      cases hs : r.Set <;> simp only [Bool.not_true, Bool.not_false, Bool.true_or, Bool.false_or, if_true, decide_eq_true_eq] <;> grind
    · simp only [h2, if_false]
  · simp only [h1, if_false]
theorem mx_comm (e e' : api_Effect) (m : Bool × Int) : mxS e' (mxS e m) = mxS e (mxS e' m) := by
  obtain ⟨b, x⟩ := m
  unfold mxS
  by_cases h1 : e.Kind = 2
  · by_cases h2 : e'.Kind = 2
    · simp only [h1, h2, if_true]
      cases b <;> simp only [Bool.not_true, Bool.not_false, Bool.true_or, Bool.false_or, if_true, decide_eq_true_eq] <;> grind
    · simp only [h2, if_false]
  · simp only [h1, if_false]
theorem wadd (a b : Int) : IntKind.i64.wrap (IntKind.i64.wrap a + b) = IntKind.i64.wrap (a + b) := by
  simp only [IntKind.wrap, IntKind.bits, IntKind.signed]
  simp
  split <;> split <;> split <;> omega
theorem sm_comm (e e' : api_Effect) (s : Int) : smS e' (smS e s) = smS e (smS e' s) := by
  unfold smS
  by_cases h1 : e.Kind = 3
  · by_cases h2 : e'.Kind = 3
    · simp only [h1, h2, if_true]
      rw [wadd, wadd, show s + e.N + e'.N = s + e'.N + e.N by omega]
    · simp only [h2, if_false]
  · simp only [h1, if_false]
theorem insS_mem_iff : ∀ {l : List (List UInt8)} {s x : List UInt8}, x ∈ insS l s ↔ x = s ∨ x ∈ l
  | [], s, x => by simp [insS]
  | a :: l, s, x => by
    unfold insS
    split
    · rw [List.mem_cons, insS_mem_iff, List.mem_cons]
      constructor
      · rintro (h | h | h)
        · exact .inr (.inl h)
        · exact .inl h
        · exact .inr (.inr h)
      · rintro (h | h | h)
        · exact .inr (.inl h)
        · exact .inl h
        · exact .inr (.inr h)
    · split
      · rename_i _ h
        have : a = s := by simpa using h
        subst this
        simp
      · simp
theorem asc_ext : ∀ {l l' : List (List UInt8)}, Asc l → Asc l' → (∀ x, x ∈ l ↔ x ∈ l') → l = l' := by
  intro l l' h h' he
  have h1 : SA (fun x : List UInt8 => x) l := h
  have h2 : SA (fun x : List UInt8 => x) l' := h'
  refine SA_ext h1 h2 fun k => ?_
  have g : ∀ {m : List (List UInt8)}, get (fun x : List UInt8 => x) m k = if k ∈ m then some k else none := by
    intro m
    cases hg : get (fun x : List UInt8 => x) m k with
    | some a =>
      have e := get_key hg
      have hm := get_mem hg
      have e : a = k := e
      rw [e] at hm ⊢
      rw [if_pos hm]
    | none =>
      by_cases hm : k ∈ m
      · have : (get (fun x : List UInt8 => x) m k).isSome = true := get_some_iff.2 ⟨k, hm, rfl⟩
        rw [hg] at this
        cases this
      · rw [if_neg hm]
  rw [g, g]
  by_cases hk : k ∈ l
  · rw [if_pos hk, if_pos ((he k).1 hk)]
  · rw [if_neg hk, if_neg fun h => hk ((he k).2 h)]
theorem insS_comm {l : List (List UInt8)} (h : Asc l) (a b : List UInt8) : insS (insS l a) b = insS (insS l b) a := by
  refine asc_ext (insS_asc (insS_asc h)) (insS_asc (insS_asc h)) fun x => ?_
  rw [insS_mem_iff, insS_mem_iff, insS_mem_iff, insS_mem_iff]
  constructor
  · rintro (h | h | h)
    · exact .inr (.inl h)
    · exact .inl h
    · exact .inr (.inr h)
  · rintro (h | h | h)
    · exact .inr (.inl h)
    · exact .inl h
    · exact .inr (.inr h)
theorem el_comm (e e' : api_Effect) {l : List (List UInt8)} (h : Asc l) : elS e' (elS e l) = elS e (elS e' l) := by
  unfold elS
  by_cases h1 : e.Kind = 4
  · by_cases h2 : e'.Kind = 4
    · simp only [h1, h2, if_true]
      exact insS_comm h _ _
    · simp only [h2, if_false]
  · simp only [h1, if_false]
theorem fl_comm (e e' : api_Effect) (b : Bool) : flS e' (flS e b) = flS e (flS e' b) := by
  unfold flS
  split <;> split <;> rfl
theorem updF_comm {u v : api_Update} (h : idne u v) (e e' : api_Effect) {f : fold_Field} (ha : Asc f.Elems) : updF v e' (updF u e f) = updF u e (updF v e' f) := by
  rw [updF_parts u e f, updF_parts v e', updF_parts v e' f, updF_parts u e]
  have hm := mx_comm e e' (f.HasMax, f.Max)
  simp only [rg_comm h e e', sm_comm e e', el_comm e e' ha, fl_comm e e', hm]
theorem updF_asc {u : api_Update} {e : api_Effect} {f : fold_Field} (h : Asc f.Elems) : Asc (updF u e f).Elems := by
  rw [updF_parts]
  show Asc (elS e f.Elems)
  unfold elS
  split
  · exact insS_asc h
  · exact h
def SO (objs : List fold_Object) : Prop := SA ON_ objs ∧ ∀ o ∈ objs, SA FN_ o.Fields ∧ ∀ y ∈ o.Fields, Asc y.Elems
theorem fields_ok {objs : List fold_Object} (h : SO objs) (k : List UInt8) : SA FN_ (((get ON_ objs k).map (·.Fields)).getD []) ∧ ∀ y ∈ ((get ON_ objs k).map (·.Fields)).getD [], Asc y.Elems := by
  cases hg : get ON_ objs k with
  | none => exact ⟨List.Pairwise.nil, by simp⟩
  | some o => exact h.2 o (get_mem hg)
theorem field_ok {l : List fold_Field} (h : ∀ y ∈ l, Asc y.Elems) (k : List UInt8) : Asc ((get FN_ l k).getD fold_zero).Elems := by
  cases hg : get FN_ l k with
  | none => exact List.Pairwise.nil
  | some y => exact h y (get_mem hg)
theorem SO_eff {u : api_Update} {objs : List fold_Object} (h : SO objs) (e : api_Effect) : SO (effT u objs e) := by
  unfold effT
  refine ⟨SA_upd (inObj_key _ _ _) h.1, fun o ho => ?_⟩
  rcases mem_upd h.1 o ho with ho | rfl
  · exact h.2 o ho
  · obtain ⟨h1, h2⟩ := fields_ok h e.Object
    refine ⟨SA_upd (inFld_key u e) h1, fun y hy => ?_⟩
    rcases mem_upd h1 y hy with hy | rfl
    · exact h2 y hy
    · exact updF_asc (show Asc ({ (get FN_ _ e.Field).getD fold_zero with Name := e.Field } : fold_Field).Elems from field_ok h2 e.Field)
theorem inFld_comm {u v : api_Update} (h : idne u v) {e e' : api_Effect} (hf : e.Field = e'.Field) {o : Option fold_Field} (ha : Asc (o.getD fold_zero).Elems) : inFld v e' (some (inFld u e o)) = inFld u e (some (inFld v e' o)) := by
  unfold inFld
  simp only [Option.getD_some]
  have n1 : ∀ (u : api_Update) (e : api_Effect) (f : fold_Field) (k : List UInt8), f.Name = k → ({ updF u e f with Name := k } : fold_Field) = updF u e f := by
    intro u e f k hk
    have := updF_name u e f
    rw [← hk, ← this]
  rw [n1 u e _ e'.Field hf, n1 v e' _ e.Field hf.symm, hf]
  exact updF_comm h e e' ha
theorem eff_comm {u v : api_Update} (h : idne u v) (e e' : api_Effect) {objs : List fold_Object} (ho : SO objs) : effT v (effT u objs e) e' = effT u (effT v objs e') e := by
  unfold effT
  by_cases hk : e.Object = e'.Object
  · rw [← hk]
    rw [upd_upd (inObj_key _ _ _) (inObj_key _ _ _) ho.1, upd_upd (inObj_key _ _ _) (inObj_key _ _ _) ho.1]
    refine upd_congr (g := fun o => inObj e.Object e'.Field (inFld v e') (some (inObj e.Object e.Field (inFld u e) o))) (g' := fun o => inObj e.Object e.Field (inFld u e) (some (inObj e.Object e'.Field (inFld v e') o))) (fun o _ => rfl) ho.1 ?_ (fun o _ => rfl)
    obtain ⟨h1, h2⟩ := fields_ok ho e.Object
    show (⟨e.Object, upd FN_ e'.Field (inFld v e') (upd FN_ e.Field (inFld u e) _)⟩ : fold_Object) = ⟨e.Object, upd FN_ e.Field (inFld u e) (upd FN_ e'.Field (inFld v e') _)⟩
    congr 1
    by_cases hf : e.Field = e'.Field
    · have k' : ∀ o, (∀ a, o = some a → FN_ a = e.Field) → FN_ (inFld v e' o) = e.Field := fun o _ => by rw [hf]; exact updF_name _ _ _
      rw [← hf, upd_upd k' (inFld_key u e) h1, upd_upd (inFld_key u e) k' h1]
      refine upd_congr (fun o _ => k' _ fun a ha => by rw [← Option.some.inj ha]; exact updF_name _ _ _) h1 (inFld_comm h hf (field_ok h2 _)) (fun o _ => updF_name _ _ _)
    · exact upd_comm (inFld_key v e') (inFld_key u e) (fun e => hf e.symm) h1
  · exact upd_comm (inObj_key _ _ _) (inObj_key _ _ _) (fun e => hk e.symm) ho.1
theorem SO_app (u : api_Update) : ∀ (es : List api_Effect) {objs : List fold_Object}, SO objs → SO (es.foldl (effT u) objs)
  | [], _, h => h
  | e :: es, _, h => SO_app u es (SO_eff h e)
theorem effs_comm {u v : api_Update} (h : idne u v) (e : api_Effect) : ∀ (es : List api_Effect) {objs : List fold_Object}, SO objs → es.foldl (effT v) (effT u objs e) = effT u (es.foldl (effT v) objs) e
  | [], _, _ => rfl
  | e' :: es, objs, ho => by
    rw [List.foldl_cons, List.foldl_cons, eff_comm h e e' ho]
    exact effs_comm h e es (SO_eff ho e')
theorem lists_comm {u v : api_Update} (h : idne u v) (fs : List api_Effect) : ∀ (es : List api_Effect) {objs : List fold_Object}, SO objs → fs.foldl (effT v) (es.foldl (effT u) objs) = es.foldl (effT u) (fs.foldl (effT v) objs)
  | [], _, _ => rfl
  | e :: es, objs, ho => by
    rw [List.foldl_cons, List.foldl_cons, lists_comm h fs es (SO_eff ho e), effs_comm h e fs ho]
theorem app_comm {u v : api_Update} (h : idne u v) {objs : List fold_Object} (ho : SO objs) : appT v (appT u objs) = appT u (appT v objs) := lists_comm h v.Effects u.Effects ho
theorem SO_appT (u : api_Update) {objs : List fold_Object} (h : SO objs) : SO (appT u objs) := SO_app u u.Effects h
theorem SO_foldT : ∀ (s : List api_Update) {objs : List fold_Object}, SO objs → SO (foldT s objs)
  | [], _, h => h
  | u :: s, _, h => SO_foldT s (SO_appT u h)
theorem fold_perm {s t : List api_Update} (hp : s.Perm t) : (∀ u ∈ s, ∀ v ∈ s, u = v ∨ idne u v) → ∀ {objs : List fold_Object}, SO objs → foldT s objs = foldT t objs := by
  induction hp with
  | nil => intro _ _ _; rfl
  | cons u _ ih =>
    intro h objs ho
    exact ih (fun a ha b hb => h a (by simp [ha]) b (by simp [hb])) (SO_appT u ho)
  | swap u v l =>
    intro h objs ho
    show foldT l (appT u (appT v objs)) = foldT l (appT v (appT u objs))
    rcases h u (by simp) v (by simp) with rfl | hne
    · rfl
    · rw [app_comm hne ho]
  | trans h1 h2 ih1 ih2 =>
    intro h objs ho
    rw [ih1 h ho]
    exact ih2 (fun a ha b hb => h a (h1.mem_iff.2 ha) b (h1.mem_iff.2 hb)) ho
theorem ult_ids {s : List api_Update} (h : s.Pairwise ult) : ∀ u ∈ s, ∀ v ∈ s, u = v ∨ idne u v := by
  induction s with
  | nil => intro u hu; simp at hu
  | cons a s ih =>
    have h1 := (List.pairwise_cons.1 h).1
    have h2 := (List.pairwise_cons.1 h).2
    have hne : ∀ b ∈ s, idne a b := fun b hb => by
      have := h1 b hb
      unfold ult at this
      unfold idne
      omega
    intro u hu v hv
    rcases List.mem_cons.1 hu with hu' | hu' <;> rcases List.mem_cons.1 hv with hv' | hv'
    · exact .inl (hu'.trans hv'.symm)
    · rw [hu']; exact .inr (hne v hv')
    · refine .inr ?_
      have := hne u hu'
      rw [hv']
      unfold idne at this ⊢
      omega
    · exact ih h2 u hu' v hv'
theorem foldT_append (s t : List api_Update) (objs : List fold_Object) : foldT (s ++ t) objs = foldT t (foldT s objs) := List.foldl_append
def fa (objs : List fold_Object) (k f : List UInt8) : Option fold_Field := get FN_ (((get ON_ objs k).map (·.Fields)).getD []) f
theorem fa_eff {u : api_Update} {objs : List fold_Object} (h : SO objs) (e : api_Effect) (k f : List UInt8) : fa (effT u objs e) k f = if e.Object = k ∧ e.Field = f then some (inFld u e (fa objs k f)) else fa objs k f := by
  unfold fa effT
  rw [get_upd (inObj_key _ _ _) k h.1]
  by_cases hk : k = e.Object
  · rw [if_pos hk, hk]
    obtain ⟨h1, _⟩ := fields_ok h e.Object
    show get FN_ (upd FN_ e.Field (inFld u e) (((get ON_ objs e.Object).map (·.Fields)).getD [])) f = _
    rw [get_upd (inFld_key u e) f h1]
    by_cases hf : f = e.Field
    · rw [if_pos hf, if_pos ⟨rfl, hf.symm⟩, hf]
    · rw [if_neg hf, if_neg fun h => hf h.2.symm]
  · rw [if_neg hk, if_neg fun h => hk h.1.symm]
theorem fa_name {objs : List fold_Object} {k f : List UInt8} {x : fold_Field} (h : fa objs k f = some x) : x.Name = f := get_key h
theorem fa_of {n : Nat} {objs : List fold_Object} (g : GD n objs) {o : fold_Object} (ho : o ∈ objs) {x : fold_Field} (hx : x ∈ o.Fields) : fa objs o.Name x.Name = some x := by
  unfold fa
  rw [show get ON_ objs o.Name = some o from get_mem_self g.asc ho]
  exact get_mem_self (g.fasc _ ho) hx
theorem SO_nil : SO [] := ⟨List.Pairwise.nil, by simp⟩
theorem filter_perm {α : Type} (p : α → Bool) : ∀ s : List α, (s.filter p ++ s.filter fun u => !p u).Perm s
  | [] => .refl _
  | u :: s => by
    have ih := filter_perm p s
    rw [List.filter_cons, List.filter_cons]
    cases p u with
    | true => simp only [if_true, Bool.not_true, Bool.false_eq_true, if_false, List.cons_append]; exact ih.cons u
    | false => simp only [if_true, Bool.not_false, Bool.false_eq_true, if_false]; exact List.perm_middle.trans (ih.cons u)
def ELe (x y : fold_Field) : Prop := ∀ s ∈ x.Elems, s ∈ y.Elems
theorem ELe_upd (u : api_Update) (e : api_Effect) (x : fold_Field) : ELe x (updF u e x) := by
  rw [updF_parts]
  intro s h
  show s ∈ elS e x.Elems
  unfold elS
  split
  · exact insS_mem_iff.2 (.inr h)
  · exact h
theorem egrow_eff {u : api_Update} {objs : List fold_Object} (h : SO objs) (e : api_Effect) {k f : List UInt8} {x : fold_Field} (hx : fa objs k f = some x) : ∃ y, fa (effT u objs e) k f = some y ∧ ELe x y := by
  rw [fa_eff h]
  by_cases hm : e.Object = k ∧ e.Field = f
  · rw [if_pos hm, hx]
    refine ⟨_, rfl, ?_⟩
    unfold inFld
    have hn : ({ (some x).getD fold_zero with Name := e.Field } : fold_Field) = x := by
      have := fa_name hx
      rw [hm.2, ← this]
      rfl
    rw [hn]
    exact ELe_upd u e x
  · rw [if_neg hm, hx]
    exact ⟨x, rfl, fun s h => h⟩
theorem egrow_effs {u : api_Update} {k f : List UInt8} : ∀ (es : List api_Effect) {objs : List fold_Object} {x : fold_Field}, SO objs → fa objs k f = some x → ∃ y, fa (es.foldl (effT u) objs) k f = some y ∧ ELe x y
  | [], _, x, _, hx => ⟨x, hx, fun s h => h⟩
  | e :: es, _, _, h, hx => by
    obtain ⟨y, hy, h1⟩ := egrow_eff (u := u) h e hx
    obtain ⟨z, hz, h2⟩ := egrow_effs es (SO_eff h e) hy
    exact ⟨z, hz, fun s hs => h2 s (h1 s hs)⟩
theorem egrow_fold {k f : List UInt8} : ∀ (s : List api_Update) {objs : List fold_Object} {x : fold_Field}, SO objs → fa objs k f = some x → ∃ y, fa (foldT s objs) k f = some y ∧ ELe x y
  | [], _, x, _, hx => ⟨x, hx, fun s h => h⟩
  | u :: s, _, _, h, hx => by
    obtain ⟨y, hy, h1⟩ := egrow_effs (u := u) u.Effects h hx
    obtain ⟨z, hz, h2⟩ := egrow_fold s (SO_appT u h) hy
    exact ⟨z, hz, fun s hs => h2 s (h1 s hs)⟩
end Go.Proofs.YtpfgdjfiimknlaaGreat
