import Derived.Test.YtbbeobiampbddaaFh
import Derived.Test.YtbbeobiampbddaaLz
import Derived.Test.YtbbeobiampbddaaFp3
import Derived.Test.YtbbeobiampbddaaFp11
set_option linter.unusedVariables false
set_option linter.unusedSimpArgs false
namespace Go.Proofs.Ytbbeobiampbddaa
open Go Go.RowKit Go.Proofs.YtbbeobiampbddaaL
set_option maxRecDepth 100000
set_option maxHeartbeats 4000000
/-! slices.EqualFunc[[]elasticstore/history.Value,[]elasticstore/history.Value,elasticstore/history.Value,elasticstore/history.Value]: function 45 -/
theorem slices_EqualFunc_Value.calls {ok : Nat → Prop} {w0 : World} {x1 : List history_Value} {x4 : List history_Value} {x7 : history_Value × history_Value → Option Bool} {a2 : Option Addr} {c3 : Nat} {a5 : Option Addr} {c6 : Nat} {v8 : Value} {r : Bool} (hf : slices_EqualFunc_Value x1 x4 x7 = some r) (i0 : (vl (tSlice t_history_Value) x1 (.slice a2 x1.length c3)).holds ok w0) (i1 : (vl (tSlice t_history_Value) x4 (.slice a5 x4.length c6)).holds ok w0) (i2 : (vl (tFun Try.prog (argK2 t_history_Value t_history_Value) (fun r : Bool => .bool r)) x7 v8).holds ok w0) :
    Calls Try.prog 45 #[.slice a2 x1.length c3, .slice a5 x4.length c6, v8] w0 fun e w' => ∃ v, e = .returned v ∧ ∃ y : Unit, v = .bool r ∧ St ok (bz w0) w' [] [] := by
  unfold slices_EqualFunc_Value at hf
  refine calls_of_W (fn := Try.f45) (N := 32) Try.func45 rfl Try.ntmps45 rfl ?_
  have hs : St ok (bz w0) w0 [vl (tSlice t_history_Value) x1 (.slice a2 x1.length c3), vl (tSlice t_history_Value) x4 (.slice a5 x4.length c6), vl (tFun Try.prog (argK2 t_history_Value t_history_Value) (fun r : Bool => .bool r)) x7 v8] [] := St.init (All.cons i0 (All.cons i1 (All.cons i2 All.nil)))
  clear i0 i1 i2
  refine W.seqK fun K9 hK9 => ?_
  refine W.region ?_
  refine WL.assign (v := .bool false) rfl ?_
  refine WL.nil ?_
  refine hK9 _ _ ?_
  refine W.seqK fun K10 hK10 => ?_
  refine W.seqK fun K11 hK11 => ?_
  refine W.region ?_
  refine WL.move (v := .slice a2 x1.length c3) rfl ?_
  refine WL.len (v := .slice a2 x1.length c3) rfl (len_slice UN31) ?_
  refine WL.move (v := .slice a5 x4.length c6) rfl ?_
  refine WL.len (v := .slice a5 x4.length c6) rfl (len_slice UN31) ?_
  refine WL.bin (v := .bool ((x1.length : Int) != (x4.length : Int))) rfl rfl (ib_neq _ _ _) ?_
  refine WL.nil ?_
  refine hK11 _ _ ?_
  rcases iteE hf with ⟨hc12, hf⟩ | ⟨hc12, hf⟩
  {
  refine W.cond_true (bool_tr rfl hc12) ?_
  refine W.seqK fun K13 hK13 => ?_
  refine W.region ?_
  refine WL.assign (v := .bool false) rfl ?_
  refine WL.nil ?_
  refine hK13 _ _ ?_
  refine W.ret ?_
  have hr := Option.some.inj hf; subst hr
  exact ⟨_, resOk_one rfl rfl, (), rfl, (hs.mask []).pick []⟩ }
  {
  refine W.cond_false (bool_tr rfl hc12) ?_
  refine W.skip ?_
  refine hK10 _ _ ?_
  refine W.seqK fun K14 hK14 => ?_
  have Jk16 : ∀  (ρ : Env) (w : World), St ok (bz w0) w [] [] → slices_EqualFunc_Value.j1 = some r → K14 ρ w := by
    intro  ρ w  hs hf
    refine hK14 _ _ ?_
    unfold slices_EqualFunc_Value.j1 at hf
    refine W.seqK fun K17 hK17 => ?_
    refine W.region ?_
    refine WL.assign (v := .bool true) rfl ?_
    refine WL.nil ?_
    refine hK17 _ _ ?_
    refine W.ret ?_
    have hr := Option.some.inj hf; subst hr
    exact ⟨_, resOk_one rfl rfl, (), rfl, (hs.mask []).pick []⟩
  refine W.seqK fun K18 hK18 => ?_
  refine W.region ?_
  refine WL.move (v := .slice a2 x1.length c3) rfl ?_
  refine WL.len (v := .slice a2 x1.length c3) rfl (len_slice UN31) ?_
  refine WL.move (v := .int .i64 0) rfl ?_
  refine WL.nil ?_
  refine hK18 _ _ ?_
  refine W.block ?_
  obtain ⟨bs21, hbs21, hfs21⟩ := bindE hf
  refine W.loop hbs21 (fun s ρ w => match s with | x20 => ρ 1 = .slice a5 x4.length c6 ∧ ρ 2 = v8 ∧ ρ 15 = .slice a2 x1.length c3 ∧ ρ 16 = .int .i64 (x1.length : Int) ∧ ρ 17 = .int .i64 x20 ∧ St ok (bz w0) w [vl (tSlice t_history_Value) x4 (.slice a5 x4.length c6), vl (tFun Try.prog (argK2 t_history_Value t_history_Value) (fun r : Bool => .bool r)) x7 v8, vl (tSlice t_history_Value) x1 (.slice a2 x1.length c3)] []) ⟨rfl, rfl, rfl, rfl, rfl, (hs.mask []).pick [1, 2, 0]⟩ ?_
  intro x20 ρ w os21 hI hf hbbs21
  obtain ⟨h19_1, h19_2, h19_15, h19_16, h19_17, hs⟩ := hI
  unfold slices_EqualFunc_Value.l1 at hf
  refine W.seqK fun K22 hK22 => ?_
  refine W.region ?_
  refine WL.bin (v := .bool (decide (x20 < (x1.length : Int)))) h19_17 h19_16 (ib_lss _ _ _) ?_
  refine WL.nil ?_
  refine hK22 _ _ ?_
  refine W.seqK fun K23 hK23 => ?_
  rcases iteE hf with ⟨hc24, hf⟩ | ⟨hc24, hf⟩
  {
  refine W.cond_true (bool_tr rfl hc24) ?_
  refine W.skip ?_
  refine hK23 _ _ ?_
  refine W.seqK fun K25 hK25 => ?_
  refine W.block ?_
  refine W.seqK fun K26 hK26 => ?_
  refine W.region ?_
  refine WL.move (v := .int .i64 x20) h19_17 ?_
  obtain ⟨x27, hxx27, hf⟩ := bindE hf
  refine WL.indexAddr hs 2 rfl UN31 TI68 h19_15 h19_17 hxx27 (fun ad28 hs => ?_)
  refine WL.loadP hs 0 rfl TI68 (.inl rfl) rfl (fun v29 hs => ?_)
  obtain ⟨cs30, hl31, rfl⟩ := hs.aggv (n := 10) 0 rfl rfl rfl
  refine WL.alloc hs ZV68 (fun g32 w hs => ?_)
  refine WL.assign (v := .int .i64 x20) rfl ?_
  refine WL.storeAll (vs := cs30) hs 0 rfl TI68 rfl rfl rfl hl31 (hs.ones 0 rfl rfl) rfl (fun w hs => ?_)
  refine WL.nil ?_
  refine hK26 _ _ ?_
  refine W.seqK fun K33 hK33 => ?_
  refine W.region ?_
  refine WL.move (v := .slice a5 x4.length c6) h19_1 ?_
  refine WL.move (v := .int .i64 x20) rfl ?_
  obtain ⟨x34, hxx34, hf⟩ := bindE hf
  refine WL.indexAddr hs 2 rfl UN31 TI68 rfl rfl hxx34 (fun ad35 hs => ?_)
  refine WL.loadP hs 0 rfl TI68 (.inl rfl) rfl (fun v36 hs => ?_)
  obtain ⟨cs37, hl38, rfl⟩ := hs.aggv (n := 10) 0 rfl rfl rfl
  refine WL.alloc hs ZV68 (fun g39 w hs => ?_)
  refine WL.storeAll (vs := cs37) hs 0 rfl TI68 rfl rfl rfl hl38 (hs.ones 0 rfl rfl) rfl (fun w hs => ?_)
  refine WL.nil ?_
  refine hK33 _ _ ?_
  refine W.seqK fun K40 hK40 => ?_
  refine W.region ?_
  refine WL.move (v := v8) h19_2 ?_
  refine WL.loadAll hs 1 rfl TI68 rfl hl31 ?_
  refine WL.loadAll hs 0 rfl TI68 rfl hl38 ?_
  obtain ⟨x41, hxx41, hf⟩ := bindE hf
  refine WL.callF (x := (x27, x34)) (vs := [.agg cs30.toArray, .agg cs37.toArray]) hs 5 rfl rfl ⟨rfl, ⟨rfl, trivial⟩⟩ (fun ok hA => ⟨_, _, rfl, hA.get 2 rfl, hA.get 0 rfl⟩) hxx41 (fun w hs => ?_)
  refine WL.not rfl ?_
  refine WL.nil ?_
  refine hK40 _ _ ?_
  rcases iteE hf with ⟨hc42, hf⟩ | ⟨hc42, hf⟩
  {
  refine W.cond_true (bool_tr rfl hc42) ?_
  refine W.seqK fun K43 hK43 => ?_
  refine W.region ?_
  refine WL.assign (v := .bool false) rfl ?_
  refine WL.nil ?_
  refine hK43 _ _ ?_
  refine W.ret ?_
  have hr := Option.some.inj hf; subst hr
  have hr := hbbs21 _ rfl; subst hr
  have hf := hfs21
  have hr := Option.some.inj hf; subst hr
  exact ⟨_, resOk_one rfl rfl, (), rfl, (hs.mask []).pick []⟩ }
  {
  refine W.cond_false (bool_tr rfl hc42) ?_
  refine W.skip ?_
  refine hK25 _ _ ?_
  refine W.region ?_
  obtain ⟨x44, ex44, hf⟩ := letE hf
  refine WL.bin (v := .int .i64 x44) h19_17 rfl (ib_as ex44 (ib_add _ _ _)) ?_
  refine WL.move (v := .int .i64 x44) rfl ?_
  refine WL.nil ?_
  exact ⟨_, (Option.some.inj hf).symm, h19_1, h19_2, h19_15, h19_16, rfl, (hs.mask []).pick [4, 5, 6]⟩ } }
  {
  refine W.cond_false (bool_tr rfl hc24) ?_
  refine W.exit ?_
  have hr := Option.some.inj hf; subst hr
  have hr := hbbs21 _ rfl; subst hr
  have hf := hfs21
  exact Jk16  _ _  ((hs.mask []).pick []) hf } }
/-! slices.Equal[[]string,string]: function 56 -/
theorem slices_Equal_string.calls {ok : Nat → Prop} {w0 : World} {x1 : List (List UInt8)} {x4 : List (List UInt8)} {a2 : Option Addr} {c3 : Nat} {a5 : Option Addr} {c6 : Nat} {r : Bool} (hf : slices_Equal_string x1 x4 = some r) (i0 : (vl (tSlice tStr) x1 (.slice a2 x1.length c3)).holds ok w0) (i1 : (vl (tSlice tStr) x4 (.slice a5 x4.length c6)).holds ok w0) :
    Calls Try.prog 56 #[.slice a2 x1.length c3, .slice a5 x4.length c6] w0 fun e w' => ∃ v, e = .returned v ∧ ∃ y : Unit, v = .bool r ∧ St ok (bz w0) w' [] [] := by
  unfold slices_Equal_string at hf
  refine calls_of_W (fn := Try.f56) (N := 26) Try.func56 rfl Try.ntmps56 rfl ?_
  have hs : St ok (bz w0) w0 [vl (tSlice tStr) x1 (.slice a2 x1.length c3), vl (tSlice tStr) x4 (.slice a5 x4.length c6)] [] := St.init (All.cons i0 (All.cons i1 All.nil))
  clear i0 i1
  refine W.seqK fun K7 hK7 => ?_
  refine W.region ?_
  refine WL.assign (v := .bool false) rfl ?_
  refine WL.nil ?_
  refine hK7 _ _ ?_
  refine W.seqK fun K8 hK8 => ?_
  refine W.seqK fun K9 hK9 => ?_
  refine W.region ?_
  refine WL.move (v := .slice a2 x1.length c3) rfl ?_
  refine WL.len (v := .slice a2 x1.length c3) rfl (len_slice UN59) ?_
  refine WL.move (v := .slice a5 x4.length c6) rfl ?_
  refine WL.len (v := .slice a5 x4.length c6) rfl (len_slice UN59) ?_
  refine WL.bin (v := .bool ((x1.length : Int) != (x4.length : Int))) rfl rfl (ib_neq _ _ _) ?_
  refine WL.nil ?_
  refine hK9 _ _ ?_
  rcases iteE hf with ⟨hc10, hf⟩ | ⟨hc10, hf⟩
  {
  refine W.cond_true (bool_tr rfl hc10) ?_
  refine W.seqK fun K11 hK11 => ?_
  refine W.region ?_
  refine WL.assign (v := .bool false) rfl ?_
  refine WL.nil ?_
  refine hK11 _ _ ?_
  refine W.ret ?_
  have hr := Option.some.inj hf; subst hr
  exact ⟨_, resOk_one rfl rfl, (), rfl, (hs.mask []).pick []⟩ }
  {
  refine W.cond_false (bool_tr rfl hc10) ?_
  refine W.skip ?_
  refine hK8 _ _ ?_
  refine W.seqK fun K12 hK12 => ?_
  have Jk14 : ∀  (ρ : Env) (w : World), St ok (bz w0) w [] [] → slices_Equal_string.j1 = some r → K12 ρ w := by
    intro  ρ w  hs hf
    refine hK12 _ _ ?_
    unfold slices_Equal_string.j1 at hf
    refine W.seqK fun K15 hK15 => ?_
    refine W.region ?_
    refine WL.assign (v := .bool true) rfl ?_
    refine WL.nil ?_
    refine hK15 _ _ ?_
    refine W.ret ?_
    have hr := Option.some.inj hf; subst hr
    exact ⟨_, resOk_one rfl rfl, (), rfl, (hs.mask []).pick []⟩
  refine W.seqK fun K16 hK16 => ?_
  refine W.region ?_
  refine WL.move (v := .slice a2 x1.length c3) rfl ?_
  refine WL.len (v := .slice a2 x1.length c3) rfl (len_slice UN59) ?_
  refine WL.move (v := .int .i64 0) rfl ?_
  refine WL.nil ?_
  refine hK16 _ _ ?_
  refine W.block ?_
  obtain ⟨bs19, hbs19, hfs19⟩ := bindE hf
  refine W.loop hbs19 (fun s ρ w => match s with | x18 => ρ 0 = .slice a2 x1.length c3 ∧ ρ 1 = .slice a5 x4.length c6 ∧ ρ 12 = .int .i64 (x1.length : Int) ∧ ρ 13 = .int .i64 x18 ∧ St ok (bz w0) w [vl (tSlice tStr) x1 (.slice a2 x1.length c3), vl (tSlice tStr) x4 (.slice a5 x4.length c6)] []) ⟨rfl, rfl, rfl, rfl, (hs.mask []).pick [0, 1]⟩ ?_
  intro x18 ρ w os19 hI hf hbbs19
  obtain ⟨h17_0, h17_1, h17_12, h17_13, hs⟩ := hI
  unfold slices_Equal_string.l1 at hf
  refine W.seqK fun K20 hK20 => ?_
  refine W.region ?_
  refine WL.bin (v := .bool (decide (x18 < (x1.length : Int)))) h17_13 h17_12 (ib_lss _ _ _) ?_
  refine WL.nil ?_
  refine hK20 _ _ ?_
  refine W.seqK fun K21 hK21 => ?_
  rcases iteE hf with ⟨hc22, hf⟩ | ⟨hc22, hf⟩
  {
  refine W.cond_true (bool_tr rfl hc22) ?_
  refine W.skip ?_
  refine hK21 _ _ ?_
  refine W.seqK fun K23 hK23 => ?_
  refine W.block ?_
  refine W.seqK fun K24 hK24 => ?_
  refine W.region ?_
  refine WL.move (v := .int .i64 x18) h17_13 ?_
  refine WL.assign (v := .int .i64 x18) rfl ?_
  refine WL.nil ?_
  refine hK24 _ _ ?_
  refine W.seqK fun K25 hK25 => ?_
  obtain ⟨x26, hxx26, hf⟩ := bindE hf
  obtain ⟨x29, hxx29, hf⟩ := bindE hf
  refine W.any (by kernel_rfl) 9 0 [true, true, true, true, true, true, true, true, true] rfl rfl (poAt [pv (.slice a2 x1.length c3), pv (.int .i64 x18), pq (fun y : Addr => .pointer (some y)) (fun v => [pl tStr x26 (adOf v)]) (fun v => []), pv (bstr x26), pv (.slice a5 x4.length c6), pv (.int .i64 x18), pq (fun y : Addr => .pointer (some y)) (fun v => [pl tStr x29 (adOf v)]) (fun v => []), pv (bstr x29), pv (.bool (x26 != x29))]) (Λ := []) hs (by kernel_rfl) (by kernel_rfl) (by kernel_rfl) ⟨⟨⟨⟨⟨⟨⟨⟨⟨trivial, ?_⟩, ?_⟩, ?_⟩, ?_⟩, ?_⟩, ?_⟩, ?_⟩, ?_⟩, ?_⟩ ?_
  {
  intro ρ w Γx Λx hs hu hp
  refine WL.move (v := .slice a2 x1.length c3) ((hu 0 rfl).trans h17_0) ?_
  exact WL.nil ⟨rfl, _, rfl, rfl, hs.cutG 0 0⟩ }
  {
  intro ρ w Γx Λx hs hu hp
  refine WL.move (v := .int .i64 x18) (hu 5 rfl) ?_
  exact WL.nil ⟨rfl, _, rfl, rfl, hs.cutG 0 0⟩ }
  {
  intro ρ w Γx Λx hs hu hp
  have e32 : ρ 16 = .slice a2 x1.length c3 := (hp 0 rfl).1
  have e33 : ρ 17 = .int .i64 x18 := (hp 1 rfl).1
  refine WL.indexAddr hs (Γx.length + 0) (getApp rfl) UN59 TI9 e32 e33 hxx26 (fun ad27 hs => ?_)
  have hs := hs.add (it := pl tStr x26 ad27) fun ok hA => hA.get 0 rfl
  exact WL.nil ⟨rfl, _, rfl, ⟨ad27, rfl⟩, hs.cutG 1 1⟩ }
  {
  intro ρ w Γx Λx hs hu hp
  obtain ⟨⟨ad34, e35r⟩, hm36⟩ := hp 2 rfl
  have e35 : ρ 18 = .pointer (some ad34) := e35r
  rw [e35r] at hm36
  have hs := hs.memo1 (it := pl tStr x26 ad34) (List.mem_append.2 (.inl (hm36 _ (List.mem_of_getElem? (i := 0) rfl))))
  refine WL.loadP hs 0 rfl TI9 (.inr rfl) e35 (fun v28 hs => ?_)
  obtain rfl := hs.str 0 rfl
  exact WL.nil ⟨rfl, _, rfl, rfl, hs.cutG 0 2⟩ }
  {
  intro ρ w Γx Λx hs hu hp
  refine WL.move (v := .slice a5 x4.length c6) ((hu 1 rfl).trans h17_1) ?_
  exact WL.nil ⟨rfl, _, rfl, rfl, hs.cutG 0 0⟩ }
  {
  intro ρ w Γx Λx hs hu hp
  refine WL.move (v := .int .i64 x18) (hu 5 rfl) ?_
  exact WL.nil ⟨rfl, _, rfl, rfl, hs.cutG 0 0⟩ }
  {
  intro ρ w Γx Λx hs hu hp
  have e37 : ρ 20 = .slice a5 x4.length c6 := (hp 4 rfl).1
  have e38 : ρ 21 = .int .i64 x18 := (hp 5 rfl).1
  refine WL.indexAddr hs (Γx.length + 1) (getApp rfl) UN59 TI9 e37 e38 hxx29 (fun ad30 hs => ?_)
  have hs := hs.add (it := pl tStr x29 ad30) fun ok hA => hA.get 0 rfl
  exact WL.nil ⟨rfl, _, rfl, ⟨ad30, rfl⟩, hs.cutG 1 1⟩ }
  {
  intro ρ w Γx Λx hs hu hp
  obtain ⟨⟨ad39, e40r⟩, hm41⟩ := hp 6 rfl
  have e40 : ρ 22 = .pointer (some ad39) := e40r
  rw [e40r] at hm41
  have hs := hs.memo1 (it := pl tStr x29 ad39) (List.mem_append.2 (.inl (hm41 _ (List.mem_of_getElem? (i := 0) rfl))))
  refine WL.loadP hs 0 rfl TI9 (.inr rfl) e40 (fun v31 hs => ?_)
  obtain rfl := hs.str 0 rfl
  exact WL.nil ⟨rfl, _, rfl, rfl, hs.cutG 0 2⟩ }
  {
  intro ρ w Γx Λx hs hu hp
  have e42 : ρ 19 = bstr x26 := (hp 3 rfl).1
  have e43 : ρ 23 = bstr x29 := (hp 7 rfl).1
  refine WL.binS (v := .bool (x26 != x29)) e42 e43 (sb_neq _ _) ?_
  exact WL.nil ⟨rfl, _, rfl, rfl, hs.cutG 0 0⟩ }
  {
  intro ρ w hs hu44 hp
  obtain ⟨⟨⟨⟨⟨⟨⟨⟨⟨_, hp0_⟩, hp1_⟩, hp2_⟩, hp3_⟩, hp4_⟩, hp5_⟩, hp6_⟩, hp7_⟩, hp8_⟩ := hp
  have hs : St ok (bz w0) w [pl tStr x29 (adOf (ρ 22)), pl tStr x26 (adOf (ρ 18)), vl (tSlice tStr) x1 (.slice a2 x1.length c3), vl (tSlice tStr) x4 (.slice a5 x4.length c6)] [] := hs
  have e45 : ρ 24 = .bool (x26 != x29) := hp8_
  have e46 : ρ 23 = bstr x29 := hp7_
  obtain ⟨ad47, e48⟩ := hp6_
  have e48 : ρ 22 = .pointer (some ad47) := e48
  try rw [e48] at hs
  have e49 : ρ 21 = .int .i64 x18 := hp5_
  have e50 : ρ 20 = .slice a5 x4.length c6 := hp4_
  have e51 : ρ 19 = bstr x26 := hp3_
  obtain ⟨ad52, e53⟩ := hp2_
  have e53 : ρ 18 = .pointer (some ad52) := e53
  try rw [e53] at hs
  have e54 : ρ 17 = .int .i64 x18 := hp1_
  have e55 : ρ 16 = .slice a2 x1.length c3 := hp0_
  refine WA.done (by kernel_rfl) ?_
  refine hK25 _ _ ?_
  rcases iteE hf with ⟨hc56, hf⟩ | ⟨hc56, hf⟩
  {
  refine W.cond_true (bool_tr e45 hc56) ?_
  refine W.seqK fun K57 hK57 => ?_
  refine W.region ?_
  refine WL.assign (v := .bool false) rfl ?_
  refine WL.nil ?_
  refine hK57 _ _ ?_
  refine W.ret ?_
  have hr := Option.some.inj hf; subst hr
  have hr := hbbs19 _ rfl; subst hr
  have hf := hfs19
  have hr := Option.some.inj hf; subst hr
  exact ⟨_, resOk_one rfl rfl, (), rfl, (hs.mask []).pick []⟩ }
  {
  refine W.cond_false (bool_tr e45 hc56) ?_
  refine W.skip ?_
  refine hK23 _ _ ?_
  refine W.region ?_
  obtain ⟨x58, ex58, hf⟩ := letE hf
  refine WL.bin (v := .int .i64 x58) ((hu44 13 rfl).trans h17_13) rfl (ib_as ex58 (ib_add _ _ _)) ?_
  refine WL.move (v := .int .i64 x58) rfl ?_
  refine WL.nil ?_
  exact ⟨_, (Option.some.inj hf).symm, ((hu44 0 rfl).trans h17_0), ((hu44 1 rfl).trans h17_1), ((hu44 12 rfl).trans h17_12), rfl, (hs.mask []).pick [2, 3]⟩ } } }
  {
  refine W.cond_false (bool_tr rfl hc22) ?_
  refine W.exit ?_
  have hr := Option.some.inj hf; subst hr
  have hr := hbbs19 _ rfl; subst hr
  have hf := hfs19
  exact Jk14  _ _  ((hs.mask []).pick []) hf } }
/-! elasticstore/history.sameValue: function 46 -/
theorem history_sameValue.calls {ok : Nat → Prop} {w0 : World} {x1 : history_Value} {x5 : history_Value} {v2 : Value} {v6 : Value} {r : Bool} (hf : history_sameValue x1 x5 = some r) (i0 : (vl t_history_Value x1 v2).holds ok w0) (i1 : (vl t_history_Value x5 v6).holds ok w0) :
    Calls Try.prog 46 #[v2, v6] w0 fun e w' => ∃ v, e = .returned v ∧ ∃ y : Unit, v = .bool r ∧ St ok (bz w0) w' [] [] := by
  unfold history_sameValue at hf
  refine calls_of_W (fn := Try.f46) (N := 73) Try.func46 rfl Try.ntmps46 rfl ?_
  have hs : St ok (bz w0) w0 [vl t_history_Value x1 v2, vl t_history_Value x5 v6] [] := St.init (All.cons i0 (All.cons i1 All.nil))
  clear i0 i1
  obtain ⟨cs3, hl4, rfl⟩ := hs.aggv (n := 10) 0 rfl rfl rfl
  obtain ⟨cs7, hl8, rfl⟩ := hs.aggv (n := 10) 1 rfl rfl rfl
  refine W.seqK fun K9 hK9 => ?_
  refine W.region ?_
  refine WL.box (vs := cs3) hs rfl rfl (fun g10 w hs => ?_)
  refine WL.box (vs := cs7) hs rfl rfl (fun g11 w hs => ?_)
  refine WL.assign (v := .bool false) rfl ?_
  refine WL.nil ?_
  refine hK9 _ _ ?_
  refine W.seqK fun K12 hK12 => ?_
  have Jk15 : ∀ (x14 : Bool) (ρ : Env) (w : World), ρ 4 = .bool x14 → St ok (bz w0) w [] [] → history_sameValue.j1 x14 = some r → K12 ρ w := by
    intro x14 ρ w h13_4 hs hf
    refine hK12 _ _ ?_
    unfold history_sameValue.j1 at hf
    refine W.ret ?_
    have hr := Option.some.inj hf; subst hr
    exact ⟨_, resOk_one rfl h13_4, (), rfl, (hs.mask []).pick []⟩
  refine W.region ?_
  refine WL.fieldAddr (m := 0) rfl FA68_0 rfl ?_
  refine WL.loadF (z := x1.Object) F_history_Value_Object hs 1 rfl 0 rfl rfl TI9 (.inr rfl) rfl rfl (fun v16 hs => ?_)
  obtain rfl := hs.str 0 rfl
  refine WL.fieldAddr (m := 0) rfl FA68_0 rfl ?_
  refine WL.loadF (z := x5.Object) F_history_Value_Object hs 0 rfl 2 rfl rfl TI9 (.inr rfl) rfl rfl (fun v17 hs => ?_)
  obtain rfl := hs.str 0 rfl
  refine WL.binS (v := .bool (x1.Object == x5.Object)) rfl rfl (sb_eql _ _) ?_
  refine WL.move (v := .bool (x1.Object == x5.Object)) rfl ?_
  rcases iteE hf with ⟨hc18, hf⟩ | ⟨hc18, hf⟩
  {
  refine WL.fieldAddr (m := 1) rfl FA68_1 rfl ?_ (hg := (wanted_of rfl rfl (bool_tr rfl hc18)).trans rfl)
  refine WL.loadF (z := x1.Field) F_history_Value_Field hs 1 rfl 2 rfl rfl TI9 (.inr rfl) rfl rfl (fun v19 hs => ?_) (hg := (wanted_of rfl rfl (bool_tr rfl hc18)).trans rfl)
  obtain rfl := hs.str 0 rfl
  refine WL.fieldAddr (m := 1) rfl FA68_1 rfl ?_ (hg := (wanted_of rfl rfl (bool_tr rfl hc18)).trans rfl)
  refine WL.loadF (z := x5.Field) F_history_Value_Field hs 0 rfl 4 rfl rfl TI9 (.inr rfl) rfl rfl (fun v20 hs => ?_) (hg := (wanted_of rfl rfl (bool_tr rfl hc18)).trans rfl)
  obtain rfl := hs.str 0 rfl
  refine WL.binS (v := .bool (x1.Field == x5.Field)) rfl rfl (sb_eql _ _) ?_ (hg := (wanted_of rfl rfl (bool_tr rfl hc18)).trans rfl)
  refine WL.pickT (v := .bool (x1.Field == x5.Field)) (bool_tr rfl hc18) rfl ?_
  refine WL.move (v := .bool (x1.Field == x5.Field)) rfl ?_
  rcases iteE hf with ⟨hc21, hf⟩ | ⟨hc21, hf⟩
  {
  refine WL.fieldAddr (m := 2) rfl FA68_2 rfl ?_ (hg := (wanted_of rfl rfl (bool_tr rfl hc21)).trans rfl)
  refine WL.loadF (z := x1.Set) F_history_Value_Set hs 1 rfl 4 rfl rfl TI4 (.inr rfl) rfl rfl (fun v22 hs => ?_) (hg := (wanted_of rfl rfl (bool_tr rfl hc21)).trans rfl)
  obtain rfl := hs.bool 0 rfl
  refine WL.fieldAddr (m := 2) rfl FA68_2 rfl ?_ (hg := (wanted_of rfl rfl (bool_tr rfl hc21)).trans rfl)
  refine WL.loadF (z := x5.Set) F_history_Value_Set hs 0 rfl 6 rfl rfl TI4 (.inr rfl) rfl rfl (fun v23 hs => ?_) (hg := (wanted_of rfl rfl (bool_tr rfl hc21)).trans rfl)
  obtain rfl := hs.bool 0 rfl
  refine WL.eqB UN4 rfl rfl ?_ (hg := (wanted_of rfl rfl (bool_tr rfl hc21)).trans rfl)
  refine WL.pickT (v := .bool (x1.Set == x5.Set)) (bool_tr rfl hc21) rfl ?_
  refine WL.move (v := .bool (x1.Set == x5.Set)) rfl ?_
  rcases iteE hf with ⟨hc24, hf⟩ | ⟨hc24, hf⟩
  {
  refine WL.fieldAddr (m := 3) rfl FA68_3 rfl ?_ (hg := (wanted_of rfl rfl (bool_tr rfl hc24)).trans rfl)
  refine WL.loadF (z := x1.N) F_history_Value_N hs 1 rfl 6 rfl rfl TI2 (.inr rfl) rfl rfl (fun v25 hs => ?_) (hg := (wanted_of rfl rfl (bool_tr rfl hc24)).trans rfl)
  obtain rfl := hs.int 0 rfl
  refine WL.fieldAddr (m := 3) rfl FA68_3 rfl ?_ (hg := (wanted_of rfl rfl (bool_tr rfl hc24)).trans rfl)
  refine WL.loadF (z := x5.N) F_history_Value_N hs 0 rfl 8 rfl rfl TI2 (.inr rfl) rfl rfl (fun v26 hs => ?_) (hg := (wanted_of rfl rfl (bool_tr rfl hc24)).trans rfl)
  obtain rfl := hs.int 0 rfl
  refine WL.bin (v := .bool (x1.N == x5.N)) rfl rfl (ib_eql _ _ _) ?_ (hg := (wanted_of rfl rfl (bool_tr rfl hc24)).trans rfl)
  refine WL.pickT (v := .bool (x1.N == x5.N)) (bool_tr rfl hc24) rfl ?_
  refine WL.move (v := .bool (x1.N == x5.N)) rfl ?_
  rcases iteE hf with ⟨hc27, hf⟩ | ⟨hc27, hf⟩
  {
  refine WL.fieldAddr (m := 4) rfl FA68_4 rfl ?_ (hg := (wanted_of rfl rfl (bool_tr rfl hc27)).trans rfl)
  refine WL.loadF (z := x1.S) F_history_Value_S hs 1 rfl 8 rfl rfl TI9 (.inr rfl) rfl rfl (fun v28 hs => ?_) (hg := (wanted_of rfl rfl (bool_tr rfl hc27)).trans rfl)
  obtain rfl := hs.str 0 rfl
  refine WL.fieldAddr (m := 4) rfl FA68_4 rfl ?_ (hg := (wanted_of rfl rfl (bool_tr rfl hc27)).trans rfl)
  refine WL.loadF (z := x5.S) F_history_Value_S hs 0 rfl 10 rfl rfl TI9 (.inr rfl) rfl rfl (fun v29 hs => ?_) (hg := (wanted_of rfl rfl (bool_tr rfl hc27)).trans rfl)
  obtain rfl := hs.str 0 rfl
  refine WL.binS (v := .bool (x1.S == x5.S)) rfl rfl (sb_eql _ _) ?_ (hg := (wanted_of rfl rfl (bool_tr rfl hc27)).trans rfl)
  refine WL.pickT (v := .bool (x1.S == x5.S)) (bool_tr rfl hc27) rfl ?_
  refine WL.move (v := .bool (x1.S == x5.S)) rfl ?_
  rcases iteE hf with ⟨hc30, hf⟩ | ⟨hc30, hf⟩
  {
  refine WL.fieldAddr (m := 5) rfl FA68_5 rfl ?_ (hg := (wanted_of rfl rfl (bool_tr rfl hc30)).trans rfl)
  refine WL.loadF (z := x1.HasMax) F_history_Value_HasMax hs 1 rfl 10 rfl rfl TI4 (.inr rfl) rfl rfl (fun v31 hs => ?_) (hg := (wanted_of rfl rfl (bool_tr rfl hc30)).trans rfl)
  obtain rfl := hs.bool 0 rfl
  refine WL.fieldAddr (m := 5) rfl FA68_5 rfl ?_ (hg := (wanted_of rfl rfl (bool_tr rfl hc30)).trans rfl)
  refine WL.loadF (z := x5.HasMax) F_history_Value_HasMax hs 0 rfl 12 rfl rfl TI4 (.inr rfl) rfl rfl (fun v32 hs => ?_) (hg := (wanted_of rfl rfl (bool_tr rfl hc30)).trans rfl)
  obtain rfl := hs.bool 0 rfl
  refine WL.eqB UN4 rfl rfl ?_ (hg := (wanted_of rfl rfl (bool_tr rfl hc30)).trans rfl)
  refine WL.pickT (v := .bool (x1.HasMax == x5.HasMax)) (bool_tr rfl hc30) rfl ?_
  refine WL.move (v := .bool (x1.HasMax == x5.HasMax)) rfl ?_
  rcases iteE hf with ⟨hc33, hf⟩ | ⟨hc33, hf⟩
  {
  refine WL.fieldAddr (m := 6) rfl FA68_6 rfl ?_ (hg := (wanted_of rfl rfl (bool_tr rfl hc33)).trans rfl)
  refine WL.loadF (z := x1.Max) F_history_Value_Max hs 1 rfl 12 rfl rfl TI2 (.inr rfl) rfl rfl (fun v34 hs => ?_) (hg := (wanted_of rfl rfl (bool_tr rfl hc33)).trans rfl)
  obtain rfl := hs.int 0 rfl
  refine WL.fieldAddr (m := 6) rfl FA68_6 rfl ?_ (hg := (wanted_of rfl rfl (bool_tr rfl hc33)).trans rfl)
  refine WL.loadF (z := x5.Max) F_history_Value_Max hs 0 rfl 14 rfl rfl TI2 (.inr rfl) rfl rfl (fun v35 hs => ?_) (hg := (wanted_of rfl rfl (bool_tr rfl hc33)).trans rfl)
  obtain rfl := hs.int 0 rfl
  refine WL.bin (v := .bool (x1.Max == x5.Max)) rfl rfl (ib_eql _ _ _) ?_ (hg := (wanted_of rfl rfl (bool_tr rfl hc33)).trans rfl)
  refine WL.pickT (v := .bool (x1.Max == x5.Max)) (bool_tr rfl hc33) rfl ?_
  refine WL.move (v := .bool (x1.Max == x5.Max)) rfl ?_
  rcases iteE hf with ⟨hc36, hf⟩ | ⟨hc36, hf⟩
  {
  refine WL.fieldAddr (m := 7) rfl FA68_7 rfl ?_ (hg := (wanted_of rfl rfl (bool_tr rfl hc36)).trans rfl)
  refine WL.loadF (z := x1.Sum) F_history_Value_Sum hs 1 rfl 14 rfl rfl TI2 (.inr rfl) rfl rfl (fun v37 hs => ?_) (hg := (wanted_of rfl rfl (bool_tr rfl hc36)).trans rfl)
  obtain rfl := hs.int 0 rfl
  refine WL.fieldAddr (m := 7) rfl FA68_7 rfl ?_ (hg := (wanted_of rfl rfl (bool_tr rfl hc36)).trans rfl)
  refine WL.loadF (z := x5.Sum) F_history_Value_Sum hs 0 rfl 16 rfl rfl TI2 (.inr rfl) rfl rfl (fun v38 hs => ?_) (hg := (wanted_of rfl rfl (bool_tr rfl hc36)).trans rfl)
  obtain rfl := hs.int 0 rfl
  refine WL.bin (v := .bool (x1.Sum == x5.Sum)) rfl rfl (ib_eql _ _ _) ?_ (hg := (wanted_of rfl rfl (bool_tr rfl hc36)).trans rfl)
  refine WL.pickT (v := .bool (x1.Sum == x5.Sum)) (bool_tr rfl hc36) rfl ?_
  refine WL.move (v := .bool (x1.Sum == x5.Sum)) rfl ?_
  rcases iteE hf with ⟨hc39, hf⟩ | ⟨hc39, hf⟩
  {
  refine WL.fieldAddr (m := 8) rfl FA68_8 rfl ?_ (hg := (wanted_of rfl rfl (bool_tr rfl hc39)).trans rfl)
  refine WL.loadF (z := x1.Elems) F_history_Value_Elems hs 1 rfl 16 rfl rfl TI59 (.inr rfl) rfl rfl (fun v40 hs => ?_) (hg := (wanted_of rfl rfl (bool_tr rfl hc39)).trans rfl)
  obtain ⟨a41, c42, rfl⟩ := hs.slice 0 rfl
  refine WL.fieldAddr (m := 8) rfl FA68_8 rfl ?_ (hg := (wanted_of rfl rfl (bool_tr rfl hc39)).trans rfl)
  refine WL.loadF (z := x5.Elems) F_history_Value_Elems hs 0 rfl 18 rfl rfl TI59 (.inr rfl) rfl rfl (fun v43 hs => ?_) (hg := (wanted_of rfl rfl (bool_tr rfl hc39)).trans rfl)
  obtain ⟨a44, c45, rfl⟩ := hs.slice 0 rfl
  obtain ⟨x46, hxx46, hf⟩ := bindE hf
  refine WL.call (vs := [.slice a41 (x1.Elems).length c42, .slice a44 (x5.Elems).length c45]) hs FN56 ⟨rfl, ⟨rfl, trivial⟩⟩ (fun ok hA => slices_Equal_string.calls (x1 := x1.Elems) (x4 := x5.Elems) hxx46 (hA.get 1 rfl) (hA.get 0 rfl)) ?_ (hg := (wanted_of rfl rfl (bool_tr rfl hc39)).trans rfl)
  rintro _ w hs
  refine WL.pickT (v := .bool x46) (bool_tr rfl hc39) rfl ?_
  refine WL.move (v := .bool x46) rfl ?_
  rcases iteE hf with ⟨hc47, hf⟩ | ⟨hc47, hf⟩
  {
  refine WL.fieldAddr (m := 9) rfl FA68_9 rfl ?_ (hg := (wanted_of rfl rfl (bool_tr rfl hc47)).trans rfl)
  refine WL.loadF (z := x1.Flag) F_history_Value_Flag hs 1 rfl 18 rfl rfl TI4 (.inr rfl) rfl rfl (fun v48 hs => ?_) (hg := (wanted_of rfl rfl (bool_tr rfl hc47)).trans rfl)
  obtain rfl := hs.bool 0 rfl
  refine WL.fieldAddr (m := 9) rfl FA68_9 rfl ?_ (hg := (wanted_of rfl rfl (bool_tr rfl hc47)).trans rfl)
  refine WL.loadF (z := x5.Flag) F_history_Value_Flag hs 0 rfl 20 rfl rfl TI4 (.inr rfl) rfl rfl (fun v49 hs => ?_) (hg := (wanted_of rfl rfl (bool_tr rfl hc47)).trans rfl)
  obtain rfl := hs.bool 0 rfl
  refine WL.eqB UN4 rfl rfl ?_ (hg := (wanted_of rfl rfl (bool_tr rfl hc47)).trans rfl)
  refine WL.pickT (v := .bool (x1.Flag == x5.Flag)) (bool_tr rfl hc47) rfl ?_
  refine WL.assign (v := .bool (x1.Flag == x5.Flag)) rfl ?_
  refine WL.nil ?_
  exact Jk15 (x1.Flag == x5.Flag) _ _ rfl ((hs.mask []).pick []) hf }
  {
  refine WL.pass ((wanted_of rfl rfl (bool_tr rfl hc47)).trans rfl) rfl ?_
  refine WL.pass ((wanted_of rfl rfl (bool_tr rfl hc47)).trans rfl) rfl ?_
  refine WL.pass ((wanted_of rfl rfl (bool_tr rfl hc47)).trans rfl) rfl ?_
  refine WL.pass ((wanted_of rfl rfl (bool_tr rfl hc47)).trans rfl) rfl ?_
  refine WL.pass ((wanted_of rfl rfl (bool_tr rfl hc47)).trans rfl) rfl ?_
  refine WL.pickF (v := .bool false) (bool_tr rfl hc47) rfl ?_
  refine WL.assign (v := .bool false) rfl ?_
  refine WL.nil ?_
  exact Jk15 false _ _ rfl ((hs.mask []).pick []) hf } }
  {
  refine WL.pass ((wanted_of rfl rfl (bool_tr rfl hc39)).trans rfl) rfl ?_
  refine WL.pass ((wanted_of rfl rfl (bool_tr rfl hc39)).trans rfl) rfl ?_
  refine WL.pass ((wanted_of rfl rfl (bool_tr rfl hc39)).trans rfl) rfl ?_
  refine WL.pass ((wanted_of rfl rfl (bool_tr rfl hc39)).trans rfl) rfl ?_
  refine WL.pass ((wanted_of rfl rfl (bool_tr rfl hc39)).trans rfl) rfl ?_
  refine WL.pickF (v := .bool false) (bool_tr rfl hc39) rfl ?_
  refine WL.move (v := .bool false) rfl ?_
  refine WL.pass ((wanted_of rfl rfl rfl).trans rfl) rfl ?_
  refine WL.pass ((wanted_of rfl rfl rfl).trans rfl) rfl ?_
  refine WL.pass ((wanted_of rfl rfl rfl).trans rfl) rfl ?_
  refine WL.pass ((wanted_of rfl rfl rfl).trans rfl) rfl ?_
  refine WL.pass ((wanted_of rfl rfl rfl).trans rfl) rfl ?_
  refine WL.pickF (v := .bool false) rfl rfl ?_
  refine WL.assign (v := .bool false) rfl ?_
  refine WL.nil ?_
  exact Jk15 false _ _ rfl ((hs.mask []).pick []) hf } }
  {
  refine WL.pass ((wanted_of rfl rfl (bool_tr rfl hc36)).trans rfl) rfl ?_
  refine WL.pass ((wanted_of rfl rfl (bool_tr rfl hc36)).trans rfl) rfl ?_
  refine WL.pass ((wanted_of rfl rfl (bool_tr rfl hc36)).trans rfl) rfl ?_
  refine WL.pass ((wanted_of rfl rfl (bool_tr rfl hc36)).trans rfl) rfl ?_
  refine WL.pass ((wanted_of rfl rfl (bool_tr rfl hc36)).trans rfl) rfl ?_
  refine WL.pickF (v := .bool false) (bool_tr rfl hc36) rfl ?_
  refine WL.move (v := .bool false) rfl ?_
  refine WL.pass ((wanted_of rfl rfl rfl).trans rfl) rfl ?_
  refine WL.pass ((wanted_of rfl rfl rfl).trans rfl) rfl ?_
  refine WL.pass ((wanted_of rfl rfl rfl).trans rfl) rfl ?_
  refine WL.pass ((wanted_of rfl rfl rfl).trans rfl) rfl ?_
  refine WL.pass ((wanted_of rfl rfl rfl).trans rfl) rfl ?_
  refine WL.pickF (v := .bool false) rfl rfl ?_
  refine WL.move (v := .bool false) rfl ?_
  refine WL.pass ((wanted_of rfl rfl rfl).trans rfl) rfl ?_
  refine WL.pass ((wanted_of rfl rfl rfl).trans rfl) rfl ?_
  refine WL.pass ((wanted_of rfl rfl rfl).trans rfl) rfl ?_
  refine WL.pass ((wanted_of rfl rfl rfl).trans rfl) rfl ?_
  refine WL.pass ((wanted_of rfl rfl rfl).trans rfl) rfl ?_
  refine WL.pickF (v := .bool false) rfl rfl ?_
  refine WL.assign (v := .bool false) rfl ?_
  refine WL.nil ?_
  exact Jk15 false _ _ rfl ((hs.mask []).pick []) hf } }
  {
  refine WL.pass ((wanted_of rfl rfl (bool_tr rfl hc33)).trans rfl) rfl ?_
  refine WL.pass ((wanted_of rfl rfl (bool_tr rfl hc33)).trans rfl) rfl ?_
  refine WL.pass ((wanted_of rfl rfl (bool_tr rfl hc33)).trans rfl) rfl ?_
  refine WL.pass ((wanted_of rfl rfl (bool_tr rfl hc33)).trans rfl) rfl ?_
  refine WL.pass ((wanted_of rfl rfl (bool_tr rfl hc33)).trans rfl) rfl ?_
  refine WL.pickF (v := .bool false) (bool_tr rfl hc33) rfl ?_
  refine WL.move (v := .bool false) rfl ?_
  refine WL.pass ((wanted_of rfl rfl rfl).trans rfl) rfl ?_
  refine WL.pass ((wanted_of rfl rfl rfl).trans rfl) rfl ?_
  refine WL.pass ((wanted_of rfl rfl rfl).trans rfl) rfl ?_
  refine WL.pass ((wanted_of rfl rfl rfl).trans rfl) rfl ?_
  refine WL.pass ((wanted_of rfl rfl rfl).trans rfl) rfl ?_
  refine WL.pickF (v := .bool false) rfl rfl ?_
  refine WL.move (v := .bool false) rfl ?_
  refine WL.pass ((wanted_of rfl rfl rfl).trans rfl) rfl ?_
  refine WL.pass ((wanted_of rfl rfl rfl).trans rfl) rfl ?_
  refine WL.pass ((wanted_of rfl rfl rfl).trans rfl) rfl ?_
  refine WL.pass ((wanted_of rfl rfl rfl).trans rfl) rfl ?_
  refine WL.pass ((wanted_of rfl rfl rfl).trans rfl) rfl ?_
  refine WL.pickF (v := .bool false) rfl rfl ?_
  refine WL.move (v := .bool false) rfl ?_
  refine WL.pass ((wanted_of rfl rfl rfl).trans rfl) rfl ?_
  refine WL.pass ((wanted_of rfl rfl rfl).trans rfl) rfl ?_
  refine WL.pass ((wanted_of rfl rfl rfl).trans rfl) rfl ?_
  refine WL.pass ((wanted_of rfl rfl rfl).trans rfl) rfl ?_
  refine WL.pass ((wanted_of rfl rfl rfl).trans rfl) rfl ?_
  refine WL.pickF (v := .bool false) rfl rfl ?_
  refine WL.assign (v := .bool false) rfl ?_
  refine WL.nil ?_
  exact Jk15 false _ _ rfl ((hs.mask []).pick []) hf } }
  {
  refine WL.pass ((wanted_of rfl rfl (bool_tr rfl hc30)).trans rfl) rfl ?_
  refine WL.pass ((wanted_of rfl rfl (bool_tr rfl hc30)).trans rfl) rfl ?_
  refine WL.pass ((wanted_of rfl rfl (bool_tr rfl hc30)).trans rfl) rfl ?_
  refine WL.pass ((wanted_of rfl rfl (bool_tr rfl hc30)).trans rfl) rfl ?_
  refine WL.pass ((wanted_of rfl rfl (bool_tr rfl hc30)).trans rfl) rfl ?_
  refine WL.pickF (v := .bool false) (bool_tr rfl hc30) rfl ?_
  refine WL.move (v := .bool false) rfl ?_
  refine WL.pass ((wanted_of rfl rfl rfl).trans rfl) rfl ?_
  refine WL.pass ((wanted_of rfl rfl rfl).trans rfl) rfl ?_
  refine WL.pass ((wanted_of rfl rfl rfl).trans rfl) rfl ?_
  refine WL.pass ((wanted_of rfl rfl rfl).trans rfl) rfl ?_
  refine WL.pass ((wanted_of rfl rfl rfl).trans rfl) rfl ?_
  refine WL.pickF (v := .bool false) rfl rfl ?_
  refine WL.move (v := .bool false) rfl ?_
  refine WL.pass ((wanted_of rfl rfl rfl).trans rfl) rfl ?_
  refine WL.pass ((wanted_of rfl rfl rfl).trans rfl) rfl ?_
  refine WL.pass ((wanted_of rfl rfl rfl).trans rfl) rfl ?_
  refine WL.pass ((wanted_of rfl rfl rfl).trans rfl) rfl ?_
  refine WL.pass ((wanted_of rfl rfl rfl).trans rfl) rfl ?_
  refine WL.pickF (v := .bool false) rfl rfl ?_
  refine WL.move (v := .bool false) rfl ?_
  refine WL.pass ((wanted_of rfl rfl rfl).trans rfl) rfl ?_
  refine WL.pass ((wanted_of rfl rfl rfl).trans rfl) rfl ?_
  refine WL.pass ((wanted_of rfl rfl rfl).trans rfl) rfl ?_
  refine WL.pass ((wanted_of rfl rfl rfl).trans rfl) rfl ?_
  refine WL.pass ((wanted_of rfl rfl rfl).trans rfl) rfl ?_
  refine WL.pickF (v := .bool false) rfl rfl ?_
  refine WL.move (v := .bool false) rfl ?_
  refine WL.pass ((wanted_of rfl rfl rfl).trans rfl) rfl ?_
  refine WL.pass ((wanted_of rfl rfl rfl).trans rfl) rfl ?_
  refine WL.pass ((wanted_of rfl rfl rfl).trans rfl) rfl ?_
  refine WL.pass ((wanted_of rfl rfl rfl).trans rfl) rfl ?_
  refine WL.pass ((wanted_of rfl rfl rfl).trans rfl) rfl ?_
  refine WL.pickF (v := .bool false) rfl rfl ?_
  refine WL.assign (v := .bool false) rfl ?_
  refine WL.nil ?_
  exact Jk15 false _ _ rfl ((hs.mask []).pick []) hf } }
  {
  refine WL.pass ((wanted_of rfl rfl (bool_tr rfl hc27)).trans rfl) rfl ?_
  refine WL.pass ((wanted_of rfl rfl (bool_tr rfl hc27)).trans rfl) rfl ?_
  refine WL.pass ((wanted_of rfl rfl (bool_tr rfl hc27)).trans rfl) rfl ?_
  refine WL.pass ((wanted_of rfl rfl (bool_tr rfl hc27)).trans rfl) rfl ?_
  refine WL.pass ((wanted_of rfl rfl (bool_tr rfl hc27)).trans rfl) rfl ?_
  refine WL.pickF (v := .bool false) (bool_tr rfl hc27) rfl ?_
  refine WL.move (v := .bool false) rfl ?_
  refine WL.pass ((wanted_of rfl rfl rfl).trans rfl) rfl ?_
  refine WL.pass ((wanted_of rfl rfl rfl).trans rfl) rfl ?_
  refine WL.pass ((wanted_of rfl rfl rfl).trans rfl) rfl ?_
  refine WL.pass ((wanted_of rfl rfl rfl).trans rfl) rfl ?_
  refine WL.pass ((wanted_of rfl rfl rfl).trans rfl) rfl ?_
  refine WL.pickF (v := .bool false) rfl rfl ?_
  refine WL.move (v := .bool false) rfl ?_
  refine WL.pass ((wanted_of rfl rfl rfl).trans rfl) rfl ?_
  refine WL.pass ((wanted_of rfl rfl rfl).trans rfl) rfl ?_
  refine WL.pass ((wanted_of rfl rfl rfl).trans rfl) rfl ?_
  refine WL.pass ((wanted_of rfl rfl rfl).trans rfl) rfl ?_
  refine WL.pass ((wanted_of rfl rfl rfl).trans rfl) rfl ?_
  refine WL.pickF (v := .bool false) rfl rfl ?_
  refine WL.move (v := .bool false) rfl ?_
  refine WL.pass ((wanted_of rfl rfl rfl).trans rfl) rfl ?_
  refine WL.pass ((wanted_of rfl rfl rfl).trans rfl) rfl ?_
  refine WL.pass ((wanted_of rfl rfl rfl).trans rfl) rfl ?_
  refine WL.pass ((wanted_of rfl rfl rfl).trans rfl) rfl ?_
  refine WL.pass ((wanted_of rfl rfl rfl).trans rfl) rfl ?_
  refine WL.pickF (v := .bool false) rfl rfl ?_
  refine WL.move (v := .bool false) rfl ?_
  refine WL.pass ((wanted_of rfl rfl rfl).trans rfl) rfl ?_
  refine WL.pass ((wanted_of rfl rfl rfl).trans rfl) rfl ?_
  refine WL.pass ((wanted_of rfl rfl rfl).trans rfl) rfl ?_
  refine WL.pass ((wanted_of rfl rfl rfl).trans rfl) rfl ?_
  refine WL.pass ((wanted_of rfl rfl rfl).trans rfl) rfl ?_
  refine WL.pickF (v := .bool false) rfl rfl ?_
  refine WL.move (v := .bool false) rfl ?_
  refine WL.pass ((wanted_of rfl rfl rfl).trans rfl) rfl ?_
  refine WL.pass ((wanted_of rfl rfl rfl).trans rfl) rfl ?_
  refine WL.pass ((wanted_of rfl rfl rfl).trans rfl) rfl ?_
  refine WL.pass ((wanted_of rfl rfl rfl).trans rfl) rfl ?_
  refine WL.pass ((wanted_of rfl rfl rfl).trans rfl) rfl ?_
  refine WL.pickF (v := .bool false) rfl rfl ?_
  refine WL.assign (v := .bool false) rfl ?_
  refine WL.nil ?_
  exact Jk15 false _ _ rfl ((hs.mask []).pick []) hf } }
  {
  refine WL.pass ((wanted_of rfl rfl (bool_tr rfl hc24)).trans rfl) rfl ?_
  refine WL.pass ((wanted_of rfl rfl (bool_tr rfl hc24)).trans rfl) rfl ?_
  refine WL.pass ((wanted_of rfl rfl (bool_tr rfl hc24)).trans rfl) rfl ?_
  refine WL.pass ((wanted_of rfl rfl (bool_tr rfl hc24)).trans rfl) rfl ?_
  refine WL.pass ((wanted_of rfl rfl (bool_tr rfl hc24)).trans rfl) rfl ?_
  refine WL.pickF (v := .bool false) (bool_tr rfl hc24) rfl ?_
  refine WL.move (v := .bool false) rfl ?_
  refine WL.pass ((wanted_of rfl rfl rfl).trans rfl) rfl ?_
  refine WL.pass ((wanted_of rfl rfl rfl).trans rfl) rfl ?_
  refine WL.pass ((wanted_of rfl rfl rfl).trans rfl) rfl ?_
  refine WL.pass ((wanted_of rfl rfl rfl).trans rfl) rfl ?_
  refine WL.pass ((wanted_of rfl rfl rfl).trans rfl) rfl ?_
  refine WL.pickF (v := .bool false) rfl rfl ?_
  refine WL.move (v := .bool false) rfl ?_
  refine WL.pass ((wanted_of rfl rfl rfl).trans rfl) rfl ?_
  refine WL.pass ((wanted_of rfl rfl rfl).trans rfl) rfl ?_
  refine WL.pass ((wanted_of rfl rfl rfl).trans rfl) rfl ?_
  refine WL.pass ((wanted_of rfl rfl rfl).trans rfl) rfl ?_
  refine WL.pass ((wanted_of rfl rfl rfl).trans rfl) rfl ?_
  refine WL.pickF (v := .bool false) rfl rfl ?_
  refine WL.move (v := .bool false) rfl ?_
  refine WL.pass ((wanted_of rfl rfl rfl).trans rfl) rfl ?_
  refine WL.pass ((wanted_of rfl rfl rfl).trans rfl) rfl ?_
  refine WL.pass ((wanted_of rfl rfl rfl).trans rfl) rfl ?_
  refine WL.pass ((wanted_of rfl rfl rfl).trans rfl) rfl ?_
  refine WL.pass ((wanted_of rfl rfl rfl).trans rfl) rfl ?_
  refine WL.pickF (v := .bool false) rfl rfl ?_
  refine WL.move (v := .bool false) rfl ?_
  refine WL.pass ((wanted_of rfl rfl rfl).trans rfl) rfl ?_
  refine WL.pass ((wanted_of rfl rfl rfl).trans rfl) rfl ?_
  refine WL.pass ((wanted_of rfl rfl rfl).trans rfl) rfl ?_
  refine WL.pass ((wanted_of rfl rfl rfl).trans rfl) rfl ?_
  refine WL.pass ((wanted_of rfl rfl rfl).trans rfl) rfl ?_
  refine WL.pickF (v := .bool false) rfl rfl ?_
  refine WL.move (v := .bool false) rfl ?_
  refine WL.pass ((wanted_of rfl rfl rfl).trans rfl) rfl ?_
  refine WL.pass ((wanted_of rfl rfl rfl).trans rfl) rfl ?_
  refine WL.pass ((wanted_of rfl rfl rfl).trans rfl) rfl ?_
  refine WL.pass ((wanted_of rfl rfl rfl).trans rfl) rfl ?_
  refine WL.pass ((wanted_of rfl rfl rfl).trans rfl) rfl ?_
  refine WL.pickF (v := .bool false) rfl rfl ?_
  refine WL.move (v := .bool false) rfl ?_
  refine WL.pass ((wanted_of rfl rfl rfl).trans rfl) rfl ?_
  refine WL.pass ((wanted_of rfl rfl rfl).trans rfl) rfl ?_
  refine WL.pass ((wanted_of rfl rfl rfl).trans rfl) rfl ?_
  refine WL.pass ((wanted_of rfl rfl rfl).trans rfl) rfl ?_
  refine WL.pass ((wanted_of rfl rfl rfl).trans rfl) rfl ?_
  refine WL.pickF (v := .bool false) rfl rfl ?_
  refine WL.assign (v := .bool false) rfl ?_
  refine WL.nil ?_
  exact Jk15 false _ _ rfl ((hs.mask []).pick []) hf } }
  {
  refine WL.pass ((wanted_of rfl rfl (bool_tr rfl hc21)).trans rfl) rfl ?_
  refine WL.pass ((wanted_of rfl rfl (bool_tr rfl hc21)).trans rfl) rfl ?_
  refine WL.pass ((wanted_of rfl rfl (bool_tr rfl hc21)).trans rfl) rfl ?_
  refine WL.pass ((wanted_of rfl rfl (bool_tr rfl hc21)).trans rfl) rfl ?_
  refine WL.pass ((wanted_of rfl rfl (bool_tr rfl hc21)).trans rfl) rfl ?_
  refine WL.pickF (v := .bool false) (bool_tr rfl hc21) rfl ?_
  refine WL.move (v := .bool false) rfl ?_
  refine WL.pass ((wanted_of rfl rfl rfl).trans rfl) rfl ?_
  refine WL.pass ((wanted_of rfl rfl rfl).trans rfl) rfl ?_
  refine WL.pass ((wanted_of rfl rfl rfl).trans rfl) rfl ?_
  refine WL.pass ((wanted_of rfl rfl rfl).trans rfl) rfl ?_
  refine WL.pass ((wanted_of rfl rfl rfl).trans rfl) rfl ?_
  refine WL.pickF (v := .bool false) rfl rfl ?_
  refine WL.move (v := .bool false) rfl ?_
  refine WL.pass ((wanted_of rfl rfl rfl).trans rfl) rfl ?_
  refine WL.pass ((wanted_of rfl rfl rfl).trans rfl) rfl ?_
  refine WL.pass ((wanted_of rfl rfl rfl).trans rfl) rfl ?_
  refine WL.pass ((wanted_of rfl rfl rfl).trans rfl) rfl ?_
  refine WL.pass ((wanted_of rfl rfl rfl).trans rfl) rfl ?_
  refine WL.pickF (v := .bool false) rfl rfl ?_
  refine WL.move (v := .bool false) rfl ?_
  refine WL.pass ((wanted_of rfl rfl rfl).trans rfl) rfl ?_
  refine WL.pass ((wanted_of rfl rfl rfl).trans rfl) rfl ?_
  refine WL.pass ((wanted_of rfl rfl rfl).trans rfl) rfl ?_
  refine WL.pass ((wanted_of rfl rfl rfl).trans rfl) rfl ?_
  refine WL.pass ((wanted_of rfl rfl rfl).trans rfl) rfl ?_
  refine WL.pickF (v := .bool false) rfl rfl ?_
  refine WL.move (v := .bool false) rfl ?_
  refine WL.pass ((wanted_of rfl rfl rfl).trans rfl) rfl ?_
  refine WL.pass ((wanted_of rfl rfl rfl).trans rfl) rfl ?_
  refine WL.pass ((wanted_of rfl rfl rfl).trans rfl) rfl ?_
  refine WL.pass ((wanted_of rfl rfl rfl).trans rfl) rfl ?_
  refine WL.pass ((wanted_of rfl rfl rfl).trans rfl) rfl ?_
  refine WL.pickF (v := .bool false) rfl rfl ?_
  refine WL.move (v := .bool false) rfl ?_
  refine WL.pass ((wanted_of rfl rfl rfl).trans rfl) rfl ?_
  refine WL.pass ((wanted_of rfl rfl rfl).trans rfl) rfl ?_
  refine WL.pass ((wanted_of rfl rfl rfl).trans rfl) rfl ?_
  refine WL.pass ((wanted_of rfl rfl rfl).trans rfl) rfl ?_
  refine WL.pass ((wanted_of rfl rfl rfl).trans rfl) rfl ?_
  refine WL.pickF (v := .bool false) rfl rfl ?_
  refine WL.move (v := .bool false) rfl ?_
  refine WL.pass ((wanted_of rfl rfl rfl).trans rfl) rfl ?_
  refine WL.pass ((wanted_of rfl rfl rfl).trans rfl) rfl ?_
  refine WL.pass ((wanted_of rfl rfl rfl).trans rfl) rfl ?_
  refine WL.pass ((wanted_of rfl rfl rfl).trans rfl) rfl ?_
  refine WL.pass ((wanted_of rfl rfl rfl).trans rfl) rfl ?_
  refine WL.pickF (v := .bool false) rfl rfl ?_
  refine WL.move (v := .bool false) rfl ?_
  refine WL.pass ((wanted_of rfl rfl rfl).trans rfl) rfl ?_
  refine WL.pass ((wanted_of rfl rfl rfl).trans rfl) rfl ?_
  refine WL.pass ((wanted_of rfl rfl rfl).trans rfl) rfl ?_
  refine WL.pass ((wanted_of rfl rfl rfl).trans rfl) rfl ?_
  refine WL.pass ((wanted_of rfl rfl rfl).trans rfl) rfl ?_
  refine WL.pickF (v := .bool false) rfl rfl ?_
  refine WL.assign (v := .bool false) rfl ?_
  refine WL.nil ?_
  exact Jk15 false _ _ rfl ((hs.mask []).pick []) hf } }
  {
  refine WL.pass ((wanted_of rfl rfl (bool_tr rfl hc18)).trans rfl) rfl ?_
  refine WL.pass ((wanted_of rfl rfl (bool_tr rfl hc18)).trans rfl) rfl ?_
  refine WL.pass ((wanted_of rfl rfl (bool_tr rfl hc18)).trans rfl) rfl ?_
  refine WL.pass ((wanted_of rfl rfl (bool_tr rfl hc18)).trans rfl) rfl ?_
  refine WL.pass ((wanted_of rfl rfl (bool_tr rfl hc18)).trans rfl) rfl ?_
  refine WL.pickF (v := .bool false) (bool_tr rfl hc18) rfl ?_
  refine WL.move (v := .bool false) rfl ?_
  refine WL.pass ((wanted_of rfl rfl rfl).trans rfl) rfl ?_
  refine WL.pass ((wanted_of rfl rfl rfl).trans rfl) rfl ?_
  refine WL.pass ((wanted_of rfl rfl rfl).trans rfl) rfl ?_
  refine WL.pass ((wanted_of rfl rfl rfl).trans rfl) rfl ?_
  refine WL.pass ((wanted_of rfl rfl rfl).trans rfl) rfl ?_
  refine WL.pickF (v := .bool false) rfl rfl ?_
  refine WL.move (v := .bool false) rfl ?_
  refine WL.pass ((wanted_of rfl rfl rfl).trans rfl) rfl ?_
  refine WL.pass ((wanted_of rfl rfl rfl).trans rfl) rfl ?_
  refine WL.pass ((wanted_of rfl rfl rfl).trans rfl) rfl ?_
  refine WL.pass ((wanted_of rfl rfl rfl).trans rfl) rfl ?_
  refine WL.pass ((wanted_of rfl rfl rfl).trans rfl) rfl ?_
  refine WL.pickF (v := .bool false) rfl rfl ?_
  refine WL.move (v := .bool false) rfl ?_
  refine WL.pass ((wanted_of rfl rfl rfl).trans rfl) rfl ?_
  refine WL.pass ((wanted_of rfl rfl rfl).trans rfl) rfl ?_
  refine WL.pass ((wanted_of rfl rfl rfl).trans rfl) rfl ?_
  refine WL.pass ((wanted_of rfl rfl rfl).trans rfl) rfl ?_
  refine WL.pass ((wanted_of rfl rfl rfl).trans rfl) rfl ?_
  refine WL.pickF (v := .bool false) rfl rfl ?_
  refine WL.move (v := .bool false) rfl ?_
  refine WL.pass ((wanted_of rfl rfl rfl).trans rfl) rfl ?_
  refine WL.pass ((wanted_of rfl rfl rfl).trans rfl) rfl ?_
  refine WL.pass ((wanted_of rfl rfl rfl).trans rfl) rfl ?_
  refine WL.pass ((wanted_of rfl rfl rfl).trans rfl) rfl ?_
  refine WL.pass ((wanted_of rfl rfl rfl).trans rfl) rfl ?_
  refine WL.pickF (v := .bool false) rfl rfl ?_
  refine WL.move (v := .bool false) rfl ?_
  refine WL.pass ((wanted_of rfl rfl rfl).trans rfl) rfl ?_
  refine WL.pass ((wanted_of rfl rfl rfl).trans rfl) rfl ?_
  refine WL.pass ((wanted_of rfl rfl rfl).trans rfl) rfl ?_
  refine WL.pass ((wanted_of rfl rfl rfl).trans rfl) rfl ?_
  refine WL.pass ((wanted_of rfl rfl rfl).trans rfl) rfl ?_
  refine WL.pickF (v := .bool false) rfl rfl ?_
  refine WL.move (v := .bool false) rfl ?_
  refine WL.pass ((wanted_of rfl rfl rfl).trans rfl) rfl ?_
  refine WL.pass ((wanted_of rfl rfl rfl).trans rfl) rfl ?_
  refine WL.pass ((wanted_of rfl rfl rfl).trans rfl) rfl ?_
  refine WL.pass ((wanted_of rfl rfl rfl).trans rfl) rfl ?_
  refine WL.pass ((wanted_of rfl rfl rfl).trans rfl) rfl ?_
  refine WL.pickF (v := .bool false) rfl rfl ?_
  refine WL.move (v := .bool false) rfl ?_
  refine WL.pass ((wanted_of rfl rfl rfl).trans rfl) rfl ?_
  refine WL.pass ((wanted_of rfl rfl rfl).trans rfl) rfl ?_
  refine WL.pass ((wanted_of rfl rfl rfl).trans rfl) rfl ?_
  refine WL.pass ((wanted_of rfl rfl rfl).trans rfl) rfl ?_
  refine WL.pass ((wanted_of rfl rfl rfl).trans rfl) rfl ?_
  refine WL.pickF (v := .bool false) rfl rfl ?_
  refine WL.move (v := .bool false) rfl ?_
  refine WL.pass ((wanted_of rfl rfl rfl).trans rfl) rfl ?_
  refine WL.pass ((wanted_of rfl rfl rfl).trans rfl) rfl ?_
  refine WL.pass ((wanted_of rfl rfl rfl).trans rfl) rfl ?_
  refine WL.pass ((wanted_of rfl rfl rfl).trans rfl) rfl ?_
  refine WL.pass ((wanted_of rfl rfl rfl).trans rfl) rfl ?_
  refine WL.pickF (v := .bool false) rfl rfl ?_
  refine WL.assign (v := .bool false) rfl ?_
  refine WL.nil ?_
  exact Jk15 false _ _ rfl ((hs.mask []).pick []) hf }
/-! elasticstore/history.SameValues: function 25 -/
theorem history_SameValues.calls {ok : Nat → Prop} {w0 : World} {x1 : List history_Value} {x4 : List history_Value} {a2 : Option Addr} {c3 : Nat} {a5 : Option Addr} {c6 : Nat} {r : Bool} (hf : history_SameValues x1 x4 = some r) (i0 : (vl (tSlice t_history_Value) x1 (.slice a2 x1.length c3)).holds ok w0) (i1 : (vl (tSlice t_history_Value) x4 (.slice a5 x4.length c6)).holds ok w0) :
    Calls Try.prog 25 #[.slice a2 x1.length c3, .slice a5 x4.length c6] w0 fun e w' => ∃ v, e = .returned v ∧ ∃ y : Unit, v = .bool r ∧ St ok (bz w0) w' [] [] := by
  unfold history_SameValues at hf
  refine calls_of_W (fn := Try.f25) (N := 8) Try.func25 rfl Try.ntmps25 rfl ?_
  have hs : St ok (bz w0) w0 [vl (tSlice t_history_Value) x1 (.slice a2 x1.length c3), vl (tSlice t_history_Value) x4 (.slice a5 x4.length c6)] [] := St.init (All.cons i0 (All.cons i1 All.nil))
  clear i0 i1
  refine W.seqK fun K7 hK7 => ?_
  refine W.region ?_
  refine WL.assign (v := .bool false) rfl ?_
  refine WL.nil ?_
  refine hK7 _ _ ?_
  refine W.seqK fun K8 hK8 => ?_
  refine W.region ?_
  refine WL.move (v := .slice a2 x1.length c3) rfl ?_
  refine WL.move (v := .slice a5 x4.length c6) rfl ?_
  have hs := hs.add (it := vl (tFun Try.prog (argK2 t_history_Value t_history_Value) (fun r : Bool => .bool r)) (fun p : history_Value × history_Value => history_sameValue p.1 p.2) (.func (.func 46) #[] #[])) fun ok hA => tFun_V.2 ⟨46, _, rfl, FN46, fun ok' w' hm p r vs hF har => by
    obtain ⟨u1, u2, rfl, h1, h2⟩ := har
    exact (history_sameValue.calls (x1 := p.1) (x5 := p.2) hF h1 h2).mono (by rintro e w2 ⟨v, h1, y, h2, h3⟩; exact ⟨v, h1, h2, h3⟩)⟩
  obtain ⟨x9, hxx9, hf⟩ := bindE hf
  refine WL.call (vs := [.slice a2 x1.length c3, .slice a5 x4.length c6, (.func (.func 46) #[] #[])]) hs FN45 ⟨rfl, ⟨rfl, ⟨rfl, trivial⟩⟩⟩ (fun ok hA => slices_EqualFunc_Value.calls (x1 := x1) (x4 := x4) (x7 := (fun p : history_Value × history_Value => history_sameValue p.1 p.2)) hxx9 (hA.get 1 rfl) (hA.get 2 rfl) (hA.get 0 rfl)) ?_
  rintro _ w hs
  refine WL.assign (v := .bool x9) rfl ?_
  refine WL.nil ?_
  refine hK8 _ _ ?_
  refine W.ret ?_
  have hr := Option.some.inj hf; subst hr
  exact ⟨_, resOk_one rfl rfl, (), rfl, (hs.mask []).pick []⟩
/-! elasticstore/elasticstorelaw38.HistorySame: function 8 -/
theorem eslaw38_HistorySame.calls {ok : Nat → Prop} {w0 : World} {x1 : List history_Value} {x4 : List history_Value} {a2 : Option Addr} {c3 : Nat} {a5 : Option Addr} {c6 : Nat} {r : Bool} (hf : eslaw38_HistorySame x1 x4 = some r) (i0 : (vl (tSlice t_history_Value) x1 (.slice a2 x1.length c3)).holds ok w0) (i1 : (vl (tSlice t_history_Value) x4 (.slice a5 x4.length c6)).holds ok w0) :
    Calls Try.prog 8 #[.slice a2 x1.length c3, .slice a5 x4.length c6] w0 fun e w' => ∃ v, e = .returned v ∧ ∃ y : Unit, v = .bool r ∧ St ok (bz w0) w' [] [] := by
  unfold eslaw38_HistorySame at hf
  refine calls_of_W (fn := Try.f8) (N := 42) Try.func8 rfl Try.ntmps8 rfl ?_
  have hs : St ok (bz w0) w0 [vl (tSlice t_history_Value) x1 (.slice a2 x1.length c3), vl (tSlice t_history_Value) x4 (.slice a5 x4.length c6)] [] := St.init (All.cons i0 (All.cons i1 All.nil))
  clear i0 i1
  refine W.seqK fun K7 hK7 => ?_
  refine W.region ?_
  refine WL.assign (v := .bool false) rfl ?_
  refine WL.nil ?_
  refine hK7 _ _ ?_
  refine W.seqK fun K8 hK8 => ?_
  refine W.seqK fun K9 hK9 => ?_
  have Jk12 : ∀ (x11 : Bool) (ρ : Env) (w : World), ρ 0 = .slice a2 x1.length c3 → ρ 1 = .slice a5 x4.length c6 → ρ 13 = .bool x11 → St ok (bz w0) w [vl (tSlice t_history_Value) x1 (.slice a2 x1.length c3), vl (tSlice t_history_Value) x4 (.slice a5 x4.length c6)] [] → eslaw38_HistorySame.j2 x1 x4 x11 = some r → K9 ρ w := by
    intro x11 ρ w h10_0 h10_1 h10_13 hs hf
    refine hK9 _ _ ?_
    unfold eslaw38_HistorySame.j2 at hf
    rcases iteE hf with ⟨hc13, hf⟩ | ⟨hc13, hf⟩
    {
    refine W.cond_true (bool_tr h10_13 hc13) ?_
    refine W.seqK fun K14 hK14 => ?_
    refine W.region ?_
    obtain ⟨x15, hxx15, hf⟩ := bindE hf
    refine WL.call (vs := []) hs FN10 trivial (fun ok hA => eslaw38_awake.calls hxx15) ?_
    rintro _ w hs
    refine WL.assign (v := .bool x15) rfl ?_
    refine WL.nil ?_
    refine hK14 _ _ ?_
    refine W.ret ?_
    have hr := Option.some.inj hf; subst hr
    exact ⟨_, resOk_one rfl rfl, (), rfl, (hs.mask []).pick []⟩ }
    {
    refine W.cond_false (bool_tr h10_13 hc13) ?_
    refine W.skip ?_
    refine hK8 _ _ ?_
    refine W.seqK fun K16 hK16 => ?_
    refine W.region ?_
    refine WL.buildSlice0 hs UN31 TI68 (fun a17 w hs => ?_)
    refine WL.move (v := .slice a2 x1.length c3) h10_0 ?_
    have hs := hs.ownEmpty t_history_Value 68 a17
    obtain ⟨x18, hxx18, hf⟩ := bindE hf
    obtain ⟨hbx18, hex18⟩ := appE hxx18
    refine WL.appendS (zs := x18) hs 0 rfl 0 rfl UN31 UN31 EI68 rfl rfl hbx18 (by omega) hex18 (fun v19 w hs => ?_)
    obtain ⟨a20, n22, c21, rfl⟩ := hs.ownv3 0 rfl
    refine WL.assign (v := .slice a20 n22 c21) rfl ?_
    refine WL.nil ?_
    refine hK16 _ _ ?_
    refine W.seqK fun K23 hK23 => ?_
    have Jk26 : ∀ (x25 : Bool) (ρ : Env) (w : World), ρ 4 = .bool x25 → St ok (bz w0) w [] [] → eslaw38_HistorySame.j1 x25 = some r → K23 ρ w := by
      intro x25 ρ w h24_4 hs hf
      refine hK23 _ _ ?_
      unfold eslaw38_HistorySame.j1 at hf
      refine W.ret ?_
      have hr := Option.some.inj hf; subst hr
      exact ⟨_, resOk_one rfl h24_4, (), rfl, (hs.mask []).pick []⟩
    refine W.region ?_
    refine WL.move (v := .slice a2 x1.length c3) h10_0 ?_
    refine WL.move (v := .slice a5 x4.length c6) h10_1 ?_
    obtain ⟨x27, hxx27, hf⟩ := bindE hf
    refine WL.call (vs := [.slice a2 x1.length c3, .slice a5 x4.length c6]) hs FN25 ⟨rfl, ⟨rfl, trivial⟩⟩ (fun ok hA => history_SameValues.calls (x1 := x1) (x4 := x4) hxx27 (hA.get 0 rfl) (hA.get 1 rfl)) ?_
    rintro _ w hs
    refine WL.move (v := .slice a2 x1.length c3) h10_0 ?_
    refine WL.move (v := .slice a5 x4.length c6) h10_1 ?_
    obtain ⟨x28, hxx28, hf⟩ := bindE hf
    refine WL.call (vs := [.slice a2 x1.length c3, .slice a5 x4.length c6]) hs FN26 ⟨rfl, ⟨rfl, trivial⟩⟩ (fun ok hA => esref39_SameValues.calls (x1 := x1) (x4 := x4) hxx28 (hA.get 0 rfl) (hA.get 1 rfl)) ?_
    rintro _ w hs
    refine WL.eqB UN4 rfl rfl ?_
    refine WL.move (v := .bool (x27 == x28)) rfl ?_
    rcases iteE hf with ⟨hc29, hf⟩ | ⟨hc29, hf⟩
    {
    refine WL.move (v := .slice a2 x1.length c3) h10_0 ?_ (hg := (wanted_of rfl rfl (bool_tr rfl hc29)).trans rfl)
    refine WL.move (v := .slice a20 n22 c21) rfl ?_ (hg := (wanted_of rfl rfl (bool_tr rfl hc29)).trans rfl)
    obtain ⟨x30, hxx30, hf⟩ := bindE hf
    refine WL.callL (vs := [.slice a2 x1.length c3, .slice a20 x18.length c21]) hs FN25 ⟨rfl, ⟨(Eq.trans rfl (sl_len (hs.ownLen 0 rfl))), trivial⟩⟩ (history_SameValues.calls (x1 := x1) (x4 := x18) hxx30 (hs.allT.get 0 rfl) (hs.ownN 0 rfl)) ?_ (hg := (wanted_of rfl rfl (bool_tr rfl hc29)).trans rfl)
    rintro _ w hs
    refine WL.pickT (v := .bool x30) (bool_tr rfl hc29) rfl ?_
    refine WL.move (v := .bool x30) rfl ?_
    rcases iteE hf with ⟨hc31, hf⟩ | ⟨hc31, hf⟩
    {
    refine WL.move (v := .slice a5 x4.length c6) h10_1 ?_ (hg := (wanted_of rfl rfl (bool_tr rfl hc31)).trans rfl)
    refine WL.move (v := .slice a2 x1.length c3) h10_0 ?_ (hg := (wanted_of rfl rfl (bool_tr rfl hc31)).trans rfl)
    obtain ⟨x32, hxx32, hf⟩ := bindE hf
    refine WL.call (vs := [.slice a5 x4.length c6, .slice a2 x1.length c3]) hs FN25 ⟨rfl, ⟨rfl, trivial⟩⟩ (fun ok hA => history_SameValues.calls (x1 := x4) (x4 := x1) hxx32 (hA.get 1 rfl) (hA.get 0 rfl)) ?_ (hg := (wanted_of rfl rfl (bool_tr rfl hc31)).trans rfl)
    rintro _ w hs
    refine WL.move (v := .slice a2 x1.length c3) h10_0 ?_ (hg := (wanted_of rfl rfl (bool_tr rfl hc31)).trans rfl)
    refine WL.move (v := .slice a5 x4.length c6) h10_1 ?_ (hg := (wanted_of rfl rfl (bool_tr rfl hc31)).trans rfl)
    obtain ⟨x33, hxx33, hf⟩ := bindE hf
    refine WL.call (vs := [.slice a2 x1.length c3, .slice a5 x4.length c6]) hs FN25 ⟨rfl, ⟨rfl, trivial⟩⟩ (fun ok hA => history_SameValues.calls (x1 := x1) (x4 := x4) hxx33 (hA.get 0 rfl) (hA.get 1 rfl)) ?_ (hg := (wanted_of rfl rfl (bool_tr rfl hc31)).trans rfl)
    rintro _ w hs
    refine WL.eqB UN4 rfl rfl ?_ (hg := (wanted_of rfl rfl (bool_tr rfl hc31)).trans rfl)
    refine WL.pickT (v := .bool (x32 == x33)) (bool_tr rfl hc31) rfl ?_
    refine WL.move (v := .bool (x32 == x33)) rfl ?_
    rcases iteE hf with ⟨hc34, hf⟩ | ⟨hc34, hf⟩
    {
    obtain ⟨x35, hxx35, hf⟩ := bindE hf
    refine WL.call (vs := []) hs FN10 trivial (fun ok hA => eslaw38_awake.calls hxx35) ?_ (hg := (wanted_of rfl rfl (bool_tr rfl hc34)).trans rfl)
    rintro _ w hs
    refine WL.pickT (v := .bool x35) (bool_tr rfl hc34) rfl ?_
    refine WL.assign (v := .bool x35) rfl ?_
    refine WL.nil ?_
    exact Jk26 x35 _ _ rfl ((hs.mask []).pick []) hf }
    {
    refine WL.pass ((wanted_of rfl rfl (bool_tr rfl hc34)).trans rfl) rfl ?_
    refine WL.pickF (v := .bool false) (bool_tr rfl hc34) rfl ?_
    refine WL.assign (v := .bool false) rfl ?_
    refine WL.nil ?_
    exact Jk26 false _ _ rfl ((hs.mask []).pick []) hf } }
    {
    refine WL.pass ((wanted_of rfl rfl (bool_tr rfl hc31)).trans rfl) rfl ?_
    refine WL.pass ((wanted_of rfl rfl (bool_tr rfl hc31)).trans rfl) rfl ?_
    refine WL.pass ((wanted_of rfl rfl (bool_tr rfl hc31)).trans rfl) rfl ?_
    refine WL.pass ((wanted_of rfl rfl (bool_tr rfl hc31)).trans rfl) rfl ?_
    refine WL.pass ((wanted_of rfl rfl (bool_tr rfl hc31)).trans rfl) rfl ?_
    refine WL.pass ((wanted_of rfl rfl (bool_tr rfl hc31)).trans rfl) rfl ?_
    refine WL.pass ((wanted_of rfl rfl (bool_tr rfl hc31)).trans rfl) rfl ?_
    refine WL.pickF (v := .bool false) (bool_tr rfl hc31) rfl ?_
    refine WL.move (v := .bool false) rfl ?_
    refine WL.pass ((wanted_of rfl rfl rfl).trans rfl) rfl ?_
    refine WL.pickF (v := .bool false) rfl rfl ?_
    refine WL.assign (v := .bool false) rfl ?_
    refine WL.nil ?_
    exact Jk26 false _ _ rfl ((hs.mask []).pick []) hf } }
    {
    refine WL.pass ((wanted_of rfl rfl (bool_tr rfl hc29)).trans rfl) rfl ?_
    refine WL.pass ((wanted_of rfl rfl (bool_tr rfl hc29)).trans rfl) rfl ?_
    refine WL.pass ((wanted_of rfl rfl (bool_tr rfl hc29)).trans rfl) rfl ?_
    refine WL.pickF (v := .bool false) (bool_tr rfl hc29) rfl ?_
    refine WL.move (v := .bool false) rfl ?_
    refine WL.pass ((wanted_of rfl rfl rfl).trans rfl) rfl ?_
    refine WL.pass ((wanted_of rfl rfl rfl).trans rfl) rfl ?_
    refine WL.pass ((wanted_of rfl rfl rfl).trans rfl) rfl ?_
    refine WL.pass ((wanted_of rfl rfl rfl).trans rfl) rfl ?_
    refine WL.pass ((wanted_of rfl rfl rfl).trans rfl) rfl ?_
    refine WL.pass ((wanted_of rfl rfl rfl).trans rfl) rfl ?_
    refine WL.pass ((wanted_of rfl rfl rfl).trans rfl) rfl ?_
    refine WL.pickF (v := .bool false) rfl rfl ?_
    refine WL.move (v := .bool false) rfl ?_
    refine WL.pass ((wanted_of rfl rfl rfl).trans rfl) rfl ?_
    refine WL.pickF (v := .bool false) rfl rfl ?_
    refine WL.assign (v := .bool false) rfl ?_
    refine WL.nil ?_
    exact Jk26 false _ _ rfl ((hs.mask []).pick []) hf } }
  refine W.region ?_
  refine WL.move (v := .slice a2 x1.length c3) rfl ?_
  refine WL.len (v := .slice a2 x1.length c3) rfl (len_slice UN31) ?_
  refine WL.bin (v := .bool (decide (20 < (x1.length : Int)))) rfl rfl (ib_gtr _ _ _) ?_
  refine WL.move (v := .bool (decide (20 < (x1.length : Int)))) rfl ?_
  rcases iteE hf with ⟨hc36, hf⟩ | ⟨hc36, hf⟩
  {
  refine WL.pass ((wanted_of rfl rfl (bool_tr rfl hc36)).trans rfl) rfl ?_
  refine WL.pass ((wanted_of rfl rfl (bool_tr rfl hc36)).trans rfl) rfl ?_
  refine WL.pass ((wanted_of rfl rfl (bool_tr rfl hc36)).trans rfl) rfl ?_
  refine WL.pickT (v := .bool true) (bool_tr rfl hc36) rfl ?_
  refine WL.nil ?_
  exact Jk12 true _ _ rfl rfl rfl ((hs.mask []).pick [0, 1]) hf }
  {
  refine WL.move (v := .slice a5 x4.length c6) rfl ?_ (hg := (wanted_of rfl rfl (bool_tr rfl hc36)).trans rfl)
  refine WL.len (v := .slice a5 x4.length c6) rfl (len_slice UN31) ?_ (hg := (wanted_of rfl rfl (bool_tr rfl hc36)).trans rfl)
  refine WL.bin (v := .bool (decide (20 < (x4.length : Int)))) rfl rfl (ib_gtr _ _ _) ?_ (hg := (wanted_of rfl rfl (bool_tr rfl hc36)).trans rfl)
  refine WL.pickF (v := .bool (decide (20 < (x4.length : Int)))) (bool_tr rfl hc36) rfl ?_
  refine WL.nil ?_
  exact Jk12 (decide (20 < (x4.length : Int))) _ _ rfl rfl rfl ((hs.mask []).pick [0, 1]) hf }
end Go.Proofs.Ytbbeobiampbddaa
