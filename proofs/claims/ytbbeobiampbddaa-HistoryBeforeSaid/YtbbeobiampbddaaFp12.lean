import Derived.Test.YtbbeobiampbddaaFh
import Derived.Test.YtbbeobiampbddaaLz
import Derived.Test.YtbbeobiampbddaaFp2
import Derived.Test.YtbbeobiampbddaaFp3
import Derived.Test.YtbbeobiampbddaaFp4
import Derived.Test.YtbbeobiampbddaaFp11
set_option linter.unusedVariables false
set_option linter.unusedSimpArgs false
namespace Go.Proofs.Ytbbeobiampbddaa
open Go Go.RowKit Go.Proofs.YtbbeobiampbddaaL
set_option maxRecDepth 100000
set_option maxHeartbeats 4000000
/-! elasticstore/elasticstorelaw38.HistoryBefore: function 6 -/
theorem eslaw38_HistoryBefore.calls {ok : Nat → Prop} {w0 : World} {x1 : List Int} {x4 : Int} {x5 : Int} {a2 : Option Addr} {c3 : Nat} {r : Bool} (hf : eslaw38_HistoryBefore x1 x4 x5 = some r) (i0 : (vl (tSlice (tInt .i64)) x1 (.slice a2 x1.length c3)).holds ok w0) :
    Calls Try.prog 6 #[.slice a2 x1.length c3, .int .i64 x4, .int .i64 x5] w0 fun e w' => ∃ v, e = .returned v ∧ ∃ y : Unit, v = .bool r ∧ St ok (bz w0) w' [] [] := by
  unfold eslaw38_HistoryBefore at hf
  refine calls_of_W (fn := Try.f6) (N := 85) Try.func6 rfl Try.ntmps6 rfl ?_
  have hs : St ok (bz w0) w0 [vl (tSlice (tInt .i64)) x1 (.slice a2 x1.length c3)] [] := St.init (All.cons i0 All.nil)
  clear i0
  refine W.seqK fun K6 hK6 => ?_
  refine W.region ?_
  refine WL.assign (v := .bool false) rfl ?_
  refine WL.nil ?_
  refine hK6 _ _ ?_
  refine W.seqK fun K7 hK7 => ?_
  refine W.region ?_
  refine WL.move (v := .slice a2 x1.length c3) rfl ?_
  obtain ⟨x8, hxx8, hf⟩ := bindE hf
  refine WL.call (vs := [.slice a2 x1.length c3]) hs FN13 ⟨rfl, trivial⟩ (fun ok hA => eslaw38_Times.calls (x1 := x1) hxx8 (hA.get 0 rfl)) ?_
  rintro ⟨a9, n10, c11⟩ w hs
  refine WL.alloc hs ZV24 (fun g12 w hs => ?_)
  refine WL.storeAll (vs := [.slice a9 n10 c11]) hs 0 rfl TI24 rfl rfl rfl rfl (ones_of rfl) rfl (fun w hs => ?_)
  refine WL.nil ?_
  refine hK7 _ _ ?_
  refine W.seqK fun K13 hK13 => ?_
  refine W.region ?_
  refine WL.move (v := .int .i64 x4) rfl ?_
  obtain ⟨x14, hxx14, hf⟩ := bindE hf
  refine WL.call (vs := [.int .i64 x4, .int .i64 45]) hs FN14 ⟨rfl, ⟨rfl, trivial⟩⟩ (fun ok hA => eslaw00_Index.calls (x1 := x4) (x2 := 45) hxx14) ?_
  rintro _ w hs
  obtain ⟨x15, ex15, hf⟩ := letE hf
  refine WL.bin (v := .int .i64 x15) rfl rfl (ib_as ex15 (ib_sub _ _ _)) ?_
  refine WL.assign (v := .int .i64 x15) rfl ?_
  refine WL.nil ?_
  refine hK13 _ _ ?_
  refine W.seqK fun K16 hK16 => ?_
  refine W.region ?_
  refine WL.loadN (vs := [.slice a9 n10 c11]) hs 0 rfl TI24 rfl rfl rfl ?_
  refine WL.move (v := .int .i64 x15) rfl ?_
  obtain rfl := hs.ownLen 1 rfl
  have hs := hs.freezeOwn 1 rfl
  have hs := hs.add (it := vl t_history_History (⟨x8.Operations⟩ : history_History) (.agg [.slice a9 (x8.Operations).length c11].toArray)) fun ok hA => V_agg ((R_one (hA.get 0 rfl))) rfl
  obtain ⟨x17, hxx17, hf⟩ := bindE hf
  refine WL.call (vs := [.agg ([.slice a9 (x8.Operations).length c11] : List Value).toArray, .int .i64 x15]) hs FN19 ⟨rfl, ⟨rfl, trivial⟩⟩ (fun ok hA => history_Before.calls (x1 := (⟨x8.Operations⟩ : history_History)) (x5 := x15) hxx17 (hA.get 0 rfl)) ?_
  rintro ⟨a18, n19, c20⟩ w hs
  refine WL.alloc hs ZV24 (fun g21 w hs => ?_)
  refine WL.storeAll (vs := [.slice a18 n19 c20]) hs 0 rfl TI24 rfl rfl rfl rfl (ones_of rfl) rfl (fun w hs => ?_)
  refine WL.nil ?_
  refine hK16 _ _ ?_
  refine W.seqK fun K22 hK22 => ?_
  refine W.region ?_
  refine WL.loadN (vs := [.slice a9 (x8.Operations).length c11]) hs 2 rfl TI24 rfl rfl rfl ?_
  refine WL.move (v := .int .i64 x15) rfl ?_
  have hs := hs.add (it := vl t_history_History (⟨x8.Operations⟩ : history_History) (.agg [.slice a9 (x8.Operations).length c11].toArray)) fun ok hA => V_agg ((R_one (hA.get 1 rfl))) rfl
  obtain ⟨x23, hxx23, hf⟩ := bindE hf
  refine WL.call (vs := [.agg ([.slice a9 (x8.Operations).length c11] : List Value).toArray, .int .i64 x15]) hs FN20 ⟨rfl, ⟨rfl, trivial⟩⟩ (fun ok hA => esref39_Before.calls (x1 := (⟨x8.Operations⟩ : history_History)) (x5 := x15) hxx23 (hA.get 0 rfl)) ?_
  rintro ⟨a24, n25, c26⟩ w hs
  refine WL.alloc hs ZV24 (fun g27 w hs => ?_)
  refine WL.storeAll (vs := [.slice a24 n25 c26]) hs 0 rfl TI24 rfl rfl rfl rfl (ones_of rfl) rfl (fun w hs => ?_)
  refine WL.nil ?_
  refine hK22 _ _ ?_
  refine W.seqK fun K28 hK28 => ?_
  refine W.seqK fun K29 hK29 => ?_
  have Jk32 : ∀ (x31 : Bool) (ρ : Env) (w : World), ρ 2 = .int .i64 x5 → ρ 8 = .int .i64 x15 → ρ 9 = .pointer (some ⟨g21, 0, none⟩) → ρ 10 = .pointer (some ⟨g27, 0, none⟩) → ρ 35 = .bool x31 → St ok (bz w0) w [] [blk g27 24 [.slice a24 n25 c26], own t_history_Operation 35 (.slice a24 n25 c26) x23.Operations, blk g21 24 [.slice a18 n19 c20], own t_history_Operation 35 (.slice a18 n19 c20) x17.Operations] → eslaw38_HistoryBefore.j3 x5 x15 x17 x23 x31 = some r → K29 ρ w := by
    intro x31 ρ w h30_2 h30_8 h30_9 h30_10 h30_35 hs hf
    refine hK29 _ _ ?_
    unfold eslaw38_HistoryBefore.j3 at hf
    rcases iteE hf with ⟨hc33, hf⟩ | ⟨hc33, hf⟩
    {
    refine W.cond_true (bool_tr h30_35 hc33) ?_
    refine W.seqK fun K34 hK34 => ?_
    refine W.region ?_
    refine WL.assign (v := .bool false) rfl ?_
    refine WL.nil ?_
    refine hK34 _ _ ?_
    refine W.ret ?_
    have hr := Option.some.inj hf; subst hr
    exact ⟨_, resOk_one rfl rfl, (), rfl, (hs.mask []).pick []⟩ }
    {
    refine W.cond_false (bool_tr h30_35 hc33) ?_
    refine W.skip ?_
    refine hK28 _ _ ?_
    refine W.seqK fun K35 hK35 => ?_
    obtain rfl := hs.ownLen 1 rfl
    have hs := hs.freezeOwn 1 rfl
    obtain rfl := hs.ownLen 2 rfl
    have hs := hs.freezeOwn 2 rfl
    obtain ⟨x38, hxx38, hf⟩ := bindE hf
    obtain ⟨x39, ex39, hf⟩ := letE hf
    obtain ⟨x40, hxx40, hf⟩ := bindE hf
    refine W.any (by kernel_rfl) 7 1 [true, true, true, true, true, true, true, false] rfl rfl (poAt [pv (.agg ([.slice a18 (x17.Operations).length c20] : List Value).toArray), pv (.int .i64 x15), pv (.int .i64 x5), pv (.int .i64 x38), pv (.int .i64 x39), pq (fun y : List Value => .agg y.toArray) (fun v => [vl t_history_History x40 v]) (fun v => []), pq (fun y : Nat => .pointer (some ⟨y, 0, none⟩)) (fun v => []) (fun v => [blk (gOf v) 24 [.slice none 0 0]])]) (Λ := [blk g27 24 [.slice a24 (x23.Operations).length c26], blk g21 24 [.slice a18 (x17.Operations).length c20]]) hs (by kernel_rfl) (by kernel_rfl) (by kernel_rfl) ⟨⟨⟨⟨⟨⟨⟨trivial, ?_⟩, ?_⟩, ?_⟩, ?_⟩, ?_⟩, ?_⟩, ?_⟩ ?_
    {
    intro ρ w Γx Λx hs hu hp
    refine WL.loadN (vs := [.slice a18 (x17.Operations).length c20]) hs (Λx.length + 1) (getApp rfl) TI24 ((hu 9 rfl).trans h30_9) rfl rfl ?_
    exact WL.nil ⟨rfl, _, rfl, rfl, hs.cutG 0 0⟩ }
    {
    intro ρ w Γx Λx hs hu hp
    refine WL.move (v := .int .i64 x15) ((hu 8 rfl).trans h30_8) ?_
    exact WL.nil ⟨rfl, _, rfl, rfl, hs.cutG 0 0⟩ }
    {
    intro ρ w Γx Λx hs hu hp
    refine WL.move (v := .int .i64 x5) ((hu 2 rfl).trans h30_2) ?_
    exact WL.nil ⟨rfl, _, rfl, rfl, hs.cutG 0 0⟩ }
    {
    intro ρ w Γx Λx hs hu hp
    have e44 : ρ 38 = .int .i64 x5 := (hp 2 rfl).1
    refine WL.call (vs := [.int .i64 x5, .int .i64 9]) hs FN14 ⟨e44, ⟨rfl, trivial⟩⟩ (fun ok hA => eslaw00_Index.calls (x1 := x5) (x2 := 9) hxx38) ?_
    rintro _ w hs
    exact WL.nil ⟨rfl, _, rfl, rfl, hs.cutG 0 0⟩ }
    {
    intro ρ w Γx Λx hs hu hp
    have e45 : ρ 37 = .int .i64 x15 := (hp 1 rfl).1
    have e46 : ρ 39 = .int .i64 x38 := (hp 3 rfl).1
    refine WL.bin (v := .int .i64 x39) e45 e46 (ib_as ex39 (ib_add _ _ _)) ?_
    exact WL.nil ⟨rfl, _, rfl, rfl, hs.cutG 0 0⟩ }
    {
    intro ρ w Γx Λx hs hu hp
    have e47 : ρ 36 = .agg ([.slice a18 (x17.Operations).length c20] : List Value).toArray := (hp 0 rfl).1
    have e48 : ρ 40 = .int .i64 x39 := (hp 4 rfl).1
    have hs := hs.add (it := vl t_history_History (⟨x17.Operations⟩ : history_History) (.agg [.slice a18 (x17.Operations).length c20].toArray)) fun ok hA => V_agg ((R_one (hA.get (Γx.length + 0) (getApp rfl)))) rfl
    refine WL.call (vs := [.agg ([.slice a18 (x17.Operations).length c20] : List Value).toArray, .int .i64 x39]) hs FN19 ⟨e47, ⟨e48, trivial⟩⟩ (fun ok hA => history_Before.callc (x1 := (⟨x17.Operations⟩ : history_History)) (x5 := x39) hxx40 (hA.get 0 rfl)) ?_
    rintro cs41 w hs
    have hl42 := hs.agglen (n := 1) 0 rfl rfl rfl
    have hs := hs.add (it := vl t_history_History x40 (.agg cs41.toArray)) fun ok hA => hA.get 0 rfl
    exact WL.nil ⟨rfl, _, rfl, ⟨cs41, rfl⟩, hs.cutG 1 2⟩ }
    {
    intro ρ w Γx Λx hs hu hp
    refine WL.alloc hs ZV24 (fun g43 w hs => ?_)
    exact WL.nil ⟨rfl, _, rfl, ⟨g43, rfl⟩, hs.cutG 0 0⟩ }
    {
    intro ρ w hs hu49 hp
    obtain ⟨⟨⟨⟨⟨⟨⟨_, hp0_⟩, hp1_⟩, hp2_⟩, hp3_⟩, hp4_⟩, hp5_⟩, hp6_⟩ := hp
    have hs : St ok (bz w0) w [vl t_history_History x40 (ρ 41), vl (tSlice t_history_Operation) x17.Operations (.slice a18 (x17.Operations).length c20), vl (tSlice t_history_Operation) x23.Operations (.slice a24 (x23.Operations).length c26)] [blk (gOf ((ρ 11))) 24 [.slice none 0 0], blk g27 24 [.slice a24 (x23.Operations).length c26], blk g21 24 [.slice a18 (x17.Operations).length c20]] := hs
    obtain ⟨g50, e51⟩ := hp6_
    have e51 : ρ 11 = .pointer (some ⟨g50, 0, none⟩) := e51
    try rw [e51] at hs
    obtain ⟨cs52, e54⟩ := hp5_
    have e54 : ρ 41 = .agg cs52.toArray := e54
    try rw [e54] at hs
    have e55 : ρ 40 = .int .i64 x39 := hp4_
    have e56 : ρ 39 = .int .i64 x38 := hp3_
    have e57 : ρ 38 = .int .i64 x5 := hp2_
    have e58 : ρ 37 = .int .i64 x15 := hp1_
    have e59 : ρ 36 = .agg ([.slice a18 (x17.Operations).length c20] : List Value).toArray := hp0_
    have hl53 := hs.agglen (n := 1) 0 rfl rfl rfl
    refine WA.step [7] (by kernel_rfl) (by simp) ⟨?_, trivial⟩
    refine WL.storeAll (vs := cs52) hs 0 rfl TI24 e51 e54 rfl hl53 (hs.ones 0 rfl rfl) rfl (fun w hs => ?_)
    refine WL.nil ⟨rfl, _, rfl, ?_⟩
    refine WA.done (by kernel_rfl) ?_
    refine hK35 _ _ ?_
    refine W.seqK fun K60 hK60 => ?_
    have Jk62 : ∀  (ρ : Env) (w : World), St ok (bz w0) w [] [] → eslaw38_HistoryBefore.j1 = some r → K60 ρ w := by
      intro  ρ w  hs hf
      refine hK60 _ _ ?_
      unfold eslaw38_HistoryBefore.j1 at hf
      refine W.seqK fun K63 hK63 => ?_
      refine W.region ?_
      obtain ⟨x64, hxx64, hf⟩ := bindE hf
      refine WL.call (vs := []) hs FN10 trivial (fun ok hA => eslaw38_awake.calls hxx64) ?_
      rintro _ w hs
      refine WL.assign (v := .bool x64) rfl ?_
      refine WL.nil ?_
      refine hK63 _ _ ?_
      refine W.ret ?_
      have hr := Option.some.inj hf; subst hr
      exact ⟨_, resOk_one rfl rfl, (), rfl, (hs.mask []).pick []⟩
    refine W.seqK fun K65 hK65 => ?_
    refine W.region ?_
    refine WL.assign (v := .int .i64 0) rfl ?_
    refine WL.nil ?_
    refine hK65 _ _ ?_
    refine W.block ?_
    obtain ⟨bs68, hbs68, hfs68⟩ := bindE hf
    refine W.loop hbs68 (fun s ρ w => match s with | x67 => ρ 9 = .pointer (some ⟨g21, 0, none⟩) ∧ ρ 10 = .pointer (some ⟨g27, 0, none⟩) ∧ ρ 11 = .pointer (some ⟨g50, 0, none⟩) ∧ ρ 12 = .int .i64 x67 ∧ St ok (bz w0) w [vl t_history_History x40 (.agg cs52.toArray), vl (tSlice t_history_Operation) x23.Operations (.slice a24 (x23.Operations).length c26), vl (tSlice t_history_Operation) x17.Operations (.slice a18 (x17.Operations).length c20)] [blk g50 24 cs52, blk g27 24 [.slice a24 (x23.Operations).length c26], blk g21 24 [.slice a18 (x17.Operations).length c20]]) ⟨((hu49 9 rfl).trans h30_9), ((hu49 10 rfl).trans h30_10), e51, rfl, (hs.mask [true, true, true]).pick [0, 2, 1]⟩ ?_
    intro x67 ρ w os68 hI hf hbbs68
    obtain ⟨h66_9, h66_10, h66_11, h66_12, hs⟩ := hI
    unfold eslaw38_HistoryBefore.l1 at hf
    refine W.seqK fun K69 hK69 => ?_
    refine W.seqK fun K70 hK70 => ?_
    refine W.region ?_
    refine WL.move (v := .int .i64 x67) h66_12 ?_
    refine WL.fieldAddr (m := 0) h66_9 FA24_0 rfl ?_
    refine WL.load1 (v := .slice a18 (x17.Operations).length c20) hs 2 rfl TI22 rfl rfl ?_
    refine WL.len (v := .slice a18 (x17.Operations).length c20) rfl (len_slice UN22) ?_
    refine WL.bin (v := .bool (decide (x67 < ((x17.Operations).length : Int)))) rfl rfl (ib_lss _ _ _) ?_
    refine WL.nil ?_
    refine hK70 _ _ ?_
    rcases iteE hf with ⟨hc71, hf⟩ | ⟨hc71, hf⟩
    {
    refine W.cond_true (bool_tr rfl hc71) ?_
    refine W.skip ?_
    refine hK69 _ _ ?_
    refine W.seqK fun K72 hK72 => ?_
    refine W.block ?_
    refine W.seqK fun K73 hK73 => ?_
    have Jk76 : ∀ (x75 : Bool) (ρ : Env) (w : World), ρ 9 = .pointer (some ⟨g21, 0, none⟩) → ρ 10 = .pointer (some ⟨g27, 0, none⟩) → ρ 11 = .pointer (some ⟨g50, 0, none⟩) → ρ 12 = .int .i64 x67 → ρ 83 = .bool x75 → St ok (bz w0) w [vl t_history_History x40 (.agg cs52.toArray), vl (tSlice t_history_Operation) x23.Operations (.slice a24 (x23.Operations).length c26), vl (tSlice t_history_Operation) x17.Operations (.slice a18 (x17.Operations).length c20)] [blk g50 24 cs52, blk g27 24 [.slice a24 (x23.Operations).length c26], blk g21 24 [.slice a18 (x17.Operations).length c20]] → eslaw38_HistoryBefore.j2 x67 x75 = some os68 → K73 ρ w := by
      intro x75 ρ w h74_9 h74_10 h74_11 h74_12 h74_83 hs hf
      refine hK73 _ _ ?_
      unfold eslaw38_HistoryBefore.j2 at hf
      rcases iteE hf with ⟨hc77, hf⟩ | ⟨hc77, hf⟩
      {
      refine W.cond_true (bool_tr h74_83 hc77) ?_
      refine W.seqK fun K78 hK78 => ?_
      refine W.region ?_
      refine WL.assign (v := .bool false) rfl ?_
      refine WL.nil ?_
      refine hK78 _ _ ?_
      refine W.ret ?_
      have hr := Option.some.inj hf; subst hr
      have hr := hbbs68 _ rfl; subst hr
      have hf := hfs68
      have hr := Option.some.inj hf; subst hr
      exact ⟨_, resOk_one rfl rfl, (), rfl, (hs.mask []).pick []⟩ }
      {
      refine W.cond_false (bool_tr h74_83 hc77) ?_
      refine W.skip ?_
      refine hK72 _ _ ?_
      refine W.region ?_
      refine WL.move (v := .int .i64 x67) h74_12 ?_
      obtain ⟨x79, ex79, hf⟩ := letE hf
      refine WL.bin (v := .int .i64 x79) rfl rfl (ib_as ex79 (ib_add _ _ _)) ?_
      refine WL.assign (v := .int .i64 x79) rfl ?_
      refine WL.nil ?_
      exact ⟨_, (Option.some.inj hf).symm, h74_9, h74_10, h74_11, rfl, (hs.mask [true, true, true]).pick [0, 1, 2]⟩ }
    obtain ⟨x80, hxx80, hf⟩ := bindE hf
    obtain ⟨x85, hxx85, hf⟩ := bindE hf
    obtain ⟨x90, hxx90, hf⟩ := bindE hf
    rcases iteE hf with ⟨hc91, hf⟩ | ⟨hc91, hf⟩
    {
    refine W.any (by kernel_rfl) 35 0 [true, true, true, true, true, true, true, true, true, true, true, true, true, true, true, true, true, true, true, true, true, true, true, true, true, true, true, true, true, true, true, true, true, true, true] rfl rfl (poAt [pv (.pointer (some ⟨g21, 0, none⟩)), pv (.slice a18 (x17.Operations).length c20), pv (.int .i64 x67), pq (fun y : Addr => .pointer (some y)) (fun v => [pl t_history_Operation x80 (adOf v)]) (fun v => []), pq (fun y : List Value => .agg y.toArray) (fun v => [vl t_history_Operation x80 v]) (fun v => []), pv (.pointer (some ⟨g27, 0, none⟩)), pv (.slice a24 (x23.Operations).length c26), pv (.int .i64 x67), pq (fun y : Addr => .pointer (some y)) (fun v => [pl t_history_Operation x85 (adOf v)]) (fun v => []), pq (fun y : List Value => .agg y.toArray) (fun v => [vl t_history_Operation x85 v]) (fun v => []), pv (.bool x90), pv (.bool (!x90)), pv (.bool (!x90)), pv (undef), pv (undef), pv (undef), pv (undef), pv (undef), pv (undef), pv (undef), pv (.bool true), pv (.bool true), pv (undef), pv (undef), pv (undef), pv (undef), pv (undef), pv (undef), pv (undef), pv (undef), pv (undef), pv (undef), pv (undef), pv (undef), pv (.bool true)]) (Λ := [blk g50 24 cs52, blk g27 24 [.slice a24 (x23.Operations).length c26], blk g21 24 [.slice a18 (x17.Operations).length c20]]) hs (by kernel_rfl) (by kernel_rfl) (by kernel_rfl) ⟨⟨⟨⟨⟨⟨⟨⟨⟨⟨⟨⟨⟨⟨⟨⟨⟨⟨⟨⟨⟨⟨⟨⟨⟨⟨⟨⟨⟨⟨⟨⟨⟨⟨⟨trivial, ?_⟩, ?_⟩, ?_⟩, ?_⟩, ?_⟩, ?_⟩, ?_⟩, ?_⟩, ?_⟩, ?_⟩, ?_⟩, ?_⟩, ?_⟩, ?_⟩, ?_⟩, ?_⟩, ?_⟩, ?_⟩, ?_⟩, ?_⟩, ?_⟩, ?_⟩, ?_⟩, ?_⟩, ?_⟩, ?_⟩, ?_⟩, ?_⟩, ?_⟩, ?_⟩, ?_⟩, ?_⟩, ?_⟩, ?_⟩, ?_⟩ ?_
    {
    intro ρ w Γx Λx hs hu hp
    refine WL.fieldAddr (m := 0) ((hu 9 rfl).trans h66_9) FA24_0 rfl ?_
    exact WL.nil ⟨rfl, _, rfl, rfl, hs.cutG 0 0⟩ }
    {
    intro ρ w Γx Λx hs hu hp
    have e92 : ρ 49 = .pointer (some ⟨g21, 0, none⟩) := (hp 0 rfl).1
    refine WL.load1 (v := .slice a18 (x17.Operations).length c20) hs (Λx.length + 2) (getApp rfl) TI22 e92 rfl ?_
    exact WL.nil ⟨rfl, _, rfl, rfl, hs.cutG 0 0⟩ }
    {
    intro ρ w Γx Λx hs hu hp
    refine WL.move (v := .int .i64 x67) ((hu 12 rfl).trans h66_12) ?_
    exact WL.nil ⟨rfl, _, rfl, rfl, hs.cutG 0 0⟩ }
    {
    intro ρ w Γx Λx hs hu hp
    have e93 : ρ 50 = .slice a18 (x17.Operations).length c20 := (hp 1 rfl).1
    have e94 : ρ 51 = .int .i64 x67 := (hp 2 rfl).1
    refine WL.indexAddr hs (Γx.length + 2) (getApp rfl) UN22 TI35 e93 e94 hxx80 (fun ad81 hs => ?_)
    have hs := hs.add (it := pl t_history_Operation x80 ad81) fun ok hA => hA.get 0 rfl
    exact WL.nil ⟨rfl, _, rfl, ⟨ad81, rfl⟩, hs.cutG 1 1⟩ }
    {
    intro ρ w Γx Λx hs hu hp
    obtain ⟨⟨ad95, e96r⟩, hm97⟩ := hp 3 rfl
    have e96 : ρ 52 = .pointer (some ad95) := e96r
    rw [e96r] at hm97
    have hs := hs.memo1 (it := pl t_history_Operation x80 ad95) (List.mem_append.2 (.inl (hm97 _ (List.mem_of_getElem? (i := 0) rfl))))
    refine WL.loadP hs 0 rfl TI35 (.inl rfl) e96 (fun v82 hs => ?_)
    obtain ⟨cs83, hl84, rfl⟩ := hs.aggv (n := 6) 0 rfl rfl rfl
    have hs := hs.add (it := vl t_history_Operation x80 (.agg cs83.toArray)) fun ok hA => hA.get 0 rfl
    exact WL.nil ⟨rfl, _, rfl, ⟨cs83, rfl⟩, hs.cutG 1 2⟩ }
    {
    intro ρ w Γx Λx hs hu hp
    refine WL.fieldAddr (m := 0) ((hu 10 rfl).trans h66_10) FA24_0 rfl ?_
    exact WL.nil ⟨rfl, _, rfl, rfl, hs.cutG 0 0⟩ }
    {
    intro ρ w Γx Λx hs hu hp
    have e98 : ρ 54 = .pointer (some ⟨g27, 0, none⟩) := (hp 5 rfl).1
    refine WL.load1 (v := .slice a24 (x23.Operations).length c26) hs (Λx.length + 1) (getApp rfl) TI22 e98 rfl ?_
    exact WL.nil ⟨rfl, _, rfl, rfl, hs.cutG 0 0⟩ }
    {
    intro ρ w Γx Λx hs hu hp
    refine WL.move (v := .int .i64 x67) ((hu 12 rfl).trans h66_12) ?_
    exact WL.nil ⟨rfl, _, rfl, rfl, hs.cutG 0 0⟩ }
    {
    intro ρ w Γx Λx hs hu hp
    have e99 : ρ 55 = .slice a24 (x23.Operations).length c26 := (hp 6 rfl).1
    have e100 : ρ 56 = .int .i64 x67 := (hp 7 rfl).1
    refine WL.indexAddr hs (Γx.length + 1) (getApp rfl) UN22 TI35 e99 e100 hxx85 (fun ad86 hs => ?_)
    have hs := hs.add (it := pl t_history_Operation x85 ad86) fun ok hA => hA.get 0 rfl
    exact WL.nil ⟨rfl, _, rfl, ⟨ad86, rfl⟩, hs.cutG 1 1⟩ }
    {
    intro ρ w Γx Λx hs hu hp
    obtain ⟨⟨ad101, e102r⟩, hm103⟩ := hp 8 rfl
    have e102 : ρ 57 = .pointer (some ad101) := e102r
    rw [e102r] at hm103
    have hs := hs.memo1 (it := pl t_history_Operation x85 ad101) (List.mem_append.2 (.inl (hm103 _ (List.mem_of_getElem? (i := 0) rfl))))
    refine WL.loadP hs 0 rfl TI35 (.inl rfl) e102 (fun v87 hs => ?_)
    obtain ⟨cs88, hl89, rfl⟩ := hs.aggv (n := 6) 0 rfl rfl rfl
    have hs := hs.add (it := vl t_history_Operation x85 (.agg cs88.toArray)) fun ok hA => hA.get 0 rfl
    exact WL.nil ⟨rfl, _, rfl, ⟨cs88, rfl⟩, hs.cutG 1 2⟩ }
    {
    intro ρ w Γx Λx hs hu hp
    obtain ⟨⟨cs104, e106r⟩, hm107⟩ := hp 4 rfl
    have e106 : ρ 53 = .agg cs104.toArray := e106r
    rw [e106r] at hm107
    have hs := hs.memo1 (it := vl t_history_Operation x80 (.agg cs104.toArray)) (List.mem_append.2 (.inl (hm107 _ (List.mem_of_getElem? (i := 0) rfl))))
    have hl105 := hs.agglen (n := 6) 0 rfl rfl rfl
    obtain ⟨⟨cs108, e110r⟩, hm111⟩ := hp 9 rfl
    have e110 : ρ 58 = .agg cs108.toArray := e110r
    rw [e110r] at hm111
    have hs := hs.memo1 (it := vl t_history_Operation x85 (.agg cs108.toArray)) (List.mem_cons_of_mem _ (List.mem_append.2 (.inl (hm111 _ (List.mem_of_getElem? (i := 0) rfl)))))
    have hl109 := hs.agglen (n := 6) 0 rfl rfl rfl
    refine WL.call (vs := [.agg cs104.toArray, .agg cs108.toArray]) hs FN21 ⟨e106, ⟨e110, trivial⟩⟩ (fun ok hA => esref39_EqualOperation.calls (x1 := x80) (x5 := x85) hxx90 (hA.get 1 rfl) (hA.get 0 rfl)) ?_
    rintro _ w hs
    exact WL.nil ⟨rfl, _, rfl, rfl, hs.cutG 0 2⟩ }
    {
    intro ρ w Γx Λx hs hu hp
    have e112 : ρ 59 = .bool x90 := (hp 10 rfl).1
    refine WL.not e112 ?_
    exact WL.nil ⟨rfl, _, rfl, rfl, hs.cutG 0 0⟩ }
    {
    intro ρ w Γx Λx hs hu hp
    have e113 : ρ 60 = .bool (!x90) := (hp 11 rfl).1
    refine WL.move (v := .bool (!x90)) e113 ?_
    exact WL.nil ⟨rfl, _, rfl, rfl, hs.cutG 0 0⟩ }
    {
    intro ρ w Γx Λx hs hu hp
    have e114 : ρ 61 = .bool (!x90) := (hp 12 rfl).1
    refine WL.pass ((wanted_of rfl rfl (bool_tr e114 hc91)).trans rfl) rfl ?_
    exact WL.nil ⟨rfl, _, rfl, rfl, hs.cutG 0 0⟩ }
    {
    intro ρ w Γx Λx hs hu hp
    have e115 : ρ 62 = undef := (hp 13 rfl).1
    have e116 : ρ 61 = .bool (!x90) := (hp 12 rfl).1
    refine WL.pass ((wanted_of rfl rfl (bool_tr e116 hc91)).trans rfl) rfl ?_
    exact WL.nil ⟨rfl, _, rfl, rfl, hs.cutG 0 0⟩ }
    {
    intro ρ w Γx Λx hs hu hp
    have e117 : ρ 63 = undef := (hp 14 rfl).1
    have e118 : ρ 61 = .bool (!x90) := (hp 12 rfl).1
    refine WL.pass ((wanted_of rfl rfl (bool_tr e118 hc91)).trans rfl) rfl ?_
    exact WL.nil ⟨rfl, _, rfl, rfl, hs.cutG 0 0⟩ }
    {
    intro ρ w Γx Λx hs hu hp
    have e119 : ρ 61 = .bool (!x90) := (hp 12 rfl).1
    refine WL.pass ((wanted_of rfl rfl (bool_tr e119 hc91)).trans rfl) rfl ?_
    exact WL.nil ⟨rfl, _, rfl, rfl, hs.cutG 0 0⟩ }
    {
    intro ρ w Γx Λx hs hu hp
    have e120 : ρ 65 = undef := (hp 16 rfl).1
    have e121 : ρ 61 = .bool (!x90) := (hp 12 rfl).1
    refine WL.pass ((wanted_of rfl rfl (bool_tr e121 hc91)).trans rfl) rfl ?_
    exact WL.nil ⟨rfl, _, rfl, rfl, hs.cutG 0 0⟩ }
    {
    intro ρ w Γx Λx hs hu hp
    have e122 : ρ 66 = undef := (hp 17 rfl).1
    have e123 : ρ 61 = .bool (!x90) := (hp 12 rfl).1
    refine WL.pass ((wanted_of rfl rfl (bool_tr e123 hc91)).trans rfl) rfl ?_
    exact WL.nil ⟨rfl, _, rfl, rfl, hs.cutG 0 0⟩ }
    {
    intro ρ w Γx Λx hs hu hp
    have e124 : ρ 64 = undef := (hp 15 rfl).1
    have e125 : ρ 67 = undef := (hp 18 rfl).1
    have e126 : ρ 61 = .bool (!x90) := (hp 12 rfl).1
    refine WL.pass ((wanted_of rfl rfl (bool_tr e126 hc91)).trans rfl) rfl ?_
    exact WL.nil ⟨rfl, _, rfl, rfl, hs.cutG 0 0⟩ }
    {
    intro ρ w Γx Λx hs hu hp
    have e127 : ρ 61 = .bool (!x90) := (hp 12 rfl).1
    have e128 : ρ 68 = undef := (hp 19 rfl).1
    refine WL.pickT (v := .bool true) (bool_tr e127 hc91) rfl ?_
    exact WL.nil ⟨rfl, _, rfl, rfl, hs.cutG 0 0⟩ }
    {
    intro ρ w Γx Λx hs hu hp
    have e129 : ρ 69 = .bool true := (hp 20 rfl).1
    refine WL.move (v := .bool true) e129 ?_
    exact WL.nil ⟨rfl, _, rfl, rfl, hs.cutG 0 0⟩ }
    {
    intro ρ w Γx Λx hs hu hp
    have e130 : ρ 70 = .bool true := (hp 21 rfl).1
    refine WL.pass ((wanted_of rfl rfl e130).trans rfl) rfl ?_
    exact WL.nil ⟨rfl, _, rfl, rfl, hs.cutG 0 0⟩ }
    {
    intro ρ w Γx Λx hs hu hp
    have e131 : ρ 71 = undef := (hp 22 rfl).1
    have e132 : ρ 70 = .bool true := (hp 21 rfl).1
    refine WL.pass ((wanted_of rfl rfl e132).trans rfl) rfl ?_
    exact WL.nil ⟨rfl, _, rfl, rfl, hs.cutG 0 0⟩ }
    {
    intro ρ w Γx Λx hs hu hp
    have e133 : ρ 70 = .bool true := (hp 21 rfl).1
    refine WL.pass ((wanted_of rfl rfl e133).trans rfl) rfl ?_
    exact WL.nil ⟨rfl, _, rfl, rfl, hs.cutG 0 0⟩ }
    {
    intro ρ w Γx Λx hs hu hp
    have e134 : ρ 72 = undef := (hp 23 rfl).1
    have e135 : ρ 73 = undef := (hp 24 rfl).1
    have e136 : ρ 70 = .bool true := (hp 21 rfl).1
    refine WL.pass ((wanted_of rfl rfl e136).trans rfl) rfl ?_
    exact WL.nil ⟨rfl, _, rfl, rfl, hs.cutG 0 0⟩ }
    {
    intro ρ w Γx Λx hs hu hp
    have e137 : ρ 74 = undef := (hp 25 rfl).1
    have e138 : ρ 70 = .bool true := (hp 21 rfl).1
    refine WL.pass ((wanted_of rfl rfl e138).trans rfl) rfl ?_
    exact WL.nil ⟨rfl, _, rfl, rfl, hs.cutG 0 0⟩ }
    {
    intro ρ w Γx Λx hs hu hp
    have e139 : ρ 70 = .bool true := (hp 21 rfl).1
    refine WL.pass ((wanted_of rfl rfl e139).trans rfl) rfl ?_
    exact WL.nil ⟨rfl, _, rfl, rfl, hs.cutG 0 0⟩ }
    {
    intro ρ w Γx Λx hs hu hp
    have e140 : ρ 76 = undef := (hp 27 rfl).1
    have e141 : ρ 70 = .bool true := (hp 21 rfl).1
    refine WL.pass ((wanted_of rfl rfl e141).trans rfl) rfl ?_
    exact WL.nil ⟨rfl, _, rfl, rfl, hs.cutG 0 0⟩ }
    {
    intro ρ w Γx Λx hs hu hp
    have e142 : ρ 70 = .bool true := (hp 21 rfl).1
    refine WL.pass ((wanted_of rfl rfl e142).trans rfl) rfl ?_
    exact WL.nil ⟨rfl, _, rfl, rfl, hs.cutG 0 0⟩ }
    {
    intro ρ w Γx Λx hs hu hp
    have e143 : ρ 77 = undef := (hp 28 rfl).1
    have e144 : ρ 78 = undef := (hp 29 rfl).1
    have e145 : ρ 70 = .bool true := (hp 21 rfl).1
    refine WL.pass ((wanted_of rfl rfl e145).trans rfl) rfl ?_
    exact WL.nil ⟨rfl, _, rfl, rfl, hs.cutG 0 0⟩ }
    {
    intro ρ w Γx Λx hs hu hp
    have e146 : ρ 79 = undef := (hp 30 rfl).1
    have e147 : ρ 70 = .bool true := (hp 21 rfl).1
    refine WL.pass ((wanted_of rfl rfl e147).trans rfl) rfl ?_
    exact WL.nil ⟨rfl, _, rfl, rfl, hs.cutG 0 0⟩ }
    {
    intro ρ w Γx Λx hs hu hp
    have e148 : ρ 75 = undef := (hp 26 rfl).1
    have e149 : ρ 80 = undef := (hp 31 rfl).1
    have e150 : ρ 70 = .bool true := (hp 21 rfl).1
    refine WL.pass ((wanted_of rfl rfl e150).trans rfl) rfl ?_
    exact WL.nil ⟨rfl, _, rfl, rfl, hs.cutG 0 0⟩ }
    {
    intro ρ w Γx Λx hs hu hp
    have e151 : ρ 81 = undef := (hp 32 rfl).1
    have e152 : ρ 70 = .bool true := (hp 21 rfl).1
    refine WL.pass ((wanted_of rfl rfl e152).trans rfl) rfl ?_
    exact WL.nil ⟨rfl, _, rfl, rfl, hs.cutG 0 0⟩ }
    {
    intro ρ w Γx Λx hs hu hp
    have e153 : ρ 70 = .bool true := (hp 21 rfl).1
    have e154 : ρ 82 = undef := (hp 33 rfl).1
    refine WL.pickT (v := .bool true) e153 rfl ?_
    exact WL.nil ⟨rfl, _, rfl, rfl, hs.cutG 0 0⟩ }
    {
    intro ρ w hs hu155 hp
    obtain ⟨⟨⟨⟨⟨⟨⟨⟨⟨⟨⟨⟨⟨⟨⟨⟨⟨⟨⟨⟨⟨⟨⟨⟨⟨⟨⟨⟨⟨⟨⟨⟨⟨⟨⟨_, hp0_⟩, hp1_⟩, hp2_⟩, hp3_⟩, hp4_⟩, hp5_⟩, hp6_⟩, hp7_⟩, hp8_⟩, hp9_⟩, hp10_⟩, hp11_⟩, hp12_⟩, hp13_⟩, hp14_⟩, hp15_⟩, hp16_⟩, hp17_⟩, hp18_⟩, hp19_⟩, hp20_⟩, hp21_⟩, hp22_⟩, hp23_⟩, hp24_⟩, hp25_⟩, hp26_⟩, hp27_⟩, hp28_⟩, hp29_⟩, hp30_⟩, hp31_⟩, hp32_⟩, hp33_⟩, hp34_⟩ := hp
    have hs : St ok (bz w0) w [vl t_history_Operation x85 (ρ 58), pl t_history_Operation x85 (adOf (ρ 57)), vl t_history_Operation x80 (ρ 53), pl t_history_Operation x80 (adOf (ρ 52)), vl t_history_History x40 (.agg cs52.toArray), vl (tSlice t_history_Operation) x23.Operations (.slice a24 (x23.Operations).length c26), vl (tSlice t_history_Operation) x17.Operations (.slice a18 (x17.Operations).length c20)] [blk g50 24 cs52, blk g27 24 [.slice a24 (x23.Operations).length c26], blk g21 24 [.slice a18 (x17.Operations).length c20]] := hs
    have e156 : ρ 83 = .bool true := hp34_
    have e157 : ρ 82 = undef := hp33_
    have e158 : ρ 81 = undef := hp32_
    have e159 : ρ 80 = undef := hp31_
    have e160 : ρ 79 = undef := hp30_
    have e161 : ρ 78 = undef := hp29_
    have e162 : ρ 77 = undef := hp28_
    have e163 : ρ 76 = undef := hp27_
    have e164 : ρ 75 = undef := hp26_
    have e165 : ρ 74 = undef := hp25_
    have e166 : ρ 73 = undef := hp24_
    have e167 : ρ 72 = undef := hp23_
    have e168 : ρ 71 = undef := hp22_
    have e169 : ρ 70 = .bool true := hp21_
    have e170 : ρ 69 = .bool true := hp20_
    have e171 : ρ 68 = undef := hp19_
    have e172 : ρ 67 = undef := hp18_
    have e173 : ρ 66 = undef := hp17_
    have e174 : ρ 65 = undef := hp16_
    have e175 : ρ 64 = undef := hp15_
    have e176 : ρ 63 = undef := hp14_
    have e177 : ρ 62 = undef := hp13_
    have e178 : ρ 61 = .bool (!x90) := hp12_
    have e179 : ρ 60 = .bool (!x90) := hp11_
    have e180 : ρ 59 = .bool x90 := hp10_
    obtain ⟨cs181, e183⟩ := hp9_
    have e183 : ρ 58 = .agg cs181.toArray := e183
    try rw [e183] at hs
    obtain ⟨ad184, e185⟩ := hp8_
    have e185 : ρ 57 = .pointer (some ad184) := e185
    try rw [e185] at hs
    have e186 : ρ 56 = .int .i64 x67 := hp7_
    have e187 : ρ 55 = .slice a24 (x23.Operations).length c26 := hp6_
    have e188 : ρ 54 = .pointer (some ⟨g27, 0, none⟩) := hp5_
    obtain ⟨cs189, e191⟩ := hp4_
    have e191 : ρ 53 = .agg cs189.toArray := e191
    try rw [e191] at hs
    obtain ⟨ad192, e193⟩ := hp3_
    have e193 : ρ 52 = .pointer (some ad192) := e193
    try rw [e193] at hs
    have e194 : ρ 51 = .int .i64 x67 := hp2_
    have e195 : ρ 50 = .slice a18 (x17.Operations).length c20 := hp1_
    have e196 : ρ 49 = .pointer (some ⟨g21, 0, none⟩) := hp0_
    have hl190 := hs.agglen (n := 6) 2 rfl rfl rfl
    have hl182 := hs.agglen (n := 6) 0 rfl rfl rfl
    refine WA.done (by kernel_rfl) ?_
    exact Jk76 true _ _ ((hu155 9 rfl).trans h66_9) ((hu155 10 rfl).trans h66_10) ((hu155 11 rfl).trans h66_11) ((hu155 12 rfl).trans h66_12) e156 ((hs.mask [true, true, true]).pick [4, 5, 6]) hf } }
    {
    rcases iteE hf with ⟨hc200, hf⟩ | ⟨hc200, hf⟩
    {
    refine W.any (by kernel_rfl) 35 0 [true, true, true, true, true, true, true, true, true, true, true, true, true, true, true, true, true, true, true, true, true, true, true, true, true, true, true, true, true, true, true, true, true, true, true] rfl rfl (poAt [pv (.pointer (some ⟨g21, 0, none⟩)), pv (.slice a18 (x17.Operations).length c20), pv (.int .i64 x67), pq (fun y : Addr => .pointer (some y)) (fun v => [pl t_history_Operation x80 (adOf v)]) (fun v => []), pq (fun y : List Value => .agg y.toArray) (fun v => [vl t_history_Operation x80 v]) (fun v => []), pv (.pointer (some ⟨g27, 0, none⟩)), pv (.slice a24 (x23.Operations).length c26), pv (.int .i64 x67), pq (fun y : Addr => .pointer (some y)) (fun v => [pl t_history_Operation x85 (adOf v)]) (fun v => []), pq (fun y : List Value => .agg y.toArray) (fun v => [vl t_history_Operation x85 v]) (fun v => []), pv (.bool x90), pv (.bool (!x90)), pv (.bool (!x90)), pv (.pointer (some ⟨g50, 0, none⟩)), pq (fun y : (Option Addr × Nat) => .slice y.1 (x40.Operations).length y.2) (fun v => [vl (tSlice t_history_Operation) x40.Operations v]) (fun v => []), pv (.int .i64 ((x40.Operations).length : Int)), pv (.pointer (some ⟨g21, 0, none⟩)), pv (.slice a18 (x17.Operations).length c20), pv (.int .i64 ((x17.Operations).length : Int)), pv (.bool (((x40.Operations).length : Int) != ((x17.Operations).length : Int))), pv (.bool (((x40.Operations).length : Int) != ((x17.Operations).length : Int))), pv (.bool (((x40.Operations).length : Int) != ((x17.Operations).length : Int))), pv (undef), pv (undef), pv (undef), pv (undef), pv (undef), pv (undef), pv (undef), pv (undef), pv (undef), pv (undef), pv (undef), pv (undef), pv (.bool true)]) (Λ := [blk g50 24 cs52, blk g27 24 [.slice a24 (x23.Operations).length c26], blk g21 24 [.slice a18 (x17.Operations).length c20]]) hs (by kernel_rfl) (by kernel_rfl) (by kernel_rfl) ⟨⟨⟨⟨⟨⟨⟨⟨⟨⟨⟨⟨⟨⟨⟨⟨⟨⟨⟨⟨⟨⟨⟨⟨⟨⟨⟨⟨⟨⟨⟨⟨⟨⟨⟨trivial, ?_⟩, ?_⟩, ?_⟩, ?_⟩, ?_⟩, ?_⟩, ?_⟩, ?_⟩, ?_⟩, ?_⟩, ?_⟩, ?_⟩, ?_⟩, ?_⟩, ?_⟩, ?_⟩, ?_⟩, ?_⟩, ?_⟩, ?_⟩, ?_⟩, ?_⟩, ?_⟩, ?_⟩, ?_⟩, ?_⟩, ?_⟩, ?_⟩, ?_⟩, ?_⟩, ?_⟩, ?_⟩, ?_⟩, ?_⟩, ?_⟩ ?_
    {
    intro ρ w Γx Λx hs hu hp
    refine WL.fieldAddr (m := 0) ((hu 9 rfl).trans h66_9) FA24_0 rfl ?_
    exact WL.nil ⟨rfl, _, rfl, rfl, hs.cutG 0 0⟩ }
    {
    intro ρ w Γx Λx hs hu hp
    have e201 : ρ 49 = .pointer (some ⟨g21, 0, none⟩) := (hp 0 rfl).1
    refine WL.load1 (v := .slice a18 (x17.Operations).length c20) hs (Λx.length + 2) (getApp rfl) TI22 e201 rfl ?_
    exact WL.nil ⟨rfl, _, rfl, rfl, hs.cutG 0 0⟩ }
    {
    intro ρ w Γx Λx hs hu hp
    refine WL.move (v := .int .i64 x67) ((hu 12 rfl).trans h66_12) ?_
    exact WL.nil ⟨rfl, _, rfl, rfl, hs.cutG 0 0⟩ }
    {
    intro ρ w Γx Λx hs hu hp
    have e202 : ρ 50 = .slice a18 (x17.Operations).length c20 := (hp 1 rfl).1
    have e203 : ρ 51 = .int .i64 x67 := (hp 2 rfl).1
    refine WL.indexAddr hs (Γx.length + 2) (getApp rfl) UN22 TI35 e202 e203 hxx80 (fun ad81 hs => ?_)
    have hs := hs.add (it := pl t_history_Operation x80 ad81) fun ok hA => hA.get 0 rfl
    exact WL.nil ⟨rfl, _, rfl, ⟨ad81, rfl⟩, hs.cutG 1 1⟩ }
    {
    intro ρ w Γx Λx hs hu hp
    obtain ⟨⟨ad204, e205r⟩, hm206⟩ := hp 3 rfl
    have e205 : ρ 52 = .pointer (some ad204) := e205r
    rw [e205r] at hm206
    have hs := hs.memo1 (it := pl t_history_Operation x80 ad204) (List.mem_append.2 (.inl (hm206 _ (List.mem_of_getElem? (i := 0) rfl))))
    refine WL.loadP hs 0 rfl TI35 (.inl rfl) e205 (fun v82 hs => ?_)
    obtain ⟨cs83, hl84, rfl⟩ := hs.aggv (n := 6) 0 rfl rfl rfl
    have hs := hs.add (it := vl t_history_Operation x80 (.agg cs83.toArray)) fun ok hA => hA.get 0 rfl
    exact WL.nil ⟨rfl, _, rfl, ⟨cs83, rfl⟩, hs.cutG 1 2⟩ }
    {
    intro ρ w Γx Λx hs hu hp
    refine WL.fieldAddr (m := 0) ((hu 10 rfl).trans h66_10) FA24_0 rfl ?_
    exact WL.nil ⟨rfl, _, rfl, rfl, hs.cutG 0 0⟩ }
    {
    intro ρ w Γx Λx hs hu hp
    have e207 : ρ 54 = .pointer (some ⟨g27, 0, none⟩) := (hp 5 rfl).1
    refine WL.load1 (v := .slice a24 (x23.Operations).length c26) hs (Λx.length + 1) (getApp rfl) TI22 e207 rfl ?_
    exact WL.nil ⟨rfl, _, rfl, rfl, hs.cutG 0 0⟩ }
    {
    intro ρ w Γx Λx hs hu hp
    refine WL.move (v := .int .i64 x67) ((hu 12 rfl).trans h66_12) ?_
    exact WL.nil ⟨rfl, _, rfl, rfl, hs.cutG 0 0⟩ }
    {
    intro ρ w Γx Λx hs hu hp
    have e208 : ρ 55 = .slice a24 (x23.Operations).length c26 := (hp 6 rfl).1
    have e209 : ρ 56 = .int .i64 x67 := (hp 7 rfl).1
    refine WL.indexAddr hs (Γx.length + 1) (getApp rfl) UN22 TI35 e208 e209 hxx85 (fun ad86 hs => ?_)
    have hs := hs.add (it := pl t_history_Operation x85 ad86) fun ok hA => hA.get 0 rfl
    exact WL.nil ⟨rfl, _, rfl, ⟨ad86, rfl⟩, hs.cutG 1 1⟩ }
    {
    intro ρ w Γx Λx hs hu hp
    obtain ⟨⟨ad210, e211r⟩, hm212⟩ := hp 8 rfl
    have e211 : ρ 57 = .pointer (some ad210) := e211r
    rw [e211r] at hm212
    have hs := hs.memo1 (it := pl t_history_Operation x85 ad210) (List.mem_append.2 (.inl (hm212 _ (List.mem_of_getElem? (i := 0) rfl))))
    refine WL.loadP hs 0 rfl TI35 (.inl rfl) e211 (fun v87 hs => ?_)
    obtain ⟨cs88, hl89, rfl⟩ := hs.aggv (n := 6) 0 rfl rfl rfl
    have hs := hs.add (it := vl t_history_Operation x85 (.agg cs88.toArray)) fun ok hA => hA.get 0 rfl
    exact WL.nil ⟨rfl, _, rfl, ⟨cs88, rfl⟩, hs.cutG 1 2⟩ }
    {
    intro ρ w Γx Λx hs hu hp
    obtain ⟨⟨cs213, e215r⟩, hm216⟩ := hp 4 rfl
    have e215 : ρ 53 = .agg cs213.toArray := e215r
    rw [e215r] at hm216
    have hs := hs.memo1 (it := vl t_history_Operation x80 (.agg cs213.toArray)) (List.mem_append.2 (.inl (hm216 _ (List.mem_of_getElem? (i := 0) rfl))))
    have hl214 := hs.agglen (n := 6) 0 rfl rfl rfl
    obtain ⟨⟨cs217, e219r⟩, hm220⟩ := hp 9 rfl
    have e219 : ρ 58 = .agg cs217.toArray := e219r
    rw [e219r] at hm220
    have hs := hs.memo1 (it := vl t_history_Operation x85 (.agg cs217.toArray)) (List.mem_cons_of_mem _ (List.mem_append.2 (.inl (hm220 _ (List.mem_of_getElem? (i := 0) rfl)))))
    have hl218 := hs.agglen (n := 6) 0 rfl rfl rfl
    refine WL.call (vs := [.agg cs213.toArray, .agg cs217.toArray]) hs FN21 ⟨e215, ⟨e219, trivial⟩⟩ (fun ok hA => esref39_EqualOperation.calls (x1 := x80) (x5 := x85) hxx90 (hA.get 1 rfl) (hA.get 0 rfl)) ?_
    rintro _ w hs
    exact WL.nil ⟨rfl, _, rfl, rfl, hs.cutG 0 2⟩ }
    {
    intro ρ w Γx Λx hs hu hp
    have e221 : ρ 59 = .bool x90 := (hp 10 rfl).1
    refine WL.not e221 ?_
    exact WL.nil ⟨rfl, _, rfl, rfl, hs.cutG 0 0⟩ }
    {
    intro ρ w Γx Λx hs hu hp
    have e222 : ρ 60 = .bool (!x90) := (hp 11 rfl).1
    refine WL.move (v := .bool (!x90)) e222 ?_
    exact WL.nil ⟨rfl, _, rfl, rfl, hs.cutG 0 0⟩ }
    {
    intro ρ w Γx Λx hs hu hp
    have e223 : ρ 61 = .bool (!x90) := (hp 12 rfl).1
    refine WL.fieldAddr (m := 0) ((hu 11 rfl).trans h66_11) FA24_0 rfl ?_ (hg := (wanted_of rfl rfl (bool_tr e223 hc91)).trans rfl)
    exact WL.nil ⟨rfl, _, rfl, rfl, hs.cutG 0 0⟩ }
    {
    intro ρ w Γx Λx hs hu hp
    have e224 : ρ 62 = .pointer (some ⟨g50, 0, none⟩) := (hp 13 rfl).1
    have e225 : ρ 61 = .bool (!x90) := (hp 12 rfl).1
    refine WL.loadF (z := x40.Operations) F_history_History_Operations hs (Λx.length + 0) (getApp rfl) (Γx.length + 0) (getApp rfl) rfl TI22 (.inr rfl) e224 rfl (fun v197 hs => ?_) (hg := (wanted_of rfl rfl (bool_tr e225 hc91)).trans rfl)
    obtain ⟨a198, c199, rfl⟩ := hs.slice 0 rfl
    have hs := hs.add (it := vl (tSlice t_history_Operation) x40.Operations (.slice a198 (x40.Operations).length c199)) fun ok hA => hA.get 0 rfl
    exact WL.nil ⟨rfl, _, rfl, ⟨(a198, c199), rfl⟩, hs.cutG 1 1⟩ }
    {
    intro ρ w Γx Λx hs hu hp
    obtain ⟨⟨⟨a226, c227⟩, e228r⟩, hm229⟩ := hp 14 rfl
    have e228 : ρ 63 = .slice a226 (x40.Operations).length c227 := e228r
    rw [e228r] at hm229
    have hs := hs.memo1 (it := vl (tSlice t_history_Operation) x40.Operations (.slice a226 (x40.Operations).length c227)) (List.mem_append.2 (.inl (hm229 _ (List.mem_of_getElem? (i := 0) rfl))))
    have e230 : ρ 61 = .bool (!x90) := (hp 12 rfl).1
    refine WL.len (v := .slice a226 (x40.Operations).length c227) e228 (len_slice UN22) ?_ (hg := (wanted_of rfl rfl (bool_tr e230 hc91)).trans rfl)
    exact WL.nil ⟨rfl, _, rfl, rfl, hs.cutG 0 1⟩ }
    {
    intro ρ w Γx Λx hs hu hp
    have e231 : ρ 61 = .bool (!x90) := (hp 12 rfl).1
    refine WL.fieldAddr (m := 0) ((hu 9 rfl).trans h66_9) FA24_0 rfl ?_ (hg := (wanted_of rfl rfl (bool_tr e231 hc91)).trans rfl)
    exact WL.nil ⟨rfl, _, rfl, rfl, hs.cutG 0 0⟩ }
    {
    intro ρ w Γx Λx hs hu hp
    have e232 : ρ 65 = .pointer (some ⟨g21, 0, none⟩) := (hp 16 rfl).1
    have e233 : ρ 61 = .bool (!x90) := (hp 12 rfl).1
    refine WL.load1 (v := .slice a18 (x17.Operations).length c20) hs (Λx.length + 2) (getApp rfl) TI22 e232 rfl ?_ (hg := (wanted_of rfl rfl (bool_tr e233 hc91)).trans rfl)
    exact WL.nil ⟨rfl, _, rfl, rfl, hs.cutG 0 0⟩ }
    {
    intro ρ w Γx Λx hs hu hp
    have e234 : ρ 66 = .slice a18 (x17.Operations).length c20 := (hp 17 rfl).1
    have e235 : ρ 61 = .bool (!x90) := (hp 12 rfl).1
    refine WL.len (v := .slice a18 (x17.Operations).length c20) e234 (len_slice UN22) ?_ (hg := (wanted_of rfl rfl (bool_tr e235 hc91)).trans rfl)
    exact WL.nil ⟨rfl, _, rfl, rfl, hs.cutG 0 0⟩ }
    {
    intro ρ w Γx Λx hs hu hp
    have e236 : ρ 64 = .int .i64 ((x40.Operations).length : Int) := (hp 15 rfl).1
    have e237 : ρ 67 = .int .i64 ((x17.Operations).length : Int) := (hp 18 rfl).1
    have e238 : ρ 61 = .bool (!x90) := (hp 12 rfl).1
    refine WL.bin (v := .bool (((x40.Operations).length : Int) != ((x17.Operations).length : Int))) e236 e237 (ib_neq _ _ _) ?_ (hg := (wanted_of rfl rfl (bool_tr e238 hc91)).trans rfl)
    exact WL.nil ⟨rfl, _, rfl, rfl, hs.cutG 0 0⟩ }
    {
    intro ρ w Γx Λx hs hu hp
    have e239 : ρ 61 = .bool (!x90) := (hp 12 rfl).1
    have e240 : ρ 68 = .bool (((x40.Operations).length : Int) != ((x17.Operations).length : Int)) := (hp 19 rfl).1
    refine WL.pickF (v := .bool (((x40.Operations).length : Int) != ((x17.Operations).length : Int))) (bool_tr e239 hc91) e240 ?_
    exact WL.nil ⟨rfl, _, rfl, rfl, hs.cutG 0 0⟩ }
    {
    intro ρ w Γx Λx hs hu hp
    have e241 : ρ 69 = .bool (((x40.Operations).length : Int) != ((x17.Operations).length : Int)) := (hp 20 rfl).1
    refine WL.move (v := .bool (((x40.Operations).length : Int) != ((x17.Operations).length : Int))) e241 ?_
    exact WL.nil ⟨rfl, _, rfl, rfl, hs.cutG 0 0⟩ }
    {
    intro ρ w Γx Λx hs hu hp
    have e242 : ρ 70 = .bool (((x40.Operations).length : Int) != ((x17.Operations).length : Int)) := (hp 21 rfl).1
    refine WL.pass ((wanted_of rfl rfl (bool_tr e242 hc200)).trans rfl) rfl ?_
    exact WL.nil ⟨rfl, _, rfl, rfl, hs.cutG 0 0⟩ }
    {
    intro ρ w Γx Λx hs hu hp
    have e243 : ρ 71 = undef := (hp 22 rfl).1
    have e244 : ρ 70 = .bool (((x40.Operations).length : Int) != ((x17.Operations).length : Int)) := (hp 21 rfl).1
    refine WL.pass ((wanted_of rfl rfl (bool_tr e244 hc200)).trans rfl) rfl ?_
    exact WL.nil ⟨rfl, _, rfl, rfl, hs.cutG 0 0⟩ }
    {
    intro ρ w Γx Λx hs hu hp
    have e245 : ρ 70 = .bool (((x40.Operations).length : Int) != ((x17.Operations).length : Int)) := (hp 21 rfl).1
    refine WL.pass ((wanted_of rfl rfl (bool_tr e245 hc200)).trans rfl) rfl ?_
    exact WL.nil ⟨rfl, _, rfl, rfl, hs.cutG 0 0⟩ }
    {
    intro ρ w Γx Λx hs hu hp
    have e246 : ρ 72 = undef := (hp 23 rfl).1
    have e247 : ρ 73 = undef := (hp 24 rfl).1
    have e248 : ρ 70 = .bool (((x40.Operations).length : Int) != ((x17.Operations).length : Int)) := (hp 21 rfl).1
    refine WL.pass ((wanted_of rfl rfl (bool_tr e248 hc200)).trans rfl) rfl ?_
    exact WL.nil ⟨rfl, _, rfl, rfl, hs.cutG 0 0⟩ }
    {
    intro ρ w Γx Λx hs hu hp
    have e249 : ρ 74 = undef := (hp 25 rfl).1
    have e250 : ρ 70 = .bool (((x40.Operations).length : Int) != ((x17.Operations).length : Int)) := (hp 21 rfl).1
    refine WL.pass ((wanted_of rfl rfl (bool_tr e250 hc200)).trans rfl) rfl ?_
    exact WL.nil ⟨rfl, _, rfl, rfl, hs.cutG 0 0⟩ }
    {
    intro ρ w Γx Λx hs hu hp
    have e251 : ρ 70 = .bool (((x40.Operations).length : Int) != ((x17.Operations).length : Int)) := (hp 21 rfl).1
    refine WL.pass ((wanted_of rfl rfl (bool_tr e251 hc200)).trans rfl) rfl ?_
    exact WL.nil ⟨rfl, _, rfl, rfl, hs.cutG 0 0⟩ }
    {
    intro ρ w Γx Λx hs hu hp
    have e252 : ρ 76 = undef := (hp 27 rfl).1
    have e253 : ρ 70 = .bool (((x40.Operations).length : Int) != ((x17.Operations).length : Int)) := (hp 21 rfl).1
    refine WL.pass ((wanted_of rfl rfl (bool_tr e253 hc200)).trans rfl) rfl ?_
    exact WL.nil ⟨rfl, _, rfl, rfl, hs.cutG 0 0⟩ }
    {
    intro ρ w Γx Λx hs hu hp
    have e254 : ρ 70 = .bool (((x40.Operations).length : Int) != ((x17.Operations).length : Int)) := (hp 21 rfl).1
    refine WL.pass ((wanted_of rfl rfl (bool_tr e254 hc200)).trans rfl) rfl ?_
    exact WL.nil ⟨rfl, _, rfl, rfl, hs.cutG 0 0⟩ }
    {
    intro ρ w Γx Λx hs hu hp
    have e255 : ρ 77 = undef := (hp 28 rfl).1
    have e256 : ρ 78 = undef := (hp 29 rfl).1
    have e257 : ρ 70 = .bool (((x40.Operations).length : Int) != ((x17.Operations).length : Int)) := (hp 21 rfl).1
    refine WL.pass ((wanted_of rfl rfl (bool_tr e257 hc200)).trans rfl) rfl ?_
    exact WL.nil ⟨rfl, _, rfl, rfl, hs.cutG 0 0⟩ }
    {
    intro ρ w Γx Λx hs hu hp
    have e258 : ρ 79 = undef := (hp 30 rfl).1
    have e259 : ρ 70 = .bool (((x40.Operations).length : Int) != ((x17.Operations).length : Int)) := (hp 21 rfl).1
    refine WL.pass ((wanted_of rfl rfl (bool_tr e259 hc200)).trans rfl) rfl ?_
    exact WL.nil ⟨rfl, _, rfl, rfl, hs.cutG 0 0⟩ }
    {
    intro ρ w Γx Λx hs hu hp
    have e260 : ρ 75 = undef := (hp 26 rfl).1
    have e261 : ρ 80 = undef := (hp 31 rfl).1
    have e262 : ρ 70 = .bool (((x40.Operations).length : Int) != ((x17.Operations).length : Int)) := (hp 21 rfl).1
    refine WL.pass ((wanted_of rfl rfl (bool_tr e262 hc200)).trans rfl) rfl ?_
    exact WL.nil ⟨rfl, _, rfl, rfl, hs.cutG 0 0⟩ }
    {
    intro ρ w Γx Λx hs hu hp
    have e263 : ρ 81 = undef := (hp 32 rfl).1
    have e264 : ρ 70 = .bool (((x40.Operations).length : Int) != ((x17.Operations).length : Int)) := (hp 21 rfl).1
    refine WL.pass ((wanted_of rfl rfl (bool_tr e264 hc200)).trans rfl) rfl ?_
    exact WL.nil ⟨rfl, _, rfl, rfl, hs.cutG 0 0⟩ }
    {
    intro ρ w Γx Λx hs hu hp
    have e265 : ρ 70 = .bool (((x40.Operations).length : Int) != ((x17.Operations).length : Int)) := (hp 21 rfl).1
    have e266 : ρ 82 = undef := (hp 33 rfl).1
    refine WL.pickT (v := .bool true) (bool_tr e265 hc200) rfl ?_
    exact WL.nil ⟨rfl, _, rfl, rfl, hs.cutG 0 0⟩ }
    {
    intro ρ w hs hu267 hp
    obtain ⟨⟨⟨⟨⟨⟨⟨⟨⟨⟨⟨⟨⟨⟨⟨⟨⟨⟨⟨⟨⟨⟨⟨⟨⟨⟨⟨⟨⟨⟨⟨⟨⟨⟨⟨_, hp0_⟩, hp1_⟩, hp2_⟩, hp3_⟩, hp4_⟩, hp5_⟩, hp6_⟩, hp7_⟩, hp8_⟩, hp9_⟩, hp10_⟩, hp11_⟩, hp12_⟩, hp13_⟩, hp14_⟩, hp15_⟩, hp16_⟩, hp17_⟩, hp18_⟩, hp19_⟩, hp20_⟩, hp21_⟩, hp22_⟩, hp23_⟩, hp24_⟩, hp25_⟩, hp26_⟩, hp27_⟩, hp28_⟩, hp29_⟩, hp30_⟩, hp31_⟩, hp32_⟩, hp33_⟩, hp34_⟩ := hp
    have hs : St ok (bz w0) w [vl (tSlice t_history_Operation) x40.Operations (ρ 63), vl t_history_Operation x85 (ρ 58), pl t_history_Operation x85 (adOf (ρ 57)), vl t_history_Operation x80 (ρ 53), pl t_history_Operation x80 (adOf (ρ 52)), vl t_history_History x40 (.agg cs52.toArray), vl (tSlice t_history_Operation) x23.Operations (.slice a24 (x23.Operations).length c26), vl (tSlice t_history_Operation) x17.Operations (.slice a18 (x17.Operations).length c20)] [blk g50 24 cs52, blk g27 24 [.slice a24 (x23.Operations).length c26], blk g21 24 [.slice a18 (x17.Operations).length c20]] := hs
    have e268 : ρ 83 = .bool true := hp34_
    have e269 : ρ 82 = undef := hp33_
    have e270 : ρ 81 = undef := hp32_
    have e271 : ρ 80 = undef := hp31_
    have e272 : ρ 79 = undef := hp30_
    have e273 : ρ 78 = undef := hp29_
    have e274 : ρ 77 = undef := hp28_
    have e275 : ρ 76 = undef := hp27_
    have e276 : ρ 75 = undef := hp26_
    have e277 : ρ 74 = undef := hp25_
    have e278 : ρ 73 = undef := hp24_
    have e279 : ρ 72 = undef := hp23_
    have e280 : ρ 71 = undef := hp22_
    have e281 : ρ 70 = .bool (((x40.Operations).length : Int) != ((x17.Operations).length : Int)) := hp21_
    have e282 : ρ 69 = .bool (((x40.Operations).length : Int) != ((x17.Operations).length : Int)) := hp20_
    have e283 : ρ 68 = .bool (((x40.Operations).length : Int) != ((x17.Operations).length : Int)) := hp19_
    have e284 : ρ 67 = .int .i64 ((x17.Operations).length : Int) := hp18_
    have e285 : ρ 66 = .slice a18 (x17.Operations).length c20 := hp17_
    have e286 : ρ 65 = .pointer (some ⟨g21, 0, none⟩) := hp16_
    have e287 : ρ 64 = .int .i64 ((x40.Operations).length : Int) := hp15_
    obtain ⟨⟨a288, c289⟩, e290⟩ := hp14_
    have e290 : ρ 63 = .slice a288 (x40.Operations).length c289 := e290
    try rw [e290] at hs
    have e291 : ρ 62 = .pointer (some ⟨g50, 0, none⟩) := hp13_
    have e292 : ρ 61 = .bool (!x90) := hp12_
    have e293 : ρ 60 = .bool (!x90) := hp11_
    have e294 : ρ 59 = .bool x90 := hp10_
    obtain ⟨cs295, e297⟩ := hp9_
    have e297 : ρ 58 = .agg cs295.toArray := e297
    try rw [e297] at hs
    obtain ⟨ad298, e299⟩ := hp8_
    have e299 : ρ 57 = .pointer (some ad298) := e299
    try rw [e299] at hs
    have e300 : ρ 56 = .int .i64 x67 := hp7_
    have e301 : ρ 55 = .slice a24 (x23.Operations).length c26 := hp6_
    have e302 : ρ 54 = .pointer (some ⟨g27, 0, none⟩) := hp5_
    obtain ⟨cs303, e305⟩ := hp4_
    have e305 : ρ 53 = .agg cs303.toArray := e305
    try rw [e305] at hs
    obtain ⟨ad306, e307⟩ := hp3_
    have e307 : ρ 52 = .pointer (some ad306) := e307
    try rw [e307] at hs
    have e308 : ρ 51 = .int .i64 x67 := hp2_
    have e309 : ρ 50 = .slice a18 (x17.Operations).length c20 := hp1_
    have e310 : ρ 49 = .pointer (some ⟨g21, 0, none⟩) := hp0_
    have hl304 := hs.agglen (n := 6) 3 rfl rfl rfl
    have hl296 := hs.agglen (n := 6) 1 rfl rfl rfl
    refine WA.done (by kernel_rfl) ?_
    exact Jk76 true _ _ ((hu267 9 rfl).trans h66_9) ((hu267 10 rfl).trans h66_10) ((hu267 11 rfl).trans h66_11) ((hu267 12 rfl).trans h66_12) e268 ((hs.mask [true, true, true]).pick [5, 6, 7]) hf } }
    {
    obtain ⟨x314, hxx314, hf⟩ := bindE hf
    obtain ⟨x319, hxx319, hf⟩ := bindE hf
    obtain ⟨x324, hxx324, hf⟩ := bindE hf
    refine W.any (by kernel_rfl) 35 0 [true, true, true, true, true, true, true, true, true, true, true, true, true, true, true, true, true, true, true, true, true, true, true, true, true, true, true, true, true, true, true, true, true, true, true] rfl rfl (poAt [pv (.pointer (some ⟨g21, 0, none⟩)), pv (.slice a18 (x17.Operations).length c20), pv (.int .i64 x67), pq (fun y : Addr => .pointer (some y)) (fun v => [pl t_history_Operation x80 (adOf v)]) (fun v => []), pq (fun y : List Value => .agg y.toArray) (fun v => [vl t_history_Operation x80 v]) (fun v => []), pv (.pointer (some ⟨g27, 0, none⟩)), pv (.slice a24 (x23.Operations).length c26), pv (.int .i64 x67), pq (fun y : Addr => .pointer (some y)) (fun v => [pl t_history_Operation x85 (adOf v)]) (fun v => []), pq (fun y : List Value => .agg y.toArray) (fun v => [vl t_history_Operation x85 v]) (fun v => []), pv (.bool x90), pv (.bool (!x90)), pv (.bool (!x90)), pv (.pointer (some ⟨g50, 0, none⟩)), pq (fun y : (Option Addr × Nat) => .slice y.1 (x40.Operations).length y.2) (fun v => [vl (tSlice t_history_Operation) x40.Operations v]) (fun v => []), pv (.int .i64 ((x40.Operations).length : Int)), pv (.pointer (some ⟨g21, 0, none⟩)), pv (.slice a18 (x17.Operations).length c20), pv (.int .i64 ((x17.Operations).length : Int)), pv (.bool (((x40.Operations).length : Int) != ((x17.Operations).length : Int))), pv (.bool (((x40.Operations).length : Int) != ((x17.Operations).length : Int))), pv (.bool (((x40.Operations).length : Int) != ((x17.Operations).length : Int))), pv (.pointer (some ⟨g50, 0, none⟩)), pq (fun y : (Option Addr × Nat) => .slice y.1 (x40.Operations).length y.2) (fun v => [vl (tSlice t_history_Operation) x40.Operations v]) (fun v => []), pv (.int .i64 x67), pq (fun y : Addr => .pointer (some y)) (fun v => [pl t_history_Operation x314 (adOf v)]) (fun v => []), pq (fun y : List Value => .agg y.toArray) (fun v => [vl t_history_Operation x314 v]) (fun v => []), pv (.pointer (some ⟨g21, 0, none⟩)), pv (.slice a18 (x17.Operations).length c20), pv (.int .i64 x67), pq (fun y : Addr => .pointer (some y)) (fun v => [pl t_history_Operation x319 (adOf v)]) (fun v => []), pq (fun y : List Value => .agg y.toArray) (fun v => [vl t_history_Operation x319 v]) (fun v => []), pv (.bool x324), pv (.bool (!x324)), pv (.bool (!x324))]) (Λ := [blk g50 24 cs52, blk g27 24 [.slice a24 (x23.Operations).length c26], blk g21 24 [.slice a18 (x17.Operations).length c20]]) hs (by kernel_rfl) (by kernel_rfl) (by kernel_rfl) ⟨⟨⟨⟨⟨⟨⟨⟨⟨⟨⟨⟨⟨⟨⟨⟨⟨⟨⟨⟨⟨⟨⟨⟨⟨⟨⟨⟨⟨⟨⟨⟨⟨⟨⟨trivial, ?_⟩, ?_⟩, ?_⟩, ?_⟩, ?_⟩, ?_⟩, ?_⟩, ?_⟩, ?_⟩, ?_⟩, ?_⟩, ?_⟩, ?_⟩, ?_⟩, ?_⟩, ?_⟩, ?_⟩, ?_⟩, ?_⟩, ?_⟩, ?_⟩, ?_⟩, ?_⟩, ?_⟩, ?_⟩, ?_⟩, ?_⟩, ?_⟩, ?_⟩, ?_⟩, ?_⟩, ?_⟩, ?_⟩, ?_⟩, ?_⟩ ?_
    {
    intro ρ w Γx Λx hs hu hp
    refine WL.fieldAddr (m := 0) ((hu 9 rfl).trans h66_9) FA24_0 rfl ?_
    exact WL.nil ⟨rfl, _, rfl, rfl, hs.cutG 0 0⟩ }
    {
    intro ρ w Γx Λx hs hu hp
    have e325 : ρ 49 = .pointer (some ⟨g21, 0, none⟩) := (hp 0 rfl).1
    refine WL.load1 (v := .slice a18 (x17.Operations).length c20) hs (Λx.length + 2) (getApp rfl) TI22 e325 rfl ?_
    exact WL.nil ⟨rfl, _, rfl, rfl, hs.cutG 0 0⟩ }
    {
    intro ρ w Γx Λx hs hu hp
    refine WL.move (v := .int .i64 x67) ((hu 12 rfl).trans h66_12) ?_
    exact WL.nil ⟨rfl, _, rfl, rfl, hs.cutG 0 0⟩ }
    {
    intro ρ w Γx Λx hs hu hp
    have e326 : ρ 50 = .slice a18 (x17.Operations).length c20 := (hp 1 rfl).1
    have e327 : ρ 51 = .int .i64 x67 := (hp 2 rfl).1
    refine WL.indexAddr hs (Γx.length + 2) (getApp rfl) UN22 TI35 e326 e327 hxx80 (fun ad81 hs => ?_)
    have hs := hs.add (it := pl t_history_Operation x80 ad81) fun ok hA => hA.get 0 rfl
    exact WL.nil ⟨rfl, _, rfl, ⟨ad81, rfl⟩, hs.cutG 1 1⟩ }
    {
    intro ρ w Γx Λx hs hu hp
    obtain ⟨⟨ad328, e329r⟩, hm330⟩ := hp 3 rfl
    have e329 : ρ 52 = .pointer (some ad328) := e329r
    rw [e329r] at hm330
    have hs := hs.memo1 (it := pl t_history_Operation x80 ad328) (List.mem_append.2 (.inl (hm330 _ (List.mem_of_getElem? (i := 0) rfl))))
    refine WL.loadP hs 0 rfl TI35 (.inl rfl) e329 (fun v82 hs => ?_)
    obtain ⟨cs83, hl84, rfl⟩ := hs.aggv (n := 6) 0 rfl rfl rfl
    have hs := hs.add (it := vl t_history_Operation x80 (.agg cs83.toArray)) fun ok hA => hA.get 0 rfl
    exact WL.nil ⟨rfl, _, rfl, ⟨cs83, rfl⟩, hs.cutG 1 2⟩ }
    {
    intro ρ w Γx Λx hs hu hp
    refine WL.fieldAddr (m := 0) ((hu 10 rfl).trans h66_10) FA24_0 rfl ?_
    exact WL.nil ⟨rfl, _, rfl, rfl, hs.cutG 0 0⟩ }
    {
    intro ρ w Γx Λx hs hu hp
    have e331 : ρ 54 = .pointer (some ⟨g27, 0, none⟩) := (hp 5 rfl).1
    refine WL.load1 (v := .slice a24 (x23.Operations).length c26) hs (Λx.length + 1) (getApp rfl) TI22 e331 rfl ?_
    exact WL.nil ⟨rfl, _, rfl, rfl, hs.cutG 0 0⟩ }
    {
    intro ρ w Γx Λx hs hu hp
    refine WL.move (v := .int .i64 x67) ((hu 12 rfl).trans h66_12) ?_
    exact WL.nil ⟨rfl, _, rfl, rfl, hs.cutG 0 0⟩ }
    {
    intro ρ w Γx Λx hs hu hp
    have e332 : ρ 55 = .slice a24 (x23.Operations).length c26 := (hp 6 rfl).1
    have e333 : ρ 56 = .int .i64 x67 := (hp 7 rfl).1
    refine WL.indexAddr hs (Γx.length + 1) (getApp rfl) UN22 TI35 e332 e333 hxx85 (fun ad86 hs => ?_)
    have hs := hs.add (it := pl t_history_Operation x85 ad86) fun ok hA => hA.get 0 rfl
    exact WL.nil ⟨rfl, _, rfl, ⟨ad86, rfl⟩, hs.cutG 1 1⟩ }
    {
    intro ρ w Γx Λx hs hu hp
    obtain ⟨⟨ad334, e335r⟩, hm336⟩ := hp 8 rfl
    have e335 : ρ 57 = .pointer (some ad334) := e335r
    rw [e335r] at hm336
    have hs := hs.memo1 (it := pl t_history_Operation x85 ad334) (List.mem_append.2 (.inl (hm336 _ (List.mem_of_getElem? (i := 0) rfl))))
    refine WL.loadP hs 0 rfl TI35 (.inl rfl) e335 (fun v87 hs => ?_)
    obtain ⟨cs88, hl89, rfl⟩ := hs.aggv (n := 6) 0 rfl rfl rfl
    have hs := hs.add (it := vl t_history_Operation x85 (.agg cs88.toArray)) fun ok hA => hA.get 0 rfl
    exact WL.nil ⟨rfl, _, rfl, ⟨cs88, rfl⟩, hs.cutG 1 2⟩ }
    {
    intro ρ w Γx Λx hs hu hp
    obtain ⟨⟨cs337, e339r⟩, hm340⟩ := hp 4 rfl
    have e339 : ρ 53 = .agg cs337.toArray := e339r
    rw [e339r] at hm340
    have hs := hs.memo1 (it := vl t_history_Operation x80 (.agg cs337.toArray)) (List.mem_append.2 (.inl (hm340 _ (List.mem_of_getElem? (i := 0) rfl))))
    have hl338 := hs.agglen (n := 6) 0 rfl rfl rfl
    obtain ⟨⟨cs341, e343r⟩, hm344⟩ := hp 9 rfl
    have e343 : ρ 58 = .agg cs341.toArray := e343r
    rw [e343r] at hm344
    have hs := hs.memo1 (it := vl t_history_Operation x85 (.agg cs341.toArray)) (List.mem_cons_of_mem _ (List.mem_append.2 (.inl (hm344 _ (List.mem_of_getElem? (i := 0) rfl)))))
    have hl342 := hs.agglen (n := 6) 0 rfl rfl rfl
    refine WL.call (vs := [.agg cs337.toArray, .agg cs341.toArray]) hs FN21 ⟨e339, ⟨e343, trivial⟩⟩ (fun ok hA => esref39_EqualOperation.calls (x1 := x80) (x5 := x85) hxx90 (hA.get 1 rfl) (hA.get 0 rfl)) ?_
    rintro _ w hs
    exact WL.nil ⟨rfl, _, rfl, rfl, hs.cutG 0 2⟩ }
    {
    intro ρ w Γx Λx hs hu hp
    have e345 : ρ 59 = .bool x90 := (hp 10 rfl).1
    refine WL.not e345 ?_
    exact WL.nil ⟨rfl, _, rfl, rfl, hs.cutG 0 0⟩ }
    {
    intro ρ w Γx Λx hs hu hp
    have e346 : ρ 60 = .bool (!x90) := (hp 11 rfl).1
    refine WL.move (v := .bool (!x90)) e346 ?_
    exact WL.nil ⟨rfl, _, rfl, rfl, hs.cutG 0 0⟩ }
    {
    intro ρ w Γx Λx hs hu hp
    have e347 : ρ 61 = .bool (!x90) := (hp 12 rfl).1
    refine WL.fieldAddr (m := 0) ((hu 11 rfl).trans h66_11) FA24_0 rfl ?_ (hg := (wanted_of rfl rfl (bool_tr e347 hc91)).trans rfl)
    exact WL.nil ⟨rfl, _, rfl, rfl, hs.cutG 0 0⟩ }
    {
    intro ρ w Γx Λx hs hu hp
    have e348 : ρ 62 = .pointer (some ⟨g50, 0, none⟩) := (hp 13 rfl).1
    have e349 : ρ 61 = .bool (!x90) := (hp 12 rfl).1
    refine WL.loadF (z := x40.Operations) F_history_History_Operations hs (Λx.length + 0) (getApp rfl) (Γx.length + 0) (getApp rfl) rfl TI22 (.inr rfl) e348 rfl (fun v197 hs => ?_) (hg := (wanted_of rfl rfl (bool_tr e349 hc91)).trans rfl)
    obtain ⟨a198, c199, rfl⟩ := hs.slice 0 rfl
    have hs := hs.add (it := vl (tSlice t_history_Operation) x40.Operations (.slice a198 (x40.Operations).length c199)) fun ok hA => hA.get 0 rfl
    exact WL.nil ⟨rfl, _, rfl, ⟨(a198, c199), rfl⟩, hs.cutG 1 1⟩ }
    {
    intro ρ w Γx Λx hs hu hp
    obtain ⟨⟨⟨a350, c351⟩, e352r⟩, hm353⟩ := hp 14 rfl
    have e352 : ρ 63 = .slice a350 (x40.Operations).length c351 := e352r
    rw [e352r] at hm353
    have hs := hs.memo1 (it := vl (tSlice t_history_Operation) x40.Operations (.slice a350 (x40.Operations).length c351)) (List.mem_append.2 (.inl (hm353 _ (List.mem_of_getElem? (i := 0) rfl))))
    have e354 : ρ 61 = .bool (!x90) := (hp 12 rfl).1
    refine WL.len (v := .slice a350 (x40.Operations).length c351) e352 (len_slice UN22) ?_ (hg := (wanted_of rfl rfl (bool_tr e354 hc91)).trans rfl)
    exact WL.nil ⟨rfl, _, rfl, rfl, hs.cutG 0 1⟩ }
    {
    intro ρ w Γx Λx hs hu hp
    have e355 : ρ 61 = .bool (!x90) := (hp 12 rfl).1
    refine WL.fieldAddr (m := 0) ((hu 9 rfl).trans h66_9) FA24_0 rfl ?_ (hg := (wanted_of rfl rfl (bool_tr e355 hc91)).trans rfl)
    exact WL.nil ⟨rfl, _, rfl, rfl, hs.cutG 0 0⟩ }
    {
    intro ρ w Γx Λx hs hu hp
    have e356 : ρ 65 = .pointer (some ⟨g21, 0, none⟩) := (hp 16 rfl).1
    have e357 : ρ 61 = .bool (!x90) := (hp 12 rfl).1
    refine WL.load1 (v := .slice a18 (x17.Operations).length c20) hs (Λx.length + 2) (getApp rfl) TI22 e356 rfl ?_ (hg := (wanted_of rfl rfl (bool_tr e357 hc91)).trans rfl)
    exact WL.nil ⟨rfl, _, rfl, rfl, hs.cutG 0 0⟩ }
    {
    intro ρ w Γx Λx hs hu hp
    have e358 : ρ 66 = .slice a18 (x17.Operations).length c20 := (hp 17 rfl).1
    have e359 : ρ 61 = .bool (!x90) := (hp 12 rfl).1
    refine WL.len (v := .slice a18 (x17.Operations).length c20) e358 (len_slice UN22) ?_ (hg := (wanted_of rfl rfl (bool_tr e359 hc91)).trans rfl)
    exact WL.nil ⟨rfl, _, rfl, rfl, hs.cutG 0 0⟩ }
    {
    intro ρ w Γx Λx hs hu hp
    have e360 : ρ 64 = .int .i64 ((x40.Operations).length : Int) := (hp 15 rfl).1
    have e361 : ρ 67 = .int .i64 ((x17.Operations).length : Int) := (hp 18 rfl).1
    have e362 : ρ 61 = .bool (!x90) := (hp 12 rfl).1
    refine WL.bin (v := .bool (((x40.Operations).length : Int) != ((x17.Operations).length : Int))) e360 e361 (ib_neq _ _ _) ?_ (hg := (wanted_of rfl rfl (bool_tr e362 hc91)).trans rfl)
    exact WL.nil ⟨rfl, _, rfl, rfl, hs.cutG 0 0⟩ }
    {
    intro ρ w Γx Λx hs hu hp
    have e363 : ρ 61 = .bool (!x90) := (hp 12 rfl).1
    have e364 : ρ 68 = .bool (((x40.Operations).length : Int) != ((x17.Operations).length : Int)) := (hp 19 rfl).1
    refine WL.pickF (v := .bool (((x40.Operations).length : Int) != ((x17.Operations).length : Int))) (bool_tr e363 hc91) e364 ?_
    exact WL.nil ⟨rfl, _, rfl, rfl, hs.cutG 0 0⟩ }
    {
    intro ρ w Γx Λx hs hu hp
    have e365 : ρ 69 = .bool (((x40.Operations).length : Int) != ((x17.Operations).length : Int)) := (hp 20 rfl).1
    refine WL.move (v := .bool (((x40.Operations).length : Int) != ((x17.Operations).length : Int))) e365 ?_
    exact WL.nil ⟨rfl, _, rfl, rfl, hs.cutG 0 0⟩ }
    {
    intro ρ w Γx Λx hs hu hp
    have e366 : ρ 70 = .bool (((x40.Operations).length : Int) != ((x17.Operations).length : Int)) := (hp 21 rfl).1
    refine WL.fieldAddr (m := 0) ((hu 11 rfl).trans h66_11) FA24_0 rfl ?_ (hg := (wanted_of rfl rfl (bool_tr e366 hc200)).trans rfl)
    exact WL.nil ⟨rfl, _, rfl, rfl, hs.cutG 0 0⟩ }
    {
    intro ρ w Γx Λx hs hu hp
    have e367 : ρ 71 = .pointer (some ⟨g50, 0, none⟩) := (hp 22 rfl).1
    have e368 : ρ 70 = .bool (((x40.Operations).length : Int) != ((x17.Operations).length : Int)) := (hp 21 rfl).1
    refine WL.loadF (z := x40.Operations) F_history_History_Operations hs (Λx.length + 0) (getApp rfl) (Γx.length + 0) (getApp rfl) rfl TI22 (.inr rfl) e367 rfl (fun v311 hs => ?_) (hg := (wanted_of rfl rfl (bool_tr e368 hc200)).trans rfl)
    obtain ⟨a312, c313, rfl⟩ := hs.slice 0 rfl
    have hs := hs.add (it := vl (tSlice t_history_Operation) x40.Operations (.slice a312 (x40.Operations).length c313)) fun ok hA => hA.get 0 rfl
    exact WL.nil ⟨rfl, _, rfl, ⟨(a312, c313), rfl⟩, hs.cutG 1 1⟩ }
    {
    intro ρ w Γx Λx hs hu hp
    have e369 : ρ 70 = .bool (((x40.Operations).length : Int) != ((x17.Operations).length : Int)) := (hp 21 rfl).1
    refine WL.move (v := .int .i64 x67) ((hu 12 rfl).trans h66_12) ?_ (hg := (wanted_of rfl rfl (bool_tr e369 hc200)).trans rfl)
    exact WL.nil ⟨rfl, _, rfl, rfl, hs.cutG 0 0⟩ }
    {
    intro ρ w Γx Λx hs hu hp
    obtain ⟨⟨⟨a370, c371⟩, e372r⟩, hm373⟩ := hp 23 rfl
    have e372 : ρ 72 = .slice a370 (x40.Operations).length c371 := e372r
    rw [e372r] at hm373
    have hs := hs.memo1 (it := vl (tSlice t_history_Operation) x40.Operations (.slice a370 (x40.Operations).length c371)) (List.mem_append.2 (.inl (hm373 _ (List.mem_of_getElem? (i := 0) rfl))))
    have e374 : ρ 73 = .int .i64 x67 := (hp 24 rfl).1
    have e375 : ρ 70 = .bool (((x40.Operations).length : Int) != ((x17.Operations).length : Int)) := (hp 21 rfl).1
    refine WL.indexAddr hs 0 rfl UN22 TI35 e372 e374 hxx314 (fun ad315 hs => ?_) (hg := (wanted_of rfl rfl (bool_tr e375 hc200)).trans rfl)
    have hs := hs.add (it := pl t_history_Operation x314 ad315) fun ok hA => hA.get 0 rfl
    exact WL.nil ⟨rfl, _, rfl, ⟨ad315, rfl⟩, hs.cutG 1 2⟩ }
    {
    intro ρ w Γx Λx hs hu hp
    obtain ⟨⟨ad376, e377r⟩, hm378⟩ := hp 25 rfl
    have e377 : ρ 74 = .pointer (some ad376) := e377r
    rw [e377r] at hm378
    have hs := hs.memo1 (it := pl t_history_Operation x314 ad376) (List.mem_append.2 (.inl (hm378 _ (List.mem_of_getElem? (i := 0) rfl))))
    have e379 : ρ 70 = .bool (((x40.Operations).length : Int) != ((x17.Operations).length : Int)) := (hp 21 rfl).1
    refine WL.loadP hs 0 rfl TI35 (.inl rfl) e377 (fun v316 hs => ?_) (hg := (wanted_of rfl rfl (bool_tr e379 hc200)).trans rfl)
    obtain ⟨cs317, hl318, rfl⟩ := hs.aggv (n := 6) 0 rfl rfl rfl
    have hs := hs.add (it := vl t_history_Operation x314 (.agg cs317.toArray)) fun ok hA => hA.get 0 rfl
    exact WL.nil ⟨rfl, _, rfl, ⟨cs317, rfl⟩, hs.cutG 1 2⟩ }
    {
    intro ρ w Γx Λx hs hu hp
    have e380 : ρ 70 = .bool (((x40.Operations).length : Int) != ((x17.Operations).length : Int)) := (hp 21 rfl).1
    refine WL.fieldAddr (m := 0) ((hu 9 rfl).trans h66_9) FA24_0 rfl ?_ (hg := (wanted_of rfl rfl (bool_tr e380 hc200)).trans rfl)
    exact WL.nil ⟨rfl, _, rfl, rfl, hs.cutG 0 0⟩ }
    {
    intro ρ w Γx Λx hs hu hp
    have e381 : ρ 76 = .pointer (some ⟨g21, 0, none⟩) := (hp 27 rfl).1
    have e382 : ρ 70 = .bool (((x40.Operations).length : Int) != ((x17.Operations).length : Int)) := (hp 21 rfl).1
    refine WL.load1 (v := .slice a18 (x17.Operations).length c20) hs (Λx.length + 2) (getApp rfl) TI22 e381 rfl ?_ (hg := (wanted_of rfl rfl (bool_tr e382 hc200)).trans rfl)
    exact WL.nil ⟨rfl, _, rfl, rfl, hs.cutG 0 0⟩ }
    {
    intro ρ w Γx Λx hs hu hp
    have e383 : ρ 70 = .bool (((x40.Operations).length : Int) != ((x17.Operations).length : Int)) := (hp 21 rfl).1
    refine WL.move (v := .int .i64 x67) ((hu 12 rfl).trans h66_12) ?_ (hg := (wanted_of rfl rfl (bool_tr e383 hc200)).trans rfl)
    exact WL.nil ⟨rfl, _, rfl, rfl, hs.cutG 0 0⟩ }
    {
    intro ρ w Γx Λx hs hu hp
    have e384 : ρ 77 = .slice a18 (x17.Operations).length c20 := (hp 28 rfl).1
    have e385 : ρ 78 = .int .i64 x67 := (hp 29 rfl).1
    have e386 : ρ 70 = .bool (((x40.Operations).length : Int) != ((x17.Operations).length : Int)) := (hp 21 rfl).1
    refine WL.indexAddr hs (Γx.length + 2) (getApp rfl) UN22 TI35 e384 e385 hxx319 (fun ad320 hs => ?_) (hg := (wanted_of rfl rfl (bool_tr e386 hc200)).trans rfl)
    have hs := hs.add (it := pl t_history_Operation x319 ad320) fun ok hA => hA.get 0 rfl
    exact WL.nil ⟨rfl, _, rfl, ⟨ad320, rfl⟩, hs.cutG 1 1⟩ }
    {
    intro ρ w Γx Λx hs hu hp
    obtain ⟨⟨ad387, e388r⟩, hm389⟩ := hp 30 rfl
    have e388 : ρ 79 = .pointer (some ad387) := e388r
    rw [e388r] at hm389
    have hs := hs.memo1 (it := pl t_history_Operation x319 ad387) (List.mem_append.2 (.inl (hm389 _ (List.mem_of_getElem? (i := 0) rfl))))
    have e390 : ρ 70 = .bool (((x40.Operations).length : Int) != ((x17.Operations).length : Int)) := (hp 21 rfl).1
    refine WL.loadP hs 0 rfl TI35 (.inl rfl) e388 (fun v321 hs => ?_) (hg := (wanted_of rfl rfl (bool_tr e390 hc200)).trans rfl)
    obtain ⟨cs322, hl323, rfl⟩ := hs.aggv (n := 6) 0 rfl rfl rfl
    have hs := hs.add (it := vl t_history_Operation x319 (.agg cs322.toArray)) fun ok hA => hA.get 0 rfl
    exact WL.nil ⟨rfl, _, rfl, ⟨cs322, rfl⟩, hs.cutG 1 2⟩ }
    {
    intro ρ w Γx Λx hs hu hp
    obtain ⟨⟨cs391, e393r⟩, hm394⟩ := hp 26 rfl
    have e393 : ρ 75 = .agg cs391.toArray := e393r
    rw [e393r] at hm394
    have hs := hs.memo1 (it := vl t_history_Operation x314 (.agg cs391.toArray)) (List.mem_append.2 (.inl (hm394 _ (List.mem_of_getElem? (i := 0) rfl))))
    have hl392 := hs.agglen (n := 6) 0 rfl rfl rfl
    obtain ⟨⟨cs395, e397r⟩, hm398⟩ := hp 31 rfl
    have e397 : ρ 80 = .agg cs395.toArray := e397r
    rw [e397r] at hm398
    have hs := hs.memo1 (it := vl t_history_Operation x319 (.agg cs395.toArray)) (List.mem_cons_of_mem _ (List.mem_append.2 (.inl (hm398 _ (List.mem_of_getElem? (i := 0) rfl)))))
    have hl396 := hs.agglen (n := 6) 0 rfl rfl rfl
    have e399 : ρ 70 = .bool (((x40.Operations).length : Int) != ((x17.Operations).length : Int)) := (hp 21 rfl).1
    refine WL.call (vs := [.agg cs391.toArray, .agg cs395.toArray]) hs FN21 ⟨e393, ⟨e397, trivial⟩⟩ (fun ok hA => esref39_EqualOperation.calls (x1 := x314) (x5 := x319) hxx324 (hA.get 1 rfl) (hA.get 0 rfl)) ?_ (hg := (wanted_of rfl rfl (bool_tr e399 hc200)).trans rfl)
    rintro _ w hs
    exact WL.nil ⟨rfl, _, rfl, rfl, hs.cutG 0 2⟩ }
    {
    intro ρ w Γx Λx hs hu hp
    have e400 : ρ 81 = .bool x324 := (hp 32 rfl).1
    have e401 : ρ 70 = .bool (((x40.Operations).length : Int) != ((x17.Operations).length : Int)) := (hp 21 rfl).1
    refine WL.not e400 ?_ (hg := (wanted_of rfl rfl (bool_tr e401 hc200)).trans rfl)
    exact WL.nil ⟨rfl, _, rfl, rfl, hs.cutG 0 0⟩ }
    {
    intro ρ w Γx Λx hs hu hp
    have e402 : ρ 70 = .bool (((x40.Operations).length : Int) != ((x17.Operations).length : Int)) := (hp 21 rfl).1
    have e403 : ρ 82 = .bool (!x324) := (hp 33 rfl).1
    refine WL.pickF (v := .bool (!x324)) (bool_tr e402 hc200) e403 ?_
    exact WL.nil ⟨rfl, _, rfl, rfl, hs.cutG 0 0⟩ }
    {
    intro ρ w hs hu404 hp
    obtain ⟨⟨⟨⟨⟨⟨⟨⟨⟨⟨⟨⟨⟨⟨⟨⟨⟨⟨⟨⟨⟨⟨⟨⟨⟨⟨⟨⟨⟨⟨⟨⟨⟨⟨⟨_, hp0_⟩, hp1_⟩, hp2_⟩, hp3_⟩, hp4_⟩, hp5_⟩, hp6_⟩, hp7_⟩, hp8_⟩, hp9_⟩, hp10_⟩, hp11_⟩, hp12_⟩, hp13_⟩, hp14_⟩, hp15_⟩, hp16_⟩, hp17_⟩, hp18_⟩, hp19_⟩, hp20_⟩, hp21_⟩, hp22_⟩, hp23_⟩, hp24_⟩, hp25_⟩, hp26_⟩, hp27_⟩, hp28_⟩, hp29_⟩, hp30_⟩, hp31_⟩, hp32_⟩, hp33_⟩, hp34_⟩ := hp
    have hs : St ok (bz w0) w [vl t_history_Operation x319 (ρ 80), pl t_history_Operation x319 (adOf (ρ 79)), vl t_history_Operation x314 (ρ 75), pl t_history_Operation x314 (adOf (ρ 74)), vl (tSlice t_history_Operation) x40.Operations (ρ 72), vl (tSlice t_history_Operation) x40.Operations (ρ 63), vl t_history_Operation x85 (ρ 58), pl t_history_Operation x85 (adOf (ρ 57)), vl t_history_Operation x80 (ρ 53), pl t_history_Operation x80 (adOf (ρ 52)), vl t_history_History x40 (.agg cs52.toArray), vl (tSlice t_history_Operation) x23.Operations (.slice a24 (x23.Operations).length c26), vl (tSlice t_history_Operation) x17.Operations (.slice a18 (x17.Operations).length c20)] [blk g50 24 cs52, blk g27 24 [.slice a24 (x23.Operations).length c26], blk g21 24 [.slice a18 (x17.Operations).length c20]] := hs
    have e405 : ρ 83 = .bool (!x324) := hp34_
    have e406 : ρ 82 = .bool (!x324) := hp33_
    have e407 : ρ 81 = .bool x324 := hp32_
    obtain ⟨cs408, e410⟩ := hp31_
    have e410 : ρ 80 = .agg cs408.toArray := e410
    try rw [e410] at hs
    obtain ⟨ad411, e412⟩ := hp30_
    have e412 : ρ 79 = .pointer (some ad411) := e412
    try rw [e412] at hs
    have e413 : ρ 78 = .int .i64 x67 := hp29_
    have e414 : ρ 77 = .slice a18 (x17.Operations).length c20 := hp28_
    have e415 : ρ 76 = .pointer (some ⟨g21, 0, none⟩) := hp27_
    obtain ⟨cs416, e418⟩ := hp26_
    have e418 : ρ 75 = .agg cs416.toArray := e418
    try rw [e418] at hs
    obtain ⟨ad419, e420⟩ := hp25_
    have e420 : ρ 74 = .pointer (some ad419) := e420
    try rw [e420] at hs
    have e421 : ρ 73 = .int .i64 x67 := hp24_
    obtain ⟨⟨a422, c423⟩, e424⟩ := hp23_
    have e424 : ρ 72 = .slice a422 (x40.Operations).length c423 := e424
    try rw [e424] at hs
    have e425 : ρ 71 = .pointer (some ⟨g50, 0, none⟩) := hp22_
    have e426 : ρ 70 = .bool (((x40.Operations).length : Int) != ((x17.Operations).length : Int)) := hp21_
    have e427 : ρ 69 = .bool (((x40.Operations).length : Int) != ((x17.Operations).length : Int)) := hp20_
    have e428 : ρ 68 = .bool (((x40.Operations).length : Int) != ((x17.Operations).length : Int)) := hp19_
    have e429 : ρ 67 = .int .i64 ((x17.Operations).length : Int) := hp18_
    have e430 : ρ 66 = .slice a18 (x17.Operations).length c20 := hp17_
    have e431 : ρ 65 = .pointer (some ⟨g21, 0, none⟩) := hp16_
    have e432 : ρ 64 = .int .i64 ((x40.Operations).length : Int) := hp15_
    obtain ⟨⟨a433, c434⟩, e435⟩ := hp14_
    have e435 : ρ 63 = .slice a433 (x40.Operations).length c434 := e435
    try rw [e435] at hs
    have e436 : ρ 62 = .pointer (some ⟨g50, 0, none⟩) := hp13_
    have e437 : ρ 61 = .bool (!x90) := hp12_
    have e438 : ρ 60 = .bool (!x90) := hp11_
    have e439 : ρ 59 = .bool x90 := hp10_
    obtain ⟨cs440, e442⟩ := hp9_
    have e442 : ρ 58 = .agg cs440.toArray := e442
    try rw [e442] at hs
    obtain ⟨ad443, e444⟩ := hp8_
    have e444 : ρ 57 = .pointer (some ad443) := e444
    try rw [e444] at hs
    have e445 : ρ 56 = .int .i64 x67 := hp7_
    have e446 : ρ 55 = .slice a24 (x23.Operations).length c26 := hp6_
    have e447 : ρ 54 = .pointer (some ⟨g27, 0, none⟩) := hp5_
    obtain ⟨cs448, e450⟩ := hp4_
    have e450 : ρ 53 = .agg cs448.toArray := e450
    try rw [e450] at hs
    obtain ⟨ad451, e452⟩ := hp3_
    have e452 : ρ 52 = .pointer (some ad451) := e452
    try rw [e452] at hs
    have e453 : ρ 51 = .int .i64 x67 := hp2_
    have e454 : ρ 50 = .slice a18 (x17.Operations).length c20 := hp1_
    have e455 : ρ 49 = .pointer (some ⟨g21, 0, none⟩) := hp0_
    have hl449 := hs.agglen (n := 6) 8 rfl rfl rfl
    have hl441 := hs.agglen (n := 6) 6 rfl rfl rfl
    have hl417 := hs.agglen (n := 6) 2 rfl rfl rfl
    have hl409 := hs.agglen (n := 6) 0 rfl rfl rfl
    refine WA.done (by kernel_rfl) ?_
    exact Jk76 (!x324) _ _ ((hu404 9 rfl).trans h66_9) ((hu404 10 rfl).trans h66_10) ((hu404 11 rfl).trans h66_11) ((hu404 12 rfl).trans h66_12) e405 ((hs.mask [true, true, true]).pick [10, 11, 12]) hf } } } }
    {
    refine W.cond_false (bool_tr rfl hc71) ?_
    refine W.exit ?_
    have hr := Option.some.inj hf; subst hr
    have hr := hbbs68 _ rfl; subst hr
    have hf := hfs68
    exact Jk62  _ _  ((hs.mask []).pick []) hf } } }
  refine W.region ?_
  refine WL.fieldAddr (m := 0) rfl FA24_0 rfl ?_
  refine WL.load1 (v := .slice a18 n19 c20) hs 2 rfl TI22 rfl rfl ?_
  refine WL.len (v := .slice a18 n19 c20) rfl (len_own hs 3 rfl UN22) ?_
  refine WL.fieldAddr (m := 0) rfl FA24_0 rfl ?_
  refine WL.load1 (v := .slice a24 n25 c26) hs 0 rfl TI22 rfl rfl ?_
  refine WL.len (v := .slice a24 n25 c26) rfl (len_own hs 1 rfl UN22) ?_
  refine WL.bin (v := .bool (((x17.Operations).length : Int) != ((x23.Operations).length : Int))) rfl rfl (ib_neq _ _ _) ?_
  refine WL.move (v := .bool (((x17.Operations).length : Int) != ((x23.Operations).length : Int))) rfl ?_
  rcases iteE hf with ⟨hc457, hf⟩ | ⟨hc457, hf⟩
  {
  refine WL.pass ((wanted_of rfl rfl (bool_tr rfl hc457)).trans rfl) rfl ?_
  refine WL.pass ((wanted_of rfl rfl (bool_tr rfl hc457)).trans rfl) rfl ?_
  refine WL.pass ((wanted_of rfl rfl (bool_tr rfl hc457)).trans rfl) rfl ?_
  refine WL.pickT (v := .bool true) (bool_tr rfl hc457) rfl ?_
  refine WL.nil ?_
  exact Jk32 true _ _ rfl rfl rfl rfl rfl ((hs.mask [true, true, true, true]).pick []) hf }
  {
  refine WL.loadN (vs := [.slice a18 n19 c20]) hs 2 rfl TI24 rfl rfl rfl ?_ (hg := (wanted_of rfl rfl (bool_tr rfl hc457)).trans rfl)
  obtain ⟨x458, hxx458, hf⟩ := bindE hf
  refine WL.callL (vs := [.agg ([.slice a18 n19 c20] : List Value).toArray]) hs FN11 ⟨rfl, trivial⟩ (history_Validate.calls (x1 := (⟨x17.Operations⟩ : history_History)) hxx458 (V_agg (show t_history_History.R (fun _ => True) _ (⟨x17.Operations⟩ : history_History) [.slice a18 n19 c20] from (R_one (hs.ownT 3 rfl))) rfl)) ?_ (hg := (wanted_of rfl rfl (bool_tr rfl hc457)).trans rfl)
  rintro _ w hs
  refine WL.bin (v := .bool (x458 != 0)) rfl rfl (ib_neq _ _ _) ?_ (hg := (wanted_of rfl rfl (bool_tr rfl hc457)).trans rfl)
  refine WL.pickF (v := .bool (x458 != 0)) (bool_tr rfl hc457) rfl ?_
  refine WL.nil ?_
  exact Jk32 (x458 != 0) _ _ rfl rfl rfl rfl rfl ((hs.mask [true, true, true, true]).pick []) hf }
end Go.Proofs.Ytbbeobiampbddaa
