/- What the row leans on, as few texts. -/
import Derived.Test.YtbbeobiampbddaaQHC2
import Derived.Test.YtbbeobiampbddaaQHC0
import Derived.Test.YtbbeobiampbddaaQHC4
import Derived.Test.YtbbeobiampbddaaQHC5
import Derived.Test.YtbbeobiampbddaaQHC1
set_option linter.unusedVariables false
set_option linter.unusedSimpArgs false
namespace Go.Proofs.Ytbbeobiampbddaa
open Go Go.RowKit Go.Proofs.YtbbeobiampbddaaL
set_option maxRecDepth 100000
set_option maxHeartbeats 4000000
theorem eslaw38_HistoryChanged.calls {ok : Nat → Prop} {w0 : World} {x1 : List Int} {x4 : Int} {x5 : Int} {x6 : Int} {x7 : List api_Effect} {x10 : List history_Value} {a2 : Option Addr} {c3 : Nat} {a8 : Option Addr} {c9 : Nat} {a11 : Option Addr} {c12 : Nat} {r : Bool} (hf : eslaw38_HistoryChanged x1 x4 x5 x6 x7 x10 = some r) (i0 : (vl (tSlice (tInt .i64)) x1 (.slice a2 x1.length c3)).holds ok w0) (i1 : (vl (tSlice t_api_Effect) x7 (.slice a8 x7.length c9)).holds ok w0) (i2 : (vl (tSlice t_history_Value) x10 (.slice a11 x10.length c12)).holds ok w0) :
    Calls Try.prog 4 #[.slice a2 x1.length c3, .int .i64 x4, .int .i64 x5, .int .i64 x6, .slice a8 x7.length c9, .slice a11 x10.length c12] w0 fun e w' => ∃ v, e = .returned v ∧ ∃ y : Unit, v = .bool r ∧ St ok (bz w0) w' [] [] := by
  unfold eslaw38_HistoryChanged at hf
  refine calls_of_W (fn := Try.f4) (N := 122) Try.func4 rfl Try.ntmps4 rfl ?_
  have hs : St ok (bz w0) w0 [vl (tSlice (tInt .i64)) x1 (.slice a2 x1.length c3), vl (tSlice t_api_Effect) x7 (.slice a8 x7.length c9), vl (tSlice t_history_Value) x10 (.slice a11 x10.length c12)] [] := St.init (All.cons i0 (All.cons i1 (All.cons i2 All.nil)))
  clear i0 i1 i2
  refine W.seqK fun K13 hK13 => ?_
  refine W.region ?_
  refine WL.assign (v := .bool false) rfl ?_
  refine WL.nil ?_
  refine hK13 _ _ ?_
  refine W.seqK fun K14 hK14 => ?_
  refine W.region ?_
  refine WL.move (v := .slice a2 x1.length c3) rfl ?_
  obtain ⟨x15, hxx15, hf⟩ := bindE hf
  refine WL.call (vs := [.slice a2 x1.length c3]) hs FN13 ⟨rfl, trivial⟩ (fun ok hA => eslaw38_Times.calls (x1 := x1) hxx15 (hA.get 0 rfl)) ?_
  rintro ⟨a16, n17, c18⟩ w hs
  refine WL.alloc hs ZV24 (fun g19 w hs => ?_)
  refine WL.storeAll (vs := [.slice a16 n17 c18]) hs 0 rfl TI24 rfl rfl rfl rfl (ones_of rfl) rfl (fun w hs => ?_)
  refine WL.nil ?_
  refine hK14 _ _ ?_
  refine W.seqK fun K20 hK20 => ?_
  refine W.seqK fun K21 hK21 => ?_
  refine W.region ?_
  refine WL.loadN (vs := [.slice a16 n17 c18]) hs 0 rfl TI24 rfl rfl rfl ?_
  obtain ⟨x22, hxx22, hf⟩ := bindE hf
  refine WL.callL (vs := [.agg ([.slice a16 n17 c18] : List Value).toArray]) hs FN11 ⟨rfl, trivial⟩ (history_Validate.calls (x1 := (⟨x15.Operations⟩ : history_History)) hxx22 (V_agg (show t_history_History.R (fun _ => True) _ (⟨x15.Operations⟩ : history_History) [.slice a16 n17 c18] from (R_one (hs.ownT 1 rfl))) rfl)) ?_
  rintro _ w hs
  refine WL.bin (v := .bool (x22 != 0)) rfl rfl (ib_neq _ _ _) ?_
  refine WL.nil ?_
  refine hK21 _ _ ?_
  rcases iteE hf with ⟨hc23, hf⟩ | ⟨hc23, hf⟩
  {
  refine W.cond_true (bool_tr rfl hc23) ?_
  refine W.seqK fun K24 hK24 => ?_
  refine W.region ?_
  refine WL.assign (v := .bool false) rfl ?_
  refine WL.nil ?_
  refine hK24 _ _ ?_
  refine W.ret ?_
  have hr := Option.some.inj hf; subst hr
  exact ⟨_, resOk_one rfl rfl, (), rfl, (hs.mask []).pick []⟩ }
  {
  refine W.cond_false (bool_tr rfl hc23) ?_
  refine W.skip ?_
  refine hK20 _ _ ?_
  refine W.seqK fun K25 hK25 => ?_
  refine W.seqK fun K26 hK26 => ?_
  have Jk29 : ∀ (x28 : Bool) (ρ : Env) (w : World), ρ 1 = .int .i64 x4 → ρ 2 = .int .i64 x5 → ρ 3 = .int .i64 x6 → ρ 4 = .slice a8 x7.length c9 → ρ 5 = .slice a11 x10.length c12 → ρ 13 = .pointer (some ⟨g19, 0, none⟩) → ρ 33 = .bool x28 → St ok (bz w0) w [vl (tSlice t_api_Effect) x7 (.slice a8 x7.length c9), vl (tSlice t_history_Value) x10 (.slice a11 x10.length c12)] [blk g19 24 [.slice a16 n17 c18], own t_history_Operation 35 (.slice a16 n17 c18) x15.Operations] → eslaw38_HistoryChanged.j3 x4 x5 x6 x7 x10 x15 x28 = some r → K26 ρ w := by
    intro x28 ρ w h27_1 h27_2 h27_3 h27_4 h27_5 h27_13 h27_33 hs hf
    refine hK26 _ _ ?_
    unfold eslaw38_HistoryChanged.j3 at hf
    rcases iteE hf with ⟨hc30, hf⟩ | ⟨hc30, hf⟩
    {
    refine W.cond_true (bool_tr h27_33 hc30) ?_
    refine W.seqK fun K31 hK31 => ?_
    refine W.region ?_
    obtain ⟨x32, hxx32, hf⟩ := bindE hf
    refine WL.call (vs := []) hs FN10 trivial (fun ok hA => eslaw38_awake.calls hxx32) ?_
    rintro _ w hs
    refine WL.assign (v := .bool x32) rfl ?_
    refine WL.nil ?_
    refine hK31 _ _ ?_
    refine W.ret ?_
    have hr := Option.some.inj hf; subst hr
    exact ⟨_, resOk_one rfl rfl, (), rfl, (hs.mask []).pick []⟩ }
    {
    refine W.cond_false (bool_tr h27_33 hc30) ?_
    refine W.skip ?_
    refine hK25 _ _ ?_
    refine W.seqK fun K33 hK33 => ?_
    refine W.region ?_
    refine WL.move (v := .int .i64 x4) h27_1 ?_
    refine WL.fieldAddr (m := 0) h27_13 FA24_0 rfl ?_
    refine WL.load1 (v := .slice a16 n17 c18) hs 0 rfl TI22 rfl rfl ?_
    refine WL.len (v := .slice a16 n17 c18) rfl (len_own hs 1 rfl UN22) ?_
    obtain ⟨x34, hxx34, hf⟩ := bindE hf
    refine WL.call (vs := [.int .i64 x4, .int .i64 ((x15.Operations).length : Int)]) hs FN14 ⟨rfl, ⟨rfl, trivial⟩⟩ (fun ok hA => eslaw00_Index.calls (x1 := x4) (x2 := ((x15.Operations).length : Int)) hxx34) ?_
    rintro _ w hs
    refine WL.assign (v := .int .i64 x34) rfl ?_
    refine WL.nil ?_
    refine hK33 _ _ ?_
    refine W.seqK fun K35 hK35 => ?_
    have Jk38 : ∀ (x36 : List history_Operation) (ρ : Env) (w : World), ρ 13 = .pointer (some ⟨g19, 0, none⟩) → St ok (bz w0) w [] [blk g19 24 [.slice a16 n17 c18], own t_history_Operation 35 (.slice a16 n17 c18) x36] → eslaw38_HistoryChanged.j2 x36 = some r → K35 ρ w := by
      intro x36 ρ w h37_13 hs hf
      refine hK35 _ _ ?_
      unfold eslaw38_HistoryChanged.j2 at hf
      refine W.seqK fun K39 hK39 => ?_
      have Jk42 : ∀ (x41 : Bool) (ρ : Env) (w : World), ρ 12 = .bool x41 → St ok (bz w0) w [] [] → eslaw38_HistoryChanged.j1 x41 = some r → K39 ρ w := by
        intro x41 ρ w h40_12 hs hf
        refine hK39 _ _ ?_
        unfold eslaw38_HistoryChanged.j1 at hf
        refine W.ret ?_
        have hr := Option.some.inj hf; subst hr
        exact ⟨_, resOk_one rfl h40_12, (), rfl, (hs.mask []).pick []⟩
      obtain rfl := hs.ownLen 1 rfl
      have hs := hs.freezeOwn 1 rfl
      obtain ⟨x43, hxx43, hf⟩ := bindE hf
      obtain ⟨x44, hxx44, hf⟩ := bindE hf
      rcases iteE hf with ⟨hc45, hf⟩ | ⟨hc45, hf⟩
      {
      obtain ⟨x46, hxx46, hf⟩ := bindE hf
      refine W.any (by kernel_rfl) 8 1 [true, true, true, true, true, true, true, true, false] rfl rfl (poAt [pv (.agg ([.slice a16 x36.length c18] : List Value).toArray), pv (.int .i64 x43), pv (.agg ([.slice a16 x36.length c18] : List Value).toArray), pv (.int .i64 x44), pv (.bool (x43 == x44)), pv (.bool (x43 == x44)), pv (.bool x46), pv (.bool x46)]) (Λ := [blk g19 24 [.slice a16 x36.length c18]]) hs (by kernel_rfl) (by kernel_rfl) (by kernel_rfl) ⟨⟨⟨⟨⟨⟨⟨⟨trivial, ?_⟩, ?_⟩, ?_⟩, ?_⟩, ?_⟩, ?_⟩, ?_⟩, ?_⟩ ?_
      {
      intro ρ w Γx Λx hs hu hp
      refine WL.loadN (vs := [.slice a16 x36.length c18]) hs (Λx.length + 0) (getApp rfl) TI24 ((hu 13 rfl).trans h37_13) rfl rfl ?_
      exact WL.nil ⟨rfl, _, rfl, rfl, hs.cutG 0 0⟩ }
      {
      intro ρ w Γx Λx hs hu hp
      have e47 : ρ 114 = .agg ([.slice a16 x36.length c18] : List Value).toArray := (hp 0 rfl).1
      have hs := hs.add (it := vl t_history_History (⟨x36⟩ : history_History) (.agg [.slice a16 x36.length c18].toArray)) fun ok hA => V_agg ((R_one (hA.get (Γx.length + 0) (getApp rfl)))) rfl
      refine WL.call (vs := [.agg ([.slice a16 x36.length c18] : List Value).toArray]) hs FN11 ⟨e47, trivial⟩ (fun ok hA => history_Validate.calls (x1 := (⟨x36⟩ : history_History)) hxx43 (hA.get 0 rfl)) ?_
      rintro _ w hs
      exact WL.nil ⟨rfl, _, rfl, rfl, hs.cutG 0 1⟩ }
      {
      intro ρ w Γx Λx hs hu hp
      refine WL.loadN (vs := [.slice a16 x36.length c18]) hs (Λx.length + 0) (getApp rfl) TI24 ((hu 13 rfl).trans h37_13) rfl rfl ?_
      exact WL.nil ⟨rfl, _, rfl, rfl, hs.cutG 0 0⟩ }
      {
      intro ρ w Γx Λx hs hu hp
      have e48 : ρ 116 = .agg ([.slice a16 x36.length c18] : List Value).toArray := (hp 2 rfl).1
      have hs := hs.add (it := vl t_history_History (⟨x36⟩ : history_History) (.agg [.slice a16 x36.length c18].toArray)) fun ok hA => V_agg ((R_one (hA.get (Γx.length + 0) (getApp rfl)))) rfl
      refine WL.call (vs := [.agg ([.slice a16 x36.length c18] : List Value).toArray]) hs FN12 ⟨e48, trivial⟩ (fun ok hA => esref39_Validate.calls (x1 := (⟨x36⟩ : history_History)) hxx44 (hA.get 0 rfl)) ?_
      rintro _ w hs
      exact WL.nil ⟨rfl, _, rfl, rfl, hs.cutG 0 1⟩ }
      {
      intro ρ w Γx Λx hs hu hp
      have e49 : ρ 115 = .int .i64 x43 := (hp 1 rfl).1
      have e50 : ρ 117 = .int .i64 x44 := (hp 3 rfl).1
      refine WL.bin (v := .bool (x43 == x44)) e49 e50 (ib_eql _ _ _) ?_
      exact WL.nil ⟨rfl, _, rfl, rfl, hs.cutG 0 0⟩ }
      {
      intro ρ w Γx Λx hs hu hp
      have e51 : ρ 118 = .bool (x43 == x44) := (hp 4 rfl).1
      refine WL.move (v := .bool (x43 == x44)) e51 ?_
      exact WL.nil ⟨rfl, _, rfl, rfl, hs.cutG 0 0⟩ }
      {
      intro ρ w Γx Λx hs hu hp
      have e52 : ρ 119 = .bool (x43 == x44) := (hp 5 rfl).1
      refine WL.call (vs := []) hs FN10 trivial (fun ok hA => eslaw38_awake.calls hxx46) ?_ (hg := (wanted_of rfl rfl (bool_tr e52 hc45)).trans rfl)
      rintro _ w hs
      exact WL.nil ⟨rfl, _, rfl, rfl, hs.cutG 0 0⟩ }
      {
      intro ρ w Γx Λx hs hu hp
      have e53 : ρ 119 = .bool (x43 == x44) := (hp 5 rfl).1
      have e54 : ρ 120 = .bool x46 := (hp 6 rfl).1
      refine WL.pickT (v := .bool x46) (bool_tr e53 hc45) e54 ?_
      exact WL.nil ⟨rfl, _, rfl, rfl, hs.cutG 0 0⟩ }
      {
      intro ρ w hs hu55 hp
      obtain ⟨⟨⟨⟨⟨⟨⟨⟨_, hp0_⟩, hp1_⟩, hp2_⟩, hp3_⟩, hp4_⟩, hp5_⟩, hp6_⟩, hp7_⟩ := hp
      have hs : St ok (bz w0) w [vl (tSlice t_history_Operation) x36 (.slice a16 x36.length c18)] [blk g19 24 [.slice a16 x36.length c18]] := hs
      have e56 : ρ 121 = .bool x46 := hp7_
      have e57 : ρ 120 = .bool x46 := hp6_
      have e58 : ρ 119 = .bool (x43 == x44) := hp5_
      have e59 : ρ 118 = .bool (x43 == x44) := hp4_
      have e60 : ρ 117 = .int .i64 x44 := hp3_
      have e61 : ρ 116 = .agg ([.slice a16 x36.length c18] : List Value).toArray := hp2_
      have e62 : ρ 115 = .int .i64 x43 := hp1_
      have e63 : ρ 114 = .agg ([.slice a16 x36.length c18] : List Value).toArray := hp0_
      refine WA.step [8] (by kernel_rfl) (by simp) ⟨?_, trivial⟩
      refine WL.assign (v := .bool x46) e56 ?_
      refine WL.nil ⟨rfl, _, rfl, ?_⟩
      refine WA.done (by kernel_rfl) ?_
      exact Jk42 x46 _ _ rfl ((hs.mask []).pick []) hf } }
      {
      refine W.any (by kernel_rfl) 8 1 [true, true, true, true, true, true, true, true, false] rfl rfl (poAt [pv (.agg ([.slice a16 x36.length c18] : List Value).toArray), pv (.int .i64 x43), pv (.agg ([.slice a16 x36.length c18] : List Value).toArray), pv (.int .i64 x44), pv (.bool (x43 == x44)), pv (.bool (x43 == x44)), pv (undef), pv (.bool false)]) (Λ := [blk g19 24 [.slice a16 x36.length c18]]) hs (by kernel_rfl) (by kernel_rfl) (by kernel_rfl) ⟨⟨⟨⟨⟨⟨⟨⟨trivial, ?_⟩, ?_⟩, ?_⟩, ?_⟩, ?_⟩, ?_⟩, ?_⟩, ?_⟩ ?_
      {
      intro ρ w Γx Λx hs hu hp
      refine WL.loadN (vs := [.slice a16 x36.length c18]) hs (Λx.length + 0) (getApp rfl) TI24 ((hu 13 rfl).trans h37_13) rfl rfl ?_
      exact WL.nil ⟨rfl, _, rfl, rfl, hs.cutG 0 0⟩ }
      {
      intro ρ w Γx Λx hs hu hp
      have e64 : ρ 114 = .agg ([.slice a16 x36.length c18] : List Value).toArray := (hp 0 rfl).1
      have hs := hs.add (it := vl t_history_History (⟨x36⟩ : history_History) (.agg [.slice a16 x36.length c18].toArray)) fun ok hA => V_agg ((R_one (hA.get (Γx.length + 0) (getApp rfl)))) rfl
      refine WL.call (vs := [.agg ([.slice a16 x36.length c18] : List Value).toArray]) hs FN11 ⟨e64, trivial⟩ (fun ok hA => history_Validate.calls (x1 := (⟨x36⟩ : history_History)) hxx43 (hA.get 0 rfl)) ?_
      rintro _ w hs
      exact WL.nil ⟨rfl, _, rfl, rfl, hs.cutG 0 1⟩ }
      {
      intro ρ w Γx Λx hs hu hp
      refine WL.loadN (vs := [.slice a16 x36.length c18]) hs (Λx.length + 0) (getApp rfl) TI24 ((hu 13 rfl).trans h37_13) rfl rfl ?_
      exact WL.nil ⟨rfl, _, rfl, rfl, hs.cutG 0 0⟩ }
      {
      intro ρ w Γx Λx hs hu hp
      have e65 : ρ 116 = .agg ([.slice a16 x36.length c18] : List Value).toArray := (hp 2 rfl).1
      have hs := hs.add (it := vl t_history_History (⟨x36⟩ : history_History) (.agg [.slice a16 x36.length c18].toArray)) fun ok hA => V_agg ((R_one (hA.get (Γx.length + 0) (getApp rfl)))) rfl
      refine WL.call (vs := [.agg ([.slice a16 x36.length c18] : List Value).toArray]) hs FN12 ⟨e65, trivial⟩ (fun ok hA => esref39_Validate.calls (x1 := (⟨x36⟩ : history_History)) hxx44 (hA.get 0 rfl)) ?_
      rintro _ w hs
      exact WL.nil ⟨rfl, _, rfl, rfl, hs.cutG 0 1⟩ }
      {
      intro ρ w Γx Λx hs hu hp
      have e66 : ρ 115 = .int .i64 x43 := (hp 1 rfl).1
      have e67 : ρ 117 = .int .i64 x44 := (hp 3 rfl).1
      refine WL.bin (v := .bool (x43 == x44)) e66 e67 (ib_eql _ _ _) ?_
      exact WL.nil ⟨rfl, _, rfl, rfl, hs.cutG 0 0⟩ }
      {
      intro ρ w Γx Λx hs hu hp
      have e68 : ρ 118 = .bool (x43 == x44) := (hp 4 rfl).1
      refine WL.move (v := .bool (x43 == x44)) e68 ?_
      exact WL.nil ⟨rfl, _, rfl, rfl, hs.cutG 0 0⟩ }
      {
      intro ρ w Γx Λx hs hu hp
      have e69 : ρ 119 = .bool (x43 == x44) := (hp 5 rfl).1
      refine WL.pass ((wanted_of rfl rfl (bool_tr e69 hc45)).trans rfl) rfl ?_
      exact WL.nil ⟨rfl, _, rfl, rfl, hs.cutG 0 0⟩ }
      {
      intro ρ w Γx Λx hs hu hp
      have e70 : ρ 119 = .bool (x43 == x44) := (hp 5 rfl).1
      have e71 : ρ 120 = undef := (hp 6 rfl).1
      refine WL.pickF (v := .bool false) (bool_tr e70 hc45) rfl ?_
      exact WL.nil ⟨rfl, _, rfl, rfl, hs.cutG 0 0⟩ }
      {
      intro ρ w hs hu72 hp
      obtain ⟨⟨⟨⟨⟨⟨⟨⟨_, hp0_⟩, hp1_⟩, hp2_⟩, hp3_⟩, hp4_⟩, hp5_⟩, hp6_⟩, hp7_⟩ := hp
      have hs : St ok (bz w0) w [vl (tSlice t_history_Operation) x36 (.slice a16 x36.length c18)] [blk g19 24 [.slice a16 x36.length c18]] := hs
      have e73 : ρ 121 = .bool false := hp7_
      have e74 : ρ 120 = undef := hp6_
      have e75 : ρ 119 = .bool (x43 == x44) := hp5_
      have e76 : ρ 118 = .bool (x43 == x44) := hp4_
      have e77 : ρ 117 = .int .i64 x44 := hp3_
      have e78 : ρ 116 = .agg ([.slice a16 x36.length c18] : List Value).toArray := hp2_
      have e79 : ρ 115 = .int .i64 x43 := hp1_
      have e80 : ρ 114 = .agg ([.slice a16 x36.length c18] : List Value).toArray := hp0_
      refine WA.step [8] (by kernel_rfl) (by simp) ⟨?_, trivial⟩
      refine WL.assign (v := .bool false) e73 ?_
      refine WL.nil ⟨rfl, _, rfl, ?_⟩
      refine WA.done (by kernel_rfl) ?_
      exact Jk42 false _ _ rfl ((hs.mask []).pick []) hf } }
    refine W.seqK fun K81 hK81 => ?_
    refine W.region ?_
    refine WL.move (v := .int .i64 x5) h27_2 ?_
    obtain ⟨x82, hxx82, hf⟩ := bindE hf
    refine WL.call (vs := [.int .i64 x5, .int .i64 7]) hs FN14 ⟨rfl, ⟨rfl, trivial⟩⟩ (fun ok hA => eslaw00_Index.calls (x1 := x5) (x2 := 7) hxx82) ?_
    rintro _ w hs
    refine WL.nil ?_
    refine hK81 _ _ ?_
    refine W.block ?_
    refine W.seqK fun K83 hK83 => ?_
    refine W.region ?_
    refine WL.bin (v := .bool (x82 == 0)) rfl rfl (ib_eql _ _ _) ?_
    refine WL.assign (v := .bool (x82 == 0)) rfl ?_
    refine WL.nil ?_
    refine hK83 _ _ ?_
    rcases iteE hf with ⟨hc84, hf⟩ | ⟨hc84, hf⟩
    {
    refine W.cond_true (bool_tr rfl hc84) ?_
    obtain ⟨x85, hxx85, hf⟩ := bindE hf
    obtain ⟨x86, ex86, hf⟩ := letE hf
    obtain ⟨x87, hxx87, hf⟩ := bindE hf
    refine W.any (by kernel_rfl) 8 1 [true, true, true, true, true, true, true, true, false] rfl rfl (poAt [pv (.pointer (some ⟨g19, 0, none⟩)), pv (.slice a16 n17 c18), pv (.int .i64 x34), pv (.int .i64 x6), pv (.int .i64 x85), pv (.int .i64 x86), po (fun ad => Go.Proofs.YtbbeobiampbddaaL.OwnAt 6 (.slice a16 n17 c18) x34 ad), po (fun ad => OwnAtF 6 4 (.slice a16 n17 c18) x34 ad)]) (Λ := [blk g19 24 [.slice a16 n17 c18], own t_history_Operation 35 (.slice a16 n17 c18) x15.Operations]) hs (by kernel_rfl) (by kernel_rfl) (by kernel_rfl) ⟨⟨⟨⟨⟨⟨⟨⟨trivial, ?_⟩, ?_⟩, ?_⟩, ?_⟩, ?_⟩, ?_⟩, ?_⟩, ?_⟩ ?_
    {
    intro ρ w Γx Λx hs hu hp
    refine WL.fieldAddr (m := 0) ((hu 13 rfl).trans h27_13) FA24_0 rfl ?_
    exact WL.nil ⟨rfl, _, rfl, rfl, hs.cutG 0 0⟩ }
    {
    intro ρ w Γx Λx hs hu hp
    have e90 : ρ 60 = .pointer (some ⟨g19, 0, none⟩) := (hp 0 rfl).1
    refine WL.load1 (v := .slice a16 n17 c18) hs (Λx.length + 0) (getApp rfl) TI22 e90 rfl ?_
    exact WL.nil ⟨rfl, _, rfl, rfl, hs.cutG 0 0⟩ }
    {
    intro ρ w Γx Λx hs hu hp
    refine WL.move (v := .int .i64 x34) (hu 14 rfl) ?_
    exact WL.nil ⟨rfl, _, rfl, rfl, hs.cutG 0 0⟩ }
    {
    intro ρ w Γx Λx hs hu hp
    refine WL.move (v := .int .i64 x6) ((hu 3 rfl).trans h27_3) ?_
    exact WL.nil ⟨rfl, _, rfl, rfl, hs.cutG 0 0⟩ }
    {
    intro ρ w Γx Λx hs hu hp
    have e91 : ρ 63 = .int .i64 x6 := (hp 3 rfl).1
    refine WL.call (vs := [.int .i64 x6, .int .i64 44]) hs FN14 ⟨e91, ⟨rfl, trivial⟩⟩ (fun ok hA => eslaw00_Index.calls (x1 := x6) (x2 := 44) hxx85) ?_
    rintro _ w hs
    exact WL.nil ⟨rfl, _, rfl, rfl, hs.cutG 0 0⟩ }
    {
    intro ρ w Γx Λx hs hu hp
    have e92 : ρ 64 = .int .i64 x85 := (hp 4 rfl).1
    refine WL.bin (v := .int .i64 x86) e92 rfl (ib_as ex86 (ib_sub _ _ _)) ?_
    exact WL.nil ⟨rfl, _, rfl, rfl, hs.cutG 0 0⟩ }
    {
    intro ρ w Γx Λx hs hu hp
    have e93 : ρ 61 = .slice a16 n17 c18 := (hp 1 rfl).1
    have e94 : ρ 62 = .int .i64 x34 := (hp 2 rfl).1
    refine WL.indexAddrO hs (Λx.length + 1) (getApp rfl) UN22 TI35 e93 e94 hxx87 (fun ad88 hatad88 => ?_)
    exact WL.nil ⟨rfl, _, rfl, ⟨ad88, rfl, hatad88⟩, hs.cutG 0 0⟩ }
    {
    intro ρ w Γx Λx hs hu hp
    obtain ⟨ad96, e95, hatad96⟩ := (hp 6 rfl).1
    have e95 : ρ 66 = .pointer (some ad96) := e95
    refine WL.fieldAddrO (OwnAt.f hatad96) e95 FA35_4 rfl (fun ad89 hatad89 => ?_)
    exact WL.nil ⟨rfl, _, rfl, ⟨ad89, rfl, hatad89⟩, hs.cutG 0 0⟩ }
    {
    intro ρ w hs hu97 hp
    obtain ⟨⟨⟨⟨⟨⟨⟨⟨_, hp0_⟩, hp1_⟩, hp2_⟩, hp3_⟩, hp4_⟩, hp5_⟩, hp6_⟩, hp7_⟩ := hp
    have hs : St ok (bz w0) w [vl (tSlice t_api_Effect) x7 (.slice a8 x7.length c9), vl (tSlice t_history_Value) x10 (.slice a11 x10.length c12)] [blk g19 24 [.slice a16 n17 c18], own t_history_Operation 35 (.slice a16 n17 c18) x15.Operations] := hs
    obtain ⟨ad99, e98, hatad99⟩ := hp7_
    have e98 : ρ 67 = .pointer (some ad99) := e98
    have e100 : ρ 65 = .int .i64 x86 := hp5_
    have e101 : ρ 64 = .int .i64 x85 := hp4_
    have e102 : ρ 63 = .int .i64 x6 := hp3_
    have e103 : ρ 62 = .int .i64 x34 := hp2_
    have e104 : ρ 61 = .slice a16 n17 c18 := hp1_
    have e105 : ρ 60 = .pointer (some ⟨g19, 0, none⟩) := hp0_
    refine WA.step [8] (by kernel_rfl) (by simp) ⟨?_, trivial⟩
    obtain ⟨x106, exx106, hf⟩ := letE hf
    refine WL.storeOF (z := x86) (vs := [.int .i64 x86]) (zs := x106) F_history_Operation_Call hs 1 rfl TI3 hatad99 hxx87 e98 e100 rfl (fun ok hA => rfl) exx106 (fun w hs => ?_)
    refine WL.nil ⟨rfl, _, rfl, ?_⟩
    refine WA.done (by kernel_rfl) ?_
    exact Jk38 x106 _ _ ((hu97 13 rfl).trans h27_13) ((hs.mask [true, true]).pick []) hf } }
    {
    refine W.cond_false (bool_tr rfl hc84) ?_
    refine W.seqK fun K107 hK107 => ?_
    refine W.region ?_
    refine WL.bin (v := .bool (x82 == 1)) rfl rfl (ib_eql _ _ _) ?_
    refine WL.assign (v := .bool (x82 == 1)) rfl ?_
    refine WL.nil ?_
    refine hK107 _ _ ?_
    rcases iteE hf with ⟨hc108, hf⟩ | ⟨hc108, hf⟩
    {
    refine W.cond_true (bool_tr rfl hc108) ?_
    obtain ⟨x109, hxx109, hf⟩ := bindE hf
    obtain ⟨x110, ex110, hf⟩ := letE hf
    obtain ⟨x111, hxx111, hf⟩ := bindE hf
    refine W.any (by kernel_rfl) 8 1 [true, true, true, true, true, true, true, true, false] rfl rfl (poAt [pv (.pointer (some ⟨g19, 0, none⟩)), pv (.slice a16 n17 c18), pv (.int .i64 x34), pv (.int .i64 x6), pv (.int .i64 x109), pv (.int .i64 x110), po (fun ad => Go.Proofs.YtbbeobiampbddaaL.OwnAt 6 (.slice a16 n17 c18) x34 ad), po (fun ad => OwnAtF 6 5 (.slice a16 n17 c18) x34 ad)]) (Λ := [blk g19 24 [.slice a16 n17 c18], own t_history_Operation 35 (.slice a16 n17 c18) x15.Operations]) hs (by kernel_rfl) (by kernel_rfl) (by kernel_rfl) ⟨⟨⟨⟨⟨⟨⟨⟨trivial, ?_⟩, ?_⟩, ?_⟩, ?_⟩, ?_⟩, ?_⟩, ?_⟩, ?_⟩ ?_
    {
    intro ρ w Γx Λx hs hu hp
    refine WL.fieldAddr (m := 0) ((hu 13 rfl).trans h27_13) FA24_0 rfl ?_
    exact WL.nil ⟨rfl, _, rfl, rfl, hs.cutG 0 0⟩ }
    {
    intro ρ w Γx Λx hs hu hp
    have e114 : ρ 70 = .pointer (some ⟨g19, 0, none⟩) := (hp 0 rfl).1
    refine WL.load1 (v := .slice a16 n17 c18) hs (Λx.length + 0) (getApp rfl) TI22 e114 rfl ?_
    exact WL.nil ⟨rfl, _, rfl, rfl, hs.cutG 0 0⟩ }
    {
    intro ρ w Γx Λx hs hu hp
    refine WL.move (v := .int .i64 x34) (hu 14 rfl) ?_
    exact WL.nil ⟨rfl, _, rfl, rfl, hs.cutG 0 0⟩ }
    {
    intro ρ w Γx Λx hs hu hp
    refine WL.move (v := .int .i64 x6) ((hu 3 rfl).trans h27_3) ?_
    exact WL.nil ⟨rfl, _, rfl, rfl, hs.cutG 0 0⟩ }
    {
    intro ρ w Γx Λx hs hu hp
    have e115 : ρ 73 = .int .i64 x6 := (hp 3 rfl).1
    refine WL.call (vs := [.int .i64 x6, .int .i64 44]) hs FN14 ⟨e115, ⟨rfl, trivial⟩⟩ (fun ok hA => eslaw00_Index.calls (x1 := x6) (x2 := 44) hxx109) ?_
    rintro _ w hs
    exact WL.nil ⟨rfl, _, rfl, rfl, hs.cutG 0 0⟩ }
    {
    intro ρ w Γx Λx hs hu hp
    have e116 : ρ 74 = .int .i64 x109 := (hp 4 rfl).1
    refine WL.bin (v := .int .i64 x110) e116 rfl (ib_as ex110 (ib_sub _ _ _)) ?_
    exact WL.nil ⟨rfl, _, rfl, rfl, hs.cutG 0 0⟩ }
    {
    intro ρ w Γx Λx hs hu hp
    have e117 : ρ 71 = .slice a16 n17 c18 := (hp 1 rfl).1
    have e118 : ρ 72 = .int .i64 x34 := (hp 2 rfl).1
    refine WL.indexAddrO hs (Λx.length + 1) (getApp rfl) UN22 TI35 e117 e118 hxx111 (fun ad112 hatad112 => ?_)
    exact WL.nil ⟨rfl, _, rfl, ⟨ad112, rfl, hatad112⟩, hs.cutG 0 0⟩ }
    {
    intro ρ w Γx Λx hs hu hp
    obtain ⟨ad120, e119, hatad120⟩ := (hp 6 rfl).1
    have e119 : ρ 76 = .pointer (some ad120) := e119
    refine WL.fieldAddrO (OwnAt.f hatad120) e119 FA35_5 rfl (fun ad113 hatad113 => ?_)
    exact WL.nil ⟨rfl, _, rfl, ⟨ad113, rfl, hatad113⟩, hs.cutG 0 0⟩ }
    {
    intro ρ w hs hu121 hp
    obtain ⟨⟨⟨⟨⟨⟨⟨⟨_, hp0_⟩, hp1_⟩, hp2_⟩, hp3_⟩, hp4_⟩, hp5_⟩, hp6_⟩, hp7_⟩ := hp
    have hs : St ok (bz w0) w [vl (tSlice t_api_Effect) x7 (.slice a8 x7.length c9), vl (tSlice t_history_Value) x10 (.slice a11 x10.length c12)] [blk g19 24 [.slice a16 n17 c18], own t_history_Operation 35 (.slice a16 n17 c18) x15.Operations] := hs
    obtain ⟨ad123, e122, hatad123⟩ := hp7_
    have e122 : ρ 77 = .pointer (some ad123) := e122
    have e124 : ρ 75 = .int .i64 x110 := hp5_
    have e125 : ρ 74 = .int .i64 x109 := hp4_
    have e126 : ρ 73 = .int .i64 x6 := hp3_
    have e127 : ρ 72 = .int .i64 x34 := hp2_
    have e128 : ρ 71 = .slice a16 n17 c18 := hp1_
    have e129 : ρ 70 = .pointer (some ⟨g19, 0, none⟩) := hp0_
    refine WA.step [8] (by kernel_rfl) (by simp) ⟨?_, trivial⟩
    obtain ⟨x130, exx130, hf⟩ := letE hf
    refine WL.storeOF (z := x110) (vs := [.int .i64 x110]) (zs := x130) F_history_Operation_Return hs 1 rfl TI3 hatad123 hxx111 e122 e124 rfl (fun ok hA => rfl) exx130 (fun w hs => ?_)
    refine WL.nil ⟨rfl, _, rfl, ?_⟩
    refine WA.done (by kernel_rfl) ?_
    exact Jk38 x130 _ _ ((hu121 13 rfl).trans h27_13) ((hs.mask [true, true]).pick []) hf } }
    {
    refine W.cond_false (bool_tr rfl hc108) ?_
    refine W.seqK fun K131 hK131 => ?_
    refine W.region ?_
    refine WL.bin (v := .bool (x82 == 2)) rfl rfl (ib_eql _ _ _) ?_
    refine WL.assign (v := .bool (x82 == 2)) rfl ?_
    refine WL.nil ?_
    refine hK131 _ _ ?_
    rcases iteE hf with ⟨hc132, hf⟩ | ⟨hc132, hf⟩
    {
    refine W.cond_true (bool_tr rfl hc132) ?_
    obtain ⟨x133, hxx133, hf⟩ := bindE hf
    obtain ⟨x134, ex134, hf⟩ := letE hf
    obtain ⟨x135, hxx135, hf⟩ := bindE hf
    refine W.any (by kernel_rfl) 8 1 [true, true, true, true, true, true, true, true, false] rfl rfl (poAt [pv (.pointer (some ⟨g19, 0, none⟩)), pv (.slice a16 n17 c18), pv (.int .i64 x34), pv (.int .i64 x6), pv (.int .i64 x133), pv (.int .i64 x134), po (fun ad => Go.Proofs.YtbbeobiampbddaaL.OwnAt 6 (.slice a16 n17 c18) x34 ad), po (fun ad => OwnAtF 6 0 (.slice a16 n17 c18) x34 ad)]) (Λ := [blk g19 24 [.slice a16 n17 c18], own t_history_Operation 35 (.slice a16 n17 c18) x15.Operations]) hs (by kernel_rfl) (by kernel_rfl) (by kernel_rfl) ⟨⟨⟨⟨⟨⟨⟨⟨trivial, ?_⟩, ?_⟩, ?_⟩, ?_⟩, ?_⟩, ?_⟩, ?_⟩, ?_⟩ ?_
    {
    intro ρ w Γx Λx hs hu hp
    refine WL.fieldAddr (m := 0) ((hu 13 rfl).trans h27_13) FA24_0 rfl ?_
    exact WL.nil ⟨rfl, _, rfl, rfl, hs.cutG 0 0⟩ }
    {
    intro ρ w Γx Λx hs hu hp
    have e138 : ρ 80 = .pointer (some ⟨g19, 0, none⟩) := (hp 0 rfl).1
    refine WL.load1 (v := .slice a16 n17 c18) hs (Λx.length + 0) (getApp rfl) TI22 e138 rfl ?_
    exact WL.nil ⟨rfl, _, rfl, rfl, hs.cutG 0 0⟩ }
    {
    intro ρ w Γx Λx hs hu hp
    refine WL.move (v := .int .i64 x34) (hu 14 rfl) ?_
    exact WL.nil ⟨rfl, _, rfl, rfl, hs.cutG 0 0⟩ }
    {
    intro ρ w Γx Λx hs hu hp
    refine WL.move (v := .int .i64 x6) ((hu 3 rfl).trans h27_3) ?_
    exact WL.nil ⟨rfl, _, rfl, rfl, hs.cutG 0 0⟩ }
    {
    intro ρ w Γx Λx hs hu hp
    have e139 : ρ 83 = .int .i64 x6 := (hp 3 rfl).1
    refine WL.call (vs := [.int .i64 x6, .int .i64 10]) hs FN14 ⟨e139, ⟨rfl, trivial⟩⟩ (fun ok hA => eslaw00_Index.calls (x1 := x6) (x2 := 10) hxx133) ?_
    rintro _ w hs
    exact WL.nil ⟨rfl, _, rfl, rfl, hs.cutG 0 0⟩ }
    {
    intro ρ w Γx Λx hs hu hp
    have e140 : ρ 84 = .int .i64 x133 := (hp 4 rfl).1
    refine WL.bin (v := .int .i64 x134) rfl e140 (ib_as ex134 (ib_add _ _ _)) ?_
    exact WL.nil ⟨rfl, _, rfl, rfl, hs.cutG 0 0⟩ }
    {
    intro ρ w Γx Λx hs hu hp
    have e141 : ρ 81 = .slice a16 n17 c18 := (hp 1 rfl).1
    have e142 : ρ 82 = .int .i64 x34 := (hp 2 rfl).1
    refine WL.indexAddrO hs (Λx.length + 1) (getApp rfl) UN22 TI35 e141 e142 hxx135 (fun ad136 hatad136 => ?_)
    exact WL.nil ⟨rfl, _, rfl, ⟨ad136, rfl, hatad136⟩, hs.cutG 0 0⟩ }
    {
    intro ρ w Γx Λx hs hu hp
    obtain ⟨ad144, e143, hatad144⟩ := (hp 6 rfl).1
    have e143 : ρ 86 = .pointer (some ad144) := e143
    refine WL.fieldAddrO (OwnAt.f hatad144) e143 FA35_0 rfl (fun ad137 hatad137 => ?_)
    exact WL.nil ⟨rfl, _, rfl, ⟨ad137, rfl, hatad137⟩, hs.cutG 0 0⟩ }
    {
    intro ρ w hs hu145 hp
    obtain ⟨⟨⟨⟨⟨⟨⟨⟨_, hp0_⟩, hp1_⟩, hp2_⟩, hp3_⟩, hp4_⟩, hp5_⟩, hp6_⟩, hp7_⟩ := hp
    have hs : St ok (bz w0) w [vl (tSlice t_api_Effect) x7 (.slice a8 x7.length c9), vl (tSlice t_history_Value) x10 (.slice a11 x10.length c12)] [blk g19 24 [.slice a16 n17 c18], own t_history_Operation 35 (.slice a16 n17 c18) x15.Operations] := hs
    obtain ⟨ad147, e146, hatad147⟩ := hp7_
    have e146 : ρ 87 = .pointer (some ad147) := e146
    have e148 : ρ 85 = .int .i64 x134 := hp5_
    have e149 : ρ 84 = .int .i64 x133 := hp4_
    have e150 : ρ 83 = .int .i64 x6 := hp3_
    have e151 : ρ 82 = .int .i64 x34 := hp2_
    have e152 : ρ 81 = .slice a16 n17 c18 := hp1_
    have e153 : ρ 80 = .pointer (some ⟨g19, 0, none⟩) := hp0_
    refine WA.step [8] (by kernel_rfl) (by simp) ⟨?_, trivial⟩
    obtain ⟨x154, exx154, hf⟩ := letE hf
    refine WL.storeOF (z := x134) (vs := [.int .i64 x134]) (zs := x154) F_history_Operation_Process hs 1 rfl TI3 hatad147 hxx135 e146 e148 rfl (fun ok hA => rfl) exx154 (fun w hs => ?_)
    refine WL.nil ⟨rfl, _, rfl, ?_⟩
    refine WA.done (by kernel_rfl) ?_
    exact Jk38 x154 _ _ ((hu145 13 rfl).trans h27_13) ((hs.mask [true, true]).pick []) hf } }
    {
    refine W.cond_false (bool_tr rfl hc132) ?_
    refine W.seqK fun K155 hK155 => ?_
    refine W.region ?_
    refine WL.bin (v := .bool (x82 == 3)) rfl rfl (ib_eql _ _ _) ?_
    refine WL.assign (v := .bool (x82 == 3)) rfl ?_
    refine WL.nil ?_
    refine hK155 _ _ ?_
    rcases iteE hf with ⟨hc156, hf⟩ | ⟨hc156, hf⟩
    {
    refine W.cond_true (bool_tr rfl hc156) ?_
    obtain ⟨x157, hxx157, hf⟩ := bindE hf
    obtain ⟨x158, ex158, hf⟩ := letE hf
    obtain ⟨x159, hxx159, hf⟩ := bindE hf
    refine W.any (by kernel_rfl) 8 1 [true, true, true, true, true, true, true, true, false] rfl rfl (poAt [pv (.pointer (some ⟨g19, 0, none⟩)), pv (.slice a16 n17 c18), pv (.int .i64 x34), pv (.int .i64 x6), pv (.int .i64 x157), pv (.int .i64 x158), po (fun ad => Go.Proofs.YtbbeobiampbddaaL.OwnAt 6 (.slice a16 n17 c18) x34 ad), po (fun ad => OwnAtF 6 1 (.slice a16 n17 c18) x34 ad)]) (Λ := [blk g19 24 [.slice a16 n17 c18], own t_history_Operation 35 (.slice a16 n17 c18) x15.Operations]) hs (by kernel_rfl) (by kernel_rfl) (by kernel_rfl) ⟨⟨⟨⟨⟨⟨⟨⟨trivial, ?_⟩, ?_⟩, ?_⟩, ?_⟩, ?_⟩, ?_⟩, ?_⟩, ?_⟩ ?_
    {
    intro ρ w Γx Λx hs hu hp
    refine WL.fieldAddr (m := 0) ((hu 13 rfl).trans h27_13) FA24_0 rfl ?_
    exact WL.nil ⟨rfl, _, rfl, rfl, hs.cutG 0 0⟩ }
    {
    intro ρ w Γx Λx hs hu hp
    have e162 : ρ 90 = .pointer (some ⟨g19, 0, none⟩) := (hp 0 rfl).1
    refine WL.load1 (v := .slice a16 n17 c18) hs (Λx.length + 0) (getApp rfl) TI22 e162 rfl ?_
    exact WL.nil ⟨rfl, _, rfl, rfl, hs.cutG 0 0⟩ }
    {
    intro ρ w Γx Λx hs hu hp
    refine WL.move (v := .int .i64 x34) (hu 14 rfl) ?_
    exact WL.nil ⟨rfl, _, rfl, rfl, hs.cutG 0 0⟩ }
    {
    intro ρ w Γx Λx hs hu hp
    refine WL.move (v := .int .i64 x6) ((hu 3 rfl).trans h27_3) ?_
    exact WL.nil ⟨rfl, _, rfl, rfl, hs.cutG 0 0⟩ }
    {
    intro ρ w Γx Λx hs hu hp
    have e163 : ρ 93 = .int .i64 x6 := (hp 3 rfl).1
    refine WL.call (vs := [.int .i64 x6, .int .i64 6]) hs FN14 ⟨e163, ⟨rfl, trivial⟩⟩ (fun ok hA => eslaw00_Index.calls (x1 := x6) (x2 := 6) hxx157) ?_
    rintro _ w hs
    exact WL.nil ⟨rfl, _, rfl, rfl, hs.cutG 0 0⟩ }
    {
    intro ρ w Γx Λx hs hu hp
    have e164 : ρ 94 = .int .i64 x157 := (hp 4 rfl).1
    refine WL.bin (v := .int .i64 x158) e164 rfl (ib_as ex158 (ib_sub _ _ _)) ?_
    exact WL.nil ⟨rfl, _, rfl, rfl, hs.cutG 0 0⟩ }
    {
    intro ρ w Γx Λx hs hu hp
    have e165 : ρ 91 = .slice a16 n17 c18 := (hp 1 rfl).1
    have e166 : ρ 92 = .int .i64 x34 := (hp 2 rfl).1
    refine WL.indexAddrO hs (Λx.length + 1) (getApp rfl) UN22 TI35 e165 e166 hxx159 (fun ad160 hatad160 => ?_)
    exact WL.nil ⟨rfl, _, rfl, ⟨ad160, rfl, hatad160⟩, hs.cutG 0 0⟩ }
    {
    intro ρ w Γx Λx hs hu hp
    obtain ⟨ad168, e167, hatad168⟩ := (hp 6 rfl).1
    have e167 : ρ 96 = .pointer (some ad168) := e167
    refine WL.fieldAddrO (OwnAt.f hatad168) e167 FA35_1 rfl (fun ad161 hatad161 => ?_)
    exact WL.nil ⟨rfl, _, rfl, ⟨ad161, rfl, hatad161⟩, hs.cutG 0 0⟩ }
    {
    intro ρ w hs hu169 hp
    obtain ⟨⟨⟨⟨⟨⟨⟨⟨_, hp0_⟩, hp1_⟩, hp2_⟩, hp3_⟩, hp4_⟩, hp5_⟩, hp6_⟩, hp7_⟩ := hp
    have hs : St ok (bz w0) w [vl (tSlice t_api_Effect) x7 (.slice a8 x7.length c9), vl (tSlice t_history_Value) x10 (.slice a11 x10.length c12)] [blk g19 24 [.slice a16 n17 c18], own t_history_Operation 35 (.slice a16 n17 c18) x15.Operations] := hs
    obtain ⟨ad171, e170, hatad171⟩ := hp7_
    have e170 : ρ 97 = .pointer (some ad171) := e170
    have e172 : ρ 95 = .int .i64 x158 := hp5_
    have e173 : ρ 94 = .int .i64 x157 := hp4_
    have e174 : ρ 93 = .int .i64 x6 := hp3_
    have e175 : ρ 92 = .int .i64 x34 := hp2_
    have e176 : ρ 91 = .slice a16 n17 c18 := hp1_
    have e177 : ρ 90 = .pointer (some ⟨g19, 0, none⟩) := hp0_
    refine WA.step [8] (by kernel_rfl) (by simp) ⟨?_, trivial⟩
    obtain ⟨x178, exx178, hf⟩ := letE hf
    refine WL.storeOF (z := x158) (vs := [.int .i64 x158]) (zs := x178) F_history_Operation_Kind hs 1 rfl TI3 hatad171 hxx159 e170 e172 rfl (fun ok hA => rfl) exx178 (fun w hs => ?_)
    refine WL.nil ⟨rfl, _, rfl, ?_⟩
    refine WA.done (by kernel_rfl) ?_
    exact Jk38 x178 _ _ ((hu169 13 rfl).trans h27_13) ((hs.mask [true, true]).pick []) hf } }
    {
    refine W.cond_false (bool_tr rfl hc156) ?_
    refine W.seqK fun K179 hK179 => ?_
    refine W.region ?_
    refine WL.bin (v := .bool (x82 == 4)) rfl rfl (ib_eql _ _ _) ?_
    refine WL.assign (v := .bool (x82 == 4)) rfl ?_
    refine WL.nil ?_
    refine hK179 _ _ ?_
    rcases iteE hf with ⟨hc180, hf⟩ | ⟨hc180, hf⟩
    {
    refine W.cond_true (bool_tr rfl hc180) ?_
    refine W.region ?_
    refine WL.fieldAddr (m := 0) h27_13 FA24_0 rfl ?_
    refine WL.load1 (v := .slice a16 n17 c18) hs 0 rfl TI22 rfl rfl ?_
    refine WL.move (v := .int .i64 x34) rfl ?_
    refine WL.move (v := .slice a8 x7.length c9) h27_4 ?_
    obtain ⟨x181, hxx181, hf⟩ := bindE hf
    refine WL.indexAddrO hs 1 rfl UN22 TI35 rfl rfl hxx181 (fun ad182 hatad182 => ?_)
    refine WL.fieldAddrO (OwnAt.f hatad182) rfl FA35_2 rfl (fun ad183 hatad183 => ?_)
    obtain ⟨x184, exx184, hf⟩ := letE hf
    refine WL.storeOF (z := x7) (vs := [.slice a8 x7.length c9]) (zs := x184) F_history_Operation_Effects hs 1 rfl TI30 hatad183 hxx181 rfl rfl rfl (fun ok hA => (R_one (hA.get 0 rfl))) exx184 (fun w hs => ?_)
    refine WL.nil ?_
    exact Jk38 x184 _ _ h27_13 ((hs.mask [true, true]).pick []) hf }
    {
    refine W.cond_false (bool_tr rfl hc180) ?_
    refine W.seqK fun K185 hK185 => ?_
    refine W.region ?_
    refine WL.bin (v := .bool (x82 == 5)) rfl rfl (ib_eql _ _ _) ?_
    refine WL.assign (v := .bool (x82 == 5)) rfl ?_
    refine WL.nil ?_
    refine hK185 _ _ ?_
    rcases iteE hf with ⟨hc186, hf⟩ | ⟨hc186, hf⟩
    {
    refine W.cond_true (bool_tr rfl hc186) ?_
    refine W.region ?_
    refine WL.fieldAddr (m := 0) h27_13 FA24_0 rfl ?_
    refine WL.load1 (v := .slice a16 n17 c18) hs 0 rfl TI22 rfl rfl ?_
    refine WL.move (v := .int .i64 x34) rfl ?_
    refine WL.move (v := .slice a11 x10.length c12) h27_5 ?_
    obtain ⟨x187, hxx187, hf⟩ := bindE hf
    refine WL.indexAddrO hs 1 rfl UN22 TI35 rfl rfl hxx187 (fun ad188 hatad188 => ?_)
    refine WL.fieldAddrO (OwnAt.f hatad188) rfl FA35_3 rfl (fun ad189 hatad189 => ?_)
    obtain ⟨x190, exx190, hf⟩ := letE hf
    refine WL.storeOF (z := x10) (vs := [.slice a11 x10.length c12]) (zs := x190) F_history_Operation_Result hs 1 rfl TI31 hatad189 hxx187 rfl rfl rfl (fun ok hA => (R_one (hA.get 1 rfl))) exx190 (fun w hs => ?_)
    refine WL.nil ?_
    exact Jk38 x190 _ _ h27_13 ((hs.mask [true, true]).pick []) hf }
    {
    refine W.cond_false (bool_tr rfl hc186) ?_
    obtain ⟨x191, hxx191, hf⟩ := bindE hf
    obtain ⟨x196, hxx196, hf⟩ := bindE hf
    obtain ⟨x201, hxx201, hf⟩ := bindE hf
    obtain ⟨x203, exx203, hf⟩ := letE hf
    have hs := hs.front 1 rfl
    refine W.anyV (by kernel_rfl) 16 2 [true, true, true, true, true, true, true, true, true, true, true, true, true, true, true, true, false, false] rfl rfl (poAt [pv (.pointer (some ⟨g19, 0, none⟩)), pv (.slice a16 n17 c18), pv (.int .i64 x34), pv (.pointer (some ⟨g19, 0, none⟩)), pv (.slice a16 n17 c18), pv (.pointer (some ⟨g19, 0, none⟩)), pv (.slice a16 n17 c18), po (fun ad => Go.Proofs.YtbbeobiampbddaaL.OwnAt 6 (.slice a16 n17 c18) 0 ad), pq (fun y : List Value => .agg y.toArray) (fun v => [vl t_history_Operation x191 v]) (fun v => []), pv (.pointer (some ⟨g19, 0, none⟩)), pv (.slice a16 n17 c18), pv (.int .i64 x34), po (fun ad => Go.Proofs.YtbbeobiampbddaaL.OwnAt 6 (.slice a16 n17 c18) x34 ad), pq (fun y : List Value => .agg y.toArray) (fun v => [vl t_history_Operation x196 v]) (fun v => []), po (fun ad => Go.Proofs.YtbbeobiampbddaaL.OwnAt 6 (.slice a16 n17 c18) x34 ad), pw (own t_history_Operation 35 (.slice a16 n17 c18) x15.Operations) (own t_history_Operation 35 (.slice a16 n17 c18) x203)]) (tkAt [[], [], [], [], [], [], [], [], [], [], [], [], [], [], [], []]) (tlAt [fun _ => [], fun _ => [], fun _ => [], fun _ => [], fun _ => [], fun _ => [], fun _ => [], fun _ => [], fun _ => [], fun _ => [], fun _ => [], fun _ => [], fun _ => [], fun _ => [], fun _ => [], fun _ => []]) (tkAt [[], [], [], [], [], [], [], [15], [15], [], [], [], [15], [15], [15], []]) (Λ := [blk g19 24 [.slice a16 n17 c18]]) hs (by kernel_rfl) (by kernel_rfl) (by kernel_rfl) (by kernel_rfl) (by kernel_rfl) ⟨⟨⟨⟨⟨⟨⟨⟨⟨⟨⟨⟨⟨⟨⟨⟨trivial, ?_⟩, ?_⟩, ?_⟩, ?_⟩, ?_⟩, ?_⟩, ?_⟩, ?_⟩, ?_⟩, ?_⟩, ?_⟩, ?_⟩, ?_⟩, ?_⟩, ?_⟩, ?_⟩ ?_
    {
    intro ρ w Γx Λx hs hu hu2 hp
    refine WL.fieldAddr (m := 0) ((hu 13 rfl).trans h27_13) FA24_0 rfl ?_
    exact WL.nil ⟨rfl, _, rfl, rfl, hs.cutG 0 0⟩ }
    {
    intro ρ w Γx Λx hs hu hu2 hp
    have e204 : ρ 42 = .pointer (some ⟨g19, 0, none⟩) := (hp 0 rfl).1
    refine WL.load1 (v := .slice a16 n17 c18) hs (Λx.length + 0) (getApp rfl) TI22 e204 rfl ?_
    exact WL.nil ⟨rfl, _, rfl, rfl, hs.cutG 0 0⟩ }
    {
    intro ρ w Γx Λx hs hu hu2 hp
    refine WL.move (v := .int .i64 x34) (hu 14 rfl) ?_
    exact WL.nil ⟨rfl, _, rfl, rfl, hs.cutG 0 0⟩ }
    {
    intro ρ w Γx Λx hs hu hu2 hp
    refine WL.fieldAddr (m := 0) ((hu 13 rfl).trans h27_13) FA24_0 rfl ?_
    exact WL.nil ⟨rfl, _, rfl, rfl, hs.cutG 0 0⟩ }
    {
    intro ρ w Γx Λx hs hu hu2 hp
    have e205 : ρ 45 = .pointer (some ⟨g19, 0, none⟩) := (hp 3 rfl).1
    refine WL.load1 (v := .slice a16 n17 c18) hs (Λx.length + 0) (getApp rfl) TI22 e205 rfl ?_
    exact WL.nil ⟨rfl, _, rfl, rfl, hs.cutG 0 0⟩ }
    {
    intro ρ w Γx Λx hs hu hu2 hp
    refine WL.fieldAddr (m := 0) ((hu 13 rfl).trans h27_13) FA24_0 rfl ?_
    exact WL.nil ⟨rfl, _, rfl, rfl, hs.cutG 0 0⟩ }
    {
    intro ρ w Γx Λx hs hu hu2 hp
    have e206 : ρ 47 = .pointer (some ⟨g19, 0, none⟩) := (hp 5 rfl).1
    refine WL.load1 (v := .slice a16 n17 c18) hs (Λx.length + 0) (getApp rfl) TI22 e206 rfl ?_
    exact WL.nil ⟨rfl, _, rfl, rfl, hs.cutG 0 0⟩ }
    {
    intro ρ w Γx Λx hs hu hu2 hp
    have hs : St ok (bz w0) w (Γx ++ [vl (tSlice t_api_Effect) x7 (.slice a8 x7.length c9), vl (tSlice t_history_Value) x10 (.slice a11 x10.length c12)]) (Λx ++ ([own t_history_Operation 35 (.slice a16 n17 c18) x15.Operations] ++ [blk g19 24 [.slice a16 n17 c18]])) := hs
    have e207 : ρ 48 = .slice a16 n17 c18 := (hp 6 rfl).1
    refine WL.indexAddrO hs (Λx.length + 0) (getApp rfl) UN22 TI35 e207 rfl hxx191 (fun ad192 hatad192 => ?_)
    have hs := hs.backR
    exact WL.nil ⟨rfl, _, rfl, ⟨ad192, rfl, hatad192⟩, hs.cutG 0 0⟩ }
    {
    intro ρ w Γx Λx hs hu hu2 hp
    have hs : St ok (bz w0) w (Γx ++ [vl (tSlice t_api_Effect) x7 (.slice a8 x7.length c9), vl (tSlice t_history_Value) x10 (.slice a11 x10.length c12)]) (Λx ++ ([own t_history_Operation 35 (.slice a16 n17 c18) x15.Operations] ++ [blk g19 24 [.slice a16 n17 c18]])) := hs
    obtain ⟨ad209, e208, hatad209⟩ := (hp 7 rfl).1
    have e208 : ρ 49 = .pointer (some ad209) := e208
    refine WL.loadO hs (Λx.length + 0) (getApp rfl) TI35 (.inl rfl) hatad209 hxx191 e208 (fun v193 hs => ?_)
    obtain ⟨cs194, hl195, rfl⟩ := hs.aggv (n := 6) 0 rfl rfl rfl
    have hs := hs.backR
    have hs := hs.add (it := vl t_history_Operation x191 (.agg cs194.toArray)) fun ok hA => hA.get 0 rfl
    exact WL.nil ⟨rfl, _, rfl, ⟨cs194, rfl⟩, hs.cutG 1 1⟩ }
    {
    intro ρ w Γx Λx hs hu hu2 hp
    refine WL.fieldAddr (m := 0) ((hu 13 rfl).trans h27_13) FA24_0 rfl ?_
    exact WL.nil ⟨rfl, _, rfl, rfl, hs.cutG 0 0⟩ }
    {
    intro ρ w Γx Λx hs hu hu2 hp
    have e210 : ρ 51 = .pointer (some ⟨g19, 0, none⟩) := (hp 9 rfl).1
    refine WL.load1 (v := .slice a16 n17 c18) hs (Λx.length + 0) (getApp rfl) TI22 e210 rfl ?_
    exact WL.nil ⟨rfl, _, rfl, rfl, hs.cutG 0 0⟩ }
    {
    intro ρ w Γx Λx hs hu hu2 hp
    refine WL.move (v := .int .i64 x34) (hu 14 rfl) ?_
    exact WL.nil ⟨rfl, _, rfl, rfl, hs.cutG 0 0⟩ }
    {
    intro ρ w Γx Λx hs hu hu2 hp
    have hs : St ok (bz w0) w (Γx ++ [vl (tSlice t_api_Effect) x7 (.slice a8 x7.length c9), vl (tSlice t_history_Value) x10 (.slice a11 x10.length c12)]) (Λx ++ ([own t_history_Operation 35 (.slice a16 n17 c18) x15.Operations] ++ [blk g19 24 [.slice a16 n17 c18]])) := hs
    have e211 : ρ 52 = .slice a16 n17 c18 := (hp 10 rfl).1
    have e212 : ρ 53 = .int .i64 x34 := (hp 11 rfl).1
    refine WL.indexAddrO hs (Λx.length + 0) (getApp rfl) UN22 TI35 e211 e212 hxx196 (fun ad197 hatad197 => ?_)
    have hs := hs.backR
    exact WL.nil ⟨rfl, _, rfl, ⟨ad197, rfl, hatad197⟩, hs.cutG 0 0⟩ }
    {
    intro ρ w Γx Λx hs hu hu2 hp
    have hs : St ok (bz w0) w (Γx ++ [vl (tSlice t_api_Effect) x7 (.slice a8 x7.length c9), vl (tSlice t_history_Value) x10 (.slice a11 x10.length c12)]) (Λx ++ ([own t_history_Operation 35 (.slice a16 n17 c18) x15.Operations] ++ [blk g19 24 [.slice a16 n17 c18]])) := hs
    obtain ⟨ad214, e213, hatad214⟩ := (hp 12 rfl).1
    have e213 : ρ 54 = .pointer (some ad214) := e213
    refine WL.loadO hs (Λx.length + 0) (getApp rfl) TI35 (.inl rfl) hatad214 hxx196 e213 (fun v198 hs => ?_)
    obtain ⟨cs199, hl200, rfl⟩ := hs.aggv (n := 6) 0 rfl rfl rfl
    have hs := hs.backR
    have hs := hs.add (it := vl t_history_Operation x196 (.agg cs199.toArray)) fun ok hA => hA.get 0 rfl
    exact WL.nil ⟨rfl, _, rfl, ⟨cs199, rfl⟩, hs.cutG 1 1⟩ }
    {
    intro ρ w Γx Λx hs hu hu2 hp
    have hs : St ok (bz w0) w (Γx ++ [vl (tSlice t_api_Effect) x7 (.slice a8 x7.length c9), vl (tSlice t_history_Value) x10 (.slice a11 x10.length c12)]) (Λx ++ ([own t_history_Operation 35 (.slice a16 n17 c18) x15.Operations] ++ [blk g19 24 [.slice a16 n17 c18]])) := hs
    have e215 : ρ 43 = .slice a16 n17 c18 := (hp 1 rfl).1
    have e216 : ρ 44 = .int .i64 x34 := (hp 2 rfl).1
    refine WL.indexAddrO hs (Λx.length + 0) (getApp rfl) UN22 TI35 e215 e216 hxx201 (fun ad202 hatad202 => ?_)
    have hs := hs.backR
    exact WL.nil ⟨rfl, _, rfl, ⟨ad202, rfl, hatad202⟩, hs.cutG 0 0⟩ }
    {
    intro ρ w Γx Λx hs hu hu2 hp
    have hs : St ok (bz w0) w (Γx ++ [vl (tSlice t_api_Effect) x7 (.slice a8 x7.length c9), vl (tSlice t_history_Value) x10 (.slice a11 x10.length c12)]) (Λx ++ ([own t_history_Operation 35 (.slice a16 n17 c18) x15.Operations] ++ [blk g19 24 [.slice a16 n17 c18]])) := hs
    obtain ⟨ad218, e217, hatad218⟩ := (hp 14 rfl).1
    have e217 : ρ 56 = .pointer (some ad218) := e217
    obtain ⟨⟨cs219, e221r⟩, hm222⟩ := hp 8 rfl
    have e221 : ρ 50 = .agg cs219.toArray := e221r
    rw [e221r] at hm222
    have hs := hs.memo1 (it := vl t_history_Operation x191 (.agg cs219.toArray)) (List.mem_append.2 (.inl (hm222 _ (List.mem_of_getElem? (i := 0) rfl))))
    have hl220 := hs.agglen (n := 6) 0 rfl rfl rfl
    refine WL.storeO (y := x191) (vs := cs219) (zs := x203) hs (Λx.length + 0) (getApp rfl) TI35 hatad218 hxx201 e217 e221 rfl (fun ok hA => (R_agg (hA.get 0 rfl) rfl)) exx203 (fun w hs => ?_)
    have hs := hs.backP
    exact WL.nil ⟨rfl, _, rfl, trivial, hs.cutG 0 1⟩ }
    {
    intro ρ w hs hu223 hp
    obtain ⟨⟨⟨⟨⟨⟨⟨⟨⟨⟨⟨⟨⟨⟨⟨⟨_, hp0_⟩, hp1_⟩, hp2_⟩, hp3_⟩, hp4_⟩, hp5_⟩, hp6_⟩, hp7_⟩, hp8_⟩, hp9_⟩, hp10_⟩, hp11_⟩, hp12_⟩, hp13_⟩, hp14_⟩, hp15_⟩ := hp
    have hs : St ok (bz w0) w [vl t_history_Operation x196 (ρ 55), vl t_history_Operation x191 (ρ 50), vl (tSlice t_api_Effect) x7 (.slice a8 x7.length c9), vl (tSlice t_history_Value) x10 (.slice a11 x10.length c12)] [own t_history_Operation 35 (.slice a16 n17 c18) x203, blk g19 24 [.slice a16 n17 c18]] := hs
    obtain ⟨cs224, e226⟩ := hp13_
    have e226 : ρ 55 = .agg cs224.toArray := e226
    try rw [e226] at hs
    have e227 : ρ 53 = .int .i64 x34 := hp11_
    have e228 : ρ 52 = .slice a16 n17 c18 := hp10_
    have e229 : ρ 51 = .pointer (some ⟨g19, 0, none⟩) := hp9_
    obtain ⟨cs230, e232⟩ := hp8_
    have e232 : ρ 50 = .agg cs230.toArray := e232
    try rw [e232] at hs
    have e233 : ρ 48 = .slice a16 n17 c18 := hp6_
    have e234 : ρ 47 = .pointer (some ⟨g19, 0, none⟩) := hp5_
    have e235 : ρ 46 = .slice a16 n17 c18 := hp4_
    have e236 : ρ 45 = .pointer (some ⟨g19, 0, none⟩) := hp3_
    have e237 : ρ 44 = .int .i64 x34 := hp2_
    have e238 : ρ 43 = .slice a16 n17 c18 := hp1_
    have e239 : ρ 42 = .pointer (some ⟨g19, 0, none⟩) := hp0_
    have hl231 := hs.agglen (n := 6) 1 rfl rfl rfl
    have hl225 := hs.agglen (n := 6) 0 rfl rfl rfl
    refine WA.step [16] (by kernel_rfl) (by simp) ⟨?_, trivial⟩
    obtain ⟨x240, hxx240, hf⟩ := bindE hf
    refine WL.indexAddrO hs 0 rfl UN22 TI35 e235 rfl hxx240 (fun ad241 hatad241 => ?_)
    refine WL.nil ⟨rfl, _, rfl, ?_⟩
    refine WA.step [17] (by kernel_rfl) (by simp) ⟨?_, trivial⟩
    obtain ⟨x242, exx242, hf⟩ := letE hf
    refine WL.storeO (y := x196) (vs := cs224) (zs := x242) hs 0 rfl TI35 hatad241 hxx240 rfl e226 rfl (fun ok hA => (R_agg (hA.get 0 rfl) rfl)) exx242 (fun w hs => ?_)
    refine WL.nil ⟨rfl, _, rfl, ?_⟩
    refine WA.done (by kernel_rfl) ?_
    have hs := hs.front 0 rfl
    have hs := hs.front 1 rfl
    exact Jk38 x242 _ _ ((hu223 13 rfl).trans h27_13) ((hs.mask [true, true]).pick []) hf } } } } } } } }
  refine W.region ?_
  refine WL.fieldAddr (m := 0) rfl FA24_0 rfl ?_
  refine WL.load1 (v := .slice a16 n17 c18) hs 0 rfl TI22 rfl rfl ?_
  refine WL.len (v := .slice a16 n17 c18) rfl (len_own hs 1 rfl UN22) ?_
  refine WL.bin (v := .bool (((x15.Operations).length : Int) == 0)) rfl rfl (ib_eql _ _ _) ?_
  refine WL.move (v := .bool (((x15.Operations).length : Int) == 0)) rfl ?_
  rcases iteE hf with ⟨hc243, hf⟩ | ⟨hc243, hf⟩
  {
  refine WL.pass ((wanted_of rfl rfl (bool_tr rfl hc243)).trans rfl) rfl ?_
  refine WL.pass ((wanted_of rfl rfl (bool_tr rfl hc243)).trans rfl) rfl ?_
  refine WL.pass ((wanted_of rfl rfl (bool_tr rfl hc243)).trans rfl) rfl ?_
  refine WL.pickT (v := .bool true) (bool_tr rfl hc243) rfl ?_
  refine WL.move (v := .bool true) rfl ?_
  refine WL.pass ((wanted_of rfl rfl rfl).trans rfl) rfl ?_
  refine WL.pass ((wanted_of rfl rfl rfl).trans rfl) rfl ?_
  refine WL.pass ((wanted_of rfl rfl rfl).trans rfl) rfl ?_
  refine WL.pickT (v := .bool true) rfl rfl ?_
  refine WL.nil ?_
  exact Jk29 true _ _ rfl rfl rfl rfl rfl rfl rfl ((hs.mask [true, true]).pick [1, 2]) hf }
  {
  refine WL.move (v := .slice a8 x7.length c9) rfl ?_ (hg := (wanted_of rfl rfl (bool_tr rfl hc243)).trans rfl)
  refine WL.len (v := .slice a8 x7.length c9) rfl (len_slice UN30) ?_ (hg := (wanted_of rfl rfl (bool_tr rfl hc243)).trans rfl)
  refine WL.bin (v := .bool (decide (10 < (x7.length : Int)))) rfl rfl (ib_gtr _ _ _) ?_ (hg := (wanted_of rfl rfl (bool_tr rfl hc243)).trans rfl)
  refine WL.pickF (v := .bool (decide (10 < (x7.length : Int)))) (bool_tr rfl hc243) rfl ?_
  refine WL.move (v := .bool (decide (10 < (x7.length : Int)))) rfl ?_
  rcases iteE hf with ⟨hc244, hf⟩ | ⟨hc244, hf⟩
  {
  refine WL.pass ((wanted_of rfl rfl (bool_tr rfl hc244)).trans rfl) rfl ?_
  refine WL.pass ((wanted_of rfl rfl (bool_tr rfl hc244)).trans rfl) rfl ?_
  refine WL.pass ((wanted_of rfl rfl (bool_tr rfl hc244)).trans rfl) rfl ?_
  refine WL.pickT (v := .bool true) (bool_tr rfl hc244) rfl ?_
  refine WL.nil ?_
  exact Jk29 true _ _ rfl rfl rfl rfl rfl rfl rfl ((hs.mask [true, true]).pick [1, 2]) hf }
  {
  refine WL.move (v := .slice a11 x10.length c12) rfl ?_ (hg := (wanted_of rfl rfl (bool_tr rfl hc244)).trans rfl)
  refine WL.len (v := .slice a11 x10.length c12) rfl (len_slice UN31) ?_ (hg := (wanted_of rfl rfl (bool_tr rfl hc244)).trans rfl)
  refine WL.bin (v := .bool (decide (10 < (x10.length : Int)))) rfl rfl (ib_gtr _ _ _) ?_ (hg := (wanted_of rfl rfl (bool_tr rfl hc244)).trans rfl)
  refine WL.pickF (v := .bool (decide (10 < (x10.length : Int)))) (bool_tr rfl hc244) rfl ?_
  refine WL.nil ?_
  exact Jk29 (decide (10 < (x10.length : Int))) _ _ rfl rfl rfl rfl rfl rfl rfl ((hs.mask [true, true]).pick [1, 2]) hf } } }


end Go.Proofs.Ytbbeobiampbddaa
set_option linter.unusedVariables false
set_option linter.unusedSimpArgs false
namespace Go.Proofs.YtbbeobiampbddaaL
open Go

theorem w64 {x : Int} (h1 : -9223372036854775808 ≤ x) (h2 : x ≤ 9223372036854775807) : IntKind.i64.wrap x = x := by
  simp only [IntKind.wrap, IntKind.bits, IntKind.signed]; simp; split <;> omega
theorem w64n {k : Nat} (h : k < 9223372036854775807) : IntKind.i64.wrap ((k : Int) + 1) = ((k + 1 : Nat) : Int) := by
  rw [w64 (by omega) (by omega)]; omega
theorem idx_nat {α : Type} {xs : List α} {k : Nat} (h : k < xs.length) : idx xs (k : Int) = some xs[k] := by
  unfold idx
  rw [if_pos (by omega)]
  simp [h]
theorem idx_zero {α : Type} {x : α} {xs : List α} : idx (x :: xs) 0 = some x := rfl
theorem app_of {α : Type} {b : Nat} {xs ys : List α} (h : (xs.length + ys.length) * b ≤ 140737488355328) : app b xs ys = some (xs ++ ys) := if_pos h
theorem letV_of {α β : Type} (e : α) (f : α → Option β) : letV e f = f e := rfl
theorem loopO_up {σ β : Type} {step : σ → Option (σ ⊕ β)} (f : Nat → σ) (n : Nat) {b : β} (hs : ∀ k, k < n → step (f k) = some (.inl (f (k + 1)))) (he : step (f n) = some (.inr b)) : loopO step (f 0) = some b := by
  have : ∀ m k, k + m = n → loopO step (f k) = some b := by
    intro m
    induction m with
    | zero => intro k hk; have : k = n := by omega
              subst this; exact loopO_done he
    | succ m ih => intro k hk; rw [loopO_next (hs k (by omega))]; exact ih (k + 1) (by omega)
  exact this n 0 (by omega)
theorem loopO_inv {σ β : Type} {step : σ → Option (σ ⊕ β)} (I : Nat → σ → Prop) (n : Nat) {s0 : σ} {Q : β → Prop} (h0 : I 0 s0)
    (hs : ∀ k s, k < n → I k s → ∃ s', step s = some (.inl s') ∧ I (k + 1) s') (he : ∀ s, I n s → ∃ b, step s = some (.inr b) ∧ Q b) : ∃ b, loopO step s0 = some b ∧ Q b := by
  have : ∀ m k s, k + m = n → I k s → ∃ b, loopO step s = some b ∧ Q b := by
    intro m
    induction m with
    | zero =>
      intro k s hk hI
      have : k = n := by omega
      subst this
      obtain ⟨b, h1, h2⟩ := he s hI
      exact ⟨b, loopO_done h1, h2⟩
    | succ m ih =>
      intro k s hk hI
      obtain ⟨s', h1, h2⟩ := hs k s (by omega) hI
      rw [loopO_next h1]
      exact ih (k + 1) s' (by omega) h2
  exact this n 0 s0 (by omega) h0
theorem loopO_ex {σ β : Type} {step : σ → Option (σ ⊕ β)} (I : Nat → σ → Prop) (n : Nat) {s0 : σ} {Q : β → Prop} (h0 : I 0 s0)
    (hs : ∀ k s, k < n → I k s → (∃ s', step s = some (.inl s') ∧ I (k + 1) s') ∨ ∃ b, step s = some (.inr b) ∧ Q b) (he : ∀ s, I n s → ∃ b, step s = some (.inr b) ∧ Q b) : ∃ b, loopO step s0 = some b ∧ Q b := by
  have : ∀ m k s, k + m = n → I k s → ∃ b, loopO step s = some b ∧ Q b := by
    intro m
    induction m with
    | zero =>
      intro k s hk hI
      have : k = n := by omega
      subst this
      obtain ⟨b, h1, h2⟩ := he s hI
      exact ⟨b, loopO_done h1, h2⟩
    | succ m ih =>
      intro k s hk hI
      rcases hs k s (by omega) hI with ⟨s', h1, h2⟩ | ⟨b, h1, h2⟩
      · rw [loopO_next h1]
        exact ih (k + 1) s' (by omega) h2
      · exact ⟨b, loopO_done h1, h2⟩
  exact this n 0 s0 (by omega) h0
theorem take_snoc {α : Type} {xs : List α} {k : Nat} (h : k < xs.length) : xs.take (k + 1) = xs.take k ++ [xs[k]] := by
  rw [List.take_succ_eq_append_getElem h]
theorem foldO_app {κ σ β : Type} {step : κ → σ → Option (σ ⊕ β)} {g : κ → σ → σ} (hs : ∀ k s, step k s = some (.inl (g k s))) : ∀ (l : List κ) (s : σ), foldO step l s = some (.inl (l.foldl (fun s k => g k s) s))
  | [], s => rfl
  | k :: l, s => by rw [foldO, hs]; exact foldO_app hs l (g k s)
theorem mset_keys {κ β : Type} [BEq κ] [LawfulBEq κ] (k : κ) (y : β) : ∀ l : List (κ × β), (l.map (·.1)).Nodup → ((mset l k y).map (·.1)).Nodup ∧ ∀ x, x ∈ (mset l k y).map (·.1) → x = k ∨ x ∈ l.map (·.1)
  | [], _ => by simp [mset]
  | e :: l, h => by
    simp only [List.map_cons, List.nodup_cons] at h
    unfold mset
    by_cases hk : k == e.1
    · rw [if_pos hk]
      simp only [List.map_cons, List.nodup_cons]
      exact ⟨h, fun x hx => .inr hx⟩
    · rw [if_neg hk]
      obtain ⟨h1, h2⟩ := mset_keys k y l h.2
      simp only [List.map_cons, List.nodup_cons]
      refine ⟨⟨fun hm => ?_, h1⟩, fun x hx => ?_⟩
      · rcases h2 _ hm with h3 | h3
        · exact hk (by simp [h3])
        · exact h.1 h3
      · rcases List.mem_cons.1 hx with hx | hx
        · exact .inr (List.mem_cons.2 (.inl hx))
        · rcases h2 x hx with h3 | h3
          · exact .inl h3
          · exact .inr (List.mem_cons.2 (.inr h3))
theorem mset_length {κ β : Type} [BEq κ] (k : κ) (y : β) : ∀ l : List (κ × β), (mset l k y).length ≤ l.length + 1
  | [] => by simp [mset]
  | e :: l => by
    unfold mset
    split
    · simp
    · have := mset_length k y l
      simp only [List.length_cons]
      omega
theorem mset_lookup {κ β : Type} [BEq κ] [LawfulBEq κ] (k : κ) (y : β) (x : κ) : ∀ l : List (κ × β), (mset l k y).lookup x = if x == k then some y else l.lookup x
  | [] => by
    simp only [mset, List.lookup]
    cases h : x == k <;> simp
  | e :: l => by
    unfold mset
    by_cases hk : k == e.1
    · rw [if_pos hk]
      have he : k = e.1 := by simpa using hk
      simp only [List.lookup, ← he]
      cases h : x == k <;> simp
    · rw [if_neg hk]
      have ih := mset_lookup k y x l
      simp only [List.lookup]
      cases h : x == e.1 with
      | true =>
        have : (x == k) = false := by
          have hx : x = e.1 := by simpa using h
          rw [hx]
          cases h2 : e.1 == k with
          | false => rfl
          | true => have : e.1 = k := by simpa using h2
                    exact absurd (by simp [this]) hk
        simp [this]
      | false => simpa using ih
end Go.Proofs.YtbbeobiampbddaaL
set_option linter.unusedVariables false
set_option linter.unusedSimpArgs false
namespace Go.Proofs.YtbbeobiampbddaaL
open Go

theorem loopO_congr {σ β : Type} {f g : σ → Option (σ ⊕ β)} (h : ∀ s, f s = g s) (s : σ) : loopO f s = loopO g s := by
  rw [show f = g from funext h]
theorem lt_of_len {k n : Nat} (h : k < n) : decide ((k : Int) < (n : Int)) = true := by simpa using h
theorem not_lt_len {n : Nat} : decide ((n : Int) < (n : Int)) = false := by simp
theorem wcast {k n : Nat} (hk : k < n) (h : n ≤ 4611686018427387904) : IntKind.i64.wrap ((k : Int) + 1) = ((k + 1 : Nat) : Int) := w64n (by omega)
end Go.Proofs.YtbbeobiampbddaaL
set_option linter.unusedVariables false
set_option linter.unusedSimpArgs false
namespace Go.Proofs.Ytbbeobiampbddaa
open Go Go.Proofs.YtbbeobiampbddaaL
section
variable {α : Type} (key : α → List UInt8)
abbrev SA (l : List α) : Prop := l.Pairwise fun a b => Op.bytesLess (key a) (key b) = true
def upd (k : List UInt8) (g : Option α → α) : List α → List α
  | [] => [g none]
  | a :: l => if Op.bytesLess (key a) k then a :: upd k g l else if key a == k then g (some a) :: l else g none :: a :: l
def get (l : List α) (k : List UInt8) : Option α := l.find? fun a => key a == k
variable {key}
theorem get_nil (k : List UInt8) : get key [] k = none := rfl
theorem get_cons (a : α) (l : List α) (k : List UInt8) : get key (a :: l) k = if key a = k then some a else get key l k := by
  unfold get
  rw [List.find?_cons]
  by_cases h : key a = k
  · rw [if_pos h, show (key a == k) = true by simp [h]]
  · rw [if_neg h, show (key a == k) = false by simp [h]]
theorem get_key {l : List α} {k : List UInt8} {a : α} (h : get key l k = some a) : key a = k := by
  unfold get at h
  simpa using List.find?_some h
theorem get_mem {l : List α} {k : List UInt8} {a : α} (h : get key l k = some a) : a ∈ l := List.mem_of_find?_eq_some h
theorem get_none_of {l : List α} {k : List UInt8} (h : ∀ a ∈ l, key a ≠ k) : get key l k = none := by
  unfold get
  rw [List.find?_eq_none]
  intro a ha
  simpa using h a ha
theorem get_some_iff {l : List α} {k : List UInt8} : (get key l k).isSome = true ↔ ∃ a ∈ l, key a = k := by
  unfold get
  rw [List.find?_isSome]
  simp
theorem SA_lt {a : α} {l : List α} (h : SA key (a :: l)) : ∀ b ∈ l, Op.bytesLess (key a) (key b) = true := (List.pairwise_cons.1 h).1
theorem SA_ne {a : α} {l : List α} (h : SA key (a :: l)) : ∀ b ∈ l, key b ≠ key a := fun b hb e => by
  have := SA_lt h b hb
  rw [e, bl_irrefl] at this
  cases this
theorem get_mem_self {l : List α} (h : SA key l) {a : α} (ha : a ∈ l) : get key l (key a) = some a := by
  induction l with
  | nil => simp at ha
  | cons b l ih =>
    rw [get_cons]
    rcases List.mem_cons.1 ha with rfl | ha
    · rw [if_pos rfl]
    · rw [if_neg (fun e => SA_ne h a ha e.symm), ih (List.pairwise_cons.1 h).2 ha]
theorem get_below {a : α} {l : List α} (h : SA key (a :: l)) {k : List UInt8} (hk : Op.bytesLess k (key a) = true) : get key (a :: l) k = none := get_none_of fun b hb => by
  rcases List.mem_cons.1 hb with rfl | hb
  · intro e; rw [e, bl_irrefl] at hk; cases hk
  · intro e
    have := bl_trans hk (SA_lt h b hb)
    rw [e, bl_irrefl] at this
    cases this
theorem get_upd {k : List UInt8} {g : Option α → α} (hg : ∀ o, (∀ a, o = some a → key a = k) → key (g o) = k) (k' : List UInt8) : ∀ {l : List α}, SA key l → get key (upd key k g l) k' = if k' = k then some (g (get key l k)) else get key l k'
  | [], _ => by
    unfold upd
    have e : key (g none) = k := hg none (by simp)
    rw [get_cons, e, get_nil]
    by_cases h : k' = k
    · rw [if_pos h.symm, if_pos h, get_nil]
    · rw [if_neg (fun e => h e.symm), if_neg h]
  | a :: l, hl => by
    have hl' := (List.pairwise_cons.1 hl).2
    unfold upd
    cases h1 : Op.bytesLess (key a) k with
    | true =>
      rw [if_pos rfl, get_cons, get_upd hg k' hl']
      have hne : key a ≠ k := fun e => by rw [e, bl_irrefl] at h1; cases h1
      by_cases h : k' = k
      · rw [if_neg (by rw [h]; exact hne), if_pos h, if_pos h, get_cons, if_neg hne]
      · rw [if_neg h, if_neg h, get_cons]
    | false =>
      rw [if_neg (by simp)]
      by_cases h2 : key a = k
      · rw [if_pos (by simp [h2]), get_cons, hg (some a) (by simp [h2]), get_cons, if_pos h2]
        by_cases h : k' = k
        · rw [if_pos h.symm, if_pos h]
        · rw [if_neg (fun e => h e.symm), if_neg h, get_cons, if_neg (by rw [h2]; exact fun e => h e.symm)]
      · rw [if_neg (by simpa using h2), get_cons, hg none (by simp)]
        have h3 : Op.bytesLess k (key a) = true := by
          cases h4 : Op.bytesLess k (key a) with
          | true => rfl
          | false => exact absurd (bl_tri h1 h4) h2
        by_cases h : k' = k
        · rw [if_pos h.symm, if_pos h, get_below hl h3]
        · rw [if_neg (fun e => h e.symm), if_neg h]
theorem mem_upd {k : List UInt8} {g : Option α → α} : ∀ {l : List α}, SA key l → ∀ x ∈ upd key k g l, x ∈ l ∨ x = g (get key l k)
  | [], _, x, hx => by
    unfold upd at hx
    simp at hx
    exact .inr hx
  | a :: l, hl, x, hx => by
    have hl' := (List.pairwise_cons.1 hl).2
    unfold upd at hx
    cases h1 : Op.bytesLess (key a) k with
    | true =>
      rw [h1, if_pos rfl] at hx
      have hne : key a ≠ k := fun e => by rw [e, bl_irrefl] at h1; cases h1
      rcases List.mem_cons.1 hx with rfl | hx
      · exact .inl (by simp)
      · rw [get_cons, if_neg hne]
        rcases mem_upd hl' x hx with h | h
        · exact .inl (by simp [h])
        · exact .inr h
    | false =>
      rw [h1, if_neg (by simp)] at hx
      by_cases h2 : key a = k
      · rw [if_pos (by simp [h2])] at hx
        rw [get_cons, if_pos h2]
        rcases List.mem_cons.1 hx with h | h
        · exact .inr h
        · exact .inl (by simp [h])
      · rw [if_neg (by simpa using h2)] at hx
        have h3 : Op.bytesLess k (key a) = true := by
          cases h4 : Op.bytesLess k (key a) with
          | true => rfl
          | false => exact absurd (bl_tri h1 h4) h2
        rw [get_below hl h3]
        rcases List.mem_cons.1 hx with h | h
        · exact .inr h
        · exact .inl h
theorem SA_upd {k : List UInt8} {g : Option α → α} (hg : ∀ o, (∀ a, o = some a → key a = k) → key (g o) = k) : ∀ {l : List α}, SA key l → SA key (upd key k g l)
  | [], _ => by unfold upd; exact List.pairwise_singleton _ _
  | a :: l, hl => by
    have hl' := (List.pairwise_cons.1 hl).2
    unfold upd
    cases h1 : Op.bytesLess (key a) k with
    | true =>
      rw [if_pos rfl]
      refine List.pairwise_cons.2 ⟨fun x hx => ?_, SA_upd hg hl'⟩
      rcases mem_upd hl' x hx with h | h
      · exact SA_lt hl x h
      · rw [h, hg _ fun b hb => get_key hb]; exact h1
    | false =>
      rw [if_neg (by simp)]
      by_cases h2 : key a = k
      · rw [if_pos (by simp [h2])]
        refine List.pairwise_cons.2 ⟨fun x hx => ?_, hl'⟩
        rw [hg (some a) (by simp [h2]), ← h2]
        exact SA_lt hl x hx
      · rw [if_neg (by simpa using h2)]
        have h3 : Op.bytesLess k (key a) = true := by
          cases h4 : Op.bytesLess k (key a) with
          | true => rfl
          | false => exact absurd (bl_tri h1 h4) h2
        refine List.pairwise_cons.2 ⟨fun x hx => ?_, hl⟩
        rw [hg none (by simp)]
        rcases List.mem_cons.1 hx with rfl | hx
        · exact h3
        · exact bl_trans h3 (SA_lt hl x hx)
theorem SA_ext : ∀ {l l' : List α}, SA key l → SA key l' → (∀ k, get key l k = get key l' k) → l = l'
  | [], [], _, _, _ => rfl
  | [], b :: l', _, _, h => by
    have := h (key b)
    rw [get_nil, get_cons, if_pos rfl] at this
    cases this
  | a :: l, [], _, _, h => by
    have := h (key a)
    rw [get_nil, get_cons, if_pos rfl] at this
    cases this
  | a :: l, b :: l', hl, hl', h => by
    have hab : key a = key b := by
      refine bl_tri ?_ ?_
      · cases hk : Op.bytesLess (key a) (key b) with
        | false => rfl
        | true =>
          have := h (key a)
          rw [get_below hl' hk, get_cons, if_pos rfl] at this
          cases this
      · cases hk : Op.bytesLess (key b) (key a) with
        | false => rfl
        | true =>
          have := h (key b)
          rw [get_below hl hk, get_cons, if_pos rfl] at this
          cases this
    have e1 : a = b := by
      have := h (key a)
      rw [get_cons, if_pos rfl, get_cons, if_pos hab.symm] at this
      exact Option.some.inj this
    subst e1
    have : l = l' := by
      refine SA_ext (List.pairwise_cons.1 hl).2 (List.pairwise_cons.1 hl').2 fun k => ?_
      by_cases hk : key a = k
      · rw [← hk, get_none_of (SA_ne hl), get_none_of (SA_ne hl')]
      · have := h k
        rw [get_cons, if_neg hk, get_cons, if_neg hk] at this
        exact this
    rw [this]
theorem upd_congr {k : List UInt8} {g g' : Option α → α} (hg : ∀ o, (∀ a, o = some a → key a = k) → key (g o) = k) {l : List α} (hl : SA key l) (h : g (get key l k) = g' (get key l k)) (hg' : ∀ o, (∀ a, o = some a → key a = k) → key (g' o) = k) : upd key k g l = upd key k g' l := by
  refine SA_ext (SA_upd hg hl) (SA_upd hg' hl) fun q => ?_
  rw [get_upd hg q hl, get_upd hg' q hl, h]
end
section
variable {β : Type}
theorem skeys_of {m : List (List UInt8 × β)} (h1 : ∀ x ∈ m, x.1.length ≤ 1000000) (h2 : m.length ≤ 1000000) : skeys m = some ((m.map (·.1)).mergeSort fun a b => decide (a ≤ b)) := by
  unfold skeys
  rw [if_pos ⟨fun x hx => Nat.le_trans (h1 x hx) (by decide), by omega⟩]
theorem sorted_asc {l : List (List UInt8)} (h : l.Nodup) : Asc (l.mergeSort fun a b => decide (a ≤ b)) := by
  have tr : ∀ a b c : List UInt8, (decide (a ≤ b)) = true → (decide (b ≤ c)) = true → (decide (a ≤ c)) = true := fun a b c h1 h2 => by simp only [decide_eq_true_eq] at *; exact List.le_trans h1 h2
  have to : ∀ a b : List UInt8, ((decide (a ≤ b)) || (decide (b ≤ a))) = true := fun a b => by simp only [Bool.or_eq_true, decide_eq_true_eq]; exact List.le_total a b
  have h1 := List.pairwise_mergeSort tr to l
  have h2 : (l.mergeSort fun a b => decide (a ≤ b)).Nodup := (List.mergeSort_perm l _).nodup_iff.2 h
  refine (h1.and h2).imp fun {a b} hab => ?_
  obtain ⟨h3, h4⟩ := hab
  rw [Go.Proofs.bytesLess_eq, decide_eq_true_eq]
  rw [decide_eq_true_eq] at h3
  refine Decidable.byContradiction fun h => ?_
  exact h4 (List.le_antisymm h3 h)
end
end Go.Proofs.Ytbbeobiampbddaa

set_option linter.unusedVariables false
set_option linter.unusedSimpArgs false
namespace Go.Proofs.Ytbbeobiampbddaa
open Go Go.Proofs.YtbbeobiampbddaaL
abbrev FN_ : fold_Field → List UInt8 := fold_Field.Name
abbrev ON_ : fold_Object → List UInt8 := fold_Object.Name
abbrev srtN (l : List (List UInt8)) : List (List UInt8) := l.mergeSort fun a b => decide (a ≤ b)
def canonF (fs : List fold_Field) : List fold_Field := (srtN (fs.map (·.Name))).map fun n => (get FN_ fs n).getD fold_zero
def canonB (x : fold_B) : List fold_Object := (srtN (x.map (·.1))).map fun n => ⟨n, canonF ((x.lookup n).getD [])⟩
theorem loop_app {γ δ : Type} {b : Nat} {ns : List γ} {step : (Int × List δ) → Option ((Int × List δ) ⊕ List δ)} (F : γ → δ)
    (hs : ∀ (k : Nat) (hk : k < ns.length) (out : List δ), step ((k : Int), out) = (app b out [F ns[k]]).bind fun out' => letV (IntKind.i64.wrap ((k : Int) + 1)) fun j => some (.inl (j, out')))
    (he : ∀ out : List δ, step ((ns.length : Int), out) = some (.inr out)) (hb : ns.length * b ≤ 140737488355328) (hn : ns.length ≤ 4611686018427387904) : loopO step (0, []) = some (ns.map F) := by
  have := loopO_up (step := step) (fun k => ((k : Int), (ns.take k).map F)) ns.length (b := ns.map F) (fun k hk => ?_) ?_
  · simpa using this
  · show step ((k : Int), (ns.take k).map F) = _
    rw [hs k hk, app_of (by
      have e : ((ns.take k).map F).length + [F ns[k]].length ≤ ns.length := by simp; omega
      exact Nat.le_trans (Nat.mul_le_mul_right b e) hb)]
    show letV _ _ = _
    rw [letV, wcast hk hn, take_snoc hk, List.map_append]
    rfl
  · show step ((ns.length : Int), (ns.take ns.length).map F) = _
    rw [he, List.take_length]
theorem get_map {α : Type} {key : α → List UInt8} {F : List UInt8 → α} : ∀ {ns : List (List UInt8)}, (∀ n ∈ ns, key (F n) = n) → ∀ k, get key (ns.map F) k = if k ∈ ns then some (F k) else none
  | [], _, k => by simp [get]
  | n :: ns, h, k => by
    rw [List.map_cons, get_cons, h n (by simp), get_map (fun m hm => h m (by simp [hm]))]
    by_cases hk : n = k
    · rw [if_pos hk, if_pos (by simp [hk]), hk]
    · rw [if_neg hk]
      by_cases hm : k ∈ ns
      · rw [if_pos hm, if_pos (by simp [hm])]
      · rw [if_neg hm, if_neg (by simp only [List.mem_cons, not_or]; exact ⟨fun e => hk e.symm, hm⟩)]
theorem SA_map {α : Type} {key : α → List UInt8} {F : List UInt8 → α} {ns : List (List UInt8)} (ha : Asc ns) (h : ∀ n ∈ ns, key (F n) = n) : SA key (ns.map F) := by
  refine List.pairwise_map.2 (ha.imp_of_mem fun {a b} ha hb hab => ?_)
  rw [h a ha, h b hb]
  exact hab
theorem mem_srt {l : List (List UInt8)} {k : List UInt8} : k ∈ srtN l ↔ k ∈ l := (List.mergeSort_perm l _).mem_iff
theorem get_names {fs : List fold_Field} {k : List UInt8} : k ∈ fs.map (·.Name) ↔ (get FN_ fs k).isSome = true := by
  rw [get_some_iff, List.mem_map]
theorem canonF_name (fs : List fold_Field) : ∀ n ∈ srtN (fs.map (·.Name)), FN_ ((get FN_ fs n).getD fold_zero) = n := by
  intro n hn
  rw [mem_srt, get_names] at hn
  cases h : get FN_ fs n with
  | none => rw [h] at hn; cases hn
  | some y => exact get_key h
theorem get_canonF (fs : List fold_Field) (k : List UInt8) : get FN_ (canonF fs) k = get FN_ fs k := by
  unfold canonF
  rw [get_map (canonF_name fs)]
  by_cases h : k ∈ srtN (fs.map (·.Name))
  · rw [if_pos h]
    rw [mem_srt, get_names] at h
    cases hg : get FN_ fs k with
    | none => rw [hg] at h; cases h
    | some y => rfl
  · rw [if_neg h]
    rw [mem_srt, get_names] at h
    cases hg : get FN_ fs k with
    | none => rfl
    | some y => rw [hg] at h; simp at h
theorem SA_canonF {fs : List fold_Field} (h : (fs.map (·.Name)).Nodup) : SA FN_ (canonF fs) := SA_map (sorted_asc h) (canonF_name fs)
theorem get_canonB (x : fold_B) (k : List UInt8) : get ON_ (canonB x) k = (x.lookup k).map fun fs => ⟨k, canonF fs⟩ := by
  unfold canonB
  rw [get_map (fun n _ => rfl)]
  have hm : k ∈ x.map (·.1) ↔ (x.lookup k).isSome = true := by
    induction x with
    | nil => simp
    | cons a x ih =>
      rw [List.map_cons, List.mem_cons, List.lookup_cons]
      cases hk : k == a.1 with
      | true => have : k = a.1 := by simpa using hk
                simp [this]
      | false =>
        have : k ≠ a.1 := by simpa using hk
        simp only [this, false_or]
        exact ih
  by_cases h : k ∈ srtN (x.map (·.1))
  · rw [if_pos h]
    rw [mem_srt, hm] at h
    cases hg : x.lookup k with
    | none => rw [hg] at h; cases h
    | some y => rfl
  · rw [if_neg h]
    rw [mem_srt, hm] at h
    cases hg : x.lookup k with
    | none => rfl
    | some y => rw [hg] at h; simp at h
theorem SA_canonB {x : fold_B} (h : (x.map (·.1)).Nodup) : SA ON_ (canonB x) := SA_map (sorted_asc h) (fun n _ => rfl)
structure GF (n : Nat) (y : fold_Field) : Prop where
  name : y.Name.length ≤ 1000
  asc : Asc y.Elems
  len : y.Elems.length ≤ n
  els : ∀ s ∈ y.Elems, s.length ≤ 1000
  reg : y.Register.S.length ≤ 1000
structure BI (n : Nat) (x : fold_B) : Prop where
  keys : (x.map (·.1)).Nodup
  len : x.length ≤ n
  name : ∀ o ∈ x, o.1.length ≤ 1000
  ne : ∀ o ∈ x, o.2 ≠ []
  names : ∀ o ∈ x, (o.2.map (·.Name)).Nodup
  flen : ∀ o ∈ x, o.2.length ≤ n
  good : ∀ o ∈ x, ∀ y ∈ o.2, GF n y
theorem lookup_mem {β : Type} {x : List (List UInt8 × β)} {k : List UInt8} {b : β} (h : x.lookup k = some b) : (k, b) ∈ x := by
  induction x with
  | nil => cases h
  | cons a x ih =>
    rw [List.lookup_cons] at h
    cases hk : k == a.1 with
    | true =>
      rw [hk] at h
      have e : k = a.1 := by simpa using hk
      have : a = (k, b) := by rw [e]; exact Prod.ext rfl (Option.some.inj h)
      rw [this]; simp
    | false => rw [hk] at h; exact List.mem_cons_of_mem _ (ih h)
theorem lookup_fields (fs : List fold_Field) (k : List UInt8) : (fs.map fun y => (y.Name, y)).lookup k = get FN_ fs k := by
  induction fs with
  | nil => rfl
  | cons a fs ih =>
    rw [List.map_cons, List.lookup_cons, get_cons]
    by_cases h : a.Name = k
    · rw [if_pos h, show (k == a.Name) = true by simp [h]]
    · rw [if_neg h, show (k == a.Name) = false by simpa using fun e => h e.symm]
      exact ih
theorem lookup_frz (x : fold_B) (k : List UInt8) : (fold_frz x).lookup k = (x.lookup k).map fun fs => fs.map fun y => (y.Name, y) := by
  induction x with
  | nil => rfl
  | cons a x ih =>
    unfold fold_frz at ih ⊢
    rw [List.map_cons, List.lookup_cons, List.lookup_cons]
    cases h : k == a.1 with
    | true => rfl
    | false => exact ih
theorem fold_store_eq {n : Nat} {x : fold_B} (h : BI n x) (hn : n ≤ 1000000) : fold_store (fold_frz x) = some ⟨canonB x⟩ := by
  unfold fold_store
  have e1 : skeys (fold_frz x) = some (srtN (x.map (·.1))) := by
    have e0 : (fold_frz x).map (·.1) = x.map (·.1) := by
      unfold fold_frz
      rw [List.map_map]
      rfl
    rw [skeys_of (m := fold_frz x), e0]
    · intro y hy
      unfold fold_frz at hy
      obtain ⟨o, ho, rfl⟩ := List.mem_map.1 hy
      have := h.name o ho
      show o.1.length ≤ _
      omega
    · have := h.len
      unfold fold_frz
      rw [List.length_map]
      omega
  rw [e1, Option.bind_some]
  have hlen : (srtN (x.map (·.1))).length ≤ n := by rw [List.length_mergeSort, List.length_map]; exact h.len
  rw [loop_app (b := 40) (ns := srtN (x.map (·.1))) (fun n => (⟨n, canonF ((x.lookup n).getD [])⟩ : fold_Object)) ?_ ?_ (by omega) (by omega)]
  · rfl
  · intro k hk out
    unfold fold_store.l2
    simp only [lt_of_len hk, if_true, idx_nat hk, Option.bind_some]
    have hmem : (srtN (x.map (·.1)))[k] ∈ x.map (·.1) := mem_srt.1 (List.getElem_mem hk)
    obtain ⟨nm, hnm⟩ : ∃ nm, nm = (srtN (x.map (·.1)))[k] := ⟨_, rfl⟩
    rw [← hnm] at hmem ⊢
    obtain ⟨o, ho, he⟩ := List.mem_map.1 hmem
    have hfs : ∃ fs, x.lookup nm = some fs := by
      cases hl : x.lookup nm with
      | some fs => exact ⟨fs, rfl⟩
      | none =>
        exfalso
        clear hnm hmem hk out h hlen e1 hn
        induction x with
        | nil => simp at ho
        | cons a x ih =>
          rw [List.lookup_cons] at hl
          cases hk : nm == a.1 with
          | true => rw [hk] at hl; cases hl
          | false =>
            rw [hk] at hl
            rcases List.mem_cons.1 ho with rfl | ho
            · rw [he] at hk; simp at hk
            · exact ih ho hl
    obtain ⟨fs, hfs⟩ := hfs
    have hm := lookup_mem hfs
    have hfl : fs.length ≤ n := h.flen _ hm
    rw [lookup_frz, hfs]
    show ((skeys (fs.map fun y => (y.Name, y))).bind _) = _
    have e2 : skeys (fs.map fun y => (y.Name, y)) = some (srtN (fs.map (·.Name))) := by
      rw [skeys_of]
      · rw [List.map_map]; rfl
      · intro y hy
        obtain ⟨z, hz, rfl⟩ := List.mem_map.1 hy
        have := (h.good _ hm z hz).name
        show z.Name.length ≤ _
        omega
      · rw [List.length_map]; omega
    rw [e2, Option.bind_some]
    have hl2 : (srtN (fs.map (·.Name))).length ≤ n := by rw [List.length_mergeSort, List.length_map]; exact hfl
    rw [loop_app (b := 128) (ns := srtN (fs.map (·.Name))) (fun n => (get FN_ fs n).getD fold_zero) ?_ ?_ (by omega) (by omega)]
    · rfl
    · intro k hk out
      unfold fold_store.l1
      simp only [lt_of_len hk, if_true, idx_nat hk, Option.bind_some]
      show ((app 128 out [(((fs.map fun y => (y.Name, y)).lookup _).getD fold_zero)]).bind _) = _
      rw [lookup_fields]
    · intro out
      unfold fold_store.l1
      simp only [not_lt_len, Bool.false_eq_true, if_false]
  · intro out
    unfold fold_store.l2
    simp only [not_lt_len, Bool.false_eq_true, if_false]
end Go.Proofs.Ytbbeobiampbddaa

set_option linter.unusedVariables false
set_option linter.unusedSimpArgs false
namespace Go.Proofs.Ytbbeobiampbddaa
open Go Go.Proofs.YtbbeobiampbddaaL
def newerS (u : api_Update) (r : fold_Register) : Bool := !r.Set || decide (r.Tag < u.Tag ∨ r.Tag = u.Tag ∧ (r.Client < u.Client ∨ r.Client = u.Client ∧ r.Seq < u.Seq))
theorem compare_eq (a b : Int) : cmp_Compare_int a b = some (cmpI a b) := by
  unfold cmp_Compare_int cmp_isNaN_int cmpI
  simp only [Option.bind_some, bne_self_eq_false, Bool.false_eq_true, if_false]
  by_cases h1 : a < b
  · simp [h1]
  · by_cases h2 : b < a <;> simp [h1, h2]
theorem or_eq (a b c : Int) : cmp_Or_int [a, b, c] = some (if a ≠ 0 then a else if b ≠ 0 then b else c) := by
  unfold cmp_Or_int
  have e : loopO (cmp_Or_int.l1 [a, b, c]) 0 = some (if a ≠ 0 then .inr a else if b ≠ 0 then .inr b else if c ≠ 0 then .inr c else .inl ()) := by
    by_cases ha : a = 0
    · rw [loopO_next (s' := 1) (by unfold cmp_Or_int.l1; simp [idx, ha, letV, w64])]
      by_cases hb : b = 0
      · rw [loopO_next (s' := 2) (by unfold cmp_Or_int.l1; simp [idx, hb, letV, w64])]
        by_cases hc : c = 0
        · rw [loopO_next (s' := 3) (by unfold cmp_Or_int.l1; simp [idx, hc, letV, w64]), loopO_done (b := .inl ()) (by unfold cmp_Or_int.l1; simp)]
          simp [ha, hb, hc]
        · rw [loopO_done (b := .inr c) (by unfold cmp_Or_int.l1; simp [idx, hc])]
          simp [ha, hb, hc]
      · rw [loopO_done (b := .inr b) (by unfold cmp_Or_int.l1; simp [idx, hb])]
        simp [ha, hb]
    · rw [loopO_done (b := .inr a) (by unfold cmp_Or_int.l1; simp [idx, ha])]
      simp [ha]
  rw [e, Option.bind_some]
  by_cases ha : a = 0
  · by_cases hb : b = 0
    · by_cases hc : c = 0
      · simp [ha, hb, hc, cmp_Or_int.j1]
      · simp [ha, hb, hc]
    · simp [ha, hb]
  · simp [ha]
theorem cmp_lex (a b c d e f : Int) : (0 < (if cmpI a b ≠ 0 then cmpI a b else if cmpI c d ≠ 0 then cmpI c d else cmpI e f)) ↔ (b < a ∨ b = a ∧ (d < c ∨ d = c ∧ f < e)) := by
  unfold cmpI
  grind
theorem newer_eq (u : api_Update) (r : fold_Register) : fold_newer u r = some (newerS u r) := by
  unfold fold_newer newerS
  cases r.Set with
  | false => rfl
  | true =>
    simp only [Bool.not_true, Bool.false_eq_true, if_false, compare_eq, Option.bind_some, or_eq, fold_newer.j1, Bool.false_or]
    congr 1
    rw [Bool.eq_iff_iff, decide_eq_true_eq, decide_eq_true_eq]
    exact cmp_lex _ _ _ _ _ _
def updF (u : api_Update) (e : api_Effect) (f : fold_Field) : fold_Field :=
  if e.Kind = 1 then (if newerS u f.Register then { f with Register := ⟨true, u.Tag, u.Client, u.Seq, e.N, e.S⟩ } else f) else
  if e.Kind = 2 then (if !f.HasMax || decide (f.Max < e.N) then { f with HasMax := true, Max := e.N } else f) else
  if e.Kind = 3 then { f with Sum := IntKind.i64.wrap (f.Sum + e.N) } else
  if e.Kind = 4 then { f with Elems := insS f.Elems e.S } else
  if e.Kind = 5 then { f with Flag := true } else f
theorem fold_upd_eq {n : Nat} {u : api_Update} {e : api_Effect} {f : fold_Field} (h : GF n f) (hn : n ≤ 1000000) : fold_upd u e f = some (updF u e f) := by
  unfold fold_upd updF
  by_cases h1 : e.Kind = 1
  · simp only [h1, beq_self_eq_true, if_true, newer_eq, Option.bind_some]
    cases newerS u f.Register <;> rfl
  · rw [if_neg (by simpa using h1), if_neg h1]
    by_cases h2 : e.Kind = 2
    · simp only [h2, beq_self_eq_true, if_true]
      cases f.HasMax with
      | false => rfl
      | true =>
        simp only [Bool.not_true, Bool.false_or, Bool.false_eq_true, if_false]
        cases decide (f.Max < e.N) <;> rfl
    · rw [if_neg (by simpa using h2), if_neg h2]
      by_cases h3 : e.Kind = 3
      · simp only [h3, beq_self_eq_true, if_true]
      · rw [if_neg (by simpa using h3), if_neg h3]
        by_cases h4 : e.Kind = 4
        · simp only [h4, beq_self_eq_true, if_true, insO]
          rw [if_pos ⟨h.asc, by have := h.len; omega⟩]
          rfl
        · rw [if_neg (by simpa using h4), if_neg h4]
          by_cases h5 : e.Kind = 5
          · simp only [h5, beq_self_eq_true, if_true]
          · rw [if_neg (by simpa using h5), if_neg h5]
theorem insS_mem : ∀ {l : List (List UInt8)} {s x : List UInt8}, x ∈ insS l s → x = s ∨ x ∈ l
  | [], s, x, h => by simp [insS] at h; exact .inl h
  | a :: l, s, x, h => by
    unfold insS at h
    split at h
    · rcases List.mem_cons.1 h with rfl | h
      · exact .inr (by simp)
      · rcases insS_mem h with h | h
        · exact .inl h
        · exact .inr (by simp [h])
    · split at h
      · exact .inr h
      · rcases List.mem_cons.1 h with rfl | h
        · exact .inl rfl
        · exact .inr h
theorem insS_asc : ∀ {l : List (List UInt8)} {s : List UInt8}, Asc l → Asc (insS l s)
  | [], s, _ => by unfold insS; exact List.pairwise_singleton _ _
  | a :: l, s, h => by
    have h1 := (List.pairwise_cons.1 h).1
    have h2 := (List.pairwise_cons.1 h).2
    unfold insS
    cases hc : Op.bytesLess a s with
    | true =>
      rw [if_pos rfl]
      refine List.pairwise_cons.2 ⟨fun x hx => ?_, insS_asc h2⟩
      rcases insS_mem hx with rfl | hx
      · exact hc
      · exact h1 x hx
    | false =>
      rw [if_neg (by simp)]
      by_cases he : a = s
      · rw [if_pos (by simp [he])]; exact h
      · rw [if_neg (by simpa using he)]
        have hs : Op.bytesLess s a = true := by
          cases hk : Op.bytesLess s a with
          | true => rfl
          | false => exact absurd (bl_tri hc hk) he
        refine List.pairwise_cons.2 ⟨fun x hx => ?_, h⟩
        rcases List.mem_cons.1 hx with rfl | hx
        · exact hs
        · exact bl_trans hs (h1 x hx)
theorem insS_length : ∀ (l : List (List UInt8)) (s : List UInt8), (insS l s).length ≤ l.length + 1
  | [], s => by simp [insS]
  | a :: l, s => by
    unfold insS
    have := insS_length l s
    split
    · simp only [List.length_cons]; omega
    · split <;> simp
theorem updF_name (u : api_Update) (e : api_Effect) (f : fold_Field) : (updF u e f).Name = f.Name := by
  unfold updF
  repeat' split
  all_goals rfl
structure EF (e : api_Effect) : Prop where
  obj : e.Object.length ≤ 1000
  fld : e.Field.length ≤ 1000
  str : e.S.length ≤ 1000
theorem GF.mono {n m : Nat} {y : fold_Field} (h : GF n y) (hm : n ≤ m) : GF m y := ⟨h.name, h.asc, Nat.le_trans h.len hm, h.els, h.reg⟩
theorem GF_upd {n : Nat} {u : api_Update} {e : api_Effect} {f : fold_Field} (h : GF n f) (he : EF e) : GF (n + 1) (updF u e f) := by
  have hm : GF (n + 1) f := h.mono (by omega)
  unfold updF
  split
  · split
    · exact ⟨hm.name, hm.asc, hm.len, hm.els, he.str⟩
    · exact hm
  · split
    · split
      · exact ⟨hm.name, hm.asc, hm.len, hm.els, hm.reg⟩
      · exact hm
    · split
      · exact ⟨hm.name, hm.asc, hm.len, hm.els, hm.reg⟩
      · split
        · refine ⟨hm.name, insS_asc h.asc, Nat.le_trans (insS_length _ _) (by have := h.len; omega), fun s hs => ?_, hm.reg⟩
          rcases insS_mem hs with rfl | hs
          · exact he.str
          · exact h.els s hs
        · split
          · exact ⟨hm.name, hm.asc, hm.len, hm.els, hm.reg⟩
          · exact hm
theorem GF_named {n : Nat} {f : fold_Field} (h : GF n f) {k : List UInt8} (hk : k.length ≤ 1000) : GF n { f with Name := k } := ⟨hk, h.asc, h.len, h.els, h.reg⟩
theorem GF_zero (n : Nat) : GF n fold_zero := ⟨by decide, List.Pairwise.nil, Nat.zero_le _, fun s hs => by simp [fold_zero] at hs, by decide⟩
def inObj (k f : List UInt8) (h : Option fold_Field → fold_Field) : Option fold_Object → fold_Object := fun o => ⟨k, upd FN_ f h ((o.map (·.Fields)).getD [])⟩
theorem inObj_key (k f : List UInt8) (h : Option fold_Field → fold_Field) : ∀ o, (∀ a, o = some a → ON_ a = k) → ON_ (inObj k f h o) = k := fun _ _ => rfl
def inFld (u : api_Update) (e : api_Effect) : Option fold_Field → fold_Field := fun y => updF u e { y.getD fold_zero with Name := e.Field }
theorem inFld_key (u : api_Update) (e : api_Effect) : ∀ o, (∀ a, o = some a → FN_ a = e.Field) → FN_ (inFld u e o) = e.Field := fun _ _ => updF_name _ _ _
def effT (u : api_Update) (objs : List fold_Object) (e : api_Effect) : List fold_Object := upd ON_ e.Object (inObj e.Object e.Field (inFld u e)) objs
theorem get_fput {y : fold_Field} {k : List UInt8} : ∀ {fs : List fold_Field}, get FN_ (fput fold_Field.Name y fs) k = if k = y.Name then some y else get FN_ fs k
  | [] => by
    unfold fput
    rw [get_cons, get_nil]
    by_cases h : y.Name = k
    · rw [if_pos h, if_pos h.symm]
    · rw [if_neg h, if_neg (fun e => h e.symm)]
  | a :: fs => by
    unfold fput
    by_cases h : y.Name = a.Name
    · rw [if_pos (by simp [h]), get_cons, get_cons]
      by_cases hk : y.Name = k
      · rw [if_pos hk, if_pos hk.symm]
      · rw [if_neg hk, if_neg (fun e => hk e.symm), if_neg (by show ¬ a.Name = k; rw [← h]; exact hk)]
    · rw [if_neg (by simpa using h), get_cons, get_cons, get_fput]
      by_cases hk : a.Name = k
      · rw [if_pos hk, if_neg (by rw [← hk]; exact fun e => h e.symm), if_pos hk]
      · rw [if_neg hk, if_neg hk]
theorem fput_mem {y z : fold_Field} : ∀ {fs : List fold_Field}, z ∈ fput fold_Field.Name y fs → z = y ∨ z ∈ fs
  | [], h => by simp [fput] at h; exact .inl h
  | a :: fs, h => by
    unfold fput at h
    split at h
    · rcases List.mem_cons.1 h with h | h
      · exact .inl h
      · exact .inr (by simp [h])
    · rcases List.mem_cons.1 h with h | h
      · exact .inr (by simp [h])
      · rcases fput_mem h with h | h
        · exact .inl h
        · exact .inr (by simp [h])
theorem fput_names {y : fold_Field} : ∀ {fs : List fold_Field}, (fs.map (·.Name)).Nodup → ((fput fold_Field.Name y fs).map (·.Name)).Nodup
  | [], _ => by simp [fput]
  | a :: fs, h => by
    rw [List.map_cons, List.nodup_cons] at h
    unfold fput
    by_cases hk : y.Name = a.Name
    · rw [if_pos (by simp [hk]), List.map_cons, List.nodup_cons, hk]
      exact h
    · rw [if_neg (by simpa using hk), List.map_cons, List.nodup_cons]
      refine ⟨fun hm => ?_, fput_names h.2⟩
      obtain ⟨z, hz, he⟩ := List.mem_map.1 hm
      rcases fput_mem hz with rfl | hz
      · exact hk he
      · exact h.1 (List.mem_map.2 ⟨z, hz, he⟩)
theorem fput_length {y : fold_Field} : ∀ fs : List fold_Field, (fput fold_Field.Name y fs).length ≤ fs.length + 1
  | [] => by simp [fput]
  | a :: fs => by
    unfold fput
    have := fput_length (y := y) fs
    split
    · simp
    · simp only [List.length_cons]; omega
theorem fput_ne {y : fold_Field} (fs : List fold_Field) : fput fold_Field.Name y fs ≠ [] := by
  cases fs with
  | nil => simp [fput]
  | cons a fs => unfold fput; split <;> simp
theorem with_lookup (x : fold_B) (k q : List UInt8) : (fold_with x k).lookup q = if q = k then some ((x.lookup k).getD []) else x.lookup q := by
  unfold fold_with
  cases h : x.lookup k with
  | some fs =>
    simp only [Option.isNone_some, Bool.false_eq_true, if_false, Option.getD_some]
    by_cases hq : q = k
    · rw [if_pos hq, hq, h]
    · rw [if_neg hq]
  | none =>
    simp only [Option.isNone_none, if_true, Option.getD_none]
    revert h
    induction x with
    | nil =>
      intro h
      rw [List.nil_append, List.lookup_cons]
      by_cases hq : q = k
      · rw [if_pos hq, show (q == k) = true by simp [hq]]
      · rw [if_neg hq, show (q == k) = false by simp [hq]]
    | cons a x ih =>
      intro h
      rw [List.lookup_cons] at h
      rw [List.cons_append, List.lookup_cons, List.lookup_cons]
      cases hk : k == a.1 with
      | true => rw [hk] at h; cases h
      | false =>
        rw [hk] at h
        cases hq : q == a.1 with
        | true =>
          have e1 : q = a.1 := by simpa using hq
          have e2 : q ≠ k := fun e => by rw [← e, hq] at hk; cases hk
          rw [if_neg e2]
        | false => exact ih h
theorem set_lookup (x : fold_B) (k q : List UInt8) (y : fold_Field) : (fold_set (fold_with x k) k y).lookup q = if q = k then some (fput fold_Field.Name y ((x.lookup k).getD [])) else x.lookup q := by
  unfold fold_set
  rw [mset_lookup, with_lookup, with_lookup, if_pos rfl]
  by_cases hq : q = k
  · simp [hq]
  · simp [hq]
theorem nodup_lookup {β : Type} : ∀ {x : List (List UInt8 × β)}, (x.map (·.1)).Nodup → ∀ o ∈ x, x.lookup o.1 = some o.2
  | [], _, o, h => by simp at h
  | a :: x, hn, o, h => by
    rw [List.map_cons, List.nodup_cons] at hn
    rw [List.lookup_cons]
    rcases List.mem_cons.1 h with rfl | h
    · simp
    · have : (o.1 == a.1) = false := by
        rw [beq_eq_false_iff_ne]
        exact fun e => hn.1 (List.mem_map.2 ⟨o, h, e⟩)
      rw [this]
      exact nodup_lookup hn.2 o h
theorem set_keys (x : fold_B) (k : List UInt8) (y : fold_Field) (h : (x.map (·.1)).Nodup) : ((fold_set (fold_with x k) k y).map (·.1)).Nodup := by
  have h2 : ((fold_with x k).map (·.1)).Nodup := by
    unfold fold_with
    cases hl : x.lookup k with
    | some fs => simpa using h
    | none =>
      simp only [Option.isNone_none, if_true, List.map_append, List.map_cons, List.map_nil]
      rw [List.nodup_append]
      refine ⟨h, by simp, fun a ha b hb e => ?_⟩
      simp at hb
      subst hb
      subst e
      obtain ⟨o, ho, he⟩ := List.mem_map.1 ha
      have := nodup_lookup h o ho
      rw [he, hl] at this
      cases this
  exact (mset_keys k _ _ h2).1
theorem set_length (x : fold_B) (k : List UInt8) (y : fold_Field) : (fold_set (fold_with x k) k y).length ≤ x.length + 1 := by
  unfold fold_set fold_with
  cases hl : x.lookup k with
  | none =>
    simp only [Option.isNone_none, if_true]
    have : ∀ (l : fold_B) (v : List fold_Field) (v' : List fold_Field), (mset (l ++ [(k, v)]) k v').length ≤ l.length + 1 := by
      intro l v v'
      induction l with
      | nil => simp [mset]
      | cons a l ih =>
        rw [List.cons_append, mset]
        split
        · simp
        · simp only [List.length_cons]; omega
    exact this x _ _
  | some fs =>
    simp only [Option.isNone_some, Bool.false_eq_true, if_false]
    exact mset_length _ _ _
theorem canon_set {x : fold_B} {k : List UInt8} {y : fold_Field} (hk : (x.map (·.1)).Nodup) (hn : ∀ o ∈ x, (o.2.map (·.Name)).Nodup) :
    canonB (fold_set (fold_with x k) k y) = upd ON_ k (inObj k y.Name fun _ => y) (canonB x) := by
  refine SA_ext (SA_canonB (set_keys x k y hk)) (SA_upd (inObj_key k y.Name fun _ => y) (SA_canonB hk)) fun q => ?_
  rw [get_upd (inObj_key k y.Name fun _ => y) q (SA_canonB hk), get_canonB, get_canonB, get_canonB, set_lookup]
  by_cases hq : q = k
  · rw [if_pos hq, if_pos hq, hq]
    show some (⟨k, canonF (fput fold_Field.Name y ((x.lookup k).getD []))⟩ : fold_Object) = some (⟨k, _⟩ : fold_Object)
    congr 2
    have hnn : (((x.lookup k).getD []).map (·.Name)).Nodup := by
      cases hl : x.lookup k with
      | none => simp
      | some fs => exact hn _ (lookup_mem hl)
    have e : (((x.lookup k).map fun fs => (⟨k, canonF fs⟩ : fold_Object)).map (·.Fields)).getD [] = canonF ((x.lookup k).getD []) := by
      cases x.lookup k with
      | none => simp [canonF, srtN]
      | some fs => rfl
    rw [e]
    refine SA_ext (SA_canonF (fput_names hnn)) (SA_upd (fun o _ => rfl) (SA_canonF hnn)) fun p => ?_
    rw [get_upd (fun o _ => rfl) p (SA_canonF hnn), get_canonF, get_canonF, get_fput]
  · rw [if_neg hq, if_neg hq]
theorem find_get {fs : List fold_Field} {f : List UInt8} : fs.find? (fun q => f == q.Name) = get FN_ fs f := by
  unfold get
  congr 1
  funext q
  rw [Bool.eq_iff_iff, beq_iff_eq, beq_iff_eq]
  exact eq_comm
theorem eff_eq {n : Nat} {u : api_Update} {x : fold_B} {e : api_Effect} (h : BI n x) (he : EF e) (hn : n ≤ 1000000) :
    ∃ x', fold_eff u x e = some x' ∧ BI (n + 1) x' ∧ canonB x' = effT u (canonB x) e := by
  unfold fold_eff
  have hat : fold_at (fold_with x e.Object) e.Object e.Field = (get FN_ ((x.lookup e.Object).getD []) e.Field).getD fold_zero := by
    unfold fold_at
    rw [with_lookup, if_pos rfl, Option.getD_some, find_get]
  rw [hat]
  obtain ⟨y0, hy0⟩ : ∃ y0, y0 = (get FN_ ((x.lookup e.Object).getD []) e.Field).getD fold_zero := ⟨_, rfl⟩
  rw [← hy0]
  have hg0 : GF n y0 := by
    rw [hy0]
    cases hl : x.lookup e.Object with
    | none => exact GF_zero n
    | some fs =>
      cases hg : get FN_ fs e.Field with
      | none => simp only [Option.getD_some, hg]; exact GF_zero n
      | some y => simp only [Option.getD_some, hg]; exact h.good _ (lookup_mem hl) y (get_mem hg)
  have hg1 : GF n { y0 with Name := e.Field } := GF_named hg0 he.fld
  rw [fold_upd_eq hg1 hn, Option.bind_some]
  obtain ⟨y1, hy1⟩ : ∃ y1, y1 = updF u e { y0 with Name := e.Field } := ⟨_, rfl⟩
  rw [← hy1]
  have hg2 : GF (n + 1) y1 := by rw [hy1]; exact GF_upd hg1 he
  have hn1 : y1.Name = e.Field := by rw [hy1, updF_name]
  refine ⟨_, rfl, ?_, ?_⟩
  · have hmem : ∀ o ∈ fold_set (fold_with x e.Object) e.Object y1, o = (e.Object, fput fold_Field.Name y1 ((x.lookup e.Object).getD [])) ∨ o ∈ x := by
      intro o ho
      have hl := nodup_lookup (set_keys x e.Object y1 h.keys) o ho
      rw [set_lookup] at hl
      by_cases hq : o.1 = e.Object
      · rw [if_pos hq] at hl
        exact .inl (Prod.ext hq (Option.some.inj hl).symm)
      · rw [if_neg hq] at hl
        exact .inr (lookup_mem hl)
    have hin : ∀ o, o = (e.Object, fput fold_Field.Name y1 ((x.lookup e.Object).getD [])) ∨ o ∈ x → o.1.length ≤ 1000 ∧ o.2 ≠ [] ∧ (o.2.map (·.Name)).Nodup ∧ o.2.length ≤ n + 1 ∧ ∀ y ∈ o.2, GF (n + 1) y := by
      rintro o (rfl | ho)
      · refine ⟨he.obj, fput_ne _, fput_names ?_, ?_, fun y hy => ?_⟩
        · cases hl : x.lookup e.Object with
          | none => simp
          | some fs => exact h.names _ (lookup_mem hl)
        · refine Nat.le_trans (fput_length _) ?_
          cases hl : x.lookup e.Object with
          | none => simp
          | some fs => have := h.flen _ (lookup_mem hl); simpa using this
        · rcases fput_mem hy with rfl | hy
          · exact hg2
          · cases hl : x.lookup e.Object with
            | none => rw [hl] at hy; simp at hy
            | some fs => rw [hl] at hy; exact (h.good _ (lookup_mem hl) y hy).mono (by omega)
      · exact ⟨h.name o ho, h.ne o ho, h.names o ho, by have := h.flen o ho; omega, fun y hy => (h.good o ho y hy).mono (by omega)⟩
    exact ⟨set_keys x e.Object y1 h.keys, Nat.le_trans (set_length _ _ _) (by have := h.len; omega), fun o ho => (hin o (hmem o ho)).1, fun o ho => (hin o (hmem o ho)).2.1, fun o ho => (hin o (hmem o ho)).2.2.1, fun o ho => (hin o (hmem o ho)).2.2.2.1, fun o ho => (hin o (hmem o ho)).2.2.2.2⟩
  · rw [canon_set h.keys h.names]
    unfold effT
    refine upd_congr (inObj_key _ _ _) (SA_canonB h.keys) ?_ (inObj_key _ _ _)
    rw [get_canonB]
    unfold inObj
    have e1 : (((x.lookup e.Object).map fun fs => (⟨e.Object, canonF fs⟩ : fold_Object)).map (·.Fields)).getD [] = canonF ((x.lookup e.Object).getD []) := by
      cases x.lookup e.Object with
      | none => simp [canonF, srtN]
      | some fs => rfl
    have hnn : (((x.lookup e.Object).getD []).map (·.Name)).Nodup := by
      cases hl : x.lookup e.Object with
      | none => simp
      | some fs => exact h.names _ (lookup_mem hl)
    simp only [e1]
    congr 1
    rw [hn1]
    refine upd_congr (g := fun _ => y1) (g' := inFld u e) (fun o _ => hn1) (SA_canonF hnn) ?_ (inFld_key u e)
    rw [get_canonF]
    unfold inFld
    rw [← hy0]
    exact hy1
end Go.Proofs.Ytbbeobiampbddaa

set_option linter.unusedVariables false
set_option linter.unusedSimpArgs false
namespace Go.Proofs.Ytbbeobiampbddaa
open Go Go.Proofs.YtbbeobiampbddaaL
structure GD (n : Nat) (objs : List fold_Object) : Prop where
  asc : SA ON_ objs
  len : objs.length ≤ n
  name : ∀ o ∈ objs, o.Name.length ≤ 1000
  ne : ∀ o ∈ objs, o.Fields ≠ []
  fasc : ∀ o ∈ objs, SA FN_ o.Fields
  flen : ∀ o ∈ objs, o.Fields.length ≤ n
  good : ∀ o ∈ objs, ∀ y ∈ o.Fields, GF n y
theorem GD.mono {n m : Nat} {objs : List fold_Object} (h : GD n objs) (hm : n ≤ m) : GD m objs :=
  ⟨h.asc, Nat.le_trans h.len hm, h.name, h.ne, h.fasc, fun o ho => Nat.le_trans (h.flen o ho) hm, fun o ho y hy => (h.good o ho y hy).mono hm⟩
theorem GD_nil (n : Nat) : GD n [] := ⟨List.Pairwise.nil, Nat.zero_le _, by simp, by simp, by simp, by simp, by simp⟩
def appT (u : api_Update) (objs : List fold_Object) : List fold_Object := u.Effects.foldl (effT u) objs
theorem apply_ex {u : api_Update} {n : Nat} {x : fold_B} (h : BI n x) (he : ∀ e ∈ u.Effects, EF e) (hn : n + u.Effects.length ≤ 1000000) :
    ∃ x', fold_apply u x = some x' ∧ BI (n + u.Effects.length) x' ∧ canonB x' = appT u (canonB x) := by
  unfold fold_apply
  refine loopO_inv (I := fun k s => s.1 = (k : Int) ∧ BI (n + k) s.2 ∧ canonB s.2 = (u.Effects.take k).foldl (effT u) (canonB x)) u.Effects.length ⟨rfl, h, rfl⟩ ?_ ?_
  · rintro k ⟨i, y⟩ hk ⟨hi, h1, h2⟩
    simp only at hi h1 h2
    subst hi
    obtain ⟨x', e1, e2, e3⟩ := eff_eq (u := u) h1 (he _ (List.getElem_mem hk)) (by omega)
    refine ⟨(((k + 1 : Nat) : Int), x'), ?_, rfl, e2, ?_⟩
    · unfold fold_apply.l1
      simp only [lt_of_len hk, if_true, idx_nat hk, Option.bind_some, e1, letV, wcast hk (by omega)]
    · rw [take_snoc hk, List.foldl_append, ← h2, e3]
      rfl
  · rintro ⟨i, y⟩ ⟨hi, h1, h2⟩
    simp only at hi h1 h2
    subst hi
    rw [List.take_length] at h2
    refine ⟨y, ?_, h1, h2⟩
    unfold fold_apply.l1
    simp only [not_lt_len, Bool.false_eq_true, if_false]
theorem clone_eq {l : List (List UInt8)} (h : l.length ≤ 1000000) : slices_Clone_string l = some l := by
  unfold slices_Clone_string
  rw [app_of (by simp; omega)]
  rfl
theorem names_ne {α : Type} {key : α → List UInt8} {l : List α} (h : SA key l) : (l.map key).Nodup := by
  refine List.pairwise_map.2 (h.imp fun {a b} hab e => ?_)
  rw [e, bl_irrefl] at hab
  cases hab
def loaded (objs : List fold_Object) : fold_B := objs.map fun o => (o.Name, o.Fields)
theorem load_fields {n : Nat} {o : fold_Object} (h1 : SA FN_ o.Fields) (h2 : o.Fields.length ≤ n) (h3 : ∀ y ∈ o.Fields, GF n y) (hn : n ≤ 1000000) : loopO (fold_load.l1 o) (0, []) = some o.Fields := by
  have := loopO_up (step := fold_load.l1 o) (fun k => ((k : Int), o.Fields.take k)) o.Fields.length (b := o.Fields) (fun k hk => ?_) ?_
  · exact this
  · have hg := h3 _ (List.getElem_mem hk)
    unfold fold_load.l1
    simp only [lt_of_len hk, if_true, idx_nat hk, Option.bind_some]
    rw [clone_eq (by have := hg.len; omega), Option.bind_some, letV, wcast hk (by omega)]
    have e : fput fold_Field.Name o.Fields[k] (o.Fields.take k) = o.Fields.take (k + 1) := by
      rw [take_snoc hk, fput_none]
      rw [List.find?_eq_none]
      intro y hy
      obtain ⟨j, hj, rfl⟩ := List.getElem_of_mem hy
      rw [List.length_take] at hj
      have := List.pairwise_iff_getElem.1 h1 j k (by omega) hk (by omega)
      rw [List.getElem_take]
      intro he
      have he : o.Fields[k].Name = (o.Fields[j]'(by omega)).Name := by simpa using he
      have this : Op.bytesLess (o.Fields[j]'(by omega)).Name o.Fields[k].Name = true := this
      rw [he, bl_irrefl] at this
      cases this
    rw [show ({ o.Fields[k] with Elems := o.Fields[k].Elems } : fold_Field) = o.Fields[k] from rfl, e]
  · unfold fold_load.l1
    simp only [not_lt_len, Bool.false_eq_true, if_false, List.take_length]
theorem load_eq {n : Nat} {t : fold_Store} (h : GD n t.Objects) (hn : n ≤ 1000000) : fold_load t = some (loaded t.Objects) := by
  unfold fold_load
  have hlen := h.len
  have := loopO_up (step := fold_load.l2 t) (fun k => ((k : Int), loaded (t.Objects.take k))) t.Objects.length (b := loaded t.Objects) (fun k hk => ?_) ?_
  · exact this
  · have hm := List.getElem_mem hk
    unfold fold_load.l2
    simp only [lt_of_len hk, if_true, idx_nat hk, Option.bind_some]
    rw [load_fields (h.fasc _ hm) (h.flen _ hm) (h.good _ hm) hn, Option.bind_some, letV, wcast hk (by omega)]
    have e : mset (loaded (t.Objects.take k)) t.Objects[k].Name t.Objects[k].Fields = loaded (t.Objects.take (k + 1)) := by
      unfold loaded
      rw [take_snoc hk, List.map_append, mset_none]
      · rfl
      · cases hl : (List.map (fun o : fold_Object => (o.Name, o.Fields)) (List.take k t.Objects)).lookup t.Objects[k].Name with
        | none => rfl
        | some fs =>
          exfalso
          obtain ⟨o, ho, he⟩ := List.mem_map.1 (lookup_mem hl)
          have he : o.Name = t.Objects[k].Name := congrArg Prod.fst he
          obtain ⟨j, hj, rfl⟩ := List.getElem_of_mem ho
          rw [List.length_take] at hj
          have := List.pairwise_iff_getElem.1 h.asc j k (by omega) hk (by omega)
          rw [List.getElem_take] at he
          have this : Op.bytesLess (t.Objects[j]'(by omega)).Name t.Objects[k].Name = true := this
          rw [he, bl_irrefl] at this
          cases this
    rw [e]
  · unfold fold_load.l2
    simp only [not_lt_len, Bool.false_eq_true, if_false, List.take_length]
theorem BI_loaded {n : Nat} {objs : List fold_Object} (h : GD n objs) : BI n (loaded objs) := by
  have hm : ∀ o ∈ loaded objs, ∃ p ∈ objs, o = (p.Name, p.Fields) := fun o ho => by
    obtain ⟨p, hp, rfl⟩ := List.mem_map.1 ho
    exact ⟨p, hp, rfl⟩
  refine ⟨?_, by unfold loaded; rw [List.length_map]; exact h.len, fun o ho => ?_, fun o ho => ?_, fun o ho => ?_, fun o ho => ?_, fun o ho => ?_⟩
  · unfold loaded
    rw [List.map_map]
    exact names_ne h.asc
  all_goals obtain ⟨p, hp, rfl⟩ := hm o ho
  · exact h.name p hp
  · exact h.ne p hp
  · exact names_ne (h.fasc p hp)
  · exact h.flen p hp
  · exact h.good p hp
theorem canonF_self {fs : List fold_Field} (h : SA FN_ fs) : canonF fs = fs := SA_ext (SA_canonF (names_ne h)) h fun k => get_canonF fs k
theorem loaded_lookup (objs : List fold_Object) (k : List UInt8) : (loaded objs).lookup k = (get ON_ objs k).map (·.Fields) := by
  induction objs with
  | nil => rfl
  | cons a objs ih =>
    unfold loaded at ih ⊢
    rw [List.map_cons, List.lookup_cons, get_cons]
    by_cases h : ON_ a = k
    · rw [if_pos h, show (k == a.Name) = true by rw [← h]; simp]
      rfl
    · rw [if_neg h, show (k == a.Name) = false by rw [beq_eq_false_iff_ne]; exact fun e => h e.symm]
      exact ih
theorem canon_loaded {n : Nat} {objs : List fold_Object} (h : GD n objs) : canonB (loaded objs) = objs := by
  refine SA_ext (SA_canonB (BI_loaded h).keys) h.asc fun k => ?_
  rw [get_canonB, loaded_lookup]
  cases hg : get ON_ objs k with
  | none => rfl
  | some o =>
    show some (⟨k, canonF o.Fields⟩ : fold_Object) = some o
    rw [canonF_self (h.fasc o (get_mem hg)), ← get_key hg]
theorem canonF_mem {fs : List fold_Field} {y : fold_Field} (h : y ∈ canonF fs) : y ∈ fs := by
  unfold canonF at h
  obtain ⟨n, hn, rfl⟩ := List.mem_map.1 h
  rw [mem_srt, get_names] at hn
  cases hg : get FN_ fs n with
  | none => rw [hg] at hn; cases hn
  | some y => exact get_mem hg
theorem GD_canon {n : Nat} {x : fold_B} (h : BI n x) : GD n (canonB x) := by
  have hm : ∀ o ∈ canonB x, ∃ fs, (o.Name, fs) ∈ x ∧ o.Fields = canonF fs := by
    intro o ho
    have hg := get_mem_self (SA_canonB h.keys) ho
    rw [get_canonB] at hg
    cases hl : x.lookup (ON_ o) with
    | none => rw [hl] at hg; cases hg
    | some fs =>
      rw [hl] at hg
      have := Option.some.inj hg
      exact ⟨fs, lookup_mem hl, by rw [← this]⟩
  refine ⟨SA_canonB h.keys, ?_, fun o ho => ?_, fun o ho => ?_, fun o ho => ?_, fun o ho => ?_, fun o ho y hy => ?_⟩
  · unfold canonB
    rw [List.length_map, List.length_mergeSort, List.length_map]
    exact h.len
  all_goals obtain ⟨fs, h1, h2⟩ := hm o ho
  · exact h.name _ h1
  · rw [h2]
    intro he
    have := congrArg List.length he
    unfold canonF at this
    rw [List.length_map, List.length_mergeSort, List.length_map] at this
    exact h.ne _ h1 (List.length_eq_zero_iff.1 this)
  · rw [h2]; exact SA_canonF (h.names _ h1)
  · rw [h2]
    unfold canonF
    rw [List.length_map, List.length_mergeSort, List.length_map]
    exact h.flen _ h1
  · rw [h2] at hy
    exact h.good _ h1 y (canonF_mem hy)
theorem Apply_eq {n : Nat} {t : fold_Store} {u : api_Update} (h : GD n t.Objects) (he : ∀ e ∈ u.Effects, EF e) (hn : n + u.Effects.length ≤ 1000000) :
    fold_Apply t u = some ⟨appT u t.Objects⟩ ∧ GD (n + u.Effects.length) (appT u t.Objects) := by
  unfold fold_Apply
  obtain ⟨x', e1, e2, e3⟩ := apply_ex (u := u) (BI_loaded h) he hn
  rw [canon_loaded h] at e3
  rw [load_eq h (by omega), Option.bind_some, e1, Option.bind_some, fold_store_eq e2 hn, e3]
  exact ⟨rfl, e3 ▸ GD_canon e2⟩
end Go.Proofs.Ytbbeobiampbddaa

set_option linter.unusedVariables false
namespace Go.Proofs.Ytbbeobiampbddaa
open Go Go.Proofs.YtbbeobiampbddaaL
theorem effect_eq (e : api_Effect) : update_ValidateEffect e = esref14_ValidateEffect e := by
  obtain ⟨k, o, f, n, s⟩ := e
  simp only [update_ValidateEffect, update_ValidateEffect.j7, update_ValidateEffect.j6, update_ValidateEffect.j5, update_ValidateEffect.j4, update_ValidateEffect.j3, update_ValidateEffect.j2, update_ValidateEffect.j1, update_empty,
    esref14_ValidateEffect, esref14_ValidateEffect.j6, esref14_ValidateEffect.j5, esref14_ValidateEffect.j4, esref14_ValidateEffect.j3, esref14_ValidateEffect.j2, esref14_ValidateEffect.j1, Option.bind_some]
  by_cases h1 : k < 1
  · simp [h1]
  by_cases h2 : 5 < k
  · simp [h1, h2]
  simp only [decide_eq_false h1, decide_eq_false h2, Bool.false_eq_true, if_false]
  have e1 : (o == ([] : List UInt8)) = decide (o = []) := by cases o <;> rfl
  have e2 : (f == ([] : List UInt8)) = decide (f = []) := by cases f <;> rfl
  rw [e1, e2]
  generalize decide (o = []) = b1
  generalize decide (f = []) = b2
  generalize decide ((16 : Int) < (o.length : Int)) = c1
  generalize decide ((16 : Int) < (f.length : Int)) = c2
  generalize decide ((32 : Int) < (s.length : Int)) = c3
  generalize decide (n < -1000000) = n1
  generalize decide (1000000 < n) = n2
  generalize (n != 0) = n0
  generalize (s != ([] : List UInt8)) = s0
  have : k = 1 ∨ k = 2 ∨ k = 3 ∨ k = 4 ∨ k = 5 := by omega
  rcases this with rfl | rfl | rfl | rfl | rfl <;> cases b1 <;> cases b2 <;> cases c1 <;> cases c2 <;> cases c3 <;> first | rfl | (cases n1 <;> cases n2 <;> cases n0 <;> cases s0 <;> rfl)
theorem isSome_ite {α : Type} {c : Prop} [Decidable c] {a b : Option α} (h1 : a.isSome = true) (h2 : b.isSome = true) : (if c then a else b).isSome = true := by
  split
  · exact h1
  · exact h2
theorem effect_some (e : api_Effect) : ∃ r, esref14_ValidateEffect e = some r := by
  refine Option.isSome_iff_exists.1 ?_
  simp only [esref14_ValidateEffect, esref14_ValidateEffect.j6, esref14_ValidateEffect.j5, esref14_ValidateEffect.j4, esref14_ValidateEffect.j3, esref14_ValidateEffect.j2, esref14_ValidateEffect.j1]
  repeat' (first | exact rfl | refine isSome_ite ?_ ?_)
def comm (l : List api_Effect) : Bool := l.all fun e => e.Kind != 1
theorem Commutes_eq (u : api_Update) (h : u.Effects.length ≤ 4) : update_Commutes u = some (comm u.Effects) := by
  unfold update_Commutes slices_ContainsFunc_Effect slices_IndexFunc_Effect
  obtain ⟨b, hb, hq⟩ : ∃ b, loopO (slices_IndexFunc_Effect.l1 u.Effects fun p => update_Commutes_1 p) (0 : Int) = some b ∧ (fun b => match b with | .inl _ => comm u.Effects = true | .inr j => 0 ≤ j ∧ comm u.Effects = false) b := by
    refine loopO_ex (fun k s => s = (k : Int) ∧ ∀ e ∈ u.Effects.take k, (e.Kind != 1) = true) u.Effects.length ⟨rfl, by simp⟩ (fun k s hk hI => ?_) (fun s hI => ?_)
    · obtain ⟨rfl, hI⟩ := hI
      unfold slices_IndexFunc_Effect.l1
      simp only [lt_of_len hk, if_true, idx_nat hk, Option.bind_some, update_Commutes_1]
      cases hc : (u.Effects[k].Kind == 1) with
      | true =>
        refine .inr ⟨_, rfl, by show (0 : Int) ≤ (k : Int); omega, ?_⟩
        unfold comm
        rw [List.all_eq_false]
        exact ⟨_, List.getElem_mem hk, by simp [bne, hc]⟩
      | false =>
        refine .inl ⟨((k + 1 : Nat) : Int), by simp only [Bool.false_eq_true, if_false, letV_of, wcast hk (by omega)], rfl, fun e he => ?_⟩
        rw [take_snoc hk] at he
        rcases List.mem_append.1 he with he | he
        · exact hI e he
        · simp at he; subst he; simp [bne, hc]
    · obtain ⟨rfl, hI⟩ := hI
      unfold slices_IndexFunc_Effect.l1
      refine ⟨.inl (), by simp only [not_lt_len, Bool.false_eq_true, if_false], ?_⟩
      show comm u.Effects = true
      rw [List.take_length] at hI
      unfold comm
      rw [List.all_eq_true]
      exact hI
  rw [hb]
  clear hb
  cases b with
  | inl x => rw [show comm u.Effects = true from hq]; rfl
  | inr j => obtain ⟨h0, h1⟩ := hq; rw [h1]; simp [h0]
theorem refCommutes_eq (u : api_Update) (h : u.Effects.length ≤ 4) : esref14_Commutes u = some (comm u.Effects) := by
  unfold esref14_Commutes
  obtain ⟨b, hb, hq⟩ : ∃ b, loopO (esref14_Commutes.l1 u) (0 : Int) = some b ∧ (fun b => match b with | .inl _ => comm u.Effects = true | .inr j => j = false ∧ comm u.Effects = false) b := by
    refine loopO_ex (fun k s => s = (k : Int) ∧ ∀ e ∈ u.Effects.take k, (e.Kind != 1) = true) u.Effects.length ⟨rfl, by simp⟩ (fun k s hk hI => ?_) (fun s hI => ?_)
    · obtain ⟨rfl, hI⟩ := hI
      unfold esref14_Commutes.l1
      simp only [lt_of_len hk, if_true, idx_nat hk, Option.bind_some]
      cases hc : (u.Effects[k].Kind == 1) with
      | true =>
        refine .inr ⟨_, rfl, rfl, ?_⟩
        unfold comm
        rw [List.all_eq_false]
        exact ⟨_, List.getElem_mem hk, by simp [bne, hc]⟩
      | false =>
        refine .inl ⟨((k + 1 : Nat) : Int), by simp only [Bool.false_eq_true, if_false, letV_of, wcast hk (by omega)], rfl, fun e he => ?_⟩
        rw [take_snoc hk] at he
        rcases List.mem_append.1 he with he | he
        · exact hI e he
        · simp at he; subst he; simp [bne, hc]
    · obtain ⟨rfl, hI⟩ := hI
      unfold esref14_Commutes.l1
      refine ⟨.inl (), by simp only [not_lt_len, Bool.false_eq_true, if_false], ?_⟩
      show comm u.Effects = true
      rw [List.take_length] at hI
      unfold comm
      rw [List.all_eq_true]
      exact hI
  rw [hb]
  clear hb
  cases b with
  | inl x => rw [show comm u.Effects = true from hq]; rfl
  | inr j => obtain ⟨h0, h1⟩ := hq; rw [h1]; simp [h0]
theorem effloop_eq (u : api_Update) : loopO (update_Validate.l1 u) 0 = loopO (esref14_ValidateUpdate.l1 u) 0 := by
  refine loopO_congr (fun s => ?_) 0
  unfold update_Validate.l1 esref14_ValidateUpdate.l1
  simp only [effect_eq]
theorem effloop_some (u : api_Update) (h : u.Effects.length ≤ 4) : ∃ b, loopO (esref14_ValidateUpdate.l1 u) 0 = some b := by
  obtain ⟨b, hb, _⟩ : ∃ b, loopO (esref14_ValidateUpdate.l1 u) (0 : Int) = some b ∧ (fun _ => True) b := by
    refine loopO_ex (fun k s => s = (k : Int)) u.Effects.length rfl (fun k s hk hI => ?_) (fun s hI => ?_)
    · subst hI
      unfold esref14_ValidateUpdate.l1
      obtain ⟨r, hr⟩ := effect_some u.Effects[k]
      simp only [lt_of_len hk, if_true, idx_nat hk, Option.bind_some, hr]
      cases hc : (r != 0) with
      | true => exact .inr ⟨_, rfl, trivial⟩
      | false => exact .inl ⟨((k + 1 : Nat) : Int), by simp only [Bool.false_eq_true, if_false, letV_of, wcast hk (by omega)], rfl⟩
    · subst hI
      unfold esref14_ValidateUpdate.l1
      exact ⟨.inl (), by simp only [not_lt_len, Bool.false_eq_true, if_false], trivial⟩
  exact ⟨b, hb⟩
theorem upd_eq (es : List api_Effect) : update_Validate ⟨101, 1, 0, es⟩ = esref14_ValidateUpdate ⟨101, 1, 0, es⟩ ∧ ∃ r, esref14_ValidateUpdate ⟨101, 1, 0, es⟩ = some r := by
  have h1 : update_Validate ⟨101, 1, 0, es⟩ = update_Validate.j3 ⟨101, 1, 0, es⟩ false := by
    simp [update_Validate, update_Validate.j4]
  have h2 : esref14_ValidateUpdate ⟨101, 1, 0, es⟩ = esref14_ValidateUpdate.j3 ⟨101, 1, 0, es⟩ false := by
    simp [esref14_ValidateUpdate, esref06_Client, esref06_Client.j1]
  rw [h1, h2]
  unfold update_Validate.j3 esref14_ValidateUpdate.j3
  simp only [Bool.false_eq_true, if_false]
  cases hz : (((es.length : Nat) : Int) == 0) with
  | true => exact ⟨rfl, _, rfl⟩
  | false =>
    simp only [Bool.false_eq_true, if_false]
    by_cases h4 : 4 < ((es.length : Nat) : Int)
    · rw [decide_eq_true h4]; exact ⟨rfl, _, rfl⟩
    · rw [decide_eq_false h4]
      simp only [Bool.false_eq_true, if_false]
      have hl : (⟨101, 1, 0, es⟩ : api_Update).Effects.length ≤ 4 := by show es.length ≤ 4; omega
      rw [effloop_eq]
      obtain ⟨b, hb⟩ := effloop_some ⟨101, 1, 0, es⟩ hl
      rw [hb]
      cases b with
      | inr x => exact ⟨rfl, _, rfl⟩
      | inl x =>
        simp only [Option.bind_some, update_Validate.j2, esref14_ValidateUpdate.j2, Commutes_eq _ hl, refCommutes_eq _ hl, update_Validate.j1, esref14_ValidateUpdate.j1]
        cases comm es <;> cases decide (1 < ((es.length : Nat) : Int)) <;> exact ⟨rfl, _, rfl⟩
theorem contents_eq (o : history_Operation) : history_contents o = esref39_content o ∧ ∃ r, esref39_content o = some r := by
  unfold history_contents esref39_content
  obtain ⟨h1, r, h2⟩ := upd_eq o.Effects
  rw [h1, h2]
  simp only [Option.bind_some, history_contents.j1, history_contents.j2, esref39_content.j1, esref39_content.j2]
  refine ⟨trivial, Option.isSome_iff_exists.1 ?_⟩
  repeat' (first | exact rfl | refine isSome_ite ?_ ?_)
theorem valid_some (o : history_Operation) : ∃ r, esref39_validOperation o = some r := by
  refine Option.isSome_iff_exists.1 ?_
  simp only [esref39_validOperation, esref39_validOperation.j2, esref39_validOperation.j1, esref06_Client, esref06_Client.j1]
  split <;> simp only [Option.bind_some] <;> repeat' (first | exact rfl | refine isSome_ite ?_ ?_)
end Go.Proofs.Ytbbeobiampbddaa

set_option linter.unusedVariables false
namespace Go.Proofs.Ytbbeobiampbddaa
open Go Go.Proofs.YtbbeobiampbddaaL
noncomputable def vErr (o : history_Operation) : Int := (esref39_validOperation o).getD 0
noncomputable def cErr (o : history_Operation) : Int := (esref39_content o).getD 0
theorem vErr_eq (o : history_Operation) : esref39_validOperation o = some (vErr o) := by
  obtain ⟨r, hr⟩ := valid_some o
  unfold vErr; rw [hr]; rfl
theorem cErr_eq (o : history_Operation) : esref39_content o = some (cErr o) := by
  obtain ⟨_, r, hr⟩ := contents_eq o
  unfold cErr; rw [hr]; rfl
theorem contents_c (o : history_Operation) : history_contents o = some (cErr o) := by rw [(contents_eq o).1, cErr_eq]
def lastCall : List history_Operation → Int
  | [] => 0
  | [o] => o.Call
  | _ :: l => lastCall l
theorem lastCall_snoc : ∀ (l : List history_Operation) (o : history_Operation), lastCall (l ++ [o]) = o.Call
  | [], o => rfl
  | [a], o => rfl
  | a :: b :: l, o => by
    show lastCall (b :: l ++ [o]) = o.Call
    exact lastCall_snoc (b :: l) o
def dupB (prev : List history_Operation) (o : history_Operation) : Bool := prev.any fun k => o.Call == k.Return || (o.Return != 0 && (o.Return == k.Call || o.Return == k.Return))
def stB (prev : List history_Operation) (o : history_Operation) : Bool := prev.any fun k => k.Process == o.Process && decide (o.Call < k.Return)
noncomputable def opErr (prev : List history_Operation) (o : history_Operation) : Int :=
  if vErr o ≠ 0 then vErr o else if decide (0 < prev.length) && decide (o.Call ≤ lastCall prev) then 7 else if cErr o ≠ 0 then cErr o else if dupB prev o then 5 else if stB prev o then 17 else 0
noncomputable def valL : List history_Operation → List history_Operation → Int
  | _, [] => 0
  | prev, o :: l => if opErr prev o ≠ 0 then opErr prev o else valL (prev ++ [o]) l
theorem take_drop_step {xs : List history_Operation} {k : Nat} (hk : k < xs.length) (h : valL [] xs = valL (xs.take k) (xs.drop k)) :
    (opErr (xs.take k) xs[k] ≠ 0 → valL [] xs = opErr (xs.take k) xs[k]) ∧ (opErr (xs.take k) xs[k] = 0 → valL [] xs = valL (xs.take (k + 1)) (xs.drop (k + 1))) := by
  rw [List.drop_eq_getElem_cons hk, valL] at h
  constructor
  · intro hn
    rw [h, if_pos hn]
  · intro hz
    rw [h, if_neg (by simp [hz]), take_snoc hk]
theorem anyLoop {xs : List history_Operation} {f : history_Operation → Bool} {step : Int → Option (Int ⊕ (Unit ⊕ Int))} {n : Nat} {er : Int} (hn : n ≤ xs.length) (hm : xs.length ≤ 30)
    (hs : ∀ k, (hk : k < n) → step (k : Int) = if f (xs[k]'(by omega)) then some (.inr (.inr er)) else some (.inl (IntKind.i64.wrap ((k : Int) + 1)))) (he : step (n : Int) = some (.inr (.inl ()))) :
    loopO step 0 = some (if (xs.take n).any f then .inr er else .inl ()) := by
  obtain ⟨b, hb, hq⟩ : ∃ b, loopO step (0 : Int) = some b ∧ b = (if (xs.take n).any f then .inr er else .inl ()) := by
    refine loopO_ex (fun k s => s = (k : Int) ∧ ∀ o ∈ xs.take k, f o = false) n ⟨rfl, by simp⟩ (fun k s hk hI => ?_) (fun s hI => ?_)
    · obtain ⟨rfl, hI⟩ := hI
      rw [hs k hk]
      have hk' : k < xs.length := by omega
      cases hc : f xs[k] with
      | true =>
        refine .inr ⟨_, rfl, ?_⟩
        rw [if_pos]
        rw [List.any_eq_true]
        refine ⟨xs[k], ?_, hc⟩
        rw [List.mem_take_iff_getElem]
        exact ⟨k, by omega, rfl⟩
      | false =>
        refine .inl ⟨((k + 1 : Nat) : Int), by rw [if_neg (by simp), wcast hk' (by omega)], rfl, fun o ho => ?_⟩
        rw [take_snoc hk'] at ho
        rcases List.mem_append.1 ho with ho | ho
        · exact hI o ho
        · simp at ho; subst ho; exact hc
    · obtain ⟨rfl, hI⟩ := hI
      refine ⟨_, he, ?_⟩
      rw [if_neg]
      rw [List.any_eq_true]
      rintro ⟨o, ho, h⟩
      rw [hI o ho] at h; cases h
  rw [hb, hq]
theorem l1_eq {h : history_History} {k : Nat} (hk : k < h.Operations.length) (hm : h.Operations.length ≤ 30) :
    loopO (esref39_Validate.l1 h k) 0 = some (if stB (h.Operations.take k) h.Operations[k] then .inr 17 else .inl ()) := by
  refine anyLoop (xs := h.Operations) (n := k) (f := fun o => o.Process == h.Operations[k].Process && decide (h.Operations[k].Call < o.Return)) (by omega) hm (fun j hj => ?_) ?_
  · have hj' : j < h.Operations.length := by omega
    unfold esref39_Validate.l1
    have hlt : decide ((j : Int) < (k : Int)) = true := by simpa using hj
    simp only [hlt, if_true, idx_nat hj', idx_nat hk, Option.bind_some, esref39_Validate.j3, letV_of]
    cases h.Operations[j].Process == h.Operations[k].Process <;> simp
  · unfold esref39_Validate.l1
    simp
theorem l2_eq {h : history_History} {k : Nat} (hk : k < h.Operations.length) (hm : h.Operations.length ≤ 30) :
    loopO (esref39_Validate.l2 h k) 0 = some (if dupB (h.Operations.take k) h.Operations[k] then .inr 5 else .inl ()) := by
  refine anyLoop (xs := h.Operations) (n := k) (f := fun o => h.Operations[k].Call == o.Return || (h.Operations[k].Return != 0 && (h.Operations[k].Return == o.Call || h.Operations[k].Return == o.Return))) (by omega) hm (fun j hj => ?_) ?_
  · have hj' : j < h.Operations.length := by omega
    unfold esref39_Validate.l2
    have hlt : decide ((j : Int) < (k : Int)) = true := by simpa using hj
    simp only [hlt, if_true, idx_nat hj', idx_nat hk, Option.bind_some, esref39_Validate.j5, letV_of]
    cases h.Operations[k].Call == h.Operations[j].Return <;> cases h.Operations[k].Return != 0 <;> cases h.Operations[k].Return == h.Operations[j].Call <;> simp
  · unfold esref39_Validate.l2
    simp
theorem lastCall_take {xs : List history_Operation} {k : Nat} (hk : k < xs.length) : lastCall (xs.take (k + 1)) = xs[k].Call := by
  rw [take_snoc hk, lastCall_snoc]
theorem refValidate_eq (h : history_History) (hm : h.Operations.length ≤ 30) : esref39_Validate h = some (valL [] h.Operations) := by
  unfold esref39_Validate
  obtain ⟨b, hb, hq⟩ : ∃ b, loopO (esref39_Validate.l3 h) (0 : Int) = some b ∧ (fun b : Unit ⊕ Int => match b with | .inl _ => valL [] h.Operations = 0 | .inr e => valL [] h.Operations = e) b := by
    refine loopO_ex (fun k s => s = (k : Int) ∧ valL [] h.Operations = valL (h.Operations.take k) (h.Operations.drop k)) h.Operations.length ⟨rfl, rfl⟩ (fun k s hk hI => ?_) (fun s hI => ?_)
    · obtain ⟨rfl, hI⟩ := hI
      obtain ⟨t1, t2⟩ := take_drop_step hk hI
      unfold esref39_Validate.l3
      simp only [lt_of_len hk, if_true, idx_nat hk, Option.bind_some, vErr_eq]
      by_cases hv : vErr h.Operations[k] = 0
      · simp only [hv, bne_self_eq_false, Bool.false_eq_true, if_false]
        have hlen : (h.Operations.take k).length = k := by rw [List.length_take]; omega
        have main : ∀ b : Bool, (decide (0 < (h.Operations.take k).length) && decide (h.Operations[k].Call ≤ lastCall (h.Operations.take k))) = b →
            (∃ s', esref39_Validate.j6 h k b = some (.inl s') ∧ (s' = ((k + 1 : Nat) : Int) ∧ valL [] h.Operations = valL (h.Operations.take (k + 1)) (h.Operations.drop (k + 1)))) ∨ ∃ b', esref39_Validate.j6 h k b = some (.inr b') ∧ (fun b : Unit ⊕ Int => match b with | .inl _ => valL [] h.Operations = 0 | .inr e => valL [] h.Operations = e) b' := by
          intro b hb
          have ho : opErr (h.Operations.take k) h.Operations[k] = if b then 7 else if cErr h.Operations[k] ≠ 0 then cErr h.Operations[k] else if dupB (h.Operations.take k) h.Operations[k] then 5 else if stB (h.Operations.take k) h.Operations[k] then 17 else 0 := by
            unfold opErr
            rw [if_neg (by simp [hv]), hb]
          unfold esref39_Validate.j6
          cases b with
          | true => exact .inr ⟨_, rfl, (t1 (by rw [ho]; simp)).trans (by rw [ho]; rfl)⟩
          | false =>
            simp only [Bool.false_eq_true, if_false, idx_nat hk, Option.bind_some, cErr_eq] at ho ⊢
            by_cases hc : cErr h.Operations[k] = 0
            · rw [if_neg (by simp [hc])] at ho ⊢
              rw [l2_eq hk hm, Option.bind_some]
              cases hd : dupB (h.Operations.take k) h.Operations[k] with
              | true =>
                rw [hd, if_pos rfl] at ho
                exact .inr ⟨_, rfl, (t1 (by rw [ho]; decide)).trans ho⟩
              | false =>
                rw [hd, if_neg (by simp)] at ho
                simp only [Bool.false_eq_true, if_false, esref39_Validate.j4]
                rw [l1_eq hk hm, Option.bind_some]
                cases hs : stB (h.Operations.take k) h.Operations[k] with
                | true =>
                  rw [hs, if_pos rfl] at ho
                  exact .inr ⟨_, rfl, (t1 (by rw [ho]; decide)).trans ho⟩
                | false =>
                  rw [hs, if_neg (by simp)] at ho
                  exact .inl ⟨_, by simp only [Bool.false_eq_true, if_false, esref39_Validate.j2, letV_of, wcast hk (by omega)], rfl, t2 ho⟩
            · have hc' : (cErr h.Operations[k] != 0) = true := by simpa using hc
              rw [if_pos hc] at ho
              rw [if_pos hc']
              exact .inr ⟨_, rfl, (t1 (by rw [ho]; exact hc)).trans ho⟩
        rcases Nat.eq_zero_or_pos k with h0 | h0
        · subst h0
          rw [if_neg (by simp)]
          exact main false (by simp)
        · rw [if_pos (by simpa using h0)]
          have hw : IntKind.i64.wrap ((k : Int) - 1) = ((k - 1 : Nat) : Int) := by rw [w64 (by omega) (by omega)]; omega
          have hk1 : k - 1 < h.Operations.length := by omega
          simp only [letV_of, hw, idx_nat hk1, Option.bind_some]
          refine main _ ?_
          have := lastCall_take hk1
          rw [show k - 1 + 1 = k by omega] at this
          rw [hlen, this, decide_eq_true h0, Bool.true_and]
      · have hv' : (vErr h.Operations[k] != 0) = true := by simpa using hv
        rw [if_pos hv']
        have ho : opErr (h.Operations.take k) h.Operations[k] = vErr h.Operations[k] := by
          unfold opErr
          rw [if_pos hv]
        exact .inr ⟨_, rfl, (t1 (by rw [ho]; exact hv)).trans ho⟩
    · obtain ⟨rfl, hI⟩ := hI
      unfold esref39_Validate.l3
      refine ⟨.inl (), by simp only [not_lt_len, Bool.false_eq_true, if_false], ?_⟩
      show valL [] h.Operations = 0
      rw [hI, List.drop_length, valL]
  rw [hb, Option.bind_some]
  cases b with
  | inl x => rw [show valL [] h.Operations = 0 from hq]; rfl
  | inr e => rw [show valL [] h.Operations = e from hq]
end Go.Proofs.Ytbbeobiampbddaa

set_option linter.unusedVariables false
namespace Go.Proofs.Ytbbeobiampbddaa
open Go Go.Proofs.YtbbeobiampbddaaL
structure VI (prev : List history_Operation) (last : Int) (ev : List (Int × Bool)) (rt : List (Int × Int)) : Prop where
  la : last = lastCall prev
  ord : ∀ o ∈ prev, 1 ≤ o.Call ∧ o.Call ≤ last ∧ (o.Return ≠ 0 → o.Call < o.Return)
  nn : 0 ≤ last
  eve : ∀ e, (ev.lookup e).getD false = true ↔ ∃ o ∈ prev, e = o.Call ∨ (o.Return ≠ 0 ∧ e = o.Return)
  ret : ∀ p c, 0 ≤ c → (c < (rt.lookup p).getD 0 ↔ ∃ o ∈ prev, o.Process = p ∧ c < o.Return)
theorem VI.nil : VI [] 0 [] [] := ⟨rfl, by simp, by omega, by simp, fun p c h => by simp; omega⟩
theorem vErr_zero {o : history_Operation} (h : vErr o = 0) : 1 ≤ o.Call ∧ (o.Return ≠ 0 → o.Call < o.Return) := by
  have h1 := vErr_eq o
  rw [h] at h1
  simp only [esref39_validOperation, esref39_validOperation.j2, esref39_validOperation.j1, esref06_Client, esref06_Client.j1] at h1
  by_cases a1 : 101 ≤ o.Process <;> by_cases a2 : o.Process < 107 <;> by_cases a3 : o.Kind < 1 <;> by_cases a4 : 3 < o.Kind <;> by_cases a5 : o.Call < 1 <;> by_cases a6 : o.Return = 0 <;> by_cases a7 : o.Return ≤ o.Call <;> simp [a1, a2, a3, a4, a5, a6, a7] at h1 <;> constructor <;> omega
theorem VI.next {prev : List history_Operation} {last : Int} {ev : List (Int × Bool)} {rt : List (Int × Int)} (h : VI prev last ev rt) {o : history_Operation} (hv : vErr o = 0) (hl : last < o.Call) {ev' : List (Int × Bool)}
    (he : ev' = if o.Return != 0 then mset (mset ev o.Call true) o.Return true else mset ev o.Call true) :
    VI (prev ++ [o]) o.Call ev' (mset rt o.Process (maxI ((rt.lookup o.Process).getD 0) o.Return)) := by
  obtain ⟨v1, v2⟩ := vErr_zero hv
  refine ⟨(lastCall_snoc _ _).symm, fun q hq => ?_, by omega, fun e => ?_, fun p c hc => ?_⟩
  · rcases List.mem_append.1 hq with hq | hq
    · obtain ⟨a, b, c⟩ := h.ord q hq
      exact ⟨a, by omega, c⟩
    · simp at hq; subst hq; exact ⟨v1, by omega, v2⟩
  · subst he
    have hx : (∃ q ∈ prev ++ [o], e = q.Call ∨ (q.Return ≠ 0 ∧ e = q.Return)) ↔ (∃ q ∈ prev, e = q.Call ∨ (q.Return ≠ 0 ∧ e = q.Return)) ∨ e = o.Call ∨ (o.Return ≠ 0 ∧ e = o.Return) := by
      simp only [List.mem_append, List.mem_singleton, or_and_right, exists_or, exists_eq_left]
    rw [hx, ← h.eve e]
    cases hr : (o.Return != 0) with
    | true =>
      have hr' : o.Return ≠ 0 := by simpa using hr
      simp only [if_true, mset_lookup]
      by_cases e1 : e = o.Return
      · subst e1; simp [hr']
      · have e1' : (e == o.Return) = false := by simpa using e1
        rw [e1']
        by_cases e2 : e = o.Call
        · subst e2; simp
        · have e2' : (e == o.Call) = false := by simpa using e2
          rw [e2']; simp [e1, e2]
    | false =>
      have hr' : o.Return = 0 := by simpa using hr
      simp only [Bool.false_eq_true, if_false, mset_lookup]
      by_cases e2 : e = o.Call
      · subst e2; simp
      · have e2' : (e == o.Call) = false := by simpa using e2
        rw [e2']; simp [e2, hr']
  · have hx : (∃ q ∈ prev ++ [o], q.Process = p ∧ c < q.Return) ↔ (∃ q ∈ prev, q.Process = p ∧ c < q.Return) ∨ (o.Process = p ∧ c < o.Return) := by
      simp only [List.mem_append, List.mem_singleton, or_and_right, exists_or, exists_eq_left]
    rw [hx, ← h.ret p c hc, mset_lookup]
    by_cases e1 : p = o.Process
    · subst e1
      simp only [beq_self_eq_true, if_true, Option.getD_some, true_and]
      unfold maxI
      split <;> omega
    · have e1' : (p == o.Process) = false := by simpa using e1
      rw [e1']
      have : o.Process ≠ p := fun h => e1 h.symm
      simp [this]
theorem dup_iff {prev : List history_Operation} {last : Int} {ev : List (Int × Bool)} {rt : List (Int × Int)} (h : VI prev last ev rt) {o : history_Operation} (hl : last < o.Call) :
    dupB prev o = ((ev.lookup o.Call).getD false || (o.Return != 0 && (ev.lookup o.Return).getD false)) := by
  rw [Bool.eq_iff_iff]
  unfold dupB
  simp only [List.any_eq_true, Bool.or_eq_true, Bool.and_eq_true, h.eve, beq_iff_eq, bne_iff_ne, ne_eq]
  constructor
  · rintro ⟨k, hk, h1 | ⟨h1, h2 | h2⟩⟩
    · refine .inl ⟨k, hk, .inr ⟨fun h0 => ?_, h1⟩⟩
      have := h.nn
      omega
    · exact .inr ⟨h1, k, hk, .inl h2⟩
    · exact .inr ⟨h1, k, hk, .inr ⟨fun h0 => h1 (h2.trans h0), h2⟩⟩
  · rintro (⟨k, hk, h1 | ⟨h1, h2⟩⟩ | ⟨h1, k, hk, h2 | ⟨h2, h3⟩⟩)
    · obtain ⟨a, b, c⟩ := h.ord k hk
      omega
    · exact ⟨k, hk, .inl h2⟩
    · exact ⟨k, hk, .inr ⟨h1, .inl h2⟩⟩
    · exact ⟨k, hk, .inr ⟨h1, .inr h3⟩⟩
theorem st_iff {prev : List history_Operation} {last : Int} {ev : List (Int × Bool)} {rt : List (Int × Int)} (h : VI prev last ev rt) {o : history_Operation} (hl : last < o.Call) :
    stB prev o = decide (o.Call < (rt.lookup o.Process).getD 0) := by
  rw [Bool.eq_iff_iff, decide_eq_true_iff, h.ret _ _ (by have := h.nn; omega)]
  unfold stB
  simp only [List.any_eq_true, Bool.and_eq_true, beq_iff_eq, decide_eq_true_iff]
theorem operation_eq {prev : List history_Operation} {last : Int} {ev : List (Int × Bool)} {rt : List (Int × Int)} (h : VI prev last ev rt) (o : history_Operation) :
    history_validator_operation ⟨last, ev, rt⟩ o = some (opErr prev o, ⟨last, ev, rt⟩) := by
  have hv : ∀ x : Int × history_validator, (if decide (o.Process < 101) = true then history_validator_operation.j4 ⟨last, ev, rt⟩ o true else history_validator_operation.j4 ⟨last, ev, rt⟩ o (decide (107 ≤ o.Process))) = some x ↔
      (if vErr o ≠ 0 then some (vErr o, (⟨last, ev, rt⟩ : history_validator)) else history_validator_operation.j2 ⟨last, ev, rt⟩ o false) = some x := by
    intro x
    have h1 := vErr_eq o
    simp only [esref39_validOperation, esref39_validOperation.j2, esref39_validOperation.j1, esref06_Client, esref06_Client.j1] at h1
    simp only [history_validator_operation.j4, history_validator_operation.j3]
    by_cases a1 : 101 ≤ o.Process <;> by_cases a2 : o.Process < 107 <;> by_cases a3 : o.Kind < 1 <;> by_cases a4 : 3 < o.Kind <;> by_cases a5 : o.Call < 1 <;> by_cases a6 : o.Return = 0 <;> by_cases a7 : o.Return ≤ o.Call <;>
      (have b1 : (o.Process < 101) = ¬ (101 ≤ o.Process) := propext ⟨fun h => by omega, fun h => by omega⟩
       have b2 : (107 ≤ o.Process) = ¬ (o.Process < 107) := propext ⟨fun h => by omega, fun h => by omega⟩
       simp [a1, a2, a3, a4, a5, a6, a7] at h1
       simp [b1, b2, a1, a2, a3, a4, a5, a6, a7, ← h1, history_validator_operation.j2])
  unfold history_validator_operation
  rw [hv]
  unfold opErr
  by_cases h0 : vErr o = 0
  · rw [if_neg (by simp [h0]), if_neg (by simp [h0])]
    unfold history_validator_operation.j2
    obtain ⟨v1, v2⟩ := vErr_zero h0
    have hlt : decide (o.Call ≤ last) = (decide (0 < prev.length) && decide (o.Call ≤ lastCall prev)) := by
      rw [← h.la]
      cases prev with
      | nil =>
        have : last = 0 := h.la
        simp; omega
      | cons q l => simp
    rw [if_neg (by simp), hlt]
    cases hb : (decide (0 < prev.length) && decide (o.Call ≤ lastCall prev)) with
    | true => rfl
    | false =>
      rw [hb] at hlt
      have hl : last < o.Call := by have := of_decide_eq_false hlt; omega
      simp only [Bool.false_eq_true, if_false, contents_c, Option.bind_some]
      by_cases hc : cErr o = 0
      · rw [if_neg (show ¬ ((cErr o != 0) = true) by simp [hc]), if_neg (show ¬ (cErr o ≠ 0) by simp [hc]), dup_iff h hl, st_iff h hl]
        simp only [letV_of, history_validator_operation.j1]
        cases (ev.lookup o.Call).getD false <;> cases o.Return != 0 <;> cases (ev.lookup o.Return).getD false <;> cases decide (o.Call < (rt.lookup o.Process).getD 0) <;> simp
      · rw [if_pos (by simpa using hc), if_pos hc]
  · rw [if_pos h0, if_pos h0]
theorem opErr_zero {prev : List history_Operation} {o : history_Operation} (h : opErr prev o = 0) : vErr o = 0 ∧ (decide (0 < prev.length) && decide (o.Call ≤ lastCall prev)) = false := by
  unfold opErr at h
  by_cases h0 : vErr o = 0
  · refine ⟨h0, ?_⟩
    rw [if_neg (by simp [h0])] at h
    cases hb : (decide (0 < prev.length) && decide (o.Call ≤ lastCall prev)) with
    | false => rfl
    | true => rw [hb, if_pos rfl] at h; cases h
  · rw [if_pos h0] at h; exact absurd h h0
theorem Validate_eq (h : history_History) (hm : h.Operations.length ≤ 1000) : history_Validate h = some (valL [] h.Operations) := by
  unfold history_Validate
  obtain ⟨b, hb, hq⟩ : ∃ b, loopO (history_Validate.l1 h) (0, 0, [], []) = some b ∧ (fun b : Unit ⊕ Int => match b with | .inl _ => valL [] h.Operations = 0 | .inr e => valL [] h.Operations = e) b := by
    refine loopO_ex (fun k (s : Int × Int × (List (Int × Bool)) × (List (Int × Int))) => s.1 = (k : Int) ∧ VI (h.Operations.take k) s.2.1 s.2.2.1 s.2.2.2 ∧ valL [] h.Operations = valL (h.Operations.take k) (h.Operations.drop k)) h.Operations.length ⟨rfl, VI.nil, rfl⟩ (fun k s hk hI => ?_) (fun s hI => ?_)
    · obtain ⟨i, last, ev, rt⟩ := s
      obtain ⟨h1, hV, hI⟩ := hI
      have h1 : i = (k : Int) := h1
      subst h1
      have hV : VI (h.Operations.take k) last ev rt := hV
      obtain ⟨t1, t2⟩ := take_drop_step hk hI
      unfold history_Validate.l1
      simp only [lt_of_len hk, if_true, idx_nat hk, Option.bind_some, operation_eq hV]
      by_cases ho : opErr (h.Operations.take k) h.Operations[k] = 0
      · rw [if_neg (by simp [ho])]
        obtain ⟨z1, z2⟩ := opErr_zero ho
        obtain ⟨v1, v2⟩ := vErr_zero z1
        have hl : last < h.Operations[k].Call := by
          rw [← hV.la] at z2
          rcases Nat.eq_zero_or_pos (h.Operations.take k).length with h0 | h0
          · have : h.Operations.take k = [] := List.length_eq_zero_iff.1 h0
            have hl0 := hV.la
            rw [this] at hl0
            have : last = 0 := hl0
            omega
          · rw [decide_eq_true h0, Bool.true_and] at z2
            have := of_decide_eq_false z2
            omega
        have hn := hV.next z1 hl rfl
        rw [← take_snoc hk] at hn
        refine .inl ⟨(((k + 1 : Nat) : Int), h.Operations[k].Call, _, _), ?_, rfl, hn, t2 ho⟩
        simp only [letV_of, history_Validate.j2, wcast hk (by omega)]
        cases h.Operations[k].Return != 0 <;> rfl
      · rw [if_pos (by simpa using ho)]
        exact .inr ⟨_, rfl, t1 ho⟩
    · obtain ⟨i, last, ev, rt⟩ := s
      obtain ⟨h1, hV, hI⟩ := hI
      have h1 : i = (h.Operations.length : Int) := h1
      subst h1
      unfold history_Validate.l1
      refine ⟨.inl (), by simp only [not_lt_len, Bool.false_eq_true, if_false], ?_⟩
      show valL [] h.Operations = 0
      rw [hI, List.drop_length, valL]
  rw [hb, Option.bind_some]
  cases b with
  | inl x => rw [show valL [] h.Operations = 0 from hq]; rfl
  | inr e => rw [show valL [] h.Operations = e from hq]
end Go.Proofs.Ytbbeobiampbddaa

set_option linter.unusedVariables false
namespace Go.Proofs.Ytbbeobiampbddaa
open Go Go.Proofs.YtbbeobiampbddaaL
def prB (l : List history_Operation) (a b : Int) : Bool := match idx l a, idx l b with
  | some x, some y => x.Return != 0 && decide (x.Return < y.Call)
  | _, _ => false
def coB (l : List history_Operation) (a b : Int) : Bool := (idx l a).isSome && ((idx l b).isSome && (a != b && (!prB l a b && !prB l b a)))
theorem idx_in {α : Type} {l : List α} {a : Int} : (idx l a).isSome = (decide (0 ≤ a) && decide (a < (l.length : Int))) := by
  unfold idx
  split
  · rename_i h
    rw [decide_eq_true h, Bool.true_and, Bool.eq_iff_iff, decide_eq_true_iff]
    simp only [Option.isSome_iff_exists, List.getElem?_eq_some_iff]
    constructor
    · rintro ⟨_, h1, _⟩; omega
    · intro h1; exact ⟨_, by omega, rfl⟩
  · rename_i h; rw [decide_eq_false h]; rfl
theorem inRange_eq (h : history_History) (a : Int) : history_inRange h a = some (idx h.Operations a).isSome := by
  rw [idx_in]
  unfold history_inRange history_inRange.j1
  cases decide (0 ≤ a) <;> rfl
theorem precedes_eq (x y : history_Operation) : history_precedes x y = some (x.Return != 0 && decide (x.Return < y.Call)) := by
  unfold history_precedes history_precedes.j1
  cases x.Return != 0 <;> rfl
theorem Precedes_eq (h : history_History) (a b : Int) : history_Precedes h a b = some (prB h.Operations a b) := by
  unfold history_Precedes prB
  simp only [inRange_eq, Option.bind_some, history_Precedes.j1]
  cases idx h.Operations a with
  | none => rfl
  | some x =>
    cases idx h.Operations b with
    | none => rfl
    | some y => simp [precedes_eq]
theorem Concurrent_eq (h : history_History) (a b : Int) : history_Concurrent h a b = some (coB h.Operations a b) := by
  unfold history_Concurrent coB
  simp only [inRange_eq, Precedes_eq, Option.bind_some, history_Concurrent.j1]
  cases (idx h.Operations a).isSome <;> cases (idx h.Operations b).isSome <;> cases a != b <;> cases prB h.Operations a b <;> rfl
def ofL (p : Int) : Nat → List history_Operation → List Int
  | _, [] => []
  | i, o :: l => if o.Process == p then (i : Int) :: ofL p (i + 1) l else ofL p (i + 1) l
theorem ofL_length (p : Int) : ∀ (i : Nat) (l : List history_Operation), (ofL p i l).length ≤ l.length
  | _, [] => Nat.le_refl _
  | i, o :: l => by
    unfold ofL
    have := ofL_length p (i + 1) l
    split <;> simp <;> omega
theorem ofL_snoc (p : Int) (o : history_Operation) : ∀ (i : Nat) (l : List history_Operation), ofL p i (l ++ [o]) = ofL p i l ++ if o.Process == p then [((i + l.length : Nat) : Int)] else []
  | i, [] => by simp only [List.nil_append, ofL]; split <;> simp
  | i, a :: l => by
    simp only [List.cons_append, ofL, ofL_snoc p o (i + 1) l, List.length_cons]
    rw [show i + 1 + l.length = i + (l.length + 1) by omega]
    split <;> simp
theorem Of_eq (h : history_History) (p : Int) (hm : h.Operations.length ≤ 1000) : history_Of h p = some (ofL p 0 h.Operations) := by
  unfold history_Of
  obtain ⟨b, hb, hq⟩ : ∃ b, loopO (history_Of.l1 h p) ([], 0) = some b ∧ b = ofL p 0 h.Operations := by
    refine loopO_inv (fun k s => s = (ofL p 0 (h.Operations.take k), (k : Int))) h.Operations.length rfl (fun k s hk hI => ?_) (fun s hI => ?_)
    · subst hI
      have hl : (ofL p 0 (h.Operations.take k)).length ≤ k := Nat.le_trans (ofL_length _ _ _) (by rw [List.length_take]; omega)
      unfold history_Of.l1
      simp only [lt_of_len hk, if_true, idx_nat hk, Option.bind_some, history_Of.j2, letV_of, wcast hk (by omega)]
      refine ⟨_, ?_, rfl⟩
      rw [take_snoc hk, ofL_snoc, List.length_take, Nat.min_eq_left (by omega), Nat.zero_add]
      cases h.Operations[k].Process == p with
      | true =>
        rw [if_pos rfl, if_pos rfl, app_of (by simp; omega), Option.bind_some]
      | false => rw [if_neg (by simp), if_neg (by simp), List.append_nil]
    · subst hI
      unfold history_Of.l1
      dsimp only
      exact ⟨_, if_neg (by rw [not_lt_len]; simp), by rw [List.take_length]⟩
  rw [hb, hq]; rfl
def visF (n : List UInt8) (f : fold_Field) : history_Value := ⟨n, f.Name, f.Register.Set, f.Register.N, f.Register.S, f.HasMax, f.Max, f.Sum, f.Elems, f.Flag⟩
def visL (l : List fold_Object) : List history_Value := l.flatMap fun o => o.Fields.map (visF o.Name)
theorem visL_length {n : Nat} : ∀ {l : List fold_Object}, (∀ o ∈ l, o.Fields.length ≤ n) → (visL l).length ≤ l.length * n
  | [], _ => by simp [visL]
  | o :: l, h => by
    have h1 := visL_length (l := l) fun o ho => h o (by simp [ho])
    have h2 := h o (by simp)
    unfold visL at h1 ⊢
    rw [List.flatMap_cons, List.length_append, List.length_map, List.length_cons, Nat.succ_mul]
    omega
theorem Visible_eq {n : Nat} {t : fold_Store} (h : GD n t.Objects) (hn : n ≤ 100000) : history_Visible t = some (visL t.Objects) := by
  unfold history_Visible
  obtain ⟨b, hb, hq⟩ : ∃ b, loopO (history_Visible.l2 t) ([], 0) = some b ∧ b = visL t.Objects := by
    refine loopO_inv (fun k s => s = (visL (t.Objects.take k), (k : Int))) t.Objects.length rfl (fun k s hk hI => ?_) (fun s hI => ?_)
    · subst hI
      have hm := List.getElem_mem hk
      have hlen := h.len
      have hv : (visL (t.Objects.take k)).length ≤ k * n := by
        have := visL_length (n := n) (l := t.Objects.take k) fun o ho => h.flen o (List.mem_of_mem_take ho)
        rw [List.length_take, Nat.min_eq_left (by omega)] at this
        exact this
      have hkn : k * n + n ≤ n * n := by
        have := Nat.mul_le_mul_right n (show k + 1 ≤ n by omega)
        rw [Nat.succ_mul] at this
        exact this
      have hnn : n * n ≤ 100000 * 100000 := Nat.mul_le_mul hn hn
      have hf := h.flen _ hm
      unfold history_Visible.l2
      simp only [lt_of_len hk, if_true, idx_nat hk, Option.bind_some]
      obtain ⟨b, hb, hq⟩ : ∃ b, loopO (history_Visible.l1 t.Objects[k]) (visL (t.Objects.take k), 0) = some b ∧ b = visL (t.Objects.take k) ++ t.Objects[k].Fields.map (visF t.Objects[k].Name) := by
        refine loopO_inv (fun j s => s = (visL (t.Objects.take k) ++ (t.Objects[k].Fields.take j).map (visF t.Objects[k].Name), (j : Int))) t.Objects[k].Fields.length (by simp) (fun j s hj hI => ?_) (fun s hI => ?_)
        · subst hI
          have hy := h.good _ hm _ (List.getElem_mem hj)
          unfold history_Visible.l1
          have hc : slices_Clone_string t.Objects[k].Fields[j].Elems = some t.Objects[k].Fields[j].Elems := clone_eq (by have := hy.len; omega)
          simp only [lt_of_len hj, if_true, idx_nat hj, Option.bind_some, hc, letV_of, wcast hj (by omega)]
          rw [app_of (by simp only [List.length_append, List.length_map, List.length_take, List.length_singleton]; omega), Option.bind_some]
          refine ⟨_, rfl, ?_⟩
          rw [take_snoc hj, List.map_append, ← List.append_assoc]
          rfl
        · subst hI
          unfold history_Visible.l1
          dsimp only
          exact ⟨_, if_neg (by rw [not_lt_len]; simp), by rw [List.take_length]⟩
      rw [hb, hq]
      simp only [Option.bind_some, history_Visible.j2, letV_of, wcast hk (show t.Objects.length ≤ _ by omega)]
      refine ⟨_, rfl, ?_⟩
      rw [take_snoc hk]
      unfold visL
      rw [List.flatMap_append]
      simp
    · subst hI
      unfold history_Visible.l2
      dsimp only
      exact ⟨_, if_neg (by rw [not_lt_len]; simp), by rw [List.take_length]⟩
  rw [hb, hq]; rfl
end Go.Proofs.Ytbbeobiampbddaa

set_option linter.unusedVariables false
namespace Go.Proofs.Ytbbeobiampbddaa
open Go Go.Proofs.YtbbeobiampbddaaL
def RG (a b : history_Operation) : Prop := a.Call < b.Call ∧ a.Return ≠ b.Call ∧ (a.Return ≠ 0 → a.Return ≠ b.Return) ∧ (a.Process = b.Process → a.Return < b.Call)
instance (a b : history_Operation) : Decidable (RG a b) := by unfold RG; exact inferInstance
structure Good (l : List history_Operation) : Prop where
  v : ∀ o ∈ l, vErr o = 0
  c : ∀ o ∈ l, cErr o = 0
  pw : l.Pairwise RG
theorem lastCall_mem : ∀ {l : List history_Operation}, l ≠ [] → ∃ o ∈ l, lastCall l = o.Call
  | [], h => absurd rfl h
  | [a], _ => ⟨a, by simp, rfl⟩
  | a :: b :: l, _ => by
    obtain ⟨o, h1, h2⟩ := lastCall_mem (l := b :: l) (by simp)
    exact ⟨o, by simp at h1 ⊢; exact .inr h1, h2⟩
theorem opErr_good {prev : List history_Operation} {o : history_Operation} (hv : vErr o = 0) (hc : cErr o = 0) (hr : ∀ k ∈ prev, RG k o) : opErr prev o = 0 := by
  obtain ⟨v1, v2⟩ := vErr_zero hv
  unfold opErr
  rw [if_neg (by simp [hv])]
  have h1 : (decide (0 < prev.length) && decide (o.Call ≤ lastCall prev)) = false := by
    cases prev with
    | nil => rfl
    | cons q l =>
      obtain ⟨k, h1, h2⟩ := lastCall_mem (l := q :: l) (by simp)
      have := (hr k h1).1
      rw [Bool.and_eq_false_iff]
      right
      rw [decide_eq_false_iff_not]
      omega
  have h2 : dupB prev o = false := by
    unfold dupB
    rw [List.any_eq_false]
    intro k hk
    obtain ⟨a1, a2, a3, a4⟩ := hr k hk
    simp only [Bool.or_eq_true, Bool.and_eq_true, beq_iff_eq, bne_iff_ne, ne_eq, not_or, not_and]
    refine ⟨fun h => a2 h.symm, fun h0 => ⟨fun h => ?_, fun h => a3 (fun h3 => h0 (h.trans h3)) h.symm⟩⟩
    have := v2 h0
    omega
  have h3 : stB prev o = false := by
    unfold stB
    rw [List.any_eq_false]
    intro k hk
    obtain ⟨a1, a2, a3, a4⟩ := hr k hk
    simp only [Bool.and_eq_true, beq_iff_eq, decide_eq_true_iff, not_and]
    intro h
    have := a4 h
    omega
  rw [h1, if_neg (by simp), if_neg (by simp [hc]), h2, if_neg (by simp), h3, if_neg (by simp)]
theorem valL_good : ∀ {l prev : List history_Operation}, Good (prev ++ l) → valL prev l = 0
  | [], _, _ => rfl
  | o :: l, prev, h => by
    have hz : opErr prev o = 0 := by
      refine opErr_good (h.v o (by simp)) (h.c o (by simp)) fun k hk => ?_
      exact (List.pairwise_append.1 h.pw).2.2 k hk o (by simp)
    unfold valL
    rw [if_neg (by simp [hz])]
    refine valL_good (prev := prev ++ [o]) ?_
    rw [List.append_assoc]
    exact h
theorem Good.val {l : List history_Operation} (h : Good l) : valL [] l = 0 := valL_good h
def opn (c : Int) (o : history_Operation) : Bool := o.Return == 0 || decide (c ≤ o.Return)
def wd : List history_Operation → List history_Operation → Int → Int
  | _, [], m => m
  | prev, o :: l, m => wd (prev ++ [o]) l (maxI m (((prev ++ [o]).filter (opn o.Call)).length : Int))
def enumL : Nat → List history_Operation → List (Int × history_Operation)
  | _, [] => []
  | i, o :: l => ((i : Int), o) :: enumL (i + 1) l
theorem enumL_snoc (o : history_Operation) : ∀ (i : Nat) (l : List history_Operation), enumL i (l ++ [o]) = enumL i l ++ [(((i + l.length : Nat) : Int), o)]
  | i, [] => rfl
  | i, a :: l => by
    simp only [List.cons_append, enumL, enumL_snoc o (i + 1) l, List.length_cons]
    rw [show i + 1 + l.length = i + (l.length + 1) by omega]
theorem enumL_mem {p : Int × history_Operation} : ∀ {i : Nat} {l : List history_Operation}, p ∈ enumL i l → (i : Int) ≤ p.1 ∧ p.1 < ((i + l.length : Nat) : Int) ∧ p.2 ∈ l
  | i, [], h => by simp [enumL] at h
  | i, a :: l, h => by
    rcases List.mem_cons.1 h with rfl | h
    · exact ⟨Int.le_refl _, by simp; omega, by simp⟩
    · obtain ⟨h1, h2, h3⟩ := enumL_mem h
      refine ⟨by omega, ?_, by simp [h3]⟩
      rw [List.length_cons]; omega
theorem enumL_keys : ∀ (i : Nat) (l : List history_Operation), ((enumL i l).map (·.1)).Nodup
  | _, [] => List.nodup_nil
  | i, a :: l => by
    rw [enumL, List.map_cons, List.nodup_cons]
    refine ⟨fun h => ?_, enumL_keys (i + 1) l⟩
    obtain ⟨p, hp, he⟩ := List.mem_map.1 h
    have := (enumL_mem hp).1
    have he : p.1 = (i : Int) := he
    omega
theorem enumL_count (f : history_Operation → Bool) : ∀ (i : Nat) (l : List history_Operation), ((enumL i l).filter fun p => f p.2).length = (l.filter f).length
  | _, [] => rfl
  | i, a :: l => by
    rw [enumL, List.filter_cons, List.filter_cons]
    have := enumL_count f (i + 1) l
    cases f a <;> simp [this]
theorem mdel_filter (k : Int) : ∀ {l : List (Int × history_Operation)}, (l.map (·.1)).Nodup → mdel l k = l.filter fun p => !(p.1 == k)
  | [], _ => rfl
  | p :: l, h => by
    rw [List.map_cons, List.nodup_cons] at h
    rw [mdel, List.filter_cons]
    by_cases e : k = p.1
    · subst e
      have : l.filter (fun q => !(q.1 == p.1)) = l := List.filter_eq_self.2 fun q hq => by
        have : q.1 ≠ p.1 := fun e => h.1 (List.mem_map.2 ⟨q, hq, e⟩)
        simpa using this
      simp [this]
    · have e1 : (k == p.1) = false := by simpa using e
      have e2 : (p.1 == k) = false := by simpa using fun h : p.1 = k => e h.symm
      rw [e1, e2, mdel_filter k h.2]
      simp
theorem dels_filter (f : history_Operation → Bool) : ∀ (τ x : List (Int × history_Operation)), (x.map (·.1)).Nodup →
    τ.foldl (fun s p => if f p.2 then mdel s p.1 else s) x = x.filter fun p => !(τ.any fun q => q.1 == p.1 && f q.2)
  | [], x, _ => by simp [List.filter_eq_self.2]
  | q :: τ, x, h => by
    rw [List.foldl_cons]
    cases hf : f q.2 with
    | false =>
      rw [if_neg (by simp), dels_filter f τ x h]
      refine List.filter_congr fun p _ => ?_
      rw [List.any_cons, hf, Bool.and_false, Bool.false_or]
    | true =>
      rw [if_pos rfl, mdel_filter _ h, dels_filter f τ _ ((List.Sublist.map _ List.filter_sublist).nodup h), List.filter_filter]
      refine List.filter_congr fun p _ => ?_
      rw [List.any_cons, hf, Bool.and_true]
      have : (p.1 == q.1) = (q.1 == p.1) := by rw [Bool.eq_iff_iff, beq_iff_eq, beq_iff_eq]; exact eq_comm
      rw [this]
      cases (q.1 == p.1) <;> simp
theorem dels_perm (f : history_Operation → Bool) {τ x : List (Int × history_Operation)} (h : (x.map (·.1)).Nodup) (hp : τ.Perm x) :
    τ.foldl (fun s p => if f p.2 then mdel s p.1 else s) x = x.filter fun p => !f p.2 := by
  rw [dels_filter f τ x h]
  refine List.filter_congr fun p hpx => ?_
  congr 1
  rw [Bool.eq_iff_iff, List.any_eq_true]
  constructor
  · rintro ⟨q, hq, hb⟩
    simp only [Bool.and_eq_true, beq_iff_eq] at hb
    have hqx := hp.mem_iff.1 hq
    have : q = p := by
      have hn : ∀ {l : List (Int × history_Operation)}, (l.map (·.1)).Nodup → q ∈ l → p ∈ l → q = p := by
        intro l
        induction l with
        | nil => intro _ h; simp at h
        | cons a l ih =>
          intro hn h1 h2
          rw [List.map_cons, List.nodup_cons] at hn
          rcases List.mem_cons.1 h1 with a1 | a1
          · rcases List.mem_cons.1 h2 with a2 | a2
            · rw [a1, a2]
            · exact absurd (List.mem_map.2 ⟨p, a2, by rw [← a1]; exact hb.1.symm⟩) hn.1
          · rcases List.mem_cons.1 h2 with a2 | a2
            · exact absurd (List.mem_map.2 ⟨q, a1, by rw [← a2]; exact hb.1⟩) hn.1
            · exact ih hn.2 a1 a2
      exact hn h hqx hpx
    rw [← this]; exact hb.2
  · intro hf
    exact ⟨p, hp.mem_iff.2 hpx, by simp [hf]⟩
theorem mset_new {k : Int} {y : history_Operation} : ∀ {l : List (Int × history_Operation)}, (∀ p ∈ l, p.1 ≠ k) → mset l k y = l ++ [(k, y)]
  | [], _ => rfl
  | p :: l, h => by
    have e : (k == p.1) = false := by simpa using fun e : k = p.1 => h p (by simp) e.symm
    rw [mset, e, mset_new fun q hq => h q (by simp [hq])]
    rfl
end Go.Proofs.Ytbbeobiampbddaa

set_option linter.unusedVariables false
namespace Go.Proofs.Ytbbeobiampbddaa
open Go Go.Proofs.YtbbeobiampbddaaL
structure WI (l : List history_Operation) (k : Nat) (opn_ : List (Int × history_Operation)) (m lat : Int) (en : Bool) : Prop where
  op : opn_ = (enumL 0 (l.take k)).filter fun p => opn (lastCall (l.take k)) p.2
  mo : wd [] l 0 = wd (l.take k) (l.drop k) m
  la : ∀ o ∈ l.take k, o.Return ≤ lat
  en : en = false → ∀ o ∈ l.take k, o.Return ≠ 0
theorem precB_eq {c : Int} {x o : history_Operation} (h : o.Call = c) : (!(x.Return != 0 && decide (x.Return < o.Call))) = opn c x := by
  subst h
  unfold opn
  rw [Bool.eq_iff_iff]
  simp
theorem j5_eq {m lat : Int} {en : Bool} {k : Nat} {o : history_Operation} {x : List (Int × history_Operation)} (hn : (x.map (·.1)).Nodup) (hk : ∀ p ∈ x, p.1 < (k : Int)) (hk2 : k ≤ 1000) :
    history_Width.j5 m lat en k o x = some (.inl ((x.filter fun p => opn o.Call p.2) ++ [((k : Int), o)], maxI m (((x.filter fun p => opn o.Call p.2) ++ [((k : Int), o)]).length : Int), maxI lat o.Return, en || o.Return == 0, ((k + 1 : Nat) : Int))) := by
  unfold history_Width.j5
  refine permI fun τ hτ => ?_
  have hs : ∀ (p : Int × history_Operation) (s : List (Int × history_Operation)), (fun p : Int × history_Operation => history_Width.l1 o p.1 p.2) p s = some (.inl ((fun p s => if (fun y : history_Operation => y.Return != 0 && decide (y.Return < o.Call)) p.2 then mdel s p.1 else s) p s)) := by
    intro p s
    show history_Width.l1 o p.1 p.2 s = _
    unfold history_Width.l1
    simp only [precedes_eq, Option.bind_some, letV_of]
    by_cases hc : (p.2.Return != 0 && decide (p.2.Return < o.Call)) = true
    · rw [if_pos hc, if_pos hc]
    · rw [if_neg hc, if_neg hc]
  rw [foldO_app hs, Option.bind_some]
  have hd := dels_perm (fun y : history_Operation => y.Return != 0 && decide (y.Return < o.Call)) hn hτ
  dsimp only at hd ⊢
  rw [hd]
  have hf : (x.filter fun p => !(p.2.Return != 0 && decide (p.2.Return < o.Call))) = x.filter fun p => opn o.Call p.2 := List.filter_congr fun p _ => precB_eq rfl
  rw [hf]
  unfold history_Width.j4
  rw [mset_new (k := (k : Int)) (y := o) (l := x.filter fun p => opn o.Call p.2) fun p hp => by have := hk p (List.mem_filter.1 hp).1; omega]
  simp only [letV_of, history_Width.j3, history_Width.j2]
  have hw : IntKind.i64.wrap ((k : Int) + 1) = ((k + 1 : Nat) : Int) := w64n (by omega)
  rw [hw]
  cases en <;> rfl
theorem Width_eq {h : history_History} (hc : h.Operations.Pairwise fun a b => a.Call < b.Call) (hv : ∀ o ∈ h.Operations, o.Return = 0 ∨ o.Call ≤ o.Return) (hm : h.Operations.length ≤ 1000) :
    history_Width h = some (wd [] h.Operations 0) := by
  unfold history_Width
  obtain ⟨b, hb, hq⟩ : ∃ b, loopO (history_Width.l2 h) (([] : List (Int × history_Operation)), 0, 0, false, 0) = some b ∧ b.2 = wd [] h.Operations 0 := by
    refine loopO_inv (fun k (s : List (Int × history_Operation) × Int × Int × Bool × Int) => s.2.2.2.2 = (k : Int) ∧ WI h.Operations k s.1 s.2.1 s.2.2.1 s.2.2.2.1) h.Operations.length ⟨rfl, ⟨rfl, rfl, by simp, by simp⟩⟩ (fun k s hk hI => ?_) (fun s hI => ?_)
    · obtain ⟨x, m, lat, en, i⟩ := s
      obtain ⟨h1, hI⟩ := hI
      have h1 : i = (k : Int) := h1
      subst h1
      have hI : WI h.Operations k x m lat en := hI
      have hmem := List.getElem_mem hk
      have htk : (h.Operations.take k).length = k := by rw [List.length_take]; omega
      have hlt : ∀ o ∈ h.Operations.take k, o.Call < h.Operations[k].Call := by
        intro o ho
        have hc' := hc
        rw [← List.take_append_drop (k + 1) h.Operations, take_snoc hk] at hc'
        exact (List.pairwise_append.1 (List.pairwise_append.1 hc').1).2.2 o ho _ (by simp)
      -- what is left open
      have hfil : ((enumL 0 (h.Operations.take k)).filter fun p => opn h.Operations[k].Call p.2) = x.filter fun p => opn h.Operations[k].Call p.2 := by
        rw [hI.op, List.filter_filter]
        refine List.filter_congr fun p hp => ?_
        cases ho : opn h.Operations[k].Call p.2 with
        | false => rfl
        | true =>
          rw [Bool.true_and]
          have hp2 := (enumL_mem hp).2.2
          have hne : h.Operations.take k ≠ [] := fun e => by rw [e] at hp2; simp at hp2
          obtain ⟨q, hq1, hq2⟩ := lastCall_mem hne
          have := hlt q hq1
          unfold opn at ho ⊢
          rw [Bool.or_eq_true, beq_iff_eq, decide_eq_true_iff] at ho
          symm
          rw [Bool.or_eq_true, beq_iff_eq, decide_eq_true_iff]
          omega
      have hx' : ((enumL 0 (h.Operations.take (k + 1))).filter fun p => opn (lastCall (h.Operations.take (k + 1))) p.2) = (x.filter fun p => opn h.Operations[k].Call p.2) ++ [((k : Int), h.Operations[k])] := by
        rw [lastCall_take hk, take_snoc hk, enumL_snoc, List.filter_append, hfil, htk, Nat.zero_add]
        congr 1
        have : opn h.Operations[k].Call h.Operations[k] = true := by
          unfold opn
          rw [Bool.or_eq_true, beq_iff_eq, decide_eq_true_iff]
          exact hv _ hmem
        rw [List.filter_cons, if_pos this, List.filter_nil]
      have hmo : wd [] h.Operations 0 = wd (h.Operations.take (k + 1)) (h.Operations.drop (k + 1)) (maxI m (((x.filter fun p => opn h.Operations[k].Call p.2) ++ [((k : Int), h.Operations[k])]).length : Int)) := by
        rw [hI.mo, List.drop_eq_getElem_cons hk, wd, ← take_snoc hk, ← hx', lastCall_take hk, enumL_count]
      have hxm : ∀ p ∈ x, p.1 < (k : Int) := by
        intro p hp
        rw [hI.op] at hp
        have := (enumL_mem (List.mem_filter.1 hp).1).2.1
        rw [htk] at this
        omega
      have hxn : (x.map (·.1)).Nodup := by
        rw [hI.op]
        exact (List.Sublist.map _ List.filter_sublist).nodup (enumL_keys _ _)
      have hnext : WI h.Operations (k + 1) ((x.filter fun p => opn h.Operations[k].Call p.2) ++ [((k : Int), h.Operations[k])]) (maxI m (((x.filter fun p => opn h.Operations[k].Call p.2) ++ [((k : Int), h.Operations[k])]).length : Int)) (maxI lat h.Operations[k].Return) (en || h.Operations[k].Return == 0) := by
        refine ⟨hx'.symm, hmo, fun o ho => ?_, fun hen o ho => ?_⟩
        · rw [take_snoc hk] at ho
          rcases List.mem_append.1 ho with ho | ho
          · have := hI.la o ho
            unfold maxI; split <;> omega
          · simp at ho; subst ho
            unfold maxI; split <;> omega
        · rw [Bool.or_eq_false_iff] at hen
          rw [take_snoc hk] at ho
          rcases List.mem_append.1 ho with ho | ho
          · exact hI.en hen.1 o ho
          · simp at ho; subst ho
            simpa using hen.2
      unfold history_Width.l2
      simp only [lt_of_len hk, if_true, idx_nat hk, Option.bind_some]
      have hgo : history_Width.j5 m lat en k h.Operations[k] x = some (.inl ((x.filter fun p => opn h.Operations[k].Call p.2) ++ [((k : Int), h.Operations[k])], maxI m (((x.filter fun p => opn h.Operations[k].Call p.2) ++ [((k : Int), h.Operations[k])]).length : Int), maxI lat h.Operations[k].Return, en || h.Operations[k].Return == 0, ((k + 1 : Nat) : Int))) := j5_eq hxn hxm (by omega)
      cases en with
      | true =>
        rw [if_neg (by simp)]
        unfold history_Width.j6
        rw [if_neg (by simp)]
        exact ⟨_, hgo, rfl, hnext⟩
      | false =>
        rw [if_pos (by simp)]
        unfold history_Width.j6
        by_cases hcl : lat < h.Operations[k].Call
        · rw [if_pos (by simpa using hcl)]
          have hx0 : (x.filter fun p => opn h.Operations[k].Call p.2) = [] := by
            rw [List.filter_eq_nil_iff]
            intro p hp
            rw [hI.op] at hp
            have hp2 := (enumL_mem (List.mem_filter.1 hp).1).2.2
            have h2 := hI.la _ hp2
            have h3 := hI.en rfl _ hp2
            unfold opn
            rw [Bool.or_eq_true, beq_iff_eq, decide_eq_true_iff]
            omega
          rw [hx0] at hnext
          refine ⟨_, j5_eq (x := []) (by simp) (by simp) (by omega), rfl, hnext⟩
        · rw [if_neg (by simpa using hcl)]
          exact ⟨_, hgo, rfl, hnext⟩
    · obtain ⟨x, m, lat, en, i⟩ := s
      obtain ⟨h1, hI⟩ := hI
      have h1 : i = (h.Operations.length : Int) := h1
      subst h1
      unfold history_Width.l2
      dsimp only
      refine ⟨_, if_neg (by rw [not_lt_len]; simp), ?_⟩
      have := hI.mo
      rw [List.drop_length, wd] at this
      exact this.symm
  obtain ⟨b1, b2⟩ := b
  rw [hb, Option.bind_some]
  have hq : b2 = _ := hq
  rw [hq]; rfl
end Go.Proofs.Ytbbeobiampbddaa

set_option linter.unusedVariables false
namespace Go.Proofs.Ytbbeobiampbddaa
open Go Go.Proofs.YtbbeobiampbddaaL
theorem cErr_other {o : history_Operation} (hk : o.Kind ≠ 1) (he : o.Effects = []) (hr : o.Result = []) : cErr o = 0 := by
  have h1 := cErr_eq o
  unfold esref39_content at h1
  rw [he, hr, if_neg (by simpa using hk), if_neg (by simp)] at h1
  simp only [esref39_content.j2, List.length_nil] at h1
  have : some (0 : Int) = some (cErr o) := by
    rw [← h1]
    cases o.Return == 0 <;> rfl
  exact (Option.some.inj this).symm
theorem upd_one {e : api_Effect} (hv : esref14_ValidateEffect e = some 0) : esref14_ValidateUpdate ⟨101, 1, 0, [e]⟩ = some 0 := by
  have h2 : esref14_ValidateUpdate ⟨101, 1, 0, [e]⟩ = esref14_ValidateUpdate.j3 ⟨101, 1, 0, [e]⟩ false := by
    simp [esref14_ValidateUpdate, esref06_Client, esref06_Client.j1]
  rw [h2]
  unfold esref14_ValidateUpdate.j3
  have hl : loopO (esref14_ValidateUpdate.l1 ⟨101, 1, 0, [e]⟩) 0 = some (.inl ()) := by
    have := loopO_up (step := esref14_ValidateUpdate.l1 ⟨101, 1, 0, [e]⟩) (fun k => (k : Int)) 1 (b := .inl ()) (fun k hk => ?_) ?_
    · exact this
    · obtain rfl : k = 0 := by omega
      unfold esref14_ValidateUpdate.l1
      show (if decide ((0 : Int) < 1) = true then _ else _) = _
      rw [if_pos (by decide)]
      show (idx [e] 0).bind _ = _
      rw [idx_zero, Option.bind_some, hv, Option.bind_some, if_neg (by decide)]
      rfl
    · unfold esref14_ValidateUpdate.l1
      show (if decide ((1 : Int) < 1) = true then _ else _) = _
      rw [if_neg (by decide)]
  have hc := refCommutes_eq ⟨101, 1, 0, [e]⟩ (show [e].length ≤ 4 by simp)
  simp only [hl, Option.bind_some, esref14_ValidateUpdate.j2, hc, esref14_ValidateUpdate.j1]
  cases comm [e] <;> simp
theorem cErr_upd {o : history_Operation} {e : api_Effect} (hk : o.Kind = 1) (hr : o.Result = []) (he : o.Effects = [e]) (hv : esref14_ValidateEffect e = some 0) : cErr o = 0 := by
  have h1 := cErr_eq o
  unfold esref39_content at h1
  rw [hk, hr, he, if_pos (by decide), if_neg (by decide), upd_one hv] at h1
  exact (Option.some.inj h1).symm
theorem vErr_ok {o : history_Operation} (h1 : 101 ≤ o.Process) (h2 : o.Process < 107) (h3 : 1 ≤ o.Kind) (h4 : o.Kind ≤ 3) (h5 : 1 ≤ o.Call) (h6 : o.Return = 0 ∨ o.Call < o.Return) : vErr o = 0 := by
  have h := vErr_eq o
  unfold esref39_validOperation at h
  have hc : esref06_Client o.Process = some true := by
    unfold esref06_Client esref06_Client.j1
    rw [if_pos (by simpa using h1), decide_eq_true h2]
  rw [hc, Option.bind_some, if_neg (by simp), if_neg (by simp; omega)] at h
  unfold esref39_validOperation.j2 esref39_validOperation.j1 at h
  rw [if_neg (by simp; omega), if_neg (by simp; omega)] at h
  rcases h6 with h6 | h6
  · rw [h6, if_neg (by simp)] at h
    exact (Option.some.inj h).symm
  · have : (o.Return != 0) = true := by simp; omega
    rw [this, if_pos rfl, decide_eq_false (by omega)] at h
    exact (Option.some.inj h).symm
def befO (e : Int) (o : history_Operation) : history_Operation := ⟨o.Process, o.Kind, o.Effects, [], o.Call, if decide (e ≤ o.Return) then 0 else o.Return⟩
def befL (e : Int) (l : List history_Operation) : List history_Operation := (l.filter fun o => decide (o.Call < e)).map (befO e)
theorem befL_length (e : Int) (l : List history_Operation) : (befL e l).length ≤ l.length := by
  unfold befL
  rw [List.length_map]
  exact List.length_filter_le _ _
theorem befL_snoc (e : Int) (l : List history_Operation) (o : history_Operation) : befL e (l ++ [o]) = befL e l ++ if decide (e ≤ o.Call) then [] else [befO e o] := by
  unfold befL
  rw [List.filter_append, List.map_append, List.filter_cons, List.filter_nil]
  congr 1
  by_cases h : e ≤ o.Call
  · rw [decide_eq_true h, decide_eq_false (by omega), if_pos rfl, if_neg (by simp)]; rfl
  · rw [decide_eq_false h, decide_eq_true (by omega), if_pos rfl, if_neg (by simp)]; rfl
theorem cloneValues_nil : history_cloneValues [] = some [] := by
  unfold history_cloneValues
  rw [loopO_done (b := []) (by unfold history_cloneValues.l1; rfl)]
  rfl
theorem Before_eq {h : history_History} (e : Int) (hr : ∀ o ∈ h.Operations, o.Result = [] ∧ o.Effects.length ≤ 100) (hm : h.Operations.length ≤ 1000) : history_Before h e = some ⟨befL e h.Operations⟩ := by
  unfold history_Before
  obtain ⟨b, hb, hq⟩ : ∃ b, loopO (history_Before.l1 h e) (0, []) = some b ∧ b = befL e h.Operations := by
    refine loopO_inv (fun k s => s = ((k : Int), befL e (h.Operations.take k))) h.Operations.length rfl (fun k s hk hI => ?_) (fun s hI => ?_)
    · subst hI
      obtain ⟨hr1, hr2⟩ := hr _ (List.getElem_mem hk)
      have hl : (befL e (h.Operations.take k)).length ≤ k := Nat.le_trans (befL_length _ _) (by rw [List.length_take]; omega)
      have hcl : slices_Clone_Effect h.Operations[k].Effects = some h.Operations[k].Effects := by
        unfold slices_Clone_Effect
        rw [app_of (by simp; omega)]; rfl
      unfold history_Before.l1
      simp only [lt_of_len hk, if_true, idx_nat hk, Option.bind_some, hcl, history_Before.j4, history_Before.j3, history_Before.j2, letV_of, wcast hk (by omega), hr1, cloneValues_nil]
      refine ⟨_, ?_, rfl⟩
      rw [take_snoc hk, befL_snoc]
      cases decide (e ≤ h.Operations[k].Call) with
      | true => rw [if_pos rfl, if_pos rfl, List.append_nil]
      | false =>
        have ha : ∀ r, app 80 (befL e (h.Operations.take k)) [(⟨h.Operations[k].Process, h.Operations[k].Kind, h.Operations[k].Effects, [], h.Operations[k].Call, r⟩ : history_Operation)] = some (befL e (h.Operations.take k) ++ [⟨h.Operations[k].Process, h.Operations[k].Kind, h.Operations[k].Effects, [], h.Operations[k].Call, r⟩]) := fun r => app_of (by simp; omega)
        simp only [ha, Option.bind_some, ite_self, Bool.false_eq_true, if_false]
        unfold befO
        cases decide (e ≤ h.Operations[k].Return) <;> rfl
    · subst hI
      unfold history_Before.l1
      dsimp only
      exact ⟨_, if_neg (by rw [not_lt_len]; simp), by rw [List.take_length]⟩
  rw [hb, hq]; rfl
def wE : api_Effect := ⟨5, [97], [98], 0, []⟩
def wL : List history_Operation := [⟨101, 1, [wE], [], 1, 4⟩, ⟨102, 3, [], [], 3, 0⟩, ⟨101, 2, [], [], 5, 6⟩]
def wU : api_Update := ⟨101, 1, 0, [wE]⟩
def wO : List fold_Object := [⟨[97], [⟨[98], ⟨false, 0, 0, 0, 0, []⟩, false, 0, 0, [], true⟩]⟩]
theorem wE_ok : esref14_ValidateEffect wE = some 0 := by
  simp [esref14_ValidateEffect, esref14_ValidateEffect.j6, esref14_ValidateEffect.j5, esref14_ValidateEffect.j4, esref14_ValidateEffect.j3, esref14_ValidateEffect.j2, esref14_ValidateEffect.j1, wE]
theorem wL_good : Good wL := by
  refine ⟨fun o ho => ?_, fun o ho => ?_, by decide⟩
  · simp only [wL, List.mem_cons, List.not_mem_nil, or_false] at ho
    rcases ho with rfl | rfl | rfl <;> exact vErr_ok (by decide) (by decide) (by decide) (by decide) (by decide) (by decide)
  · simp only [wL, List.mem_cons, List.not_mem_nil, or_false] at ho
    rcases ho with rfl | rfl | rfl
    · exact cErr_upd rfl rfl rfl wE_ok
    · exact cErr_other (by decide) rfl rfl
    · exact cErr_other (by decide) rfl rfl
theorem awake_true : eslaw38_awake = some true := by
  unfold eslaw38_awake
  have hA := Apply_eq (n := 0) (t := ⟨[]⟩) (u := wU) (GD_nil 0) (by intro e he; simp [wU] at he; subst he; exact ⟨by decide, by decide, by decide⟩) (by decide)
  obtain ⟨e1, g1⟩ := hA
  have ew : appT wU [] = wO := by decide
  rw [ew] at e1 g1
  have e2 := Visible_eq (t := ⟨wO⟩) g1 (by decide)
  have e3 := Validate_eq ⟨wL⟩ (by decide)
  have e3' : valL [] wL = 0 := wL_good.val
  have e4 := Width_eq (h := ⟨wL⟩) (by decide) (by decide) (by decide)
  have e5 := Of_eq ⟨wL⟩ 101 (by decide)
  have e6 := Before_eq (h := ⟨wL⟩) 4 (by decide) (by decide)
  show ((idx wL 0).bind fun x7 => (fold_Apply (⟨[]⟩ : fold_Store) (⟨101, 1, 0, x7.Effects⟩ : api_Update)).bind fun x13 => (history_Visible x13).bind fun x16 => (history_Validate ⟨wL⟩).bind fun x24 =>
    if (x24 == 0) = true then (history_Precedes ⟨wL⟩ 0 2).bind fun x26 => if x26 = true then (history_Precedes ⟨wL⟩ 0 1).bind fun x28 => if (!x28) = true then (history_Concurrent ⟨wL⟩ 1 2).bind fun x30 => if x30 = true then (history_Concurrent ⟨wL⟩ 0 2).bind fun x32 => if (!x32) = true then (history_Width ⟨wL⟩).bind fun x34 => if (x34 == 2) = true then if ((x16.length : Int) == 1) = true then (idx x16 0).bind fun x37 => if x37.Flag = true then (history_Of ⟨wL⟩ 101).bind fun x42 => if ((x42.length : Int) == 2) = true then (history_Before ⟨wL⟩ 4).bind fun x47 => if (((⟨x47.Operations⟩ : history_History).Operations.length : Int) == 2) = true then (history_Before ⟨wL⟩ 4).bind fun x55 => (idx (⟨x55.Operations⟩ : history_History).Operations 0).bind fun x62 => eslaw38_awake.j1 (x62.Return == 0)
      else eslaw38_awake.j1 false else eslaw38_awake.j1 false else eslaw38_awake.j1 false else eslaw38_awake.j1 false else eslaw38_awake.j1 false else eslaw38_awake.j1 false else eslaw38_awake.j1 false else eslaw38_awake.j1 false else eslaw38_awake.j1 false else eslaw38_awake.j1 false) = some true
  rw [show idx wL 0 = some ⟨101, 1, [wE], [], 1, 4⟩ from rfl, Option.bind_some]
  have e1 : fold_Apply (⟨[]⟩ : fold_Store) (⟨101, 1, 0, [wE]⟩ : api_Update) = some ⟨wO⟩ := e1
  have e7 : wd [] wL 0 = 2 := by decide
  have e8 : ofL 101 0 wL = [0, 2] := by decide
  have e9 : befL 4 wL = [⟨101, 1, [wE], [], 1, 0⟩, ⟨102, 3, [], [], 3, 0⟩] := by decide
  have e10 : visL wO = [⟨[97], [98], false, 0, [], false, 0, 0, [], true⟩] := by decide
  have p1 : prB wL 0 2 = true := by decide
  have p2 : prB wL 0 1 = false := by decide
  have p3 : coB wL 1 2 = true := by decide
  have p4 : coB wL 0 2 = false := by decide
  simp only [e1, e2, e3, e3', e4, e5, e6, e7, e8, e9, e10, Precedes_eq, Concurrent_eq, p1, p2, p3, p4, Option.bind_some]
  rfl
end Go.Proofs.Ytbbeobiampbddaa
set_option linter.unusedVariables false
set_option linter.unusedSimpArgs false
namespace Go.Proofs.Ytbbeobiampbddaa
open Go Go.Proofs.YtbbeobiampbddaaL
theorem Index_ex (n k : Int) (h1 : 1 ≤ k) (h2 : k ≤ 4611686018427387904) : ∃ d, eslaw00_Index n k = some d ∧ 0 ≤ d ∧ d < k := by
  unfold eslaw00_Index
  rw [if_neg (by simp; omega), if_pos (by omega)]
  have e1 : Int.tmod n k < k := Int.tmod_lt_of_pos _ (by omega)
  have e2 : -k < Int.tmod n k := by
    have : Int.tmod (-n) k < k := Int.tmod_lt_of_pos _ (by omega)
    rw [Int.neg_tmod] at this
    omega
  simp only [letV_of]
  rw [w64 (by omega) (by omega), if_pos (by omega)]
  exact ⟨_, rfl, Int.tmod_nonneg _ (by omega), Int.tmod_lt_of_pos _ (by omega)⟩
theorem Digit_ex (n b : Int) (i : Nat) (h1 : 2 ≤ b) (h2 : b ≤ 16) (hi : i ≤ 100000) : ∃ d, eslaw00_Digit n b (i : Int) = some d ∧ 0 ≤ d ∧ d < b := by
  obtain ⟨x, hx, hx0, hx1⟩ := Index_ex n 1099511627776 (by decide) (by decide)
  unfold eslaw00_Digit
  rw [hx]
  simp only [Option.bind_some]
  have key : ∃ r, loopO (eslaw00_Digit.l1 b (i : Int)) (x, 0) = some r ∧ 0 ≤ r := by
    refine loopO_inv (fun k s => ∃ y : Int, s = (y, (k : Int)) ∧ 0 ≤ y ∧ y < 1099511627776) i ⟨x, rfl, hx0, hx1⟩ (fun k s hk hI => ?_) (fun s hI => ?_)
    · obtain ⟨y, rfl, h3, h4⟩ := hI
      simp only [eslaw00_Digit.l1]
      rw [if_pos (by simpa using hk), if_pos (by omega)]
      have h5 : 0 ≤ Int.tdiv y b := Int.tdiv_nonneg h3 (by omega)
      have h6 : Int.tdiv y b ≤ y := by
        rw [Int.tdiv_eq_ediv_of_nonneg h3]
        exact Int.ediv_le_self _ h3
      simp only [letV_of]
      rw [w64 (x := Int.tdiv y b) (by omega) (by omega), wcast hk (by omega)]
      exact ⟨_, rfl, _, rfl, h5, by omega⟩
    · obtain ⟨y, rfl, h3, h4⟩ := hI
      simp only [eslaw00_Digit.l1]
      rw [if_neg (by simp)]
      exact ⟨_, rfl, h3⟩
  obtain ⟨r, hr, hr0⟩ := key
  rw [hr]
  simp only [Option.bind_some, eslaw00_Digit.j1]
  rw [if_pos (by omega)]
  exact ⟨_, rfl, Int.tmod_nonneg _ hr0, Int.tmod_lt_of_pos _ (by omega)⟩
theorem name_ex (d : Int) : ∃ s, eslaw00_name d = some s ∧ s.length ≤ 2 ∧ s ≠ [] := by
  unfold eslaw00_name
  obtain ⟨x, hx, h0, h1⟩ := Index_ex d 4 (by decide) (by decide)
  rw [hx, Option.bind_some]
  have : x = 0 ∨ x = 1 ∨ x = 2 ∨ x = 3 := by omega
  rcases this with rfl | rfl | rfl | rfl
  · exact ⟨[97], rfl, by decide, by decide⟩
  · exact ⟨[98], rfl, by decide, by decide⟩
  · exact ⟨[99], rfl, by decide, by decide⟩
  · exact ⟨[120, 49], rfl, by decide, by decide⟩
end Go.Proofs.Ytbbeobiampbddaa

set_option linter.unusedVariables false
namespace Go.Proofs.Ytbbeobiampbddaa
open Go Go.Proofs.YtbbeobiampbddaaL
theorem EffectV_ex (n : Int) (b : Bool) : ∃ e, eslaw00_Effect n b = some e ∧ esref14_ValidateEffect e = some 0 := by
  unfold eslaw00_Effect
  obtain ⟨d1, e1, _⟩ := Digit_ex n 4 1 (by decide) (by decide) (by decide)
  obtain ⟨s1, f1, l1, n1⟩ := name_ex d1
  obtain ⟨d2, e2, _⟩ := Digit_ex n 4 2 (by decide) (by decide) (by decide)
  obtain ⟨s2, f2, l2, n2⟩ := name_ex d2
  obtain ⟨d3, e3, d30, d31⟩ := Digit_ex n 16 3 (by decide) (by decide) (by decide)
  obtain ⟨d5, e5, _⟩ := Digit_ex n 4 5 (by decide) (by decide) (by decide)
  obtain ⟨s5, f5, l5, n5⟩ := name_ex d5
  obtain ⟨d0, e0, _⟩ := Digit_ex n 4 0 (by decide) (by decide) (by decide)
  have e1 : eslaw00_Digit n 4 1 = some d1 := e1
  have e2 : eslaw00_Digit n 4 2 = some d2 := e2
  have e3 : eslaw00_Digit n 16 3 = some d3 := e3
  have e5 : eslaw00_Digit n 4 5 = some d5 := e5
  have e0 : eslaw00_Digit n 4 0 = some d0 := e0
  simp only [e1, f1, e2, f2, e3, e5, f5, e0, Option.bind_some, letV_of, eslaw00_Effect.j1]
  have hw : IntKind.i64.wrap (d3 - 5) = d3 - 5 := w64 (by omega) (by omega)
  rw [hw]
  have key : ∀ (k : Int) (m : Int) (s : List UInt8), 1 ≤ k → k ≤ 5 → s.length ≤ 2 → (k = 3 → -1000000 ≤ m ∧ m ≤ 1000000) → (k = 4 ∨ k = 5 → m = 0) → (k = 2 ∨ k = 3 ∨ k = 5 → s = []) → esref14_ValidateEffect ⟨k, s1, s2, m, s⟩ = some 0 := by
    intro k m s h1 h2 h3 h4 h5 h6
    have a1 : decide (k < 1) = false := by simp; omega
    have a2 : decide (5 < k) = false := by simp; omega
    have a3 : (s1 == ([] : List UInt8)) = false := by cases s1 with | nil => exact absurd rfl n1 | cons a l => rfl
    have a4 : (s2 == ([] : List UInt8)) = false := by cases s2 with | nil => exact absurd rfl n2 | cons a l => rfl
    have a5 : decide ((16 : Int) < (s1.length : Int)) = false := by simp; omega
    have a6 : decide ((16 : Int) < (s2.length : Int)) = false := by simp; omega
    have a7 : decide ((32 : Int) < (s.length : Int)) = false := by simp; omega
    simp only [esref14_ValidateEffect, esref14_ValidateEffect.j6, esref14_ValidateEffect.j5, esref14_ValidateEffect.j4, esref14_ValidateEffect.j3, esref14_ValidateEffect.j2, esref14_ValidateEffect.j1, a1, a2, a3, a4, a5, a6, a7, Bool.false_eq_true, if_false]
    have : k = 1 ∨ k = 2 ∨ k = 3 ∨ k = 4 ∨ k = 5 := by omega
    rcases this with rfl | rfl | rfl | rfl | rfl
    · simp
    · simp [h6 (by simp)]
    · obtain ⟨b1, b2⟩ := h4 rfl
      have c1 : ¬ (m < -1000000) := by omega
      have c2 : ¬ (1000000 < m) := by omega
      simp [h6 (by simp), c1, c2]
    · simp [h5 (by simp)]
    · simp [h5 (by simp), h6 (by simp)]
  cases b with
  | true => exact ⟨_, rfl, key 1 _ _ (by decide) (by decide) l5 (by simp) (by simp) (by simp)⟩
  | false =>
    simp only [Bool.false_eq_true, if_false]
    cases hd0 : (d0 == 0) with
    | true => exact ⟨_, rfl, key 2 _ _ (by decide) (by decide) (by simp) (by simp) (by simp) (by simp)⟩
    | false =>
      cases hd1 : (d0 == 1) with
      | true => exact ⟨_, rfl, key 3 _ _ (by decide) (by decide) (by simp) (fun _ => by omega) (by simp) (by simp)⟩
      | false =>
        cases hd2 : (d0 == 2) with
        | true => exact ⟨_, rfl, key 4 _ _ (by decide) (by decide) l5 (by simp) (by simp) (by simp)⟩
        | false => exact ⟨_, rfl, key 5 _ _ (by decide) (by decide) (by simp) (by simp) (by simp) (by simp)⟩
structure MH (n : Int) (l : List history_Operation) : Prop where
  good : Good l
  res : ∀ o ∈ l, o.Result = [] ∧ o.Effects.length ≤ 100
  ev : ∀ o ∈ l, o.Call ≤ n ∧ o.Return ≤ n
theorem MH.nil : MH 0 [] := ⟨⟨by simp, by simp, List.Pairwise.nil⟩, by simp, by simp⟩
def lastOf (p : Int) : Nat → List history_Operation → Int
  | _, [] => -1
  | i, o :: l => if lastOf p (i + 1) l = -1 then (if o.Process == p then (i : Int) else -1) else lastOf p (i + 1) l
theorem lastOf_spec (p : Int) : ∀ (i : Nat) (l : List history_Operation), (lastOf p i l = -1 ∧ ∀ o ∈ l, o.Process ≠ p) ∨
    ∃ j, ∃ hj : j < l.length, lastOf p i l = ((i + j : Nat) : Int) ∧ l[j].Process = p ∧ ∀ o ∈ l.drop (j + 1), o.Process ≠ p
  | i, [] => .inl ⟨rfl, by simp⟩
  | i, o :: l => by
    unfold lastOf
    rcases lastOf_spec p (i + 1) l with ⟨h1, h2⟩ | ⟨j, hj, h1, h2, h3⟩
    · rw [if_pos h1]
      by_cases hp : o.Process = p
      · refine .inr ⟨0, by simp, ?_, hp, by simpa using h2⟩
        rw [if_pos (by simpa using hp)]; rfl
      · refine .inl ⟨by rw [if_neg (by simpa using hp)], fun q hq => ?_⟩
        rcases List.mem_cons.1 hq with rfl | hq
        · exact hp
        · exact h2 q hq
    · rw [if_neg (by rw [h1]; omega)]
      refine .inr ⟨j + 1, by simp; omega, by rw [h1]; congr 1; omega, h2, h3⟩
theorem lastOf_snoc (p : Int) (o : history_Operation) : ∀ (i : Nat) (l : List history_Operation), lastOf p i (l ++ [o]) = if o.Process == p then ((i + l.length : Nat) : Int) else lastOf p i l
  | i, [] => by
    unfold lastOf lastOf
    simp
  | i, a :: l => by
    rw [List.cons_append, lastOf, lastOf_snoc p o (i + 1) l]
    by_cases hp : (o.Process == p) = true
    · rw [if_pos hp, if_pos hp, if_neg (by omega)]
      rw [List.length_cons]; congr 1; omega
    · rw [if_neg hp, if_neg hp, lastOf]
theorem Times_l1 (l : List history_Operation) (p : Int) (hm : l.length ≤ 1000) : loopO (eslaw38_Times.l1 l p) (-1, 0) = some (lastOf p 0 l) := by
  obtain ⟨b, hb, hq⟩ : ∃ b, loopO (eslaw38_Times.l1 l p) (-1, 0) = some b ∧ b = lastOf p 0 l := by
    refine loopO_inv (fun k s => s = (lastOf p 0 (l.take k), (k : Int))) l.length rfl (fun k s hk hI => ?_) (fun s hI => ?_)
    · subst hI
      unfold eslaw38_Times.l1
      simp only [lt_of_len hk, if_true, idx_nat hk, Option.bind_some, eslaw38_Times.j8, letV_of, wcast hk (by omega)]
      refine ⟨_, ?_, rfl⟩
      rw [take_snoc hk, lastOf_snoc, List.length_take, Nat.min_eq_left (by omega), Nat.zero_add]
      cases l[k].Process == p <;> rfl
    · subst hI
      unfold eslaw38_Times.l1
      dsimp only
      exact ⟨_, if_neg (by rw [not_lt_len]; simp), by rw [List.take_length]⟩
  rw [hb, hq]
theorem vErr_range {o : history_Operation} (h : vErr o = 0) : 101 ≤ o.Process ∧ o.Process < 107 ∧ 1 ≤ o.Kind ∧ o.Kind ≤ 3 := by
  have h1 := vErr_eq o
  rw [h] at h1
  simp only [esref39_validOperation, esref39_validOperation.j2, esref39_validOperation.j1, esref06_Client, esref06_Client.j1] at h1
  by_cases a1 : 101 ≤ o.Process <;> by_cases a2 : o.Process < 107 <;> by_cases a3 : o.Kind < 1 <;> by_cases a4 : 3 < o.Kind <;> simp [a1, a2, a3, a4] at h1 <;> refine ⟨?_, ?_, ?_, ?_⟩ <;> omega
theorem vErr_ret {o : history_Operation} {r : Int} (h : vErr o = 0) (h0 : o.Return = 0) (hr : o.Call < r) : vErr { o with Return := r } = 0 := by
  obtain ⟨a, b, c, d⟩ := vErr_range h
  obtain ⟨e, _⟩ := vErr_zero h
  exact vErr_ok a b c d e (.inr hr)
theorem MH.ret {n : Int} {l : List history_Operation} (h : MH n l) {j : Nat} (hj : j < l.length) (h0 : l[j].Return = 0) (hlast : ∀ o ∈ l.drop (j + 1), o.Process ≠ l[j].Process) (hn : 0 ≤ n) :
    MH (n + 1) (l.set j { l[j] with Return := n + 1 }) := by
  obtain ⟨hg, hr, he⟩ := h
  have hset : l.set j { l[j] with Return := n + 1 } = l.take j ++ ({ l[j] with Return := n + 1 } : history_Operation) :: l.drop (j + 1) := by
    rw [List.set_eq_take_append_cons_drop, if_pos hj]
  have hl : l = l.take j ++ l[j] :: l.drop (j + 1) := by rw [← List.drop_eq_getElem_cons hj, List.take_append_drop]
  have hmem : l[j] ∈ l := List.getElem_mem hj
  obtain ⟨v1, v2⟩ := vErr_zero (hg.v _ hmem)
  have hin : ∀ o ∈ l.set j { l[j] with Return := n + 1 }, o ∈ l ∨ o = { l[j] with Return := n + 1 } := fun o ho => List.mem_or_eq_of_mem_set ho
  refine ⟨⟨fun o ho => ?_, fun o ho => ?_, ?_⟩, fun o ho => ?_, fun o ho => ?_⟩
  · rcases hin o ho with ho | rfl
    · exact hg.v o ho
    · have hv := hg.v _ hmem
      have hc := (he _ hmem).1
      exact vErr_ret hv h0 (by omega)
  · rcases hin o ho with ho | rfl
    · exact hg.c o ho
    · have hc := hg.c _ hmem
      have a := cErr_eq l[j]
      have b := cErr_eq { l[j] with Return := n + 1 }
      rw [hc] at a
      unfold esref39_content at a b
      rw [(hr _ hmem).1] at a b
      have : (if (l[j].Return == 0) = true then esref39_content.j2 (decide ((0 : Int) < (([] : List history_Value).length : Int))) else esref39_content.j2 false) = esref39_content.j2 false := by
        rw [h0]; rfl
      rw [this] at a
      have : (if ((n + 1 : Int) == 0) = true then esref39_content.j2 (decide ((0 : Int) < (([] : List history_Value).length : Int))) else esref39_content.j2 false) = esref39_content.j2 false := by
        rw [if_neg (by simp; omega)]
      simp only [this] at b
      rw [a] at b
      exact (Option.some.inj b).symm
  · have hpw := hg.pw
    rw [hl, List.pairwise_append, List.pairwise_cons] at hpw
    obtain ⟨p1, ⟨p2, p3⟩, p4⟩ := hpw
    rw [hset, List.pairwise_append, List.pairwise_cons]
    refine ⟨p1, ⟨fun o ho => ?_, p3⟩, fun a ha b hb => ?_⟩
    · obtain ⟨r1, r2, r3, r4⟩ := p2 o ho
      have hlast' := hlast o ho
      have hol : o ∈ l := List.mem_of_mem_drop ho
      have hoe := he o hol
      refine ⟨r1, ?_, fun _ => ?_, fun hp => absurd hp.symm hlast'⟩
      · show n + 1 ≠ o.Call
        omega
      · show n + 1 ≠ o.Return
        omega
    · rcases List.mem_cons.1 hb with rfl | hb
      · obtain ⟨r1, r2, r3, r4⟩ := p4 a ha l[j] (List.mem_cons_self ..)
        have hae := he a (List.mem_of_mem_take ha)
        refine ⟨r1, r2, fun _ => ?_, r4⟩
        show a.Return ≠ n + 1
        omega
      · exact p4 a ha b (List.mem_cons_of_mem _ hb)
  · rcases hin o ho with ho | rfl
    · exact hr o ho
    · exact (hr _ hmem : l[j].Result = [] ∧ l[j].Effects.length ≤ 100)
  · rcases hin o ho with ho | rfl
    · have := he o ho; omega
    · have : l[j].Call ≤ n := (he _ hmem).1
      exact ⟨by show l[j].Call ≤ _; omega, Int.le_refl _⟩
theorem MH.call {n : Int} {l : List history_Operation} (h : MH n l) {o : history_Operation} (hc : o.Call = n + 1) (h0 : o.Return = 0) (hv : vErr o = 0) (hcc : cErr o = 0) (hr : o.Result = [] ∧ o.Effects.length ≤ 100) (hn : 0 ≤ n) : MH (n + 1) (l ++ [o]) := by
  obtain ⟨hg, hre, he⟩ := h
  refine ⟨⟨fun q hq => ?_, fun q hq => ?_, ?_⟩, fun q hq => ?_, fun q hq => ?_⟩
  · rcases List.mem_append.1 hq with hq | hq
    · exact hg.v q hq
    · simp at hq; subst hq; exact hv
  · rcases List.mem_append.1 hq with hq | hq
    · exact hg.c q hq
    · simp at hq; subst hq; exact hcc
  · rw [List.pairwise_append]
    refine ⟨hg.pw, List.pairwise_singleton _ _, fun a ha b hb => ?_⟩
    simp at hb; subst hb
    have := he a ha
    refine ⟨by omega, by omega, fun h => by rw [h0]; exact h, fun hpp => by omega⟩
  · rcases List.mem_append.1 hq with hq | hq
    · exact hre q hq
    · simp at hq; subst hq; exact hr
  · rcases List.mem_append.1 hq with hq | hq
    · have := he q hq; omega
    · simp at hq; subst hq; omega
end Go.Proofs.Ytbbeobiampbddaa

set_option linter.unusedVariables false
namespace Go.Proofs.Ytbbeobiampbddaa
open Go Go.Proofs.YtbbeobiampbddaaL
theorem Times_call {l : List Int} {k : Nat} {ops : List history_Operation} {p x : Int} (hk : k < l.length) (hk2 : k < 40) (hM : MH k ops) (hl : ops.length ≤ k) (hp1 : 101 ≤ p) (hp2 : p < 107) :
    ∃ ops', eslaw38_Times.j4 l k ops ((k + 1 : Nat) : Int) p x false = some (.inl (((k + 1 : Nat) : Int), ((k + 1 : Nat) : Int), ops')) ∧ MH ((k + 1 : Nat) : Int) ops' ∧ ops'.length ≤ k + 1 := by
  have hw : IntKind.i64.wrap ((k : Int) + 1) = ((k + 1 : Nat) : Int) := w64n (by omega)
  unfold eslaw38_Times.j4
  rw [if_neg (by simp), idx_nat hk, Option.bind_some]
  obtain ⟨d, hd, hd0, hd1⟩ := Digit_ex l[k] 3 2 (by decide) (by decide) (by decide)
  have hd : eslaw00_Digit l[k] 3 2 = some d := hd
  have hw2 : IntKind.i64.wrap (1 + d) = 1 + d := w64 (by omega) (by omega)
  rw [hd, Option.bind_some, letV_of, hw2]
  have fin : ∀ es : List api_Effect, es.length ≤ 100 → cErr ⟨p, 1 + d, es, [], ((k + 1 : Nat) : Int), 0⟩ = 0 →
      ∃ ops', eslaw38_Times.j3 (k : Int) ops ((k + 1 : Nat) : Int) p (1 + d) es = some (.inl (((k + 1 : Nat) : Int), ((k + 1 : Nat) : Int), ops')) ∧ MH ((k + 1 : Nat) : Int) ops' ∧ ops'.length ≤ k + 1 := by
    intro es he hc
    unfold eslaw38_Times.j3 eslaw38_Times.j2
    rw [app_of (by simp; omega), Option.bind_some, letV_of, hw]
    refine ⟨_, rfl, ?_, by simp; omega⟩
    have := hM.call (o := ⟨p, 1 + d, es, [], ((k + 1 : Nat) : Int), 0⟩) (by simp) rfl (vErr_ok hp1 hp2 (by show 1 ≤ 1 + d; omega) (by show 1 + d ≤ 3; omega) (by show (1 : Int) ≤ ((k + 1 : Nat) : Int); omega) (.inl rfl)) hc ⟨rfl, he⟩ (by omega)
    exact this
  cases h1 : ((1 + d) == 1) with
  | true =>
    have hd0' : 1 + d = 1 := by simpa using h1
    obtain ⟨d9, hd9, _⟩ := Digit_ex l[k] 2 9 (by decide) (by decide) (by decide)
    have hd9 : eslaw00_Digit l[k] 2 9 = some d9 := hd9
    obtain ⟨e, he, hv⟩ := EffectV_ex l[k] (d9 == 1)
    rw [if_pos rfl]
    simp only [Option.bind_some, hd9, he]
    exact fin [e] (by simp) (cErr_upd hd0' rfl rfl hv)
  | false =>
    rw [if_neg (by simp)]
    exact fin [] (by simp) (cErr_other (by simpa using h1) rfl rfl)
theorem Times_step {l : List Int} {k : Nat} {ops : List history_Operation} (hk : k < l.length) (hk2 : k < 40) (hM : MH k ops) (hl : ops.length ≤ k) :
    ∃ ops', eslaw38_Times.j9 l k k ops true = some (.inl (((k + 1 : Nat) : Int), ((k + 1 : Nat) : Int), ops')) ∧ MH ((k + 1 : Nat) : Int) ops' ∧ ops'.length ≤ k + 1 := by
  have hw : IntKind.i64.wrap ((k : Int) + 1) = ((k + 1 : Nat) : Int) := w64n (by omega)
  unfold eslaw38_Times.j9
  obtain ⟨d, hd, hd0, hd1⟩ := Digit_ex l[k] 6 0 (by decide) (by decide) (by decide)
  have hd : eslaw00_Digit l[k] 6 0 = some d := hd
  have hw2 : IntKind.i64.wrap (101 + d) = 101 + d := w64 (by omega) (by omega)
  rw [if_pos rfl]
  simp only [letV_of, hw, idx_nat hk, Option.bind_some, hd, hw2]
  rw [Times_l1 ops (101 + d) (by omega), Option.bind_some]
  have call := fun x : Int => Times_call (l := l) (k := k) (ops := ops) (p := 101 + d) (x := x) hk hk2 hM hl (by omega) (by omega)
  unfold eslaw38_Times.j7
  rcases lastOf_spec (101 + d) 0 ops with ⟨h1, _⟩ | ⟨j, hj, h1, h2, h3⟩
  · rw [h1, if_neg (by decide)]
    unfold eslaw38_Times.j6
    rw [if_neg (by simp)]
    unfold eslaw38_Times.j5
    rw [if_neg (by decide)]
    exact call _
  · rw [h1, Nat.zero_add, if_pos (by simp), idx_nat hj, Option.bind_some]
    unfold eslaw38_Times.j6
    cases hr : (ops[j].Return != 0) with
    | true =>
      rw [if_pos rfl]
      unfold eslaw38_Times.j5
      rw [if_neg (by decide)]
      exact call _
    | false =>
      have hr0 : ops[j].Return = 0 := by simpa using hr
      rw [if_neg (by simp)]
      unfold eslaw38_Times.j5
      obtain ⟨d8, hd8, _⟩ := Digit_ex l[k] 8 3 (by decide) (by decide) (by decide)
      have hd8 : eslaw00_Digit l[k] 8 3 = some d8 := hd8
      rw [if_pos (by simp), idx_nat hk]
      simp only [Option.bind_some, hd8]
      cases decide (0 < d8) with
      | false => exact call _
      | true =>
        unfold eslaw38_Times.j4
        rw [if_pos rfl, idx_nat hj]
        simp only [Option.bind_some, letV_of, eslaw38_Times.j2, hw, Int.toNat_natCast]
        refine ⟨_, rfl, ?_, by simp; omega⟩
        exact hM.ret hj hr0 (fun o ho => by rw [h2]; exact h3 o ho) (by omega)
theorem Times_ex (l : List Int) : ∃ n ops, eslaw38_Times l = some ⟨ops⟩ ∧ MH n ops ∧ ops.length ≤ 40 := by
  unfold eslaw38_Times
  obtain ⟨b, hb, n, hq⟩ : ∃ b, loopO (eslaw38_Times.l2 l) (0, 0, []) = some b ∧ ∃ n, MH n b ∧ b.length ≤ 40 := by
    refine loopO_inv (fun k (s : Int × Int × List history_Operation) => s.1 = (k : Int) ∧ s.2.1 = (k : Int) ∧ MH k s.2.2 ∧ s.2.2.length ≤ k) (min l.length 40) ⟨rfl, rfl, MH.nil, Nat.le_refl _⟩ (fun k s hk hI => ?_) (fun s hI => ?_)
    · obtain ⟨a, i, ops⟩ := s
      obtain ⟨h1, h2, h3, h4⟩ := hI
      have h1 : a = (k : Int) := h1
      have h2 : i = (k : Int) := h2
      subst h1 h2
      have hk1 : k < l.length := by omega
      have hk2 : k < 40 := by omega
      obtain ⟨ops', e, m, le⟩ := Times_step hk1 hk2 h3 h4
      unfold eslaw38_Times.l2
      dsimp only
      rw [if_pos (lt_of_len hk1), decide_eq_true (by omega)]
      exact ⟨_, e, rfl, rfl, m, le⟩
    · obtain ⟨a, i, ops⟩ := s
      obtain ⟨h1, h2, h3, h4⟩ := hI
      have h1 : a = ((min l.length 40 : Nat) : Int) := h1
      have h2 : i = ((min l.length 40 : Nat) : Int) := h2
      subst h1 h2
      have h4 : ops.length ≤ min l.length 40 := h4
      refine ⟨ops, ?_, _, h3, by omega⟩
      unfold eslaw38_Times.l2
      dsimp only
      by_cases hc : l.length ≤ 40
      · rw [Nat.min_eq_left hc, if_neg (by rw [not_lt_len]; simp)]
        unfold eslaw38_Times.j9
        rw [if_neg (by simp)]
      · rw [Nat.min_eq_right (by omega), if_pos (by simp; omega)]
        unfold eslaw38_Times.j9
        rw [if_neg (by decide)]
  exact ⟨n, b, by rw [hb]; rfl, hq.1, hq.2⟩
end Go.Proofs.Ytbbeobiampbddaa
set_option linter.unusedVariables false
namespace Go.Proofs.Ytbbeobiampbddaa
open Go Go.Proofs.YtbbeobiampbddaaL
namespace C38
theorem anyLoop {xs : List history_Operation} {f : history_Operation → Bool} {step : Int → Option (Int ⊕ (Unit ⊕ Int))} {n : Nat} {er : Int} (hn : n ≤ xs.length) (hm : xs.length ≤ 1000)
    (hs : ∀ k, (hk : k < n) → step (k : Int) = if f (xs[k]'(by omega)) then some (.inr (.inr er)) else some (.inl (IntKind.i64.wrap ((k : Int) + 1)))) (he : step (n : Int) = some (.inr (.inl ()))) :
    loopO step 0 = some (if (xs.take n).any f then .inr er else .inl ()) := by
  obtain ⟨b, hb, hq⟩ : ∃ b, loopO step (0 : Int) = some b ∧ b = (if (xs.take n).any f then .inr er else .inl ()) := by
    refine loopO_ex (fun k s => s = (k : Int) ∧ ∀ o ∈ xs.take k, f o = false) n ⟨rfl, by simp⟩ (fun k s hk hI => ?_) (fun s hI => ?_)
    · obtain ⟨rfl, hI⟩ := hI
      rw [hs k hk]
      have hk' : k < xs.length := by omega
      cases hc : f xs[k] with
      | true =>
        refine .inr ⟨_, rfl, ?_⟩
        rw [if_pos]
        rw [List.any_eq_true]
        refine ⟨xs[k], ?_, hc⟩
        rw [List.mem_take_iff_getElem]
        exact ⟨k, by omega, rfl⟩
      | false =>
        refine .inl ⟨((k + 1 : Nat) : Int), by rw [if_neg (by simp), wcast hk' (by omega)], rfl, fun o ho => ?_⟩
        rw [take_snoc hk'] at ho
        rcases List.mem_append.1 ho with ho | ho
        · exact hI o ho
        · simp at ho; subst ho; exact hc
    · obtain ⟨rfl, hI⟩ := hI
      refine ⟨_, he, ?_⟩
      rw [if_neg]
      rw [List.any_eq_true]
      rintro ⟨o, ho, h⟩
      rw [hI o ho] at h; cases h
  rw [hb, hq]
theorem l1_eq {h : history_History} {k : Nat} (hk : k < h.Operations.length) (hm : h.Operations.length ≤ 1000) :
    loopO (esref39_Validate.l1 h k) 0 = some (if stB (h.Operations.take k) h.Operations[k] then .inr 17 else .inl ()) := by
  refine anyLoop (xs := h.Operations) (n := k) (f := fun o => o.Process == h.Operations[k].Process && decide (h.Operations[k].Call < o.Return)) (by omega) hm (fun j hj => ?_) ?_
  · have hj' : j < h.Operations.length := by omega
    unfold esref39_Validate.l1
    have hlt : decide ((j : Int) < (k : Int)) = true := by simpa using hj
    simp only [hlt, if_true, idx_nat hj', idx_nat hk, Option.bind_some, esref39_Validate.j3, letV_of]
    cases h.Operations[j].Process == h.Operations[k].Process <;> simp
  · unfold esref39_Validate.l1
    simp
theorem l2_eq {h : history_History} {k : Nat} (hk : k < h.Operations.length) (hm : h.Operations.length ≤ 1000) :
    loopO (esref39_Validate.l2 h k) 0 = some (if dupB (h.Operations.take k) h.Operations[k] then .inr 5 else .inl ()) := by
  refine anyLoop (xs := h.Operations) (n := k) (f := fun o => h.Operations[k].Call == o.Return || (h.Operations[k].Return != 0 && (h.Operations[k].Return == o.Call || h.Operations[k].Return == o.Return))) (by omega) hm (fun j hj => ?_) ?_
  · have hj' : j < h.Operations.length := by omega
    unfold esref39_Validate.l2
    have hlt : decide ((j : Int) < (k : Int)) = true := by simpa using hj
    simp only [hlt, if_true, idx_nat hj', idx_nat hk, Option.bind_some, esref39_Validate.j5, letV_of]
    cases h.Operations[k].Call == h.Operations[j].Return <;> cases h.Operations[k].Return != 0 <;> cases h.Operations[k].Return == h.Operations[j].Call <;> simp
  · unfold esref39_Validate.l2
    simp
theorem refValidate_eq (h : history_History) (hm : h.Operations.length ≤ 1000) : esref39_Validate h = some (valL [] h.Operations) := by
  unfold esref39_Validate
  obtain ⟨b, hb, hq⟩ : ∃ b, loopO (esref39_Validate.l3 h) (0 : Int) = some b ∧ (fun b : Unit ⊕ Int => match b with | .inl _ => valL [] h.Operations = 0 | .inr e => valL [] h.Operations = e) b := by
    refine loopO_ex (fun k s => s = (k : Int) ∧ valL [] h.Operations = valL (h.Operations.take k) (h.Operations.drop k)) h.Operations.length ⟨rfl, rfl⟩ (fun k s hk hI => ?_) (fun s hI => ?_)
    · obtain ⟨rfl, hI⟩ := hI
      obtain ⟨t1, t2⟩ := take_drop_step hk hI
      unfold esref39_Validate.l3
      simp only [lt_of_len hk, if_true, idx_nat hk, Option.bind_some, vErr_eq]
      by_cases hv : vErr h.Operations[k] = 0
      · simp only [hv, bne_self_eq_false, Bool.false_eq_true, if_false]
        have hlen : (h.Operations.take k).length = k := by rw [List.length_take]; omega
        have main : ∀ b : Bool, (decide (0 < (h.Operations.take k).length) && decide (h.Operations[k].Call ≤ lastCall (h.Operations.take k))) = b →
            (∃ s', esref39_Validate.j6 h k b = some (.inl s') ∧ (s' = ((k + 1 : Nat) : Int) ∧ valL [] h.Operations = valL (h.Operations.take (k + 1)) (h.Operations.drop (k + 1)))) ∨ ∃ b', esref39_Validate.j6 h k b = some (.inr b') ∧ (fun b : Unit ⊕ Int => match b with | .inl _ => valL [] h.Operations = 0 | .inr e => valL [] h.Operations = e) b' := by
          intro b hb
          have ho : opErr (h.Operations.take k) h.Operations[k] = if b then 7 else if cErr h.Operations[k] ≠ 0 then cErr h.Operations[k] else if dupB (h.Operations.take k) h.Operations[k] then 5 else if stB (h.Operations.take k) h.Operations[k] then 17 else 0 := by
            unfold opErr
            rw [if_neg (by simp [hv]), hb]
          unfold esref39_Validate.j6
          cases b with
          | true => exact .inr ⟨_, rfl, (t1 (by rw [ho]; simp)).trans (by rw [ho]; rfl)⟩
          | false =>
            simp only [Bool.false_eq_true, if_false, idx_nat hk, Option.bind_some, cErr_eq] at ho ⊢
            by_cases hc : cErr h.Operations[k] = 0
            · rw [if_neg (by simp [hc])] at ho ⊢
              rw [l2_eq hk hm, Option.bind_some]
              cases hd : dupB (h.Operations.take k) h.Operations[k] with
              | true =>
                rw [hd, if_pos rfl] at ho
                exact .inr ⟨_, rfl, (t1 (by rw [ho]; decide)).trans ho⟩
              | false =>
                rw [hd, if_neg (by simp)] at ho
                simp only [Bool.false_eq_true, if_false, esref39_Validate.j4]
                rw [l1_eq hk hm, Option.bind_some]
                cases hs : stB (h.Operations.take k) h.Operations[k] with
                | true =>
                  rw [hs, if_pos rfl] at ho
                  exact .inr ⟨_, rfl, (t1 (by rw [ho]; decide)).trans ho⟩
                | false =>
                  rw [hs, if_neg (by simp)] at ho
                  exact .inl ⟨_, by simp only [Bool.false_eq_true, if_false, esref39_Validate.j2, letV_of, wcast hk (by omega)], rfl, t2 ho⟩
            · have hc' : (cErr h.Operations[k] != 0) = true := by simpa using hc
              rw [if_pos hc] at ho
              rw [if_pos hc']
              exact .inr ⟨_, rfl, (t1 (by rw [ho]; exact hc)).trans ho⟩
        rcases Nat.eq_zero_or_pos k with h0 | h0
        · subst h0
          rw [if_neg (by simp)]
          exact main false (by simp)
        · rw [if_pos (by simpa using h0)]
          have hw : IntKind.i64.wrap ((k : Int) - 1) = ((k - 1 : Nat) : Int) := by rw [w64 (by omega) (by omega)]; omega
          have hk1 : k - 1 < h.Operations.length := by omega
          simp only [letV_of, hw, idx_nat hk1, Option.bind_some]
          refine main _ ?_
          have := lastCall_take hk1
          rw [show k - 1 + 1 = k by omega] at this
          rw [hlen, this, decide_eq_true h0, Bool.true_and]
      · have hv' : (vErr h.Operations[k] != 0) = true := by simpa using hv
        rw [if_pos hv']
        have ho : opErr (h.Operations.take k) h.Operations[k] = vErr h.Operations[k] := by
          unfold opErr
          rw [if_pos hv]
        exact .inr ⟨_, rfl, (t1 (by rw [ho]; exact hv)).trans ho⟩
    · obtain ⟨rfl, hI⟩ := hI
      unfold esref39_Validate.l3
      refine ⟨.inl (), by simp only [not_lt_len, Bool.false_eq_true, if_false], ?_⟩
      show valL [] h.Operations = 0
      rw [hI, List.drop_length, valL]
  rw [hb, Option.bind_some]
  cases b with
  | inl x => rw [show valL [] h.Operations = 0 from hq]; rfl
  | inr e => rw [show valL [] h.Operations = e from hq]
end C38
theorem changed_j2 {l : List history_Operation} (hm : l.length ≤ 1000) : eslaw38_HistoryChanged.j2 l = some true := by
  unfold eslaw38_HistoryChanged.j2
  have h1 := Validate_eq ⟨l⟩ hm
  have h2 := C38.refValidate_eq ⟨l⟩ hm
  rw [h1, h2, awake_true]
  simp [eslaw38_HistoryChanged.j1]
theorem changed_j3 {ops : List history_Operation} (x4 x5 x6 : Int) (x7 : List api_Effect) (x10 : List history_Value) (h0 : 0 < ops.length) (hm : ops.length ≤ 1000) (b : Bool) : eslaw38_HistoryChanged.j3 x4 x5 x6 x7 x10 ⟨ops⟩ b = some true := by
  unfold eslaw38_HistoryChanged.j3
  cases b with
  | true => rw [if_pos rfl, awake_true]; rfl
  | false =>
    rw [if_neg (by simp)]
    obtain ⟨k, hk, hk0, hk1⟩ := Index_ex x4 (ops.length : Int) (by omega) (by omega)
    obtain ⟨w, hw, _⟩ := Index_ex x5 7 (by decide) (by decide)
    obtain ⟨a, ha, _⟩ := Index_ex x6 44 (by decide) (by decide)
    obtain ⟨b, hb, _⟩ := Index_ex x6 10 (by decide) (by decide)
    obtain ⟨c, hc, _⟩ := Index_ex x6 6 (by decide) (by decide)
    have hi : idx ops k = some (ops[k.toNat]'(by omega)) := by
      have := idx_nat (xs := ops) (k := k.toNat) (by omega)
      rwa [Int.toNat_of_nonneg hk0] at this
    have hz : idx ops 0 = some (ops[0]'h0) := idx_nat (xs := ops) (k := 0) h0
    have hs : ∀ y, (ops.set k.toNat y).length ≤ 1000 := fun y => by rw [List.length_set]; exact hm
    have hz2 : ∀ y, ∃ z, idx (ops.set k.toNat y) 0 = some z := fun y => ⟨_, idx_nat (xs := ops.set k.toNat y) (k := 0) (by rw [List.length_set]; exact h0)⟩
    show ((eslaw00_Index x4 (ops.length : Int)).bind _) = _
    rw [hk, Option.bind_some, hw, Option.bind_some, ha, hb, hc]
    simp only [Option.bind_some, hi, hz, letV_of]
    obtain ⟨z, hz2⟩ := hz2 (ops[0]'h0)
    rw [hz2, Option.bind_some]
    have e := fun y => changed_j2 (hs y)
    have e2 : eslaw38_HistoryChanged.j2 ((ops.set k.toNat (ops[0]'h0)).set (0 : Int).toNat (ops[k.toNat]'(by omega))) = some true := changed_j2 (by rw [List.length_set]; exact hs _)
    simp only [e, e2, ite_self]
theorem historyChanged_true (x1 : List Int) (x4 x5 x6 : Int) (x7 : List api_Effect) (x10 : List history_Value) : eslaw38_HistoryChanged x1 x4 x5 x6 x7 x10 = some true := by
  obtain ⟨n, ops, hT, hM, hl⟩ := Times_ex x1
  unfold eslaw38_HistoryChanged
  have hv := Validate_eq ⟨ops⟩ (show ops.length ≤ 1000 by omega)
  rw [show valL [] (⟨ops⟩ : history_History).Operations = 0 from hM.good.val] at hv
  have hv : history_Validate ⟨ops⟩ = some 0 := hv
  rw [hT, Option.bind_some, hv, Option.bind_some, if_neg (by simp)]
  by_cases h0 : ops.length = 0
  · rw [if_pos (by simpa using h0)]
    unfold eslaw38_HistoryChanged.j3
    rw [if_pos rfl, awake_true]; rfl
  · have hp : 0 < ops.length := by omega
    rw [if_neg (by simpa using h0)]
    split
    · exact changed_j3 _ _ _ _ _ hp (by omega) _
    · exact changed_j3 _ _ _ _ _ hp (by omega) _
end Go.Proofs.Ytbbeobiampbddaa
