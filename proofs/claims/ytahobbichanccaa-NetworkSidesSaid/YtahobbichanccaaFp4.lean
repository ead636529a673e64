import Derived.Test.YtahobbichanccaaFh
import Derived.Test.YtahobbichanccaaFp0
import Derived.Test.YtahobbichanccaaFp1
import Derived.Test.YtahobbichanccaaFp2
import Derived.Test.YtahobbichanccaaFp3
set_option linter.unusedVariables false
set_option linter.unusedSimpArgs false
namespace Go.Proofs.Ytahobbichanccaa
open Go Go.RowKit Go.Proofs.YtahobbichanccaaL
set_option maxRecDepth 100000
set_option maxHeartbeats 400000
/-! elasticstore/elasticstorelaw34.messages: function 11 -/
theorem eslaw34_messages.calls {ok : Nat → Prop} {w0 : World} {x1 : elasticstorelaw34_Act} {v2 : Value} {r : List api_Message} (hf : eslaw34_messages x1 = some r) (i0 : (vl t_elasticstorelaw34_Act x1 v2).holds ok w0) :
    Calls Try.prog 11 #[v2] w0 fun e w' => ∃ v, e = .returned v ∧ ∃ y : (Option Addr × Nat × Nat), v = .slice y.1 y.2.1 y.2.2 ∧ St ok (bz w0) w' [] [own t_api_Message 49 (.slice y.1 y.2.1 y.2.2) r] := by
  unfold eslaw34_messages at hf
  refine calls_of_W (fn := Try.f11) (N := 34) Try.func11 rfl Try.ntmps11 rfl ?_
  have hs : St ok (bz w0) w0 [vl t_elasticstorelaw34_Act x1 v2] [] := St.init (All.cons i0 All.nil)
  clear i0
  obtain ⟨cs3, hl4, rfl⟩ := hs.aggv (n := 4) 0 rfl rfl rfl
  refine W.seqK fun K5 hK5 => ?_
  refine W.region ?_
  refine WL.box (vs := cs3) hs rfl rfl (fun g6 w hs => ?_)
  refine WL.assign (v := .slice none 0 0) rfl ?_
  refine WL.nil ?_
  refine hK5 _ _ ?_
  refine W.seqK fun K7 hK7 => ?_
  refine W.region ?_
  refine WL.assign (v := .slice none 0 0) rfl ?_
  refine WL.nil ?_
  refine hK7 _ _ ?_
  refine W.seqK fun K8 hK8 => ?_
  have hs := hs.ownNil t_api_Message 49
  have Jk14 : ∀ (x10 : List api_Message) (a11 : Option Addr) (c12 : Nat) (n13 : Nat) (ρ : Env) (w : World), ρ 3 = .slice a11 n13 c12 → St ok (bz w0) w [] [own t_api_Message 49 (.slice a11 n13 c12) x10] → eslaw34_messages.j1 x10 = some r → K8 ρ w := by
    intro x10 a11 c12 n13 ρ w h9_3 hs hf
    refine hK8 _ _ ?_
    unfold eslaw34_messages.j1 at hf
    refine W.seqK fun K15 hK15 => ?_
    refine W.region ?_
    refine WL.move (v := .slice a11 n13 c12) h9_3 ?_
    refine WL.assign (v := .slice a11 n13 c12) rfl ?_
    refine WL.nil ?_
    refine hK15 _ _ ?_
    refine W.ret ?_
    have hr := Option.some.inj hf; subst hr
    exact ⟨_, resOk_one rfl rfl, (a11, n13, c12), rfl, (hs.mask [true]).pick []⟩
  refine W.seqK fun K16 hK16 => ?_
  refine W.region ?_
  refine WL.assign (v := .int .i64 0) rfl ?_
  refine WL.nil ?_
  refine hK16 _ _ ?_
  refine W.block ?_
  obtain ⟨bs23, hbs23, hfs23⟩ := bindE hf
  refine W.loop hbs23 (fun s ρ w => match s with | (x18, x22) => ∃ (a19 : Option Addr), ∃ (c20 : Nat), ∃ (n21 : Nat), ρ 1 = .pointer (some ⟨g6, 0, none⟩) ∧ ρ 3 = .slice a19 n21 c20 ∧ ρ 4 = .int .i64 x22 ∧ St ok (bz w0) w [vl t_elasticstorelaw34_Act x1 (.agg cs3.toArray)] [own t_api_Message 49 (.slice a19 n21 c20) x18, blk g6 33 cs3]) ⟨none, 0, 0, rfl, rfl, rfl, (hs.mask [true, true]).pick [0]⟩ ?_
  intro s ρ w os23 hI hf hbbs23
  obtain ⟨x18, x22⟩ := s
  obtain ⟨a19, c20, n21, h17_1, h17_3, h17_4, hs⟩ := hI
  unfold eslaw34_messages.l1 at hf
  refine W.seqK fun K24 hK24 => ?_
  refine W.seqK fun K25 hK25 => ?_
  refine W.region ?_
  refine WL.move (v := .int .i64 x22) h17_4 ?_
  refine WL.fieldAddr (m := 2) h17_1 FA33_2 rfl ?_
  refine WL.loadF (z := x1.M) F_elasticstorelaw34_Act_M hs 1 rfl 0 rfl rfl TI3 (.inr rfl) rfl rfl (fun v26 hs => ?_)
  obtain rfl := hs.int 0 rfl
  obtain ⟨x27, hxx27, hf⟩ := bindE hf
  refine WL.call (vs := [.int .i64 x1.M, .int .i64 4]) hs FN17 ⟨rfl, ⟨rfl, trivial⟩⟩ (fun ok hA => eslaw00_Index.calls (x1 := x1.M) (x2 := 4) hxx27) ?_
  rintro _ w hs
  refine WL.bin (v := .bool (decide (x22 < x27))) rfl rfl (ib_lss _ _ _) ?_
  refine WL.nil ?_
  refine hK25 _ _ ?_
  rcases iteE hf with ⟨hc28, hf⟩ | ⟨hc28, hf⟩
  · refine W.cond_true (bool_tr rfl hc28) ?_
    refine W.skip ?_
    refine hK24 _ _ ?_
    refine W.seqK fun K29 hK29 => ?_
    refine W.block ?_
    obtain ⟨x30, ex30, hf⟩ := letE hf
    obtain ⟨x32, ex32, hf⟩ := letE hf
    obtain ⟨hn34, hf⟩ := guardE hf
    obtain ⟨x33, ex33, hf⟩ := letE hf
    obtain ⟨x35, hxx35, hf⟩ := bindE hf
    obtain ⟨x36, ex36, hf⟩ := letE hf
    obtain ⟨x38, ex38, hf⟩ := letE hf
    obtain ⟨hn40, hf⟩ := guardE hf
    obtain ⟨x39, ex39, hf⟩ := letE hf
    obtain ⟨x41, hxx41, hf⟩ := bindE hf
    obtain ⟨x42, ex42, hf⟩ := letE hf
    refine W.any (by kernel_rfl) 20 2 [true, true, true, true, true, true, true, true, true, true, true, true, true, true, true, true, true, true, true, true, false, false] rfl rfl (poAt [pv (.slice a19 n21 c20), pv (.int .i64 x22), pv (.int .i64 x30), pv (.pointer (some ⟨g6, 1, none⟩)), pv (.int .i64 x1.N), pv (.int .i64 x22), pv (.int .i64 x32), pv (.int .i64 x33), pv (.int .i64 x35), pv (.int .i64 x36), pv (.pointer (some ⟨g6, 1, none⟩)), pv (.int .i64 x1.N), pv (.int .i64 x22), pv (.int .i64 x38), pv (.int .i64 x39), pv (.int .i64 x41), pv (.int .i64 x42), pv (.int .i64 x22), pv (.agg ([.int .i64 x30, .int .i64 x36, .int .i64 x42, .int .i64 0, .int .i64 0, .int .i64 x22, .int .i64 0, .slice none 0 0, .slice none 0 0, .slice none 0 0, .slice none 0 0, .bool false, .slice none 0 0, .slice none 0 0, .slice none 0 0, .slice none 0 0, .slice none 0 0, .bool false] : List Value).toArray), pq (fun y : (Option Addr × Nat) => .slice y.1 ([(⟨x30, x36, x42, (⟨0, 0⟩ : api_AccessID), x22, 0, (⟨[], []⟩ : api_Certificate), (⟨[], []⟩ : api_Certificate), false, (⟨[], []⟩ : api_Certificate), [], [], [], false⟩ : api_Message)]).length y.2) (fun v => [vl (tSlice t_api_Message) ([(⟨x30, x36, x42, (⟨0, 0⟩ : api_AccessID), x22, 0, (⟨[], []⟩ : api_Certificate), (⟨[], []⟩ : api_Certificate), false, (⟨[], []⟩ : api_Certificate), [], [], [], false⟩ : api_Message)]) v]) (fun v => [])]) (Λ := [own t_api_Message 49 (.slice a19 n21 c20) x18, blk g6 33 cs3]) hs (by kernel_rfl) (by kernel_rfl) (by kernel_rfl) ⟨⟨⟨⟨⟨⟨⟨⟨⟨⟨⟨⟨⟨⟨⟨⟨⟨⟨⟨⟨trivial, ?_⟩, ?_⟩, ?_⟩, ?_⟩, ?_⟩, ?_⟩, ?_⟩, ?_⟩, ?_⟩, ?_⟩, ?_⟩, ?_⟩, ?_⟩, ?_⟩, ?_⟩, ?_⟩, ?_⟩, ?_⟩, ?_⟩, ?_⟩ ?_
    · intro ρ w Γx Λx hs hu hp
      refine WL.move (v := .slice a19 n21 c20) ((hu 3 rfl).trans h17_3) ?_
      exact WL.nil ⟨rfl, _, rfl, rfl, hs.cutG 0 0⟩
    · intro ρ w Γx Λx hs hu hp
      refine WL.move (v := .int .i64 x22) ((hu 4 rfl).trans h17_4) ?_
      exact WL.nil ⟨rfl, _, rfl, rfl, hs.cutG 0 0⟩
    · intro ρ w Γx Λx hs hu hp
      have e45 : ρ 13 = .int .i64 x22 := (hp 1 rfl).1
      refine WL.bin (v := .int .i64 x30) rfl e45 (ib_as ex30 (ib_add _ _ _)) ?_
      exact WL.nil ⟨rfl, _, rfl, rfl, hs.cutG 0 0⟩
    · intro ρ w Γx Λx hs hu hp
      refine WL.fieldAddr (m := 1) ((hu 1 rfl).trans h17_1) FA33_1 rfl ?_
      exact WL.nil ⟨rfl, _, rfl, rfl, hs.cutG 0 0⟩
    · intro ρ w Γx Λx hs hu hp
      have e46 : ρ 15 = .pointer (some ⟨g6, 1, none⟩) := (hp 3 rfl).1
      refine WL.loadF (z := x1.N) F_elasticstorelaw34_Act_N hs (Λx.length + 1) (getApp rfl) (Γx.length + 1) (getApp rfl) rfl TI3 (.inr rfl) e46 rfl (fun v31 hs => ?_)
      obtain rfl := hs.int 0 rfl
      exact WL.nil ⟨rfl, _, rfl, rfl, hs.cutG 0 1⟩
    · intro ρ w Γx Λx hs hu hp
      refine WL.move (v := .int .i64 x22) ((hu 4 rfl).trans h17_4) ?_
      exact WL.nil ⟨rfl, _, rfl, rfl, hs.cutG 0 0⟩
    · intro ρ w Γx Λx hs hu hp
      have e47 : ρ 17 = .int .i64 x22 := (hp 5 rfl).1
      refine WL.bin (v := .int .i64 x32) e47 rfl (ib_as ex32 (ib_add _ _ _)) ?_
      exact WL.nil ⟨rfl, _, rfl, rfl, hs.cutG 0 0⟩
    · intro ρ w Γx Λx hs hu hp
      have e48 : ρ 16 = .int .i64 x1.N := (hp 4 rfl).1
      have e49 : ρ 18 = .int .i64 x32 := (hp 6 rfl).1
      refine WL.bin (v := .int .i64 x33) e48 e49 (ib_as ex33 (ib_quo _ _ _ hn34)) ?_
      exact WL.nil ⟨rfl, _, rfl, rfl, hs.cutG 0 0⟩
    · intro ρ w Γx Λx hs hu hp
      have e50 : ρ 19 = .int .i64 x33 := (hp 7 rfl).1
      refine WL.call (vs := [.int .i64 x33, .int .i64 5]) hs FN17 ⟨e50, ⟨rfl, trivial⟩⟩ (fun ok hA => eslaw00_Index.calls (x1 := x33) (x2 := 5) hxx35) ?_
      rintro _ w hs
      exact WL.nil ⟨rfl, _, rfl, rfl, hs.cutG 0 0⟩
    · intro ρ w Γx Λx hs hu hp
      have e51 : ρ 20 = .int .i64 x35 := (hp 8 rfl).1
      refine WL.bin (v := .int .i64 x36) rfl e51 (ib_as ex36 (ib_add _ _ _)) ?_
      exact WL.nil ⟨rfl, _, rfl, rfl, hs.cutG 0 0⟩
    · intro ρ w Γx Λx hs hu hp
      refine WL.fieldAddr (m := 1) ((hu 1 rfl).trans h17_1) FA33_1 rfl ?_
      exact WL.nil ⟨rfl, _, rfl, rfl, hs.cutG 0 0⟩
    · intro ρ w Γx Λx hs hu hp
      have e52 : ρ 22 = .pointer (some ⟨g6, 1, none⟩) := (hp 10 rfl).1
      refine WL.loadF (z := x1.N) F_elasticstorelaw34_Act_N hs (Λx.length + 1) (getApp rfl) (Γx.length + 1) (getApp rfl) rfl TI3 (.inr rfl) e52 rfl (fun v37 hs => ?_)
      obtain rfl := hs.int 0 rfl
      exact WL.nil ⟨rfl, _, rfl, rfl, hs.cutG 0 1⟩
    · intro ρ w Γx Λx hs hu hp
      refine WL.move (v := .int .i64 x22) ((hu 4 rfl).trans h17_4) ?_
      exact WL.nil ⟨rfl, _, rfl, rfl, hs.cutG 0 0⟩
    · intro ρ w Γx Λx hs hu hp
      have e53 : ρ 24 = .int .i64 x22 := (hp 12 rfl).1
      refine WL.bin (v := .int .i64 x38) e53 rfl (ib_as ex38 (ib_add _ _ _)) ?_
      exact WL.nil ⟨rfl, _, rfl, rfl, hs.cutG 0 0⟩
    · intro ρ w Γx Λx hs hu hp
      have e54 : ρ 23 = .int .i64 x1.N := (hp 11 rfl).1
      have e55 : ρ 25 = .int .i64 x38 := (hp 13 rfl).1
      refine WL.bin (v := .int .i64 x39) e54 e55 (ib_as ex39 (ib_quo _ _ _ hn40)) ?_
      exact WL.nil ⟨rfl, _, rfl, rfl, hs.cutG 0 0⟩
    · intro ρ w Γx Λx hs hu hp
      have e56 : ρ 26 = .int .i64 x39 := (hp 14 rfl).1
      refine WL.call (vs := [.int .i64 x39, .int .i64 5]) hs FN17 ⟨e56, ⟨rfl, trivial⟩⟩ (fun ok hA => eslaw00_Index.calls (x1 := x39) (x2 := 5) hxx41) ?_
      rintro _ w hs
      exact WL.nil ⟨rfl, _, rfl, rfl, hs.cutG 0 0⟩
    · intro ρ w Γx Λx hs hu hp
      have e57 : ρ 27 = .int .i64 x41 := (hp 15 rfl).1
      refine WL.bin (v := .int .i64 x42) rfl e57 (ib_as ex42 (ib_add _ _ _)) ?_
      exact WL.nil ⟨rfl, _, rfl, rfl, hs.cutG 0 0⟩
    · intro ρ w Γx Λx hs hu hp
      refine WL.move (v := .int .i64 x22) ((hu 4 rfl).trans h17_4) ?_
      exact WL.nil ⟨rfl, _, rfl, rfl, hs.cutG 0 0⟩
    · intro ρ w Γx Λx hs hu hp
      have e58 : ρ 14 = .int .i64 x30 := (hp 2 rfl).1
      have e59 : ρ 21 = .int .i64 x36 := (hp 9 rfl).1
      have e60 : ρ 28 = .int .i64 x42 := (hp 16 rfl).1
      have e61 : ρ 29 = .int .i64 x22 := (hp 17 rfl).1
      refine WL.build (vs := [(0, .int .i64 x30), (1, .int .i64 x36), (2, .int .i64 x42), (4, .int .i64 x22)]) (cs := [.int .i64 x30, .int .i64 x36, .int .i64 x42, .int .i64 0, .int .i64 0, .int .i64 x22, .int .i64 0, .slice none 0 0, .slice none 0 0, .slice none 0 0, .slice none 0 0, .bool false, .slice none 0 0, .slice none 0 0, .slice none 0 0, .slice none 0 0, .slice none 0 0, .bool false]) ⟨⟨rfl, e58⟩, ⟨⟨rfl, e59⟩, ⟨⟨rfl, e60⟩, ⟨⟨rfl, e61⟩, trivial⟩⟩⟩⟩ (bld PL49 rfl) ?_
      exact WL.nil ⟨rfl, _, rfl, rfl, hs.cutG 0 0⟩
    · intro ρ w Γx Λx hs hu hp
      have e62 : ρ 30 = .agg ([.int .i64 x30, .int .i64 x36, .int .i64 x42, .int .i64 0, .int .i64 0, .int .i64 x22, .int .i64 0, .slice none 0 0, .slice none 0 0, .slice none 0 0, .slice none 0 0, .bool false, .slice none 0 0, .slice none 0 0, .slice none 0 0, .slice none 0 0, .slice none 0 0, .bool false] : List Value).toArray := (hp 18 rfl).1
      refine WL.buildSliceB (ys := [(⟨x30, x36, x42, (⟨0, 0⟩ : api_AccessID), x22, 0, (⟨[], []⟩ : api_Certificate), (⟨[], []⟩ : api_Certificate), false, (⟨[], []⟩ : api_Certificate), [], [], [], false⟩ : api_Message)]) (n := 1) (vs := [(0, .agg ([.int .i64 x30, .int .i64 x36, .int .i64 x42, .int .i64 0, .int .i64 0, .int .i64 x22, .int .i64 0, .slice none 0 0, .slice none 0 0, .slice none 0 0, .slice none 0 0, .bool false, .slice none 0 0, .slice none 0 0, .slice none 0 0, .slice none 0 0, .slice none 0 0, .bool false] : List Value).toArray)]) (cs := [.int .i64 x30, .int .i64 x36, .int .i64 x42, .int .i64 0, .int .i64 0, .int .i64 x22, .int .i64 0, .slice none 0 0, .slice none 0 0, .slice none 0 0, .slice none 0 0, .bool false, .slice none 0 0, .slice none 0 0, .slice none 0 0, .slice none 0 0, .slice none 0 0, .bool false]) hs ⟨⟨rfl, e62⟩, trivial⟩ (bls PS30 (by decide) rfl) (fun ok hA => (Cells.one (T := t_api_Message) (show t_api_Message.R ok _ (⟨x30, x36, x42, (⟨0, 0⟩ : api_AccessID), x22, 0, (⟨[], []⟩ : api_Certificate), (⟨[], []⟩ : api_Certificate), false, (⟨[], []⟩ : api_Certificate), [], [], [], false⟩ : api_Message) _ from ⟨[.int .i64 x30], [.int .i64 x36, .int .i64 x42, .int .i64 0, .int .i64 0, .int .i64 x22, .int .i64 0, .slice none 0 0, .slice none 0 0, .slice none 0 0, .slice none 0 0, .bool false, .slice none 0 0, .slice none 0 0, .slice none 0 0, .slice none 0 0, .slice none 0 0, .bool false], rfl, rfl, ⟨[.int .i64 x36], [.int .i64 x42, .int .i64 0, .int .i64 0, .int .i64 x22, .int .i64 0, .slice none 0 0, .slice none 0 0, .slice none 0 0, .slice none 0 0, .bool false, .slice none 0 0, .slice none 0 0, .slice none 0 0, .slice none 0 0, .slice none 0 0, .bool false], rfl, rfl, ⟨[.int .i64 x42], [.int .i64 0, .int .i64 0, .int .i64 x22, .int .i64 0, .slice none 0 0, .slice none 0 0, .slice none 0 0, .slice none 0 0, .bool false, .slice none 0 0, .slice none 0 0, .slice none 0 0, .slice none 0 0, .slice none 0 0, .bool false], rfl, rfl, ⟨[.int .i64 0, .int .i64 0], [.int .i64 x22, .int .i64 0, .slice none 0 0, .slice none 0 0, .slice none 0 0, .slice none 0 0, .bool false, .slice none 0 0, .slice none 0 0, .slice none 0 0, .slice none 0 0, .slice none 0 0, .bool false], rfl, ⟨[.int .i64 0], [.int .i64 0], rfl, rfl, rfl⟩, ⟨[.int .i64 x22], [.int .i64 0, .slice none 0 0, .slice none 0 0, .slice none 0 0, .slice none 0 0, .bool false, .slice none 0 0, .slice none 0 0, .slice none 0 0, .slice none 0 0, .slice none 0 0, .bool false], rfl, rfl, ⟨[.int .i64 0], [.slice none 0 0, .slice none 0 0, .slice none 0 0, .slice none 0 0, .bool false, .slice none 0 0, .slice none 0 0, .slice none 0 0, .slice none 0 0, .slice none 0 0, .bool false], rfl, rfl, ⟨[.slice none 0 0, .slice none 0 0], [.slice none 0 0, .slice none 0 0, .bool false, .slice none 0 0, .slice none 0 0, .slice none 0 0, .slice none 0 0, .slice none 0 0, .bool false], rfl, ⟨[.slice none 0 0], [.slice none 0 0], rfl, R_nil, R_nil⟩, ⟨[.slice none 0 0, .slice none 0 0], [.bool false, .slice none 0 0, .slice none 0 0, .slice none 0 0, .slice none 0 0, .slice none 0 0, .bool false], rfl, ⟨[.slice none 0 0], [.slice none 0 0], rfl, R_nil, R_nil⟩, ⟨[.bool false], [.slice none 0 0, .slice none 0 0, .slice none 0 0, .slice none 0 0, .slice none 0 0, .bool false], rfl, rfl, ⟨[.slice none 0 0, .slice none 0 0], [.slice none 0 0, .slice none 0 0, .slice none 0 0, .bool false], rfl, ⟨[.slice none 0 0], [.slice none 0 0], rfl, R_nil, R_nil⟩, ⟨[.slice none 0 0], [.slice none 0 0, .slice none 0 0, .bool false], rfl, R_nil, ⟨[.slice none 0 0], [.slice none 0 0, .bool false], rfl, R_nil, ⟨[.slice none 0 0], [.bool false], rfl, R_nil, rfl⟩⟩⟩⟩⟩⟩⟩⟩⟩⟩⟩⟩⟩))) rfl (by decide) (fun a44 w hBl hs => ?_)
      have hs := hs.add (it := vl (tSlice t_api_Message) ([(⟨x30, x36, x42, (⟨0, 0⟩ : api_AccessID), x22, 0, (⟨[], []⟩ : api_Certificate), (⟨[], []⟩ : api_Certificate), false, (⟨[], []⟩ : api_Certificate), [], [], [], false⟩ : api_Message)]) (.slice a44 ([(⟨x30, x36, x42, (⟨0, 0⟩ : api_AccessID), x22, 0, (⟨[], []⟩ : api_Certificate), (⟨[], []⟩ : api_Certificate), false, (⟨[], []⟩ : api_Certificate), [], [], [], false⟩ : api_Message)]).length 1)) fun ok hA => hA.get 0 rfl
      exact WL.nil ⟨rfl, _, rfl, ⟨(a44, 1), rfl⟩, hs.cutG 1 1⟩
    · intro ρ w hs hu hp
      obtain ⟨⟨⟨⟨⟨⟨⟨⟨⟨⟨⟨⟨⟨⟨⟨⟨⟨⟨⟨⟨_, hp0_⟩, hp1_⟩, hp2_⟩, hp3_⟩, hp4_⟩, hp5_⟩, hp6_⟩, hp7_⟩, hp8_⟩, hp9_⟩, hp10_⟩, hp11_⟩, hp12_⟩, hp13_⟩, hp14_⟩, hp15_⟩, hp16_⟩, hp17_⟩, hp18_⟩, hp19_⟩ := hp
      have hs : St ok (bz w0) w [vl (tSlice t_api_Message) ([(⟨x30, x36, x42, (⟨0, 0⟩ : api_AccessID), x22, 0, (⟨[], []⟩ : api_Certificate), (⟨[], []⟩ : api_Certificate), false, (⟨[], []⟩ : api_Certificate), [], [], [], false⟩ : api_Message)]) (ρ 31), vl (tInt .i64) x1.M (.int .i64 x1.M), vl t_elasticstorelaw34_Act x1 (.agg cs3.toArray)] [own t_api_Message 49 (.slice a19 n21 c20) x18, blk g6 33 cs3] := hs
      obtain ⟨⟨a63, c64⟩, e65⟩ := hp19_
      have e65 : ρ 31 = .slice a63 ([(⟨x30, x36, x42, (⟨0, 0⟩ : api_AccessID), x22, 0, (⟨[], []⟩ : api_Certificate), (⟨[], []⟩ : api_Certificate), false, (⟨[], []⟩ : api_Certificate), [], [], [], false⟩ : api_Message)]).length c64 := e65
      try rw [e65] at hs
      have e66 : ρ 30 = .agg ([.int .i64 x30, .int .i64 x36, .int .i64 x42, .int .i64 0, .int .i64 0, .int .i64 x22, .int .i64 0, .slice none 0 0, .slice none 0 0, .slice none 0 0, .slice none 0 0, .bool false, .slice none 0 0, .slice none 0 0, .slice none 0 0, .slice none 0 0, .slice none 0 0, .bool false] : List Value).toArray := hp18_
      have e67 : ρ 29 = .int .i64 x22 := hp17_
      have e68 : ρ 28 = .int .i64 x42 := hp16_
      have e69 : ρ 27 = .int .i64 x41 := hp15_
      have e70 : ρ 26 = .int .i64 x39 := hp14_
      have e71 : ρ 25 = .int .i64 x38 := hp13_
      have e72 : ρ 24 = .int .i64 x22 := hp12_
      have e73 : ρ 23 = .int .i64 x1.N := hp11_
      have e74 : ρ 22 = .pointer (some ⟨g6, 1, none⟩) := hp10_
      have e75 : ρ 21 = .int .i64 x36 := hp9_
      have e76 : ρ 20 = .int .i64 x35 := hp8_
      have e77 : ρ 19 = .int .i64 x33 := hp7_
      have e78 : ρ 18 = .int .i64 x32 := hp6_
      have e79 : ρ 17 = .int .i64 x22 := hp5_
      have e80 : ρ 16 = .int .i64 x1.N := hp4_
      have e81 : ρ 15 = .pointer (some ⟨g6, 1, none⟩) := hp3_
      have e82 : ρ 14 = .int .i64 x30 := hp2_
      have e83 : ρ 13 = .int .i64 x22 := hp1_
      have e84 : ρ 12 = .slice a19 n21 c20 := hp0_
      refine WA.step [20] (by kernel_rfl) (by simp) ⟨?_, trivial⟩
      obtain ⟨x85, hxx85, hf⟩ := bindE hf
      obtain ⟨hbx85, hex85⟩ := appE hxx85
      refine WL.appendS (zs := x85) hs 0 rfl 0 rfl UN30 UN30 EI49 e84 e65 hbx85 (by omega) hex85 (fun v86 w hs => ?_)
      obtain ⟨a87, n89, c88, rfl⟩ := hs.ownv3 0 rfl
      refine WL.nil ⟨rfl, _, rfl, ?_⟩
      refine WA.step [21] (by kernel_rfl) (by simp) ⟨?_, trivial⟩
      refine WL.assign (v := .slice a87 n89 c88) rfl ?_
      refine WL.nil ⟨rfl, _, rfl, ?_⟩
      refine WA.done (by kernel_rfl) ?_
      refine hK29 _ _ ?_
      refine W.region ?_
      refine WL.move (v := .int .i64 x22) ((hu 4 rfl).trans h17_4) ?_
      obtain ⟨x90, ex90, hf⟩ := letE hf
      refine WL.bin (v := .int .i64 x90) rfl rfl (ib_as ex90 (ib_add _ _ _)) ?_
      refine WL.assign (v := .int .i64 x90) rfl ?_
      refine WL.nil ?_
      exact ⟨_, (Option.some.inj hf).symm, a87, c88, n89, ((hu 1 rfl).trans h17_1), rfl, rfl, (hs.mask [true, true]).pick [2]⟩
  · refine W.cond_false (bool_tr rfl hc28) ?_
    refine W.exit ?_
    have hr := Option.some.inj hf; subst hr
    have hr := hbbs23 _ rfl; subst hr
    have hf := hfs23
    exact Jk14 x18 a19 c20 n21 _ _ h17_3 ((hs.mask [true]).pick []) hf
theorem eslaw34_messages.callc {ok : Nat → Prop} {w0 : World} {x1 : elasticstorelaw34_Act} {v2 : Value} {r : List api_Message} (hf : eslaw34_messages x1 = some r) (i0 : (vl t_elasticstorelaw34_Act x1 v2).holds ok w0) :
    Calls Try.prog 11 #[v2] w0 fun e w' => ∃ v, e = .returned v ∧ ∃ y : (Option Addr × Nat), v = .slice y.1 r.length y.2 ∧ St ok (bz w0) w' [vl (tSlice t_api_Message) r (.slice y.1 r.length y.2)] [] := by
  refine (eslaw34_messages.calls (ok := ok) (w0 := w0) (x1 := x1) hf i0).mono ?_
  rintro e w' ⟨v, rfl, ⟨a92, n93, c94⟩, rfl, hs⟩
  obtain rfl := hs.ownLen 0 rfl
  have hs := hs.freezeOwn 0 rfl
  exact ⟨_, rfl, (a92, c94), rfl, hs.pick [0]⟩
/-! elasticstore/elasticstoreref06.EqualProposal: function 58 -/
theorem esref06_EqualProposal.calls {ok : Nat → Prop} {w0 : World} {x1 : api_Proposal} {x5 : api_Proposal} {v2 : Value} {v6 : Value} {r : Bool} (hf : esref06_EqualProposal x1 x5 = some r) (i0 : (vl t_api_Proposal x1 v2).holds ok w0) (i1 : (vl t_api_Proposal x5 v6).holds ok w0) :
    Calls Try.prog 58 #[v2, v6] w0 fun e w' => ∃ v, e = .returned v ∧ ∃ y : Unit, v = .bool r ∧ St ok (bz w0) w' [] [] := by
  unfold esref06_EqualProposal at hf
  refine calls_of_W (fn := Try.f58) (N := 45) Try.func58 rfl Try.ntmps58 rfl ?_
  have hs : St ok (bz w0) w0 [vl t_api_Proposal x1 v2, vl t_api_Proposal x5 v6] [] := St.init (All.cons i0 (All.cons i1 All.nil))
  clear i0 i1
  obtain ⟨cs3, hl4, rfl⟩ := hs.aggv (n := 3) 0 rfl rfl rfl
  obtain ⟨cs7, hl8, rfl⟩ := hs.aggv (n := 3) 1 rfl rfl rfl
  refine W.seqK fun K9 hK9 => ?_
  refine W.region ?_
  refine WL.box (vs := cs3) hs rfl rfl (fun g10 w hs => ?_)
  refine WL.box (vs := cs7) hs rfl rfl (fun g11 w hs => ?_)
  refine WL.assign (v := .bool false) rfl ?_
  refine WL.nil ?_
  refine hK9 _ _ ?_
  refine W.seqK fun K12 hK12 => ?_
  refine W.seqK fun K13 hK13 => ?_
  have Jk16 : ∀ (x15 : Bool) (ρ : Env) (w : World), ρ 2 = .pointer (some ⟨g10, 0, none⟩) → ρ 3 = .pointer (some ⟨g11, 0, none⟩) → ρ 26 = .bool x15 → St ok (bz w0) w [vl t_api_Proposal x5 (.agg cs7.toArray), vl t_api_Proposal x1 (.agg cs3.toArray)] [blk g11 98 cs7, blk g10 98 cs3] → esref06_EqualProposal.j2 x1 x5 x15 = some r → K13 ρ w := by
    intro x15 ρ w h14_2 h14_3 h14_26 hs hf
    refine hK13 _ _ ?_
    unfold esref06_EqualProposal.j2 at hf
    rcases iteE hf with ⟨hc17, hf⟩ | ⟨hc17, hf⟩
    · refine W.cond_true (bool_tr h14_26 hc17) ?_
      refine W.seqK fun K18 hK18 => ?_
      refine W.region ?_
      refine WL.assign (v := .bool false) rfl ?_
      refine WL.nil ?_
      refine hK18 _ _ ?_
      refine W.ret ?_
      have hr := Option.some.inj hf; subst hr
      exact ⟨_, resOk_one rfl rfl, (), rfl, (hs.mask []).pick []⟩
    · refine W.cond_false (bool_tr h14_26 hc17) ?_
      refine W.skip ?_
      refine hK12 _ _ ?_
      refine W.seqK fun K19 hK19 => ?_
      have Jk21 : ∀  (ρ : Env) (w : World), St ok (bz w0) w [] [] → esref06_EqualProposal.j1 = some r → K19 ρ w := by
        intro  ρ w  hs hf
        refine hK19 _ _ ?_
        unfold esref06_EqualProposal.j1 at hf
        refine W.seqK fun K22 hK22 => ?_
        refine W.region ?_
        refine WL.assign (v := .bool true) rfl ?_
        refine WL.nil ?_
        refine hK22 _ _ ?_
        refine W.ret ?_
        have hr := Option.some.inj hf; subst hr
        exact ⟨_, resOk_one rfl rfl, (), rfl, (hs.mask []).pick []⟩
      refine W.seqK fun K23 hK23 => ?_
      refine W.region ?_
      refine WL.assign (v := .int .i64 0) rfl ?_
      refine WL.nil ?_
      refine hK23 _ _ ?_
      refine W.block ?_
      obtain ⟨bs26, hbs26, hfs26⟩ := bindE hf
      refine W.loop hbs26 (fun s ρ w => match s with | x25 => ρ 2 = .pointer (some ⟨g10, 0, none⟩) ∧ ρ 3 = .pointer (some ⟨g11, 0, none⟩) ∧ ρ 5 = .int .i64 x25 ∧ St ok (bz w0) w [vl t_api_Proposal x5 (.agg cs7.toArray), vl t_api_Proposal x1 (.agg cs3.toArray)] [blk g11 98 cs7, blk g10 98 cs3]) ⟨h14_2, h14_3, rfl, (hs.mask [true, true]).pick [0, 1]⟩ ?_
      intro x25 ρ w os26 hI hf hbbs26
      obtain ⟨h24_2, h24_3, h24_5, hs⟩ := hI
      unfold esref06_EqualProposal.l1 at hf
      refine W.seqK fun K27 hK27 => ?_
      refine W.seqK fun K28 hK28 => ?_
      refine W.region ?_
      refine WL.move (v := .int .i64 x25) h24_5 ?_
      refine WL.fieldAddr (m := 2) h24_2 FA98_2 rfl ?_
      refine WL.loadF (z := x1.Changes) F_api_Proposal_Changes hs 1 rfl 1 rfl rfl TI96 (.inr rfl) rfl rfl (fun v29 hs => ?_)
      obtain ⟨a30, c31, rfl⟩ := hs.slice 0 rfl
      refine WL.len (v := .slice a30 (x1.Changes).length c31) rfl (len_slice UN96) ?_
      refine WL.bin (v := .bool (decide (x25 < ((x1.Changes).length : Int)))) rfl rfl (ib_lss _ _ _) ?_
      refine WL.nil ?_
      refine hK28 _ _ ?_
      rcases iteE hf with ⟨hc32, hf⟩ | ⟨hc32, hf⟩
      · refine W.cond_true (bool_tr rfl hc32) ?_
        refine W.skip ?_
        refine hK27 _ _ ?_
        refine W.seqK fun K33 hK33 => ?_
        refine W.block ?_
        refine W.seqK fun K34 hK34 => ?_
        obtain ⟨x38, hxx38, hf⟩ := bindE hf
        obtain ⟨x46, hxx46, hf⟩ := bindE hf
        refine W.any (by kernel_rfl) 11 0 [true, true, true, true, true, true, true, true, true, true, true] rfl rfl (poAt [pv (.pointer (some ⟨g10, 2, none⟩)), pq (fun y : (Option Addr × Nat) => .slice y.1 (x1.Changes).length y.2) (fun v => [vl (tSlice t_api_Change) x1.Changes v]) (fun v => []), pv (.int .i64 x25), pq (fun y : Addr => .pointer (some y)) (fun v => [pl t_api_Change x38 (adOf v)]) (fun v => []), pq (fun y : List Value => .agg y.toArray) (fun v => [vl t_api_Change x38 v]) (fun v => []), pv (.pointer (some ⟨g11, 2, none⟩)), pq (fun y : (Option Addr × Nat) => .slice y.1 (x5.Changes).length y.2) (fun v => [vl (tSlice t_api_Change) x5.Changes v]) (fun v => []), pv (.int .i64 x25), pq (fun y : Addr => .pointer (some y)) (fun v => [pl t_api_Change x46 (adOf v)]) (fun v => []), pq (fun y : List Value => .agg y.toArray) (fun v => [vl t_api_Change x46 v]) (fun v => []), pv (.bool (!decide ((⟨x38.Kind, x38.Server, x38.Weight, x38.Version, (⟨x38.Rule.Kind, x38.Rule.Columns, x38.Rule.Faulty⟩ : api_Rule)⟩ : api_Change) = (⟨x46.Kind, x46.Server, x46.Weight, x46.Version, (⟨x46.Rule.Kind, x46.Rule.Columns, x46.Rule.Faulty⟩ : api_Rule)⟩ : api_Change))))]) (Λ := [blk g11 98 cs7, blk g10 98 cs3]) hs (by kernel_rfl) (by kernel_rfl) (by kernel_rfl) ⟨⟨⟨⟨⟨⟨⟨⟨⟨⟨⟨trivial, ?_⟩, ?_⟩, ?_⟩, ?_⟩, ?_⟩, ?_⟩, ?_⟩, ?_⟩, ?_⟩, ?_⟩, ?_⟩ ?_
        · intro ρ w Γx Λx hs hu hp
          refine WL.fieldAddr (m := 2) ((hu 2 rfl).trans h24_2) FA98_2 rfl ?_
          exact WL.nil ⟨rfl, _, rfl, rfl, hs.cutG 0 0⟩
        · intro ρ w Γx Λx hs hu hp
          have e51 : ρ 34 = .pointer (some ⟨g10, 2, none⟩) := (hp 0 rfl).1
          refine WL.loadF (z := x1.Changes) F_api_Proposal_Changes hs (Λx.length + 1) (getApp rfl) (Γx.length + 2) (getApp rfl) rfl TI96 (.inr rfl) e51 rfl (fun v35 hs => ?_)
          obtain ⟨a36, c37, rfl⟩ := hs.slice 0 rfl
          have hs := hs.add (it := vl (tSlice t_api_Change) x1.Changes (.slice a36 (x1.Changes).length c37)) fun ok hA => hA.get 0 rfl
          exact WL.nil ⟨rfl, _, rfl, ⟨(a36, c37), rfl⟩, hs.cutG 1 1⟩
        · intro ρ w Γx Λx hs hu hp
          refine WL.move (v := .int .i64 x25) ((hu 5 rfl).trans h24_5) ?_
          exact WL.nil ⟨rfl, _, rfl, rfl, hs.cutG 0 0⟩
        · intro ρ w Γx Λx hs hu hp
          obtain ⟨⟨⟨a52, c53⟩, e54r⟩, hm55⟩ := hp 1 rfl
          have e54 : ρ 35 = .slice a52 (x1.Changes).length c53 := e54r
          rw [e54r] at hm55
          have hs := hs.memo1 (it := vl (tSlice t_api_Change) x1.Changes (.slice a52 (x1.Changes).length c53)) (List.mem_append.2 (.inl (hm55 _ (List.mem_of_getElem? (i := 0) rfl))))
          have e56 : ρ 36 = .int .i64 x25 := (hp 2 rfl).1
          refine WL.indexAddr hs 0 rfl UN96 TI120 e54 e56 hxx38 (fun ad39 hs => ?_)
          have hs := hs.add (it := pl t_api_Change x38 ad39) fun ok hA => hA.get 0 rfl
          exact WL.nil ⟨rfl, _, rfl, ⟨ad39, rfl⟩, hs.cutG 1 2⟩
        · intro ρ w Γx Λx hs hu hp
          obtain ⟨⟨ad57, e58r⟩, hm59⟩ := hp 3 rfl
          have e58 : ρ 37 = .pointer (some ad57) := e58r
          rw [e58r] at hm59
          have hs := hs.memo1 (it := pl t_api_Change x38 ad57) (List.mem_append.2 (.inl (hm59 _ (List.mem_of_getElem? (i := 0) rfl))))
          refine WL.loadP hs 0 rfl TI120 (.inl rfl) e58 (fun v40 hs => ?_)
          obtain ⟨cs41, hl42, rfl⟩ := hs.aggv (n := 7) 0 rfl rfl rfl
          have hs := hs.add (it := vl t_api_Change x38 (.agg cs41.toArray)) fun ok hA => hA.get 0 rfl
          exact WL.nil ⟨rfl, _, rfl, ⟨cs41, rfl⟩, hs.cutG 1 2⟩
        · intro ρ w Γx Λx hs hu hp
          refine WL.fieldAddr (m := 2) ((hu 3 rfl).trans h24_3) FA98_2 rfl ?_
          exact WL.nil ⟨rfl, _, rfl, rfl, hs.cutG 0 0⟩
        · intro ρ w Γx Λx hs hu hp
          have e60 : ρ 39 = .pointer (some ⟨g11, 2, none⟩) := (hp 5 rfl).1
          refine WL.loadF (z := x5.Changes) F_api_Proposal_Changes hs (Λx.length + 0) (getApp rfl) (Γx.length + 1) (getApp rfl) rfl TI96 (.inr rfl) e60 rfl (fun v43 hs => ?_)
          obtain ⟨a44, c45, rfl⟩ := hs.slice 0 rfl
          have hs := hs.add (it := vl (tSlice t_api_Change) x5.Changes (.slice a44 (x5.Changes).length c45)) fun ok hA => hA.get 0 rfl
          exact WL.nil ⟨rfl, _, rfl, ⟨(a44, c45), rfl⟩, hs.cutG 1 1⟩
        · intro ρ w Γx Λx hs hu hp
          refine WL.move (v := .int .i64 x25) ((hu 5 rfl).trans h24_5) ?_
          exact WL.nil ⟨rfl, _, rfl, rfl, hs.cutG 0 0⟩
        · intro ρ w Γx Λx hs hu hp
          obtain ⟨⟨⟨a61, c62⟩, e63r⟩, hm64⟩ := hp 6 rfl
          have e63 : ρ 40 = .slice a61 (x5.Changes).length c62 := e63r
          rw [e63r] at hm64
          have hs := hs.memo1 (it := vl (tSlice t_api_Change) x5.Changes (.slice a61 (x5.Changes).length c62)) (List.mem_append.2 (.inl (hm64 _ (List.mem_of_getElem? (i := 0) rfl))))
          have e65 : ρ 41 = .int .i64 x25 := (hp 7 rfl).1
          refine WL.indexAddr hs 0 rfl UN96 TI120 e63 e65 hxx46 (fun ad47 hs => ?_)
          have hs := hs.add (it := pl t_api_Change x46 ad47) fun ok hA => hA.get 0 rfl
          exact WL.nil ⟨rfl, _, rfl, ⟨ad47, rfl⟩, hs.cutG 1 2⟩
        · intro ρ w Γx Λx hs hu hp
          obtain ⟨⟨ad66, e67r⟩, hm68⟩ := hp 8 rfl
          have e67 : ρ 42 = .pointer (some ad66) := e67r
          rw [e67r] at hm68
          have hs := hs.memo1 (it := pl t_api_Change x46 ad66) (List.mem_append.2 (.inl (hm68 _ (List.mem_of_getElem? (i := 0) rfl))))
          refine WL.loadP hs 0 rfl TI120 (.inl rfl) e67 (fun v48 hs => ?_)
          obtain ⟨cs49, hl50, rfl⟩ := hs.aggv (n := 7) 0 rfl rfl rfl
          have hs := hs.add (it := vl t_api_Change x46 (.agg cs49.toArray)) fun ok hA => hA.get 0 rfl
          exact WL.nil ⟨rfl, _, rfl, ⟨cs49, rfl⟩, hs.cutG 1 2⟩
        · intro ρ w Γx Λx hs hu hp
          obtain ⟨⟨cs69, e71r⟩, hm72⟩ := hp 4 rfl
          have e71 : ρ 38 = .agg cs69.toArray := e71r
          rw [e71r] at hm72
          have hs := hs.memo1 (it := vl t_api_Change x38 (.agg cs69.toArray)) (List.mem_append.2 (.inl (hm72 _ (List.mem_of_getElem? (i := 0) rfl))))
          have hl70 := hs.agglen (n := 7) 0 rfl rfl rfl
          obtain ⟨⟨cs73, e75r⟩, hm76⟩ := hp 9 rfl
          have e75 : ρ 43 = .agg cs73.toArray := e75r
          rw [e75r] at hm76
          have hs := hs.memo1 (it := vl t_api_Change x46 (.agg cs73.toArray)) (List.mem_cons_of_mem _ (List.mem_append.2 (.inl (hm76 _ (List.mem_of_getElem? (i := 0) rfl)))))
          have hl74 := hs.agglen (n := 7) 0 rfl rfl rfl
          obtain rfl := open_api_Change hs 1 rfl
          obtain rfl := open_api_Change hs 0 rfl
          refine WL.eqA e71 e75 EG120 (NQ120 (⟨x38.Kind, x38.Server, x38.Weight, x38.Version, (⟨x38.Rule.Kind, x38.Rule.Columns, x38.Rule.Faulty⟩ : api_Rule)⟩ : api_Change) (⟨x46.Kind, x46.Server, x46.Weight, x46.Version, (⟨x46.Rule.Kind, x46.Rule.Columns, x46.Rule.Faulty⟩ : api_Rule)⟩ : api_Change)) ?_
          exact WL.nil ⟨rfl, _, rfl, rfl, hs.cutG 0 2⟩
        · intro ρ w hs hu hp
          obtain ⟨⟨⟨⟨⟨⟨⟨⟨⟨⟨⟨_, hp0_⟩, hp1_⟩, hp2_⟩, hp3_⟩, hp4_⟩, hp5_⟩, hp6_⟩, hp7_⟩, hp8_⟩, hp9_⟩, hp10_⟩ := hp
          have hs : St ok (bz w0) w [vl t_api_Change x46 (ρ 43), pl t_api_Change x46 (adOf (ρ 42)), vl (tSlice t_api_Change) x5.Changes (ρ 40), vl t_api_Change x38 (ρ 38), pl t_api_Change x38 (adOf (ρ 37)), vl (tSlice t_api_Change) x1.Changes (ρ 35), vl (tSlice t_api_Change) x1.Changes (.slice a30 (x1.Changes).length c31), vl t_api_Proposal x5 (.agg cs7.toArray), vl t_api_Proposal x1 (.agg cs3.toArray)] [blk g11 98 cs7, blk g10 98 cs3] := hs
          have e77 : ρ 44 = .bool (!decide ((⟨x38.Kind, x38.Server, x38.Weight, x38.Version, (⟨x38.Rule.Kind, x38.Rule.Columns, x38.Rule.Faulty⟩ : api_Rule)⟩ : api_Change) = (⟨x46.Kind, x46.Server, x46.Weight, x46.Version, (⟨x46.Rule.Kind, x46.Rule.Columns, x46.Rule.Faulty⟩ : api_Rule)⟩ : api_Change))) := hp10_
          obtain ⟨cs78, e80⟩ := hp9_
          have e80 : ρ 43 = .agg cs78.toArray := e80
          try rw [e80] at hs
          obtain ⟨ad81, e82⟩ := hp8_
          have e82 : ρ 42 = .pointer (some ad81) := e82
          try rw [e82] at hs
          have e83 : ρ 41 = .int .i64 x25 := hp7_
          obtain ⟨⟨a84, c85⟩, e86⟩ := hp6_
          have e86 : ρ 40 = .slice a84 (x5.Changes).length c85 := e86
          try rw [e86] at hs
          have e87 : ρ 39 = .pointer (some ⟨g11, 2, none⟩) := hp5_
          obtain ⟨cs88, e90⟩ := hp4_
          have e90 : ρ 38 = .agg cs88.toArray := e90
          try rw [e90] at hs
          obtain ⟨ad91, e92⟩ := hp3_
          have e92 : ρ 37 = .pointer (some ad91) := e92
          try rw [e92] at hs
          have e93 : ρ 36 = .int .i64 x25 := hp2_
          obtain ⟨⟨a94, c95⟩, e96⟩ := hp1_
          have e96 : ρ 35 = .slice a94 (x1.Changes).length c95 := e96
          try rw [e96] at hs
          have e97 : ρ 34 = .pointer (some ⟨g10, 2, none⟩) := hp0_
          have hl89 := hs.agglen (n := 7) 3 rfl rfl rfl
          have hl79 := hs.agglen (n := 7) 0 rfl rfl rfl
          refine WA.done (by kernel_rfl) ?_
          refine hK34 _ _ ?_
          rcases iteE hf with ⟨hc98, hf⟩ | ⟨hc98, hf⟩
          · refine W.cond_true (bool_tr e77 hc98) ?_
            refine W.seqK fun K99 hK99 => ?_
            refine W.region ?_
            refine WL.assign (v := .bool false) rfl ?_
            refine WL.nil ?_
            refine hK99 _ _ ?_
            refine W.ret ?_
            have hr := Option.some.inj hf; subst hr
            have hr := hbbs26 _ rfl; subst hr
            have hf := hfs26
            have hr := Option.some.inj hf; subst hr
            exact ⟨_, resOk_one rfl rfl, (), rfl, (hs.mask []).pick []⟩
          · refine W.cond_false (bool_tr e77 hc98) ?_
            refine W.skip ?_
            refine hK33 _ _ ?_
            refine W.region ?_
            refine WL.move (v := .int .i64 x25) ((hu 5 rfl).trans h24_5) ?_
            obtain ⟨x100, ex100, hf⟩ := letE hf
            refine WL.bin (v := .int .i64 x100) rfl rfl (ib_as ex100 (ib_add _ _ _)) ?_
            refine WL.assign (v := .int .i64 x100) rfl ?_
            refine WL.nil ?_
            exact ⟨_, (Option.some.inj hf).symm, ((hu 2 rfl).trans h24_2), ((hu 3 rfl).trans h24_3), rfl, (hs.mask [true, true]).pick [7, 8]⟩
      · refine W.cond_false (bool_tr rfl hc32) ?_
        refine W.exit ?_
        have hr := Option.some.inj hf; subst hr
        have hr := hbbs26 _ rfl; subst hr
        have hf := hfs26
        exact Jk21  _ _  ((hs.mask []).pick []) hf
  refine W.region ?_
  refine WL.fieldAddr (m := 0) rfl FA98_0 rfl ?_
  refine WL.loadF (z := x1.Admin) F_api_Proposal_Admin hs 1 rfl 0 rfl rfl TI3 (.inr rfl) rfl rfl (fun v102 hs => ?_)
  obtain rfl := hs.int 0 rfl
  refine WL.fieldAddr (m := 0) rfl FA98_0 rfl ?_
  refine WL.loadF (z := x5.Admin) F_api_Proposal_Admin hs 0 rfl 2 rfl rfl TI3 (.inr rfl) rfl rfl (fun v103 hs => ?_)
  obtain rfl := hs.int 0 rfl
  refine WL.bin (v := .bool (x1.Admin != x5.Admin)) rfl rfl (ib_neq _ _ _) ?_
  refine WL.move (v := .bool (x1.Admin != x5.Admin)) rfl ?_
  rcases iteE hf with ⟨hc104, hf⟩ | ⟨hc104, hf⟩
  · refine WL.pass ((wanted_of rfl rfl (bool_tr rfl hc104)).trans rfl) rfl ?_
    refine WL.pass ((wanted_of rfl rfl (bool_tr rfl hc104)).trans rfl) rfl ?_
    refine WL.pass ((wanted_of rfl rfl (bool_tr rfl hc104)).trans rfl) rfl ?_
    refine WL.pass ((wanted_of rfl rfl (bool_tr rfl hc104)).trans rfl) rfl ?_
    refine WL.pass ((wanted_of rfl rfl (bool_tr rfl hc104)).trans rfl) rfl ?_
    refine WL.pickT (v := .bool true) (bool_tr rfl hc104) rfl ?_
    refine WL.move (v := .bool true) rfl ?_
    refine WL.pass ((wanted_of rfl rfl rfl).trans rfl) rfl ?_
    refine WL.pass ((wanted_of rfl rfl rfl).trans rfl) rfl ?_
    refine WL.pass ((wanted_of rfl rfl rfl).trans rfl) rfl ?_
    refine WL.pass ((wanted_of rfl rfl rfl).trans rfl) rfl ?_
    refine WL.pass ((wanted_of rfl rfl rfl).trans rfl) rfl ?_
    refine WL.pass ((wanted_of rfl rfl rfl).trans rfl) rfl ?_
    refine WL.pass ((wanted_of rfl rfl rfl).trans rfl) rfl ?_
    refine WL.pickT (v := .bool true) rfl rfl ?_
    refine WL.nil ?_
    exact Jk16 true _ _ rfl rfl rfl ((hs.mask [true, true]).pick [3, 2]) hf
  · refine WL.fieldAddr (m := 1) rfl FA98_1 rfl ?_ (hg := (wanted_of rfl rfl (bool_tr rfl hc104)).trans rfl)
    refine WL.loadF (z := x1.Number) F_api_Proposal_Number hs 1 rfl 2 rfl rfl TI3 (.inr rfl) rfl rfl (fun v105 hs => ?_) (hg := (wanted_of rfl rfl (bool_tr rfl hc104)).trans rfl)
    obtain rfl := hs.int 0 rfl
    refine WL.fieldAddr (m := 1) rfl FA98_1 rfl ?_ (hg := (wanted_of rfl rfl (bool_tr rfl hc104)).trans rfl)
    refine WL.loadF (z := x5.Number) F_api_Proposal_Number hs 0 rfl 4 rfl rfl TI3 (.inr rfl) rfl rfl (fun v106 hs => ?_) (hg := (wanted_of rfl rfl (bool_tr rfl hc104)).trans rfl)
    obtain rfl := hs.int 0 rfl
    refine WL.bin (v := .bool (x1.Number != x5.Number)) rfl rfl (ib_neq _ _ _) ?_ (hg := (wanted_of rfl rfl (bool_tr rfl hc104)).trans rfl)
    refine WL.pickF (v := .bool (x1.Number != x5.Number)) (bool_tr rfl hc104) rfl ?_
    refine WL.move (v := .bool (x1.Number != x5.Number)) rfl ?_
    rcases iteE hf with ⟨hc107, hf⟩ | ⟨hc107, hf⟩
    · refine WL.pass ((wanted_of rfl rfl (bool_tr rfl hc107)).trans rfl) rfl ?_
      refine WL.pass ((wanted_of rfl rfl (bool_tr rfl hc107)).trans rfl) rfl ?_
      refine WL.pass ((wanted_of rfl rfl (bool_tr rfl hc107)).trans rfl) rfl ?_
      refine WL.pass ((wanted_of rfl rfl (bool_tr rfl hc107)).trans rfl) rfl ?_
      refine WL.pass ((wanted_of rfl rfl (bool_tr rfl hc107)).trans rfl) rfl ?_
      refine WL.pass ((wanted_of rfl rfl (bool_tr rfl hc107)).trans rfl) rfl ?_
      refine WL.pass ((wanted_of rfl rfl (bool_tr rfl hc107)).trans rfl) rfl ?_
      refine WL.pickT (v := .bool true) (bool_tr rfl hc107) rfl ?_
      refine WL.nil ?_
      exact Jk16 true _ _ rfl rfl rfl ((hs.mask [true, true]).pick [5, 4]) hf
    · refine WL.fieldAddr (m := 2) rfl FA98_2 rfl ?_ (hg := (wanted_of rfl rfl (bool_tr rfl hc107)).trans rfl)
      refine WL.loadF (z := x1.Changes) F_api_Proposal_Changes hs 1 rfl 4 rfl rfl TI96 (.inr rfl) rfl rfl (fun v108 hs => ?_) (hg := (wanted_of rfl rfl (bool_tr rfl hc107)).trans rfl)
      obtain ⟨a109, c110, rfl⟩ := hs.slice 0 rfl
      refine WL.len (v := .slice a109 (x1.Changes).length c110) rfl (len_slice UN96) ?_ (hg := (wanted_of rfl rfl (bool_tr rfl hc107)).trans rfl)
      refine WL.fieldAddr (m := 2) rfl FA98_2 rfl ?_ (hg := (wanted_of rfl rfl (bool_tr rfl hc107)).trans rfl)
      refine WL.loadF (z := x5.Changes) F_api_Proposal_Changes hs 0 rfl 6 rfl rfl TI96 (.inr rfl) rfl rfl (fun v111 hs => ?_) (hg := (wanted_of rfl rfl (bool_tr rfl hc107)).trans rfl)
      obtain ⟨a112, c113, rfl⟩ := hs.slice 0 rfl
      refine WL.len (v := .slice a112 (x5.Changes).length c113) rfl (len_slice UN96) ?_ (hg := (wanted_of rfl rfl (bool_tr rfl hc107)).trans rfl)
      refine WL.bin (v := .bool (((x1.Changes).length : Int) != ((x5.Changes).length : Int))) rfl rfl (ib_neq _ _ _) ?_ (hg := (wanted_of rfl rfl (bool_tr rfl hc107)).trans rfl)
      refine WL.pickF (v := .bool (((x1.Changes).length : Int) != ((x5.Changes).length : Int))) (bool_tr rfl hc107) rfl ?_
      refine WL.nil ?_
      exact Jk16 (((x1.Changes).length : Int) != ((x5.Changes).length : Int)) _ _ rfl rfl rfl ((hs.mask [true, true]).pick [7, 6]) hf
/-! elasticstore/elasticstoreref06.EqualConfig: function 43 -/
theorem esref06_EqualConfig.calls {ok : Nat → Prop} {w0 : World} {x1 : List api_Proposal} {x4 : List api_Proposal} {a2 : Option Addr} {c3 : Nat} {a5 : Option Addr} {c6 : Nat} {r : Bool} (hf : esref06_EqualConfig x1 x4 = some r) (i0 : (vl (tSlice t_api_Proposal) x1 (.slice a2 x1.length c3)).holds ok w0) (i1 : (vl (tSlice t_api_Proposal) x4 (.slice a5 x4.length c6)).holds ok w0) :
    Calls Try.prog 43 #[.slice a2 x1.length c3, .slice a5 x4.length c6] w0 fun e w' => ∃ v, e = .returned v ∧ ∃ y : Unit, v = .bool r ∧ St ok (bz w0) w' [] [] := by
  unfold esref06_EqualConfig at hf
  refine calls_of_W (fn := Try.f43) (N := 27) Try.func43 rfl Try.ntmps43 rfl ?_
  have hs : St ok (bz w0) w0 [vl (tSlice t_api_Proposal) x1 (.slice a2 x1.length c3), vl (tSlice t_api_Proposal) x4 (.slice a5 x4.length c6)] [] := St.init (All.cons i0 (All.cons i1 All.nil))
  clear i0 i1
  refine W.seqK fun K7 hK7 => ?_
  refine W.region ?_
  refine WL.assign (v := .bool false) rfl ?_
  refine WL.nil ?_
  refine hK7 _ _ ?_
  refine W.seqK fun K8 hK8 => ?_
  refine W.seqK fun K9 hK9 => ?_
  refine W.region ?_
  refine WL.move (v := .slice a2 x1.length c3) rfl ?_
  refine WL.len (v := .slice a2 x1.length c3) rfl (len_slice UN41) ?_
  refine WL.move (v := .slice a5 x4.length c6) rfl ?_
  refine WL.len (v := .slice a5 x4.length c6) rfl (len_slice UN41) ?_
  refine WL.bin (v := .bool ((x1.length : Int) != (x4.length : Int))) rfl rfl (ib_neq _ _ _) ?_
  refine WL.nil ?_
  refine hK9 _ _ ?_
  rcases iteE hf with ⟨hc10, hf⟩ | ⟨hc10, hf⟩
  · refine W.cond_true (bool_tr rfl hc10) ?_
    refine W.seqK fun K11 hK11 => ?_
    refine W.region ?_
    refine WL.assign (v := .bool false) rfl ?_
    refine WL.nil ?_
    refine hK11 _ _ ?_
    refine W.ret ?_
    have hr := Option.some.inj hf; subst hr
    exact ⟨_, resOk_one rfl rfl, (), rfl, (hs.mask []).pick []⟩
  · refine W.cond_false (bool_tr rfl hc10) ?_
    refine W.skip ?_
    refine hK8 _ _ ?_
    refine W.seqK fun K12 hK12 => ?_
    have Jk14 : ∀  (ρ : Env) (w : World), St ok (bz w0) w [] [] → esref06_EqualConfig.j1 = some r → K12 ρ w := by
      intro  ρ w  hs hf
      refine hK12 _ _ ?_
      unfold esref06_EqualConfig.j1 at hf
      refine W.seqK fun K15 hK15 => ?_
      refine W.region ?_
      refine WL.assign (v := .bool true) rfl ?_
      refine WL.nil ?_
      refine hK15 _ _ ?_
      refine W.ret ?_
      have hr := Option.some.inj hf; subst hr
      exact ⟨_, resOk_one rfl rfl, (), rfl, (hs.mask []).pick []⟩
    refine W.seqK fun K16 hK16 => ?_
    refine W.region ?_
    refine WL.assign (v := .int .i64 0) rfl ?_
    refine WL.nil ?_
    refine hK16 _ _ ?_
    refine W.block ?_
    obtain ⟨bs19, hbs19, hfs19⟩ := bindE hf
    refine W.loop hbs19 (fun s ρ w => match s with | x18 => ρ 0 = .slice a2 x1.length c3 ∧ ρ 1 = .slice a5 x4.length c6 ∧ ρ 5 = .int .i64 x18 ∧ St ok (bz w0) w [vl (tSlice t_api_Proposal) x1 (.slice a2 x1.length c3), vl (tSlice t_api_Proposal) x4 (.slice a5 x4.length c6)] []) ⟨rfl, rfl, rfl, (hs.mask []).pick [0, 1]⟩ ?_
    intro x18 ρ w os19 hI hf hbbs19
    obtain ⟨h17_0, h17_1, h17_5, hs⟩ := hI
    unfold esref06_EqualConfig.l1 at hf
    refine W.seqK fun K20 hK20 => ?_
    refine W.seqK fun K21 hK21 => ?_
    refine W.region ?_
    refine WL.move (v := .int .i64 x18) h17_5 ?_
    refine WL.move (v := .slice a2 x1.length c3) h17_0 ?_
    refine WL.len (v := .slice a2 x1.length c3) rfl (len_slice UN41) ?_
    refine WL.bin (v := .bool (decide (x18 < (x1.length : Int)))) rfl rfl (ib_lss _ _ _) ?_
    refine WL.nil ?_
    refine hK21 _ _ ?_
    rcases iteE hf with ⟨hc22, hf⟩ | ⟨hc22, hf⟩
    · refine W.cond_true (bool_tr rfl hc22) ?_
      refine W.skip ?_
      refine hK20 _ _ ?_
      refine W.seqK fun K23 hK23 => ?_
      refine W.block ?_
      refine W.seqK fun K24 hK24 => ?_
      obtain ⟨x25, hxx25, hf⟩ := bindE hf
      obtain ⟨x30, hxx30, hf⟩ := bindE hf
      obtain ⟨x35, hxx35, hf⟩ := bindE hf
      refine W.any (by kernel_rfl) 10 0 [true, true, true, true, true, true, true, true, true, true] rfl rfl (poAt [pv (.slice a2 x1.length c3), pv (.int .i64 x18), pq (fun y : Addr => .pointer (some y)) (fun v => [pl t_api_Proposal x25 (adOf v)]) (fun v => []), pq (fun y : List Value => .agg y.toArray) (fun v => [vl t_api_Proposal x25 v]) (fun v => []), pv (.slice a5 x4.length c6), pv (.int .i64 x18), pq (fun y : Addr => .pointer (some y)) (fun v => [pl t_api_Proposal x30 (adOf v)]) (fun v => []), pq (fun y : List Value => .agg y.toArray) (fun v => [vl t_api_Proposal x30 v]) (fun v => []), pv (.bool x35), pv (.bool (!x35))]) (Λ := []) hs (by kernel_rfl) (by kernel_rfl) (by kernel_rfl) ⟨⟨⟨⟨⟨⟨⟨⟨⟨⟨trivial, ?_⟩, ?_⟩, ?_⟩, ?_⟩, ?_⟩, ?_⟩, ?_⟩, ?_⟩, ?_⟩, ?_⟩ ?_
      · intro ρ w Γx Λx hs hu hp
        refine WL.move (v := .slice a2 x1.length c3) ((hu 0 rfl).trans h17_0) ?_
        exact WL.nil ⟨rfl, _, rfl, rfl, hs.cutG 0 0⟩
      · intro ρ w Γx Λx hs hu hp
        refine WL.move (v := .int .i64 x18) ((hu 5 rfl).trans h17_5) ?_
        exact WL.nil ⟨rfl, _, rfl, rfl, hs.cutG 0 0⟩
      · intro ρ w Γx Λx hs hu hp
        have e36 : ρ 17 = .slice a2 x1.length c3 := (hp 0 rfl).1
        have e37 : ρ 18 = .int .i64 x18 := (hp 1 rfl).1
        refine WL.indexAddr hs (Γx.length + 0) (getApp rfl) UN41 TI98 e36 e37 hxx25 (fun ad26 hs => ?_)
        have hs := hs.add (it := pl t_api_Proposal x25 ad26) fun ok hA => hA.get 0 rfl
        exact WL.nil ⟨rfl, _, rfl, ⟨ad26, rfl⟩, hs.cutG 1 1⟩
      · intro ρ w Γx Λx hs hu hp
        obtain ⟨⟨ad38, e39r⟩, hm40⟩ := hp 2 rfl
        have e39 : ρ 19 = .pointer (some ad38) := e39r
        rw [e39r] at hm40
        have hs := hs.memo1 (it := pl t_api_Proposal x25 ad38) (List.mem_append.2 (.inl (hm40 _ (List.mem_of_getElem? (i := 0) rfl))))
        refine WL.loadP hs 0 rfl TI98 (.inl rfl) e39 (fun v27 hs => ?_)
        obtain ⟨cs28, hl29, rfl⟩ := hs.aggv (n := 3) 0 rfl rfl rfl
        have hs := hs.add (it := vl t_api_Proposal x25 (.agg cs28.toArray)) fun ok hA => hA.get 0 rfl
        exact WL.nil ⟨rfl, _, rfl, ⟨cs28, rfl⟩, hs.cutG 1 2⟩
      · intro ρ w Γx Λx hs hu hp
        refine WL.move (v := .slice a5 x4.length c6) ((hu 1 rfl).trans h17_1) ?_
        exact WL.nil ⟨rfl, _, rfl, rfl, hs.cutG 0 0⟩
      · intro ρ w Γx Λx hs hu hp
        refine WL.move (v := .int .i64 x18) ((hu 5 rfl).trans h17_5) ?_
        exact WL.nil ⟨rfl, _, rfl, rfl, hs.cutG 0 0⟩
      · intro ρ w Γx Λx hs hu hp
        have e41 : ρ 21 = .slice a5 x4.length c6 := (hp 4 rfl).1
        have e42 : ρ 22 = .int .i64 x18 := (hp 5 rfl).1
        refine WL.indexAddr hs (Γx.length + 1) (getApp rfl) UN41 TI98 e41 e42 hxx30 (fun ad31 hs => ?_)
        have hs := hs.add (it := pl t_api_Proposal x30 ad31) fun ok hA => hA.get 0 rfl
        exact WL.nil ⟨rfl, _, rfl, ⟨ad31, rfl⟩, hs.cutG 1 1⟩
      · intro ρ w Γx Λx hs hu hp
        obtain ⟨⟨ad43, e44r⟩, hm45⟩ := hp 6 rfl
        have e44 : ρ 23 = .pointer (some ad43) := e44r
        rw [e44r] at hm45
        have hs := hs.memo1 (it := pl t_api_Proposal x30 ad43) (List.mem_append.2 (.inl (hm45 _ (List.mem_of_getElem? (i := 0) rfl))))
        refine WL.loadP hs 0 rfl TI98 (.inl rfl) e44 (fun v32 hs => ?_)
        obtain ⟨cs33, hl34, rfl⟩ := hs.aggv (n := 3) 0 rfl rfl rfl
        have hs := hs.add (it := vl t_api_Proposal x30 (.agg cs33.toArray)) fun ok hA => hA.get 0 rfl
        exact WL.nil ⟨rfl, _, rfl, ⟨cs33, rfl⟩, hs.cutG 1 2⟩
      · intro ρ w Γx Λx hs hu hp
        obtain ⟨⟨cs46, e48r⟩, hm49⟩ := hp 3 rfl
        have e48 : ρ 20 = .agg cs46.toArray := e48r
        rw [e48r] at hm49
        have hs := hs.memo1 (it := vl t_api_Proposal x25 (.agg cs46.toArray)) (List.mem_append.2 (.inl (hm49 _ (List.mem_of_getElem? (i := 0) rfl))))
        have hl47 := hs.agglen (n := 3) 0 rfl rfl rfl
        obtain ⟨⟨cs50, e52r⟩, hm53⟩ := hp 7 rfl
        have e52 : ρ 24 = .agg cs50.toArray := e52r
        rw [e52r] at hm53
        have hs := hs.memo1 (it := vl t_api_Proposal x30 (.agg cs50.toArray)) (List.mem_cons_of_mem _ (List.mem_append.2 (.inl (hm53 _ (List.mem_of_getElem? (i := 0) rfl)))))
        have hl51 := hs.agglen (n := 3) 0 rfl rfl rfl
        refine WL.call (vs := [.agg cs46.toArray, .agg cs50.toArray]) hs FN58 ⟨e48, ⟨e52, trivial⟩⟩ (fun ok hA => esref06_EqualProposal.calls (x1 := x25) (x5 := x30) hxx35 (hA.get 1 rfl) (hA.get 0 rfl)) ?_
        rintro _ w hs
        exact WL.nil ⟨rfl, _, rfl, rfl, hs.cutG 0 2⟩
      · intro ρ w Γx Λx hs hu hp
        have e54 : ρ 25 = .bool x35 := (hp 8 rfl).1
        refine WL.not e54 ?_
        exact WL.nil ⟨rfl, _, rfl, rfl, hs.cutG 0 0⟩
      · intro ρ w hs hu hp
        obtain ⟨⟨⟨⟨⟨⟨⟨⟨⟨⟨_, hp0_⟩, hp1_⟩, hp2_⟩, hp3_⟩, hp4_⟩, hp5_⟩, hp6_⟩, hp7_⟩, hp8_⟩, hp9_⟩ := hp
        have hs : St ok (bz w0) w [vl t_api_Proposal x30 (ρ 24), pl t_api_Proposal x30 (adOf (ρ 23)), vl t_api_Proposal x25 (ρ 20), pl t_api_Proposal x25 (adOf (ρ 19)), vl (tSlice t_api_Proposal) x1 (.slice a2 x1.length c3), vl (tSlice t_api_Proposal) x4 (.slice a5 x4.length c6)] [] := hs
        have e55 : ρ 26 = .bool (!x35) := hp9_
        have e56 : ρ 25 = .bool x35 := hp8_
        obtain ⟨cs57, e59⟩ := hp7_
        have e59 : ρ 24 = .agg cs57.toArray := e59
        try rw [e59] at hs
        obtain ⟨ad60, e61⟩ := hp6_
        have e61 : ρ 23 = .pointer (some ad60) := e61
        try rw [e61] at hs
        have e62 : ρ 22 = .int .i64 x18 := hp5_
        have e63 : ρ 21 = .slice a5 x4.length c6 := hp4_
        obtain ⟨cs64, e66⟩ := hp3_
        have e66 : ρ 20 = .agg cs64.toArray := e66
        try rw [e66] at hs
        obtain ⟨ad67, e68⟩ := hp2_
        have e68 : ρ 19 = .pointer (some ad67) := e68
        try rw [e68] at hs
        have e69 : ρ 18 = .int .i64 x18 := hp1_
        have e70 : ρ 17 = .slice a2 x1.length c3 := hp0_
        have hl65 := hs.agglen (n := 3) 2 rfl rfl rfl
        have hl58 := hs.agglen (n := 3) 0 rfl rfl rfl
        refine WA.done (by kernel_rfl) ?_
        refine hK24 _ _ ?_
        rcases iteE hf with ⟨hc71, hf⟩ | ⟨hc71, hf⟩
        · refine W.cond_true (bool_tr e55 hc71) ?_
          refine W.seqK fun K72 hK72 => ?_
          refine W.region ?_
          refine WL.assign (v := .bool false) rfl ?_
          refine WL.nil ?_
          refine hK72 _ _ ?_
          refine W.ret ?_
          have hr := Option.some.inj hf; subst hr
          have hr := hbbs19 _ rfl; subst hr
          have hf := hfs19
          have hr := Option.some.inj hf; subst hr
          exact ⟨_, resOk_one rfl rfl, (), rfl, (hs.mask []).pick []⟩
        · refine W.cond_false (bool_tr e55 hc71) ?_
          refine W.skip ?_
          refine hK23 _ _ ?_
          refine W.region ?_
          refine WL.move (v := .int .i64 x18) ((hu 5 rfl).trans h17_5) ?_
          obtain ⟨x73, ex73, hf⟩ := letE hf
          refine WL.bin (v := .int .i64 x73) rfl rfl (ib_as ex73 (ib_add _ _ _)) ?_
          refine WL.assign (v := .int .i64 x73) rfl ?_
          refine WL.nil ?_
          exact ⟨_, (Option.some.inj hf).symm, ((hu 0 rfl).trans h17_0), ((hu 1 rfl).trans h17_1), rfl, (hs.mask []).pick [4, 5]⟩
    · refine W.cond_false (bool_tr rfl hc22) ?_
      refine W.exit ?_
      have hr := Option.some.inj hf; subst hr
      have hr := hbbs19 _ rfl; subst hr
      have hf := hfs19
      exact Jk14  _ _  ((hs.mask []).pick []) hf
/-! elasticstore/elasticstoreref14.EqualCert: function 42 -/
theorem esref14_EqualCert.calls {ok : Nat → Prop} {w0 : World} {x1 : api_Certificate} {x5 : api_Certificate} {v2 : Value} {v6 : Value} {r : Bool} (hf : esref14_EqualCert x1 x5 = some r) (i0 : (vl t_api_Certificate x1 v2).holds ok w0) (i1 : (vl t_api_Certificate x5 v6).holds ok w0) :
    Calls Try.prog 42 #[v2, v6] w0 fun e w' => ∃ v, e = .returned v ∧ ∃ y : Unit, v = .bool r ∧ St ok (bz w0) w' [] [] := by
  unfold esref14_EqualCert at hf
  refine calls_of_W (fn := Try.f42) (N := 17) Try.func42 rfl Try.ntmps42 rfl ?_
  have hs : St ok (bz w0) w0 [vl t_api_Certificate x1 v2, vl t_api_Certificate x5 v6] [] := St.init (All.cons i0 (All.cons i1 All.nil))
  clear i0 i1
  obtain ⟨cs3, hl4, rfl⟩ := hs.aggv (n := 2) 0 rfl rfl rfl
  obtain ⟨cs7, hl8, rfl⟩ := hs.aggv (n := 2) 1 rfl rfl rfl
  refine W.seqK fun K9 hK9 => ?_
  refine W.region ?_
  refine WL.box (vs := cs3) hs rfl rfl (fun g10 w hs => ?_)
  refine WL.box (vs := cs7) hs rfl rfl (fun g11 w hs => ?_)
  refine WL.assign (v := .bool false) rfl ?_
  refine WL.nil ?_
  refine hK9 _ _ ?_
  refine W.seqK fun K12 hK12 => ?_
  have Jk15 : ∀ (x14 : Bool) (ρ : Env) (w : World), ρ 4 = .bool x14 → St ok (bz w0) w [] [] → esref14_EqualCert.j1 x14 = some r → K12 ρ w := by
    intro x14 ρ w h13_4 hs hf
    refine hK12 _ _ ?_
    unfold esref14_EqualCert.j1 at hf
    refine W.ret ?_
    have hr := Option.some.inj hf; subst hr
    exact ⟨_, resOk_one rfl h13_4, (), rfl, (hs.mask []).pick []⟩
  refine W.region ?_
  refine WL.fieldAddr (m := 0) rfl FA43_0 rfl ?_
  refine WL.loadF (z := x1.From) F_api_Certificate_From hs 1 rfl 0 rfl rfl TI41 (.inr rfl) rfl rfl (fun v16 hs => ?_)
  obtain ⟨a17, c18, rfl⟩ := hs.slice 0 rfl
  refine WL.fieldAddr (m := 0) rfl FA43_0 rfl ?_
  refine WL.loadF (z := x5.From) F_api_Certificate_From hs 0 rfl 2 rfl rfl TI41 (.inr rfl) rfl rfl (fun v19 hs => ?_)
  obtain ⟨a20, c21, rfl⟩ := hs.slice 0 rfl
  obtain ⟨x22, hxx22, hf⟩ := bindE hf
  refine WL.call (vs := [.slice a17 (x1.From).length c18, .slice a20 (x5.From).length c21]) hs FN43 ⟨rfl, ⟨rfl, trivial⟩⟩ (fun ok hA => esref06_EqualConfig.calls (x1 := x1.From) (x4 := x5.From) hxx22 (hA.get 1 rfl) (hA.get 0 rfl)) ?_
  rintro _ w hs
  refine WL.move (v := .bool x22) rfl ?_
  rcases iteE hf with ⟨hc23, hf⟩ | ⟨hc23, hf⟩
  · refine WL.fieldAddr (m := 1) rfl FA43_1 rfl ?_ (hg := (wanted_of rfl rfl (bool_tr rfl hc23)).trans rfl)
    refine WL.loadF (z := x1.To) F_api_Certificate_To hs 1 rfl 2 rfl rfl TI41 (.inr rfl) rfl rfl (fun v24 hs => ?_) (hg := (wanted_of rfl rfl (bool_tr rfl hc23)).trans rfl)
    obtain ⟨a25, c26, rfl⟩ := hs.slice 0 rfl
    refine WL.fieldAddr (m := 1) rfl FA43_1 rfl ?_ (hg := (wanted_of rfl rfl (bool_tr rfl hc23)).trans rfl)
    refine WL.loadF (z := x5.To) F_api_Certificate_To hs 0 rfl 4 rfl rfl TI41 (.inr rfl) rfl rfl (fun v27 hs => ?_) (hg := (wanted_of rfl rfl (bool_tr rfl hc23)).trans rfl)
    obtain ⟨a28, c29, rfl⟩ := hs.slice 0 rfl
    obtain ⟨x30, hxx30, hf⟩ := bindE hf
    refine WL.call (vs := [.slice a25 (x1.To).length c26, .slice a28 (x5.To).length c29]) hs FN43 ⟨rfl, ⟨rfl, trivial⟩⟩ (fun ok hA => esref06_EqualConfig.calls (x1 := x1.To) (x4 := x5.To) hxx30 (hA.get 1 rfl) (hA.get 0 rfl)) ?_ (hg := (wanted_of rfl rfl (bool_tr rfl hc23)).trans rfl)
    rintro _ w hs
    refine WL.pickT (v := .bool x30) (bool_tr rfl hc23) rfl ?_
    refine WL.assign (v := .bool x30) rfl ?_
    refine WL.nil ?_
    exact Jk15 x30 _ _ rfl ((hs.mask []).pick []) hf
  · refine WL.pass ((wanted_of rfl rfl (bool_tr rfl hc23)).trans rfl) rfl ?_
    refine WL.pass ((wanted_of rfl rfl (bool_tr rfl hc23)).trans rfl) rfl ?_
    refine WL.pass ((wanted_of rfl rfl (bool_tr rfl hc23)).trans rfl) rfl ?_
    refine WL.pass ((wanted_of rfl rfl (bool_tr rfl hc23)).trans rfl) rfl ?_
    refine WL.pass ((wanted_of rfl rfl (bool_tr rfl hc23)).trans rfl) rfl ?_
    refine WL.pickF (v := .bool false) (bool_tr rfl hc23) rfl ?_
    refine WL.assign (v := .bool false) rfl ?_
    refine WL.nil ?_
    exact Jk15 false _ _ rfl ((hs.mask []).pick []) hf
end Go.Proofs.Ytahobbichanccaa
