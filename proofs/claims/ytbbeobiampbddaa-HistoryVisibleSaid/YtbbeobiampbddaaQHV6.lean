/- What the row leans on, as few texts. -/
import Derived.Test.YtbbeobiampbddaaQHV2
import Derived.Test.YtbbeobiampbddaaQHV1
import Derived.Test.YtbbeobiampbddaaQHV3
import Derived.Test.YtbbeobiampbddaaQHV4
import Derived.Test.YtbbeobiampbddaaQHV5
import Derived.Test.YtbbeobiampbddaaQHV0
set_option linter.unusedVariables false
set_option linter.unusedSimpArgs false
namespace Go.Proofs.Ytbbeobiampbddaa
open Go Go.RowKit Go.Proofs.YtbbeobiampbddaaL
set_option maxRecDepth 100000
set_option maxHeartbeats 4000000
theorem eslaw00_Update.calls {ok : Nat → Prop} {w0 : World} {x1 : Int} {x2 : Int} {x3 : Int}  {r : api_Update} (hf : eslaw00_Update x1 x2 x3 = some r)  :
    Calls Try.prog 49 #[.int .i64 x1, .int .i64 x2, .int .i64 x3] w0 fun e w' => ∃ v, e = .returned v ∧ ∃ y : (Option Addr × Nat × Nat), v = .agg ([.int .i64 r.Client, .int .i64 r.Seq, .int .i64 r.Tag, .slice y.1 y.2.1 y.2.2] : List Value).toArray ∧ St ok (bz w0) w' [] [own t_api_Effect 72 (.slice y.1 y.2.1 y.2.2) r.Effects] := by
  unfold eslaw00_Update at hf
  refine calls_of_W (fn := Try.f49) (N := 41) Try.func49 rfl Try.ntmps49 rfl ?_
  have hs : St ok (bz w0) w0 [] [] := St.init All.nil
  refine W.seqK fun K4 hK4 => ?_
  refine W.region ?_
  refine WL.alloc hs ZV75 (fun g5 w hs => ?_)
  refine WL.nil ?_
  refine hK4 _ _ ?_
  refine W.seqK fun K6 hK6 => ?_
  refine W.region ?_
  refine WL.move (v := .int .i64 x1) rfl ?_
  refine WL.move (v := .int .i64 x2) rfl ?_
  refine WL.build (vs := [(0, .int .i64 x1), (1, .int .i64 x2)]) (cs := [.int .i64 x1, .int .i64 x2, .int .i64 0, .slice none 0 0]) ⟨⟨rfl, rfl⟩, ⟨⟨rfl, rfl⟩, trivial⟩⟩ (bld PL75 rfl) ?_
  refine WL.alloc hs ZV75 (fun g7 w hs => ?_)
  refine WL.storeAll (vs := [.int .i64 x1, .int .i64 x2, .int .i64 0, .slice none 0 0]) hs 0 rfl TI75 rfl rfl rfl rfl (ones_of rfl) rfl (fun w hs => ?_)
  refine WL.nil ?_
  refine hK6 _ _ ?_
  refine W.seqK fun K8 hK8 => ?_
  refine W.seqK fun K9 hK9 => ?_
  refine W.region ?_
  refine WL.move (v := .int .i64 x3) rfl ?_
  obtain ⟨x10, hxx10, hf⟩ := bindE hf
  refine WL.call (vs := [.int .i64 x3, .int .i64 3, .int .i64 8]) hs FN39 ⟨rfl, ⟨rfl, ⟨rfl, trivial⟩⟩⟩ (fun ok hA => eslaw00_Digit.calls (x1 := x3) (x2 := 3) (x3 := 8) hxx10) ?_
  rintro _ w hs
  refine WL.bin (v := .bool (x10 == 0)) rfl rfl (ib_eql _ _ _) ?_
  refine WL.nil ?_
  refine hK9 _ _ ?_
  rcases iteE hf with ⟨hc11, hf⟩ | ⟨hc11, hf⟩
  {
  refine W.cond_true (bool_tr rfl hc11) ?_
  refine W.seqK fun K12 hK12 => ?_
  refine W.region ?_
  refine WL.move (v := .int .i64 x3) rfl ?_
  obtain ⟨x13, hxx13, hf⟩ := bindE hf
  refine WL.call (vs := [.int .i64 x3, .int .i64 16, .int .i64 4]) hs FN39 ⟨rfl, ⟨rfl, ⟨rfl, trivial⟩⟩⟩ (fun ok hA => eslaw00_Digit.calls (x1 := x3) (x2 := 16) (x3 := 4) hxx13) ?_
  rintro _ w hs
  refine WL.fieldAddr (m := 2) rfl FA75_2 rfl ?_
  refine WL.store (vs := [.int .i64 x13]) (cs' := [.int .i64 x1, .int .i64 x2, .int .i64 x13, .slice none 0 0]) hs 0 rfl TI3 rfl rfl rfl rfl (ones_of rfl) (Nat.le_of_ble_eq_true rfl) rfl (fun w hs => ?_)
  refine WL.nil ?_
  refine hK12 _ _ ?_
  refine W.seqK fun K14 hK14 => ?_
  refine W.region ?_
  refine WL.move (v := .int .i64 x3) rfl ?_
  obtain ⟨x15, hxx15, hf⟩ := bindE hf
  refine WL.call (vs := [.int .i64 x3, .bool true]) hs FN40 ⟨rfl, ⟨rfl, trivial⟩⟩ (fun ok hA => eslaw00_Effect.calls (x1 := x3) (x2 := true) hxx15) ?_
  rintro cs16 w hs
  have hl17 := hs.agglen (n := 5) 0 rfl rfl rfl
  refine WL.buildSlice (n := 1) (vs := [(0, .agg cs16.toArray)]) (cs := cs16) hs ⟨⟨rfl, rfl⟩, trivial⟩ (bls PS30 (by decide) (by simp [fillS, fillL, Value.cells, hl17])) (fun g18 w hs => ?_)
  refine WL.fieldAddr (m := 3) rfl FA75_3 rfl ?_
  refine WL.store (vs := [.slice (some ⟨g18, 0, none⟩) ([x15]).length 1]) (cs' := [.int .i64 x1, .int .i64 x2, .int .i64 x13, .slice (some ⟨g18, 0, none⟩) ([x15]).length 1]) hs 1 rfl TI30 rfl rfl rfl rfl (ones_of rfl) (Nat.le_of_ble_eq_true rfl) rfl (fun w hs => ?_)
  refine WL.nil ?_
  refine hK14 _ _ ?_
  refine W.seqK fun K19 hK19 => ?_
  refine W.region ?_
  refine WL.loadN (vs := [.int .i64 x1, .int .i64 x2, .int .i64 x13, .slice (some ⟨g18, 0, none⟩) ([x15]).length 1]) hs 1 rfl TI75 rfl rfl rfl ?_
  refine WL.storeAll (vs := [.int .i64 x1, .int .i64 x2, .int .i64 x13, .slice (some ⟨g18, 0, none⟩) ([x15]).length 1]) hs 2 rfl TI75 rfl rfl rfl rfl (ones_of rfl) rfl (fun w hs => ?_)
  have hs := hs.ownLit (A := t_api_Effect) (xs := [x15]) 0 rfl (fun ok hA => (Cells.one (T := t_api_Effect) (R_agg (hA.get 0 rfl) rfl))) (Nat.le_of_ble_eq_true rfl)
  refine WL.nil ?_
  refine hK19 _ _ ?_
  refine W.ret ?_
  have hr := Option.some.inj hf; subst hr
  exact ⟨_, resOk_one rfl (res_all hs 2 rfl TI75 rfl rfl), ((some ⟨g18, 0, none⟩), ([x15]).length, 1), rfl, (hs.mask [true]).pick []⟩ }
  {
  refine W.cond_false (bool_tr rfl hc11) ?_
  refine W.skip ?_
  refine hK8 _ _ ?_
  refine W.seqK fun K20 hK20 => ?_
  have hs := hs.ownNil t_api_Effect 72
  have Jk26 : ∀ (x22 : List api_Effect) (a23 : Option Addr) (c24 : Nat) (n25 : Nat) (ρ : Env) (w : World), ρ 6 = .pointer (some ⟨g5, 0, none⟩) → ρ 7 = .pointer (some ⟨g7, 0, none⟩) → St ok (bz w0) w [] [own t_api_Effect 72 (.slice a23 n25 c24) x22, blk g7 75 [.int .i64 x1, .int .i64 x2, .int .i64 0, .slice a23 n25 c24], blk g5 75 [.int .i64 0, .int .i64 0, .int .i64 0, .slice none 0 0]] → eslaw00_Update.j1 x1 x2 x22 = some r → K20 ρ w := by
    intro x22 a23 c24 n25 ρ w h21_6 h21_7 hs hf
    refine hK20 _ _ ?_
    unfold eslaw00_Update.j1 at hf
    refine W.seqK fun K27 hK27 => ?_
    refine W.region ?_
    refine WL.loadN (vs := [.int .i64 x1, .int .i64 x2, .int .i64 0, .slice a23 n25 c24]) hs 1 rfl TI75 h21_7 rfl rfl ?_
    refine WL.storeAll (vs := [.int .i64 x1, .int .i64 x2, .int .i64 0, .slice a23 n25 c24]) hs 2 rfl TI75 h21_6 rfl rfl rfl (ones_of rfl) rfl (fun w hs => ?_)
    refine WL.nil ?_
    refine hK27 _ _ ?_
    refine W.ret ?_
    have hr := Option.some.inj hf; subst hr
    exact ⟨_, resOk_one rfl (res_all hs 2 rfl TI75 h21_6 rfl), (a23, n25, c24), rfl, (hs.mask [true]).pick []⟩
  refine W.seqK fun K28 hK28 => ?_
  refine W.region ?_
  refine WL.assign (v := .int .i64 0) rfl ?_
  refine WL.nil ?_
  refine hK28 _ _ ?_
  refine W.block ?_
  obtain ⟨bs35, hbs35, hfs35⟩ := bindE hf
  refine W.loop hbs35 (fun s ρ w => match s with | (x30, x31) => ∃ (a32 : Option Addr), ∃ (c33 : Nat), ∃ (n34 : Nat), ρ 2 = .int .i64 x3 ∧ ρ 6 = .pointer (some ⟨g5, 0, none⟩) ∧ ρ 7 = .pointer (some ⟨g7, 0, none⟩) ∧ ρ 8 = .int .i64 x30 ∧ St ok (bz w0) w [] [own t_api_Effect 72 (.slice a32 n34 c33) x31, blk g7 75 [.int .i64 x1, .int .i64 x2, .int .i64 0, .slice a32 n34 c33], blk g5 75 [.int .i64 0, .int .i64 0, .int .i64 0, .slice none 0 0]]) ⟨none, 0, 0, rfl, rfl, rfl, rfl, (hs.mask [true, true, true]).pick []⟩ ?_
  intro s ρ w os35 hI hf hbbs35
  obtain ⟨x30, x31⟩ := s
  obtain ⟨a32, c33, n34, h29_2, h29_6, h29_7, h29_8, hs⟩ := hI
  unfold eslaw00_Update.l1 at hf
  refine W.seqK fun K36 hK36 => ?_
  refine W.seqK fun K37 hK37 => ?_
  refine W.region ?_
  refine WL.move (v := .int .i64 x30) h29_8 ?_
  refine WL.move (v := .int .i64 x3) h29_2 ?_
  obtain ⟨x38, hxx38, hf⟩ := bindE hf
  refine WL.call (vs := [.int .i64 x3, .int .i64 3, .int .i64 9]) hs FN39 ⟨rfl, ⟨rfl, ⟨rfl, trivial⟩⟩⟩ (fun ok hA => eslaw00_Digit.calls (x1 := x3) (x2 := 3) (x3 := 9) hxx38) ?_
  rintro _ w hs
  refine WL.bin (v := .bool (decide (x30 ≤ x38))) rfl rfl (ib_leq _ _ _) ?_
  refine WL.nil ?_
  refine hK37 _ _ ?_
  rcases iteE hf with ⟨hc39, hf⟩ | ⟨hc39, hf⟩
  {
  refine W.cond_true (bool_tr rfl hc39) ?_
  refine W.skip ?_
  refine hK36 _ _ ?_
  refine W.seqK fun K40 hK40 => ?_
  refine W.block ?_
  obtain ⟨x41, hxx41, hf⟩ := bindE hf
  obtain ⟨x42, ex42, hf⟩ := letE hf
  obtain ⟨hn44, hf⟩ := guardE hf
  obtain ⟨x43, ex43, hf⟩ := letE hf
  obtain ⟨x45, hxx45, hf⟩ := bindE hf
  refine W.any (by kernel_rfl) 9 3 [true, true, true, true, true, true, true, true, true, false, false, false] rfl rfl (poAt [pv (.pointer (some ⟨g7, 3, none⟩)), pv (.slice a32 n34 c33), pv (.int .i64 x3), pv (.int .i64 x41), pv (.int .i64 x30), pv (.int .i64 x42), pv (.int .i64 x43), pq (fun y : List Value => .agg y.toArray) (fun v => [vl t_api_Effect x45 v]) (fun v => []), pq (fun y : (Option Addr × Nat) => .slice y.1 ([x45]).length y.2) (fun v => [vl (tSlice t_api_Effect) [x45] v]) (fun v => [])]) (Λ := [own t_api_Effect 72 (.slice a32 n34 c33) x31, blk g7 75 [.int .i64 x1, .int .i64 x2, .int .i64 0, .slice a32 n34 c33], blk g5 75 [.int .i64 0, .int .i64 0, .int .i64 0, .slice none 0 0]]) hs (by kernel_rfl) (by kernel_rfl) (by kernel_rfl) ⟨⟨⟨⟨⟨⟨⟨⟨⟨trivial, ?_⟩, ?_⟩, ?_⟩, ?_⟩, ?_⟩, ?_⟩, ?_⟩, ?_⟩, ?_⟩ ?_
  {
  intro ρ w Γx Λx hs hu hp
  refine WL.fieldAddr (m := 3) ((hu 7 rfl).trans h29_7) FA75_3 rfl ?_
  exact WL.nil ⟨rfl, _, rfl, rfl, hs.cutG 0 0⟩ }
  {
  intro ρ w Γx Λx hs hu hp
  have e50 : ρ 29 = .pointer (some ⟨g7, 3, none⟩) := (hp 0 rfl).1
  refine WL.load1 (v := .slice a32 n34 c33) hs (Λx.length + 1) (getApp rfl) TI30 e50 rfl ?_
  exact WL.nil ⟨rfl, _, rfl, rfl, hs.cutG 0 0⟩ }
  {
  intro ρ w Γx Λx hs hu hp
  refine WL.move (v := .int .i64 x3) ((hu 2 rfl).trans h29_2) ?_
  exact WL.nil ⟨rfl, _, rfl, rfl, hs.cutG 0 0⟩ }
  {
  intro ρ w Γx Λx hs hu hp
  have e51 : ρ 31 = .int .i64 x3 := (hp 2 rfl).1
  refine WL.call (vs := [.int .i64 x3, .int .i64 1099511627776]) hs FN14 ⟨e51, ⟨rfl, trivial⟩⟩ (fun ok hA => eslaw00_Index.calls (x1 := x3) (x2 := 1099511627776) hxx41) ?_
  rintro _ w hs
  exact WL.nil ⟨rfl, _, rfl, rfl, hs.cutG 0 0⟩ }
  {
  intro ρ w Γx Λx hs hu hp
  refine WL.move (v := .int .i64 x30) ((hu 8 rfl).trans h29_8) ?_
  exact WL.nil ⟨rfl, _, rfl, rfl, hs.cutG 0 0⟩ }
  {
  intro ρ w Γx Λx hs hu hp
  have e52 : ρ 33 = .int .i64 x30 := (hp 4 rfl).1
  refine WL.bin (v := .int .i64 x42) e52 rfl (ib_as ex42 (ib_add _ _ _)) ?_
  exact WL.nil ⟨rfl, _, rfl, rfl, hs.cutG 0 0⟩ }
  {
  intro ρ w Γx Λx hs hu hp
  have e53 : ρ 32 = .int .i64 x41 := (hp 3 rfl).1
  have e54 : ρ 34 = .int .i64 x42 := (hp 5 rfl).1
  refine WL.bin (v := .int .i64 x43) e53 e54 (ib_as ex43 (ib_quo _ _ _ hn44)) ?_
  exact WL.nil ⟨rfl, _, rfl, rfl, hs.cutG 0 0⟩ }
  {
  intro ρ w Γx Λx hs hu hp
  have e55 : ρ 35 = .int .i64 x43 := (hp 6 rfl).1
  refine WL.call (vs := [.int .i64 x43, .bool false]) hs FN40 ⟨e55, ⟨rfl, trivial⟩⟩ (fun ok hA => eslaw00_Effect.calls (x1 := x43) (x2 := false) hxx45) ?_
  rintro cs46 w hs
  have hl47 := hs.agglen (n := 5) 0 rfl rfl rfl
  have hs := hs.add (it := vl t_api_Effect x45 (.agg cs46.toArray)) fun ok hA => hA.get 0 rfl
  exact WL.nil ⟨rfl, _, rfl, ⟨cs46, rfl⟩, hs.cutG 1 1⟩ }
  {
  intro ρ w Γx Λx hs hu hp
  obtain ⟨⟨cs56, e58r⟩, hm59⟩ := hp 7 rfl
  have e58 : ρ 36 = .agg cs56.toArray := e58r
  rw [e58r] at hm59
  have hs := hs.memo1 (it := vl t_api_Effect x45 (.agg cs56.toArray)) (List.mem_append.2 (.inl (hm59 _ (List.mem_of_getElem? (i := 0) rfl))))
  have hl57 := hs.agglen (n := 5) 0 rfl rfl rfl
  refine WL.buildSliceB (ys := [x45]) (n := 1) (vs := [(0, .agg cs56.toArray)]) (cs := cs56) hs ⟨⟨rfl, e58⟩, trivial⟩ (bls PS30 (by decide) (by simp [fillS, fillL, Value.cells, hl57])) (fun ok hA => (Cells.one (T := t_api_Effect) (R_agg (hA.get 0 rfl) rfl))) rfl (by decide) (fun a49 w hBl hs => ?_)
  have hs := hs.add (it := vl (tSlice t_api_Effect) [x45] (.slice a49 ([x45]).length 1)) fun ok hA => hA.get 0 rfl
  exact WL.nil ⟨rfl, _, rfl, ⟨(a49, 1), rfl⟩, hs.cutG 1 2⟩ }
  {
  intro ρ w hs hu60 hp
  obtain ⟨⟨⟨⟨⟨⟨⟨⟨⟨_, hp0_⟩, hp1_⟩, hp2_⟩, hp3_⟩, hp4_⟩, hp5_⟩, hp6_⟩, hp7_⟩, hp8_⟩ := hp
  have hs : St ok (bz w0) w [vl (tSlice t_api_Effect) [x45] (ρ 37), vl t_api_Effect x45 (ρ 36)] [own t_api_Effect 72 (.slice a32 n34 c33) x31, blk g7 75 [.int .i64 x1, .int .i64 x2, .int .i64 0, .slice a32 n34 c33], blk g5 75 [.int .i64 0, .int .i64 0, .int .i64 0, .slice none 0 0]] := hs
  obtain ⟨⟨a61, c62⟩, e63⟩ := hp8_
  have e63 : ρ 37 = .slice a61 ([x45]).length c62 := e63
  try rw [e63] at hs
  obtain ⟨cs64, e66⟩ := hp7_
  have e66 : ρ 36 = .agg cs64.toArray := e66
  try rw [e66] at hs
  have e67 : ρ 35 = .int .i64 x43 := hp6_
  have e68 : ρ 34 = .int .i64 x42 := hp5_
  have e69 : ρ 33 = .int .i64 x30 := hp4_
  have e70 : ρ 32 = .int .i64 x41 := hp3_
  have e71 : ρ 31 = .int .i64 x3 := hp2_
  have e72 : ρ 30 = .slice a32 n34 c33 := hp1_
  have e73 : ρ 29 = .pointer (some ⟨g7, 3, none⟩) := hp0_
  have hl65 := hs.agglen (n := 5) 1 rfl rfl rfl
  refine WA.step [9] (by kernel_rfl) (by simp) ⟨?_, trivial⟩
  obtain ⟨x74, hxx74, hf⟩ := bindE hf
  obtain ⟨hbx74, hex74⟩ := appE hxx74
  refine WL.appendS (zs := x74) hs 0 rfl 0 rfl UN30 UN30 EI72 e72 e63 hbx74 (by omega) hex74 (fun v75 w hs => ?_)
  obtain ⟨a76, n78, c77, rfl⟩ := hs.ownv3 0 rfl
  refine WL.nil ⟨rfl, _, rfl, ?_⟩
  refine WA.step [10] (by kernel_rfl) (by simp) ⟨?_, trivial⟩
  refine WL.fieldAddr (m := 3) ((hu60 7 rfl).trans h29_7) FA75_3 rfl ?_
  refine WL.nil ⟨rfl, _, rfl, ?_⟩
  refine WA.step [11] (by kernel_rfl) (by simp) ⟨?_, trivial⟩
  refine WL.store (vs := [.slice a76 n78 c77]) (cs' := [.int .i64 x1, .int .i64 x2, .int .i64 0, .slice a76 n78 c77]) hs 1 rfl TI30 rfl rfl rfl rfl (ones_of rfl) (Nat.le_of_ble_eq_true rfl) rfl (fun w hs => ?_)
  refine WL.nil ⟨rfl, _, rfl, ?_⟩
  refine WA.done (by kernel_rfl) ?_
  refine hK40 _ _ ?_
  refine W.region ?_
  refine WL.move (v := .int .i64 x30) ((hu60 8 rfl).trans h29_8) ?_
  obtain ⟨x79, ex79, hf⟩ := letE hf
  refine WL.bin (v := .int .i64 x79) rfl rfl (ib_as ex79 (ib_add _ _ _)) ?_
  refine WL.assign (v := .int .i64 x79) rfl ?_
  refine WL.nil ?_
  exact ⟨_, (Option.some.inj hf).symm, a76, c77, n78, ((hu60 2 rfl).trans h29_2), ((hu60 6 rfl).trans h29_6), ((hu60 7 rfl).trans h29_7), rfl, (hs.mask [true, true, true]).pick []⟩ } }
  {
  refine W.cond_false (bool_tr rfl hc39) ?_
  refine W.exit ?_
  have hr := Option.some.inj hf; subst hr
  have hr := hbbs35 _ rfl; subst hr
  have hf := hfs35
  exact Jk26 x31 a32 c33 n34 _ _ h29_6 h29_7 ((hs.mask [true, true, true]).pick []) hf } }
theorem eslaw00_Updates.calls {ok : Nat → Prop} {w0 : World} {x1 : List Int} {a2 : Option Addr} {c3 : Nat} {r : List api_Update} (hf : eslaw00_Updates x1 = some r) (i0 : (vl (tSlice (tInt .i64)) x1 (.slice a2 x1.length c3)).holds ok w0) :
    Calls Try.prog 28 #[.slice a2 x1.length c3] w0 fun e w' => ∃ v, e = .returned v ∧ ∃ y : (Option Addr × Nat × Nat), v = .slice y.1 y.2.1 y.2.2 ∧ St ok (bz w0) w' [] [own t_api_Update 75 (.slice y.1 y.2.1 y.2.2) r] := by
  unfold eslaw00_Updates at hf
  refine calls_of_W (fn := Try.f28) (N := 48) Try.func28 rfl Try.ntmps28 rfl ?_
  have hs : St ok (bz w0) w0 [vl (tSlice (tInt .i64)) x1 (.slice a2 x1.length c3)] [] := St.init (All.cons i0 All.nil)
  clear i0
  refine W.seqK fun K4 hK4 => ?_
  refine W.region ?_
  refine WL.assign (v := .slice none 0 0) rfl ?_
  refine WL.nil ?_
  refine hK4 _ _ ?_
  refine W.seqK fun K5 hK5 => ?_
  refine W.region ?_
  refine WL.assign (v := .slice none 0 0) rfl ?_
  refine WL.nil ?_
  refine hK5 _ _ ?_
  refine W.seqK fun K6 hK6 => ?_
  have hs := hs.ownNil t_api_Update 75
  have Jk12 : ∀ (x8 : List api_Update) (a9 : Option Addr) (c10 : Nat) (n11 : Nat) (ρ : Env) (w : World), ρ 3 = .slice a9 n11 c10 → St ok (bz w0) w [] [own t_api_Update 75 (.slice a9 n11 c10) x8] → eslaw00_Updates.j1 x8 = some r → K6 ρ w := by
    intro x8 a9 c10 n11 ρ w h7_3 hs hf
    refine hK6 _ _ ?_
    unfold eslaw00_Updates.j1 at hf
    refine W.seqK fun K13 hK13 => ?_
    refine W.region ?_
    refine WL.move (v := .slice a9 n11 c10) h7_3 ?_
    refine WL.assign (v := .slice a9 n11 c10) rfl ?_
    refine WL.nil ?_
    refine hK13 _ _ ?_
    refine W.ret ?_
    have hr := Option.some.inj hf; subst hr
    exact ⟨_, resOk_one rfl rfl, (a9, n11, c10), rfl, (hs.mask [true]).pick []⟩
  refine W.seqK fun K14 hK14 => ?_
  refine W.region ?_
  refine WL.assign (v := .int .i64 0) rfl ?_
  refine WL.nil ?_
  refine hK14 _ _ ?_
  refine W.block ?_
  obtain ⟨bs21, hbs21, hfs21⟩ := bindE hf
  refine W.loop hbs21 (fun s ρ w => match s with | (x16, x20) => ∃ (a17 : Option Addr), ∃ (c18 : Nat), ∃ (n19 : Nat), ρ 0 = .slice a2 x1.length c3 ∧ ρ 3 = .slice a17 n19 c18 ∧ ρ 4 = .int .i64 x20 ∧ St ok (bz w0) w [vl (tSlice (tInt .i64)) x1 (.slice a2 x1.length c3)] [own t_api_Update 75 (.slice a17 n19 c18) x16]) ⟨none, 0, 0, rfl, rfl, rfl, (hs.mask [true]).pick [0]⟩ ?_
  intro s ρ w os21 hI hf hbbs21
  obtain ⟨x16, x20⟩ := s
  obtain ⟨a17, c18, n19, h15_0, h15_3, h15_4, hs⟩ := hI
  unfold eslaw00_Updates.l2 at hf
  refine W.seqK fun K22 hK22 => ?_
  refine W.seqK fun K23 hK23 => ?_
  refine W.region ?_
  refine WL.move (v := .int .i64 x20) h15_4 ?_
  refine WL.bin (v := .bool (decide (x20 < 3))) rfl rfl (ib_lss _ _ _) ?_
  refine WL.nil ?_
  refine hK23 _ _ ?_
  rcases iteE hf with ⟨hc24, hf⟩ | ⟨hc24, hf⟩
  {
  refine W.cond_true (bool_tr rfl hc24) ?_
  refine W.skip ?_
  refine hK22 _ _ ?_
  refine W.seqK fun K25 hK25 => ?_
  have Jk31 : ∀ (x27 : List api_Update) (a28 : Option Addr) (c29 : Nat) (n30 : Nat) (ρ : Env) (w : World), ρ 0 = .slice a2 x1.length c3 → ρ 3 = .slice a28 n30 c29 → ρ 4 = .int .i64 x20 → St ok (bz w0) w [vl (tSlice (tInt .i64)) x1 (.slice a2 x1.length c3)] [own t_api_Update 75 (.slice a28 n30 c29) x27] → eslaw00_Updates.j2 x20 x27 = some os21 → K25 ρ w := by
    intro x27 a28 c29 n30 ρ w h26_0 h26_3 h26_4 hs hf
    refine hK25 _ _ ?_
    unfold eslaw00_Updates.j2 at hf
    refine W.region ?_
    refine WL.move (v := .int .i64 x20) h26_4 ?_
    obtain ⟨x32, ex32, hf⟩ := letE hf
    refine WL.bin (v := .int .i64 x32) rfl rfl (ib_as ex32 (ib_add _ _ _)) ?_
    refine WL.assign (v := .int .i64 x32) rfl ?_
    refine WL.nil ?_
    exact ⟨_, (Option.some.inj hf).symm, a28, c29, n30, h26_0, h26_3, rfl, (hs.mask [true]).pick [0]⟩
  refine W.block ?_
  refine W.seqK fun K33 hK33 => ?_
  refine W.region ?_
  refine WL.assign (v := .int .i64 0) rfl ?_
  refine WL.nil ?_
  refine hK33 _ _ ?_
  refine W.seqK fun K34 hK34 => ?_
  refine W.region ?_
  refine WL.assign (v := .int .i64 0) rfl ?_
  refine WL.nil ?_
  refine hK34 _ _ ?_
  refine W.block ?_
  obtain ⟨bs42, hbs42, hfs42⟩ := bindE hf
  refine W.loop hbs42 (fun s ρ w => match s with | (x36, x40, x41) => ∃ (a37 : Option Addr), ∃ (c38 : Nat), ∃ (n39 : Nat), ρ 0 = .slice a2 x1.length c3 ∧ ρ 3 = .slice a37 n39 c38 ∧ ρ 4 = .int .i64 x20 ∧ ρ 5 = .int .i64 x40 ∧ ρ 6 = .int .i64 x41 ∧ St ok (bz w0) w [vl (tSlice (tInt .i64)) x1 (.slice a2 x1.length c3)] [own t_api_Update 75 (.slice a37 n39 c38) x36]) ⟨a17, c18, n19, h15_0, h15_3, h15_4, rfl, rfl, (hs.mask [true]).pick [0]⟩ ?_
  intro s ρ w os42 hI hf hbbs42
  obtain ⟨x36, x40, x41⟩ := s
  obtain ⟨a37, c38, n39, h35_0, h35_3, h35_4, h35_5, h35_6, hs⟩ := hI
  unfold eslaw00_Updates.l1 at hf
  refine W.seqK fun K43 hK43 => ?_
  refine W.seqK fun K44 hK44 => ?_
  have Jk47 : ∀ (x46 : Bool) (ρ : Env) (w : World), ρ 0 = .slice a2 x1.length c3 → ρ 3 = .slice a37 n39 c38 → ρ 4 = .int .i64 x20 → ρ 5 = .int .i64 x40 → ρ 6 = .int .i64 x41 → ρ 18 = .bool x46 → St ok (bz w0) w [vl (tSlice (tInt .i64)) x1 (.slice a2 x1.length c3)] [own t_api_Update 75 (.slice a37 n39 c38) x36] → eslaw00_Updates.j5 x1 x20 x36 x40 x41 x46 = some os42 → K44 ρ w := by
    intro x46 ρ w h45_0 h45_3 h45_4 h45_5 h45_6 h45_18 hs hf
    refine hK44 _ _ ?_
    unfold eslaw00_Updates.j5 at hf
    rcases iteE hf with ⟨hc48, hf⟩ | ⟨hc48, hf⟩
    {
    refine W.cond_true (bool_tr h45_18 hc48) ?_
    refine W.skip ?_
    refine hK43 _ _ ?_
    refine W.seqK fun K49 hK49 => ?_
    have Jk56 : ∀ (x51 : List api_Update) (x55 : Int) (a52 : Option Addr) (c53 : Nat) (n54 : Nat) (ρ : Env) (w : World), ρ 0 = .slice a2 x1.length c3 → ρ 3 = .slice a52 n54 c53 → ρ 4 = .int .i64 x20 → ρ 5 = .int .i64 x55 → ρ 6 = .int .i64 x41 → St ok (bz w0) w [vl (tSlice (tInt .i64)) x1 (.slice a2 x1.length c3)] [own t_api_Update 75 (.slice a52 n54 c53) x51] → eslaw00_Updates.j3 x41 x51 x55 = some os42 → K49 ρ w := by
      intro x51 x55 a52 c53 n54 ρ w h50_0 h50_3 h50_4 h50_5 h50_6 hs hf
      refine hK49 _ _ ?_
      unfold eslaw00_Updates.j3 at hf
      refine W.region ?_
      refine WL.move (v := .int .i64 x41) h50_6 ?_
      obtain ⟨x57, ex57, hf⟩ := letE hf
      refine WL.bin (v := .int .i64 x57) rfl rfl (ib_as ex57 (ib_add _ _ _)) ?_
      refine WL.assign (v := .int .i64 x57) rfl ?_
      refine WL.nil ?_
      exact ⟨_, (Option.some.inj hf).symm, a52, c53, n54, h50_0, h50_3, h50_4, h50_5, rfl, (hs.mask [true]).pick [0]⟩
    refine W.block ?_
    refine W.seqK fun K58 hK58 => ?_
    have Jk61 : ∀ (x60 : Bool) (ρ : Env) (w : World), ρ 0 = .slice a2 x1.length c3 → ρ 3 = .slice a37 n39 c38 → ρ 4 = .int .i64 x20 → ρ 5 = .int .i64 x40 → ρ 6 = .int .i64 x41 → ρ 31 = .bool x60 → St ok (bz w0) w [vl (tSlice (tInt .i64)) x1 (.slice a2 x1.length c3)] [own t_api_Update 75 (.slice a37 n39 c38) x36] → eslaw00_Updates.j4 x1 x20 x36 x40 x41 x60 = some os42 → K58 ρ w := by
      intro x60 ρ w h59_0 h59_3 h59_4 h59_5 h59_6 h59_31 hs hf
      refine hK58 _ _ ?_
      unfold eslaw00_Updates.j4 at hf
      rcases iteE hf with ⟨hc62, hf⟩ | ⟨hc62, hf⟩
      {
      refine W.cond_true (bool_tr h59_31 hc62) ?_
      refine W.seqK fun K63 hK63 => ?_
      refine W.region ?_
      refine WL.move (v := .int .i64 x40) h59_5 ?_
      obtain ⟨x64, ex64, hf⟩ := letE hf
      refine WL.bin (v := .int .i64 x64) rfl rfl (ib_as ex64 (ib_add _ _ _)) ?_
      refine WL.assign (v := .int .i64 x64) rfl ?_
      refine WL.nil ?_
      refine hK63 _ _ ?_
      refine W.region ?_
      refine WL.move (v := .slice a37 n39 c38) h59_3 ?_
      refine WL.move (v := .int .i64 x20) h59_4 ?_
      obtain ⟨x65, ex65, hf⟩ := letE hf
      refine WL.bin (v := .int .i64 x65) rfl rfl (ib_as ex65 (ib_add _ _ _)) ?_
      refine WL.move (v := .int .i64 x64) rfl ?_
      refine WL.move (v := .slice a2 x1.length c3) h59_0 ?_
      refine WL.move (v := .int .i64 x41) h59_6 ?_
      obtain ⟨x66, hxx66, hf⟩ := bindE hf
      refine WL.indexAddr hs 0 rfl UN29 TI3 rfl rfl hxx66 (fun ad67 hs => ?_)
      refine WL.loadP hs 0 rfl TI3 (.inr rfl) rfl (fun v68 hs => ?_)
      obtain rfl := hs.int 0 rfl
      obtain ⟨x69, hxx69, hf⟩ := bindE hf
      refine WL.call (vs := [.int .i64 x66, .int .i64 1099511627776]) hs FN14 ⟨rfl, ⟨rfl, trivial⟩⟩ (fun ok hA => eslaw00_Index.calls (x1 := x66) (x2 := 1099511627776) hxx69) ?_
      rintro _ w hs
      obtain ⟨x70, ex70, hf⟩ := letE hf
      refine WL.bin (v := .int .i64 x70) rfl rfl (ib_as ex70 (ib_quo _ _ _ (by decide))) ?_
      obtain ⟨x71, hxx71, hf⟩ := bindE hf
      refine WL.call (vs := [.int .i64 x65, .int .i64 x64, .int .i64 x70]) hs FN49 ⟨rfl, ⟨rfl, ⟨rfl, trivial⟩⟩⟩ (fun ok hA => eslaw00_Update.calls (x1 := x65) (x2 := x64) (x3 := x70) hxx71) ?_
      rintro ⟨a72, n73, c74⟩ w hs
      refine WL.buildSlice (n := 1) (vs := [(0, .agg ([.int .i64 x71.Client, .int .i64 x71.Seq, .int .i64 x71.Tag, .slice a72 n73 c74] : List Value).toArray)]) (cs := [.int .i64 x71.Client, .int .i64 x71.Seq, .int .i64 x71.Tag, .slice a72 n73 c74]) hs ⟨⟨rfl, rfl⟩, trivial⟩ (bls PS53 (by decide) rfl) (fun g75 w hs => ?_)
      obtain rfl := hs.ownLen 1 rfl
      have hs := hs.freezeOwn 1 rfl
      obtain ⟨x76, hxx76, hf⟩ := bindE hf
      obtain ⟨hbx76, hex76⟩ := appE hxx76
      refine WL.append (ys := [(⟨x71.Client, x71.Seq, x71.Tag, x71.Effects⟩ : api_Update)]) (zs := x76) hs 1 rfl 0 rfl UN53 EI75 rfl rfl (fun ok hA => (Cells.one (T := t_api_Update) (show t_api_Update.R ok _ (⟨x71.Client, x71.Seq, x71.Tag, x71.Effects⟩ : api_Update) _ from ⟨[.int .i64 x71.Client], [.int .i64 x71.Seq, .int .i64 x71.Tag, .slice a72 (x71.Effects).length c74], rfl, rfl, ⟨[.int .i64 x71.Seq], [.int .i64 x71.Tag, .slice a72 (x71.Effects).length c74], rfl, rfl, ⟨[.int .i64 x71.Tag], [.slice a72 (x71.Effects).length c74], rfl, rfl, (R_one (hA.get 0 rfl))⟩⟩⟩))) hbx76 (by omega) hex76 (fun v77 w hs => ?_)
      obtain ⟨a78, n80, c79, rfl⟩ := hs.ownv3 1 rfl
      refine WL.assign (v := .slice a78 n80 c79) rfl ?_
      refine WL.nil ?_
      exact Jk56 x76 x64 a78 c79 n80 _ _ h59_0 rfl h59_4 rfl h59_6 ((hs.mask [false, true]).pick [3]) hf }
      {
      refine W.cond_false (bool_tr h59_31 hc62) ?_
      refine W.skip ?_
      exact Jk56 x36 x40 a37 c38 n39 _ _ h59_0 h59_3 h59_4 h59_5 h59_6 ((hs.mask [true]).pick [0]) hf }
    refine W.region ?_
    refine WL.move (v := .slice a2 x1.length c3) h45_0 ?_
    refine WL.move (v := .int .i64 x41) h45_6 ?_
    obtain ⟨x81, hxx81, hf⟩ := bindE hf
    refine WL.indexAddr hs 0 rfl UN29 TI3 rfl rfl hxx81 (fun ad82 hs => ?_)
    refine WL.loadP hs 0 rfl TI3 (.inr rfl) rfl (fun v83 hs => ?_)
    obtain rfl := hs.int 0 rfl
    obtain ⟨x84, hxx84, hf⟩ := bindE hf
    refine WL.call (vs := [.int .i64 x81, .int .i64 3, .int .i64 0]) hs FN39 ⟨rfl, ⟨rfl, ⟨rfl, trivial⟩⟩⟩ (fun ok hA => eslaw00_Digit.calls (x1 := x81) (x2 := 3) (x3 := 0) hxx84) ?_
    rintro _ w hs
    refine WL.move (v := .int .i64 x20) h45_4 ?_
    refine WL.bin (v := .bool (x84 == x20)) rfl rfl (ib_eql _ _ _) ?_
    refine WL.move (v := .bool (x84 == x20)) rfl ?_
    rcases iteE hf with ⟨hc85, hf⟩ | ⟨hc85, hf⟩
    {
    refine WL.move (v := .int .i64 x40) h45_5 ?_ (hg := (wanted_of rfl rfl (bool_tr rfl hc85)).trans rfl)
    refine WL.bin (v := .bool (decide (x40 < 8))) rfl rfl (ib_lss _ _ _) ?_ (hg := (wanted_of rfl rfl (bool_tr rfl hc85)).trans rfl)
    refine WL.pickT (v := .bool (decide (x40 < 8))) (bool_tr rfl hc85) rfl ?_
    refine WL.nil ?_
    exact Jk61 (decide (x40 < 8)) _ _ h45_0 h45_3 h45_4 h45_5 h45_6 rfl ((hs.mask [true]).pick [2]) hf }
    {
    refine WL.pass ((wanted_of rfl rfl (bool_tr rfl hc85)).trans rfl) rfl ?_
    refine WL.pass ((wanted_of rfl rfl (bool_tr rfl hc85)).trans rfl) rfl ?_
    refine WL.pickF (v := .bool false) (bool_tr rfl hc85) rfl ?_
    refine WL.nil ?_
    exact Jk61 false _ _ h45_0 h45_3 h45_4 h45_5 h45_6 rfl ((hs.mask [true]).pick [2]) hf } }
    {
    refine W.cond_false (bool_tr h45_18 hc48) ?_
    refine W.exit ?_
    have hr := Option.some.inj hf; subst hr
    have hr := hbbs42 _ rfl; subst hr
    have hf := hfs42
    exact Jk31 x36 a37 c38 n39 _ _ h45_0 h45_3 h45_4 ((hs.mask [true]).pick [0]) hf }
  refine W.region ?_
  refine WL.move (v := .int .i64 x41) h35_6 ?_
  refine WL.move (v := .slice a2 x1.length c3) h35_0 ?_
  refine WL.len (v := .slice a2 x1.length c3) rfl (len_slice UN29) ?_
  refine WL.bin (v := .bool (decide (x41 < (x1.length : Int)))) rfl rfl (ib_lss _ _ _) ?_
  refine WL.move (v := .bool (decide (x41 < (x1.length : Int)))) rfl ?_
  rcases iteE hf with ⟨hc86, hf⟩ | ⟨hc86, hf⟩
  {
  refine WL.move (v := .int .i64 x41) h35_6 ?_ (hg := (wanted_of rfl rfl (bool_tr rfl hc86)).trans rfl)
  refine WL.bin (v := .bool (decide (x41 < 24))) rfl rfl (ib_lss _ _ _) ?_ (hg := (wanted_of rfl rfl (bool_tr rfl hc86)).trans rfl)
  refine WL.pickT (v := .bool (decide (x41 < 24))) (bool_tr rfl hc86) rfl ?_
  refine WL.nil ?_
  exact Jk47 (decide (x41 < 24)) _ _ h35_0 h35_3 h35_4 h35_5 h35_6 rfl ((hs.mask [true]).pick [0]) hf }
  {
  refine WL.pass ((wanted_of rfl rfl (bool_tr rfl hc86)).trans rfl) rfl ?_
  refine WL.pass ((wanted_of rfl rfl (bool_tr rfl hc86)).trans rfl) rfl ?_
  refine WL.pickF (v := .bool false) (bool_tr rfl hc86) rfl ?_
  refine WL.nil ?_
  exact Jk47 false _ _ h35_0 h35_3 h35_4 h35_5 h35_6 rfl ((hs.mask [true]).pick [0]) hf } }
  {
  refine W.cond_false (bool_tr rfl hc24) ?_
  refine W.exit ?_
  have hr := Option.some.inj hf; subst hr
  have hr := hbbs21 _ rfl; subst hr
  have hf := hfs21
  exact Jk12 x16 a17 c18 n19 _ _ h15_3 ((hs.mask [true]).pick []) hf }
theorem eslaw00_Some.calls {ok : Nat → Prop} {w0 : World} {x1 : List api_Update} {x4 : Int} {a2 : Option Addr} {c3 : Nat} {r : List api_Update} (hf : eslaw00_Some x1 x4 = some r) (i0 : (vl (tSlice t_api_Update) x1 (.slice a2 x1.length c3)).holds ok w0) :
    Calls Try.prog 29 #[.slice a2 x1.length c3, .int .i64 x4] w0 fun e w' => ∃ v, e = .returned v ∧ ∃ y : (Option Addr × Nat × Nat), v = .slice y.1 y.2.1 y.2.2 ∧ St ok (bz w0) w' [] [own t_api_Update 75 (.slice y.1 y.2.1 y.2.2) r] := by
  unfold eslaw00_Some at hf
  refine calls_of_W (fn := Try.f29) (N := 35) Try.func29 rfl Try.ntmps29 rfl ?_
  have hs : St ok (bz w0) w0 [vl (tSlice t_api_Update) x1 (.slice a2 x1.length c3)] [] := St.init (All.cons i0 All.nil)
  clear i0
  refine W.seqK fun K5 hK5 => ?_
  refine W.region ?_
  refine WL.assign (v := .slice none 0 0) rfl ?_
  refine WL.nil ?_
  refine hK5 _ _ ?_
  refine W.seqK fun K6 hK6 => ?_
  refine W.region ?_
  refine WL.assign (v := .slice none 0 0) rfl ?_
  refine WL.nil ?_
  refine hK6 _ _ ?_
  refine W.seqK fun K7 hK7 => ?_
  have hs := hs.ownNil t_api_Update 75
  have Jk13 : ∀ (x9 : List api_Update) (a10 : Option Addr) (c11 : Nat) (n12 : Nat) (ρ : Env) (w : World), ρ 5 = .slice a10 n12 c11 → St ok (bz w0) w [] [own t_api_Update 75 (.slice a10 n12 c11) x9] → eslaw00_Some.j1 x9 = some r → K7 ρ w := by
    intro x9 a10 c11 n12 ρ w h8_5 hs hf
    refine hK7 _ _ ?_
    unfold eslaw00_Some.j1 at hf
    refine W.seqK fun K14 hK14 => ?_
    refine W.region ?_
    refine WL.move (v := .slice a10 n12 c11) h8_5 ?_
    refine WL.assign (v := .slice a10 n12 c11) rfl ?_
    refine WL.nil ?_
    refine hK14 _ _ ?_
    refine W.ret ?_
    have hr := Option.some.inj hf; subst hr
    exact ⟨_, resOk_one rfl rfl, (a10, n12, c11), rfl, (hs.mask [true]).pick []⟩
  refine W.seqK fun K15 hK15 => ?_
  refine W.region ?_
  refine WL.assign (v := .int .i64 0) rfl ?_
  refine WL.nil ?_
  refine hK15 _ _ ?_
  refine W.block ?_
  obtain ⟨bs22, hbs22, hfs22⟩ := bindE hf
  refine W.loop hbs22 (fun s ρ w => match s with | (x17, x21) => ∃ (a18 : Option Addr), ∃ (c19 : Nat), ∃ (n20 : Nat), ρ 0 = .slice a2 x1.length c3 ∧ ρ 1 = .int .i64 x4 ∧ ρ 5 = .slice a18 n20 c19 ∧ ρ 6 = .int .i64 x21 ∧ St ok (bz w0) w [vl (tSlice t_api_Update) x1 (.slice a2 x1.length c3)] [own t_api_Update 75 (.slice a18 n20 c19) x17]) ⟨none, 0, 0, rfl, rfl, rfl, rfl, (hs.mask [true]).pick [0]⟩ ?_
  intro s ρ w os22 hI hf hbbs22
  obtain ⟨x17, x21⟩ := s
  obtain ⟨a18, c19, n20, h16_0, h16_1, h16_5, h16_6, hs⟩ := hI
  unfold eslaw00_Some.l1 at hf
  refine W.seqK fun K23 hK23 => ?_
  refine W.seqK fun K24 hK24 => ?_
  refine W.region ?_
  refine WL.move (v := .int .i64 x21) h16_6 ?_
  refine WL.move (v := .slice a2 x1.length c3) h16_0 ?_
  refine WL.len (v := .slice a2 x1.length c3) rfl (len_slice UN53) ?_
  refine WL.bin (v := .bool (decide (x21 < (x1.length : Int)))) rfl rfl (ib_lss _ _ _) ?_
  refine WL.nil ?_
  refine hK24 _ _ ?_
  rcases iteE hf with ⟨hc25, hf⟩ | ⟨hc25, hf⟩
  {
  refine W.cond_true (bool_tr rfl hc25) ?_
  refine W.skip ?_
  refine hK23 _ _ ?_
  refine W.seqK fun K26 hK26 => ?_
  have Jk32 : ∀ (x28 : List api_Update) (a29 : Option Addr) (c30 : Nat) (n31 : Nat) (ρ : Env) (w : World), ρ 0 = .slice a2 x1.length c3 → ρ 1 = .int .i64 x4 → ρ 5 = .slice a29 n31 c30 → ρ 6 = .int .i64 x21 → St ok (bz w0) w [vl (tSlice t_api_Update) x1 (.slice a2 x1.length c3)] [own t_api_Update 75 (.slice a29 n31 c30) x28] → eslaw00_Some.j2 x21 x28 = some os22 → K26 ρ w := by
    intro x28 a29 c30 n31 ρ w h27_0 h27_1 h27_5 h27_6 hs hf
    refine hK26 _ _ ?_
    unfold eslaw00_Some.j2 at hf
    refine W.region ?_
    refine WL.move (v := .int .i64 x21) h27_6 ?_
    obtain ⟨x33, ex33, hf⟩ := letE hf
    refine WL.bin (v := .int .i64 x33) rfl rfl (ib_as ex33 (ib_add _ _ _)) ?_
    refine WL.assign (v := .int .i64 x33) rfl ?_
    refine WL.nil ?_
    exact ⟨_, (Option.some.inj hf).symm, a29, c30, n31, h27_0, h27_1, h27_5, rfl, (hs.mask [true]).pick [0]⟩
  refine W.block ?_
  refine W.seqK fun K34 hK34 => ?_
  obtain ⟨x35, hxx35, hf⟩ := bindE hf
  obtain ⟨x39, hxx39, hf⟩ := bindE hf
  obtain ⟨x43, ex43, hf⟩ := letE hf
  obtain ⟨x44, hxx44, hf⟩ := bindE hf
  refine W.any (by kernel_rfl) 14 0 [true, true, true, true, true, true, true, true, true, true, true, true, true, true] rfl rfl (poAt [pv (.slice a2 x1.length c3), pv (.int .i64 x21), pq (fun y : Addr => .pointer (some y)) (fun v => [pl t_api_Update x35 (adOf v)]) (fun v => []), pq (fun y : Addr => .pointer (some y)) (fun v => [pl (tInt .i64) x35.Seq (adOf v)]) (fun v => []), pv (.int .i64 x35.Seq), pv (.int .i64 x4), pv (.slice a2 x1.length c3), pv (.int .i64 x21), pq (fun y : Addr => .pointer (some y)) (fun v => [pl t_api_Update x39 (adOf v)]) (fun v => []), pq (fun y : Addr => .pointer (some y)) (fun v => [pl (tInt .i64) x39.Client (adOf v)]) (fun v => []), pv (.int .i64 x39.Client), pv (.int .i64 x43), pv (.int .i64 x44), pv (.bool (decide (x35.Seq ≤ x44)))]) (Λ := [own t_api_Update 75 (.slice a18 n20 c19) x17]) hs (by kernel_rfl) (by kernel_rfl) (by kernel_rfl) ⟨⟨⟨⟨⟨⟨⟨⟨⟨⟨⟨⟨⟨⟨trivial, ?_⟩, ?_⟩, ?_⟩, ?_⟩, ?_⟩, ?_⟩, ?_⟩, ?_⟩, ?_⟩, ?_⟩, ?_⟩, ?_⟩, ?_⟩, ?_⟩ ?_
  {
  intro ρ w Γx Λx hs hu hp
  refine WL.move (v := .slice a2 x1.length c3) ((hu 0 rfl).trans h16_0) ?_
  exact WL.nil ⟨rfl, _, rfl, rfl, hs.cutG 0 0⟩ }
  {
  intro ρ w Γx Λx hs hu hp
  refine WL.move (v := .int .i64 x21) ((hu 6 rfl).trans h16_6) ?_
  exact WL.nil ⟨rfl, _, rfl, rfl, hs.cutG 0 0⟩ }
  {
  intro ρ w Γx Λx hs hu hp
  have e45 : ρ 13 = .slice a2 x1.length c3 := (hp 0 rfl).1
  have e46 : ρ 14 = .int .i64 x21 := (hp 1 rfl).1
  refine WL.indexAddr hs (Γx.length + 0) (getApp rfl) UN53 TI75 e45 e46 hxx35 (fun ad36 hs => ?_)
  have hs := hs.add (it := pl t_api_Update x35 ad36) fun ok hA => hA.get 0 rfl
  exact WL.nil ⟨rfl, _, rfl, ⟨ad36, rfl⟩, hs.cutG 1 1⟩ }
  {
  intro ρ w Γx Λx hs hu hp
  obtain ⟨⟨ad47, e48r⟩, hm49⟩ := hp 2 rfl
  have e48 : ρ 15 = .pointer (some ad47) := e48r
  rw [e48r] at hm49
  have hs := hs.memo1 (it := pl t_api_Update x35 ad47) (List.mem_append.2 (.inl (hm49 _ (List.mem_of_getElem? (i := 0) rfl))))
  refine WL.fieldAddrP (z := x35.Seq) F_api_Update_Seq hs 0 rfl e48 FA75_1 rfl (fun ad37 hs => ?_)
  have hs := hs.add (it := pl (tInt .i64) x35.Seq ad37) fun ok hA => hA.get 0 rfl
  exact WL.nil ⟨rfl, _, rfl, ⟨ad37, rfl⟩, hs.cutG 1 2⟩ }
  {
  intro ρ w Γx Λx hs hu hp
  obtain ⟨⟨ad50, e51r⟩, hm52⟩ := hp 3 rfl
  have e51 : ρ 16 = .pointer (some ad50) := e51r
  rw [e51r] at hm52
  have hs := hs.memo1 (it := pl (tInt .i64) x35.Seq ad50) (List.mem_append.2 (.inl (hm52 _ (List.mem_of_getElem? (i := 0) rfl))))
  refine WL.loadP hs 0 rfl TI3 (.inr rfl) e51 (fun v38 hs => ?_)
  obtain rfl := hs.int 0 rfl
  exact WL.nil ⟨rfl, _, rfl, rfl, hs.cutG 0 2⟩ }
  {
  intro ρ w Γx Λx hs hu hp
  refine WL.move (v := .int .i64 x4) ((hu 1 rfl).trans h16_1) ?_
  exact WL.nil ⟨rfl, _, rfl, rfl, hs.cutG 0 0⟩ }
  {
  intro ρ w Γx Λx hs hu hp
  refine WL.move (v := .slice a2 x1.length c3) ((hu 0 rfl).trans h16_0) ?_
  exact WL.nil ⟨rfl, _, rfl, rfl, hs.cutG 0 0⟩ }
  {
  intro ρ w Γx Λx hs hu hp
  refine WL.move (v := .int .i64 x21) ((hu 6 rfl).trans h16_6) ?_
  exact WL.nil ⟨rfl, _, rfl, rfl, hs.cutG 0 0⟩ }
  {
  intro ρ w Γx Λx hs hu hp
  have e53 : ρ 19 = .slice a2 x1.length c3 := (hp 6 rfl).1
  have e54 : ρ 20 = .int .i64 x21 := (hp 7 rfl).1
  refine WL.indexAddr hs (Γx.length + 0) (getApp rfl) UN53 TI75 e53 e54 hxx39 (fun ad40 hs => ?_)
  have hs := hs.add (it := pl t_api_Update x39 ad40) fun ok hA => hA.get 0 rfl
  exact WL.nil ⟨rfl, _, rfl, ⟨ad40, rfl⟩, hs.cutG 1 1⟩ }
  {
  intro ρ w Γx Λx hs hu hp
  obtain ⟨⟨ad55, e56r⟩, hm57⟩ := hp 8 rfl
  have e56 : ρ 21 = .pointer (some ad55) := e56r
  rw [e56r] at hm57
  have hs := hs.memo1 (it := pl t_api_Update x39 ad55) (List.mem_append.2 (.inl (hm57 _ (List.mem_of_getElem? (i := 0) rfl))))
  refine WL.fieldAddrP (z := x39.Client) F_api_Update_Client hs 0 rfl e56 FA75_0 rfl (fun ad41 hs => ?_)
  have hs := hs.add (it := pl (tInt .i64) x39.Client ad41) fun ok hA => hA.get 0 rfl
  exact WL.nil ⟨rfl, _, rfl, ⟨ad41, rfl⟩, hs.cutG 1 2⟩ }
  {
  intro ρ w Γx Λx hs hu hp
  obtain ⟨⟨ad58, e59r⟩, hm60⟩ := hp 9 rfl
  have e59 : ρ 22 = .pointer (some ad58) := e59r
  rw [e59r] at hm60
  have hs := hs.memo1 (it := pl (tInt .i64) x39.Client ad58) (List.mem_append.2 (.inl (hm60 _ (List.mem_of_getElem? (i := 0) rfl))))
  refine WL.loadP hs 0 rfl TI3 (.inr rfl) e59 (fun v42 hs => ?_)
  obtain rfl := hs.int 0 rfl
  exact WL.nil ⟨rfl, _, rfl, rfl, hs.cutG 0 2⟩ }
  {
  intro ρ w Γx Λx hs hu hp
  have e61 : ρ 23 = .int .i64 x39.Client := (hp 10 rfl).1
  refine WL.bin (v := .int .i64 x43) e61 rfl (ib_as ex43 (ib_sub _ _ _)) ?_
  exact WL.nil ⟨rfl, _, rfl, rfl, hs.cutG 0 0⟩ }
  {
  intro ρ w Γx Λx hs hu hp
  have e62 : ρ 18 = .int .i64 x4 := (hp 5 rfl).1
  have e63 : ρ 24 = .int .i64 x43 := (hp 11 rfl).1
  refine WL.call (vs := [.int .i64 x4, .int .i64 9, .int .i64 x43]) hs FN39 ⟨e62, ⟨rfl, ⟨e63, trivial⟩⟩⟩ (fun ok hA => eslaw00_Digit.calls (x1 := x4) (x2 := 9) (x3 := x43) hxx44) ?_
  rintro _ w hs
  exact WL.nil ⟨rfl, _, rfl, rfl, hs.cutG 0 0⟩ }
  {
  intro ρ w Γx Λx hs hu hp
  have e64 : ρ 17 = .int .i64 x35.Seq := (hp 4 rfl).1
  have e65 : ρ 25 = .int .i64 x44 := (hp 12 rfl).1
  refine WL.bin (v := .bool (decide (x35.Seq ≤ x44))) e64 e65 (ib_leq _ _ _) ?_
  exact WL.nil ⟨rfl, _, rfl, rfl, hs.cutG 0 0⟩ }
  {
  intro ρ w hs hu66 hp
  obtain ⟨⟨⟨⟨⟨⟨⟨⟨⟨⟨⟨⟨⟨⟨_, hp0_⟩, hp1_⟩, hp2_⟩, hp3_⟩, hp4_⟩, hp5_⟩, hp6_⟩, hp7_⟩, hp8_⟩, hp9_⟩, hp10_⟩, hp11_⟩, hp12_⟩, hp13_⟩ := hp
  have hs : St ok (bz w0) w [pl (tInt .i64) x39.Client (adOf (ρ 22)), pl t_api_Update x39 (adOf (ρ 21)), pl (tInt .i64) x35.Seq (adOf (ρ 16)), pl t_api_Update x35 (adOf (ρ 15)), vl (tSlice t_api_Update) x1 (.slice a2 x1.length c3)] [own t_api_Update 75 (.slice a18 n20 c19) x17] := hs
  have e67 : ρ 26 = .bool (decide (x35.Seq ≤ x44)) := hp13_
  have e68 : ρ 25 = .int .i64 x44 := hp12_
  have e69 : ρ 24 = .int .i64 x43 := hp11_
  have e70 : ρ 23 = .int .i64 x39.Client := hp10_
  obtain ⟨ad71, e72⟩ := hp9_
  have e72 : ρ 22 = .pointer (some ad71) := e72
  try rw [e72] at hs
  obtain ⟨ad73, e74⟩ := hp8_
  have e74 : ρ 21 = .pointer (some ad73) := e74
  try rw [e74] at hs
  have e75 : ρ 20 = .int .i64 x21 := hp7_
  have e76 : ρ 19 = .slice a2 x1.length c3 := hp6_
  have e77 : ρ 18 = .int .i64 x4 := hp5_
  have e78 : ρ 17 = .int .i64 x35.Seq := hp4_
  obtain ⟨ad79, e80⟩ := hp3_
  have e80 : ρ 16 = .pointer (some ad79) := e80
  try rw [e80] at hs
  obtain ⟨ad81, e82⟩ := hp2_
  have e82 : ρ 15 = .pointer (some ad81) := e82
  try rw [e82] at hs
  have e83 : ρ 14 = .int .i64 x21 := hp1_
  have e84 : ρ 13 = .slice a2 x1.length c3 := hp0_
  refine WA.done (by kernel_rfl) ?_
  refine hK34 _ _ ?_
  rcases iteE hf with ⟨hc85, hf⟩ | ⟨hc85, hf⟩
  {
  refine W.cond_true (bool_tr e67 hc85) ?_
  refine W.region ?_
  refine WL.move (v := .slice a18 n20 c19) ((hu66 5 rfl).trans h16_5) ?_
  refine WL.move (v := .slice a2 x1.length c3) ((hu66 0 rfl).trans h16_0) ?_
  refine WL.move (v := .int .i64 x21) ((hu66 6 rfl).trans h16_6) ?_
  obtain ⟨x86, hxx86, hf⟩ := bindE hf
  refine WL.indexAddr hs 4 rfl UN53 TI75 rfl rfl hxx86 (fun ad87 hs => ?_)
  refine WL.loadP hs 0 rfl TI75 (.inl rfl) rfl (fun v88 hs => ?_)
  obtain ⟨cs89, hl90, rfl⟩ := hs.aggv (n := 4) 0 rfl rfl rfl
  refine WL.buildSlice (n := 1) (vs := [(0, .agg cs89.toArray)]) (cs := cs89) hs ⟨⟨rfl, rfl⟩, trivial⟩ (bls PS53 (by decide) (by simp [fillS, fillL, Value.cells, hl90])) (fun g91 w hs => ?_)
  obtain ⟨x92, hxx92, hf⟩ := bindE hf
  obtain ⟨hbx92, hex92⟩ := appE hxx92
  refine WL.append (ys := [x86]) (zs := x92) hs 1 rfl 0 rfl UN53 EI75 rfl rfl (fun ok hA => (Cells.one (T := t_api_Update) (R_agg (hA.get 0 rfl) rfl))) hbx92 (by omega) hex92 (fun v93 w hs => ?_)
  obtain ⟨a94, n96, c95, rfl⟩ := hs.ownv3 1 rfl
  refine WL.assign (v := .slice a94 n96 c95) rfl ?_
  refine WL.nil ?_
  exact Jk32 x92 a94 c95 n96 _ _ ((hu66 0 rfl).trans h16_0) ((hu66 1 rfl).trans h16_1) rfl ((hu66 6 rfl).trans h16_6) ((hs.mask [false, true]).pick [6]) hf }
  {
  refine W.cond_false (bool_tr e67 hc85) ?_
  refine W.skip ?_
  exact Jk32 x17 a18 c19 n20 _ _ ((hu66 0 rfl).trans h16_0) ((hu66 1 rfl).trans h16_1) ((hu66 5 rfl).trans h16_5) ((hu66 6 rfl).trans h16_6) ((hs.mask [true]).pick [4]) hf } } }
  {
  refine W.cond_false (bool_tr rfl hc25) ?_
  refine W.exit ?_
  have hr := Option.some.inj hf; subst hr
  have hr := hbbs22 _ rfl; subst hr
  have hf := hfs22
  exact Jk13 x17 a18 c19 n20 _ _ h16_5 ((hs.mask [true]).pick []) hf }
theorem esref39_Visible.calls {ok : Nat → Prop} {w0 : World} {x1 : fold_Store} {v2 : Value} {r : List history_Value} (hf : esref39_Visible x1 = some r) (i0 : (vl t_fold_Store x1 v2).holds ok w0) :
    Calls Try.prog 31 #[v2] w0 fun e w' => ∃ v, e = .returned v ∧ ∃ y : (Option Addr × Nat × Nat), v = .slice y.1 y.2.1 y.2.2 ∧ St ok (bz w0) w' [] [own t_history_Value 68 (.slice y.1 y.2.1 y.2.2) r] := by
  unfold esref39_Visible at hf
  refine calls_of_W (fn := Try.f31) (N := 62) Try.func31 rfl Try.ntmps31 rfl ?_
  have hs : St ok (bz w0) w0 [vl t_fold_Store x1 v2] [] := St.init (All.cons i0 All.nil)
  clear i0
  obtain ⟨cs3, hl4, rfl⟩ := hs.aggv (n := 1) 0 rfl rfl rfl
  refine W.seqK fun K5 hK5 => ?_
  refine W.region ?_
  refine WL.box (vs := cs3) hs rfl rfl (fun g6 w hs => ?_)
  refine WL.assign (v := .slice none 0 0) rfl ?_
  refine WL.nil ?_
  refine hK5 _ _ ?_
  refine W.seqK fun K7 hK7 => ?_
  refine W.region ?_
  refine WL.assign (v := .slice none 0 0) rfl ?_
  refine WL.nil ?_
  refine hK7 _ _ ?_
  refine W.seqK fun K8 hK8 => ?_
  have hs := hs.ownNil t_history_Value 68
  have Jk14 : ∀ (x10 : List history_Value) (a11 : Option Addr) (c12 : Nat) (n13 : Nat) (ρ : Env) (w : World), ρ 3 = .slice a11 n13 c12 → St ok (bz w0) w [] [own t_history_Value 68 (.slice a11 n13 c12) x10] → esref39_Visible.j1 x10 = some r → K8 ρ w := by
    intro x10 a11 c12 n13 ρ w h9_3 hs hf
    refine hK8 _ _ ?_
    unfold esref39_Visible.j1 at hf
    refine W.seqK fun K15 hK15 => ?_
    refine W.region ?_
    refine WL.move (v := .slice a11 n13 c12) h9_3 ?_
    refine WL.assign (v := .slice a11 n13 c12) rfl ?_
    refine WL.nil ?_
    refine hK15 _ _ ?_
    refine W.ret ?_
    have hr := Option.some.inj hf; subst hr
    exact ⟨_, resOk_one rfl rfl, (a11, n13, c12), rfl, (hs.mask [true]).pick []⟩
  refine W.seqK fun K16 hK16 => ?_
  refine W.region ?_
  refine WL.assign (v := .int .i64 0) rfl ?_
  refine WL.nil ?_
  refine hK16 _ _ ?_
  refine W.block ?_
  obtain ⟨bs23, hbs23, hfs23⟩ := bindE hf
  refine W.loop hbs23 (fun s ρ w => match s with | (x18, x22) => ∃ (a19 : Option Addr), ∃ (c20 : Nat), ∃ (n21 : Nat), ρ 1 = .pointer (some ⟨g6, 0, none⟩) ∧ ρ 3 = .slice a19 n21 c20 ∧ ρ 4 = .int .i64 x22 ∧ St ok (bz w0) w [vl t_fold_Store x1 (.agg cs3.toArray)] [own t_history_Value 68 (.slice a19 n21 c20) x18, blk g6 50 cs3]) ⟨none, 0, 0, rfl, rfl, rfl, (hs.mask [true, true]).pick [0]⟩ ?_
  intro s ρ w os23 hI hf hbbs23
  obtain ⟨x18, x22⟩ := s
  obtain ⟨a19, c20, n21, h17_1, h17_3, h17_4, hs⟩ := hI
  unfold esref39_Visible.l2 at hf
  refine W.seqK fun K24 hK24 => ?_
  refine W.seqK fun K25 hK25 => ?_
  refine W.region ?_
  refine WL.move (v := .int .i64 x22) h17_4 ?_
  refine WL.fieldAddr (m := 0) h17_1 FA50_0 rfl ?_
  refine WL.loadF (z := x1.Objects) F_fold_Store_Objects hs 1 rfl 0 rfl rfl TI48 (.inr rfl) rfl rfl (fun v26 hs => ?_)
  obtain ⟨a27, c28, rfl⟩ := hs.slice 0 rfl
  refine WL.len (v := .slice a27 (x1.Objects).length c28) rfl (len_slice UN48) ?_
  refine WL.bin (v := .bool (decide (x22 < ((x1.Objects).length : Int)))) rfl rfl (ib_lss _ _ _) ?_
  refine WL.nil ?_
  refine hK25 _ _ ?_
  rcases iteE hf with ⟨hc29, hf⟩ | ⟨hc29, hf⟩
  {
  refine W.cond_true (bool_tr rfl hc29) ?_
  refine W.skip ?_
  refine hK24 _ _ ?_
  refine W.seqK fun K30 hK30 => ?_
  have Jk36 : ∀ (x32 : List history_Value) (a33 : Option Addr) (c34 : Nat) (n35 : Nat) (ρ : Env) (w : World), ρ 1 = .pointer (some ⟨g6, 0, none⟩) → ρ 3 = .slice a33 n35 c34 → ρ 4 = .int .i64 x22 → St ok (bz w0) w [vl t_fold_Store x1 (.agg cs3.toArray)] [own t_history_Value 68 (.slice a33 n35 c34) x32, blk g6 50 cs3] → esref39_Visible.j2 x22 x32 = some os23 → K30 ρ w := by
    intro x32 a33 c34 n35 ρ w h31_1 h31_3 h31_4 hs hf
    refine hK30 _ _ ?_
    unfold esref39_Visible.j2 at hf
    refine W.region ?_
    refine WL.move (v := .int .i64 x22) h31_4 ?_
    obtain ⟨x37, ex37, hf⟩ := letE hf
    refine WL.bin (v := .int .i64 x37) rfl rfl (ib_as ex37 (ib_add _ _ _)) ?_
    refine WL.assign (v := .int .i64 x37) rfl ?_
    refine WL.nil ?_
    exact ⟨_, (Option.some.inj hf).symm, a33, c34, n35, h31_1, h31_3, rfl, (hs.mask [true, true]).pick [0]⟩
  refine W.block ?_
  refine W.seqK fun K38 hK38 => ?_
  refine W.region ?_
  refine WL.fieldAddr (m := 0) h17_1 FA50_0 rfl ?_
  refine WL.loadF (z := x1.Objects) F_fold_Store_Objects hs 1 rfl 1 rfl rfl TI48 (.inr rfl) rfl rfl (fun v39 hs => ?_)
  obtain ⟨a40, c41, rfl⟩ := hs.slice 0 rfl
  refine WL.move (v := .int .i64 x22) h17_4 ?_
  obtain ⟨x42, hxx42, hf⟩ := bindE hf
  refine WL.indexAddr hs 0 rfl UN48 TI65 rfl rfl hxx42 (fun ad43 hs => ?_)
  refine WL.loadP hs 0 rfl TI65 (.inl rfl) rfl (fun v44 hs => ?_)
  obtain ⟨cs45, hl46, rfl⟩ := hs.aggv (n := 2) 0 rfl rfl rfl
  refine WL.alloc hs ZV65 (fun g47 w hs => ?_)
  refine WL.storeAll (vs := cs45) hs 0 rfl TI65 rfl rfl rfl hl46 (hs.ones 0 rfl rfl) rfl (fun w hs => ?_)
  refine WL.nil ?_
  refine hK38 _ _ ?_
  refine W.seqK fun K48 hK48 => ?_
  refine W.region ?_
  refine WL.assign (v := .int .i64 0) rfl ?_
  refine WL.nil ?_
  refine hK48 _ _ ?_
  refine W.block ?_
  obtain ⟨bs55, hbs55, hfs55⟩ := bindE hf
  refine W.loop hbs55 (fun s ρ w => match s with | (x50, x54) => ∃ (a51 : Option Addr), ∃ (c52 : Nat), ∃ (n53 : Nat), ρ 1 = .pointer (some ⟨g6, 0, none⟩) ∧ ρ 3 = .slice a51 n53 c52 ∧ ρ 4 = .int .i64 x22 ∧ ρ 5 = .pointer (some ⟨g47, 0, none⟩) ∧ ρ 6 = .int .i64 x54 ∧ St ok (bz w0) w [vl t_fold_Object x42 (.agg cs45.toArray), vl t_fold_Store x1 (.agg cs3.toArray)] [blk g47 65 cs45, own t_history_Value 68 (.slice a51 n53 c52) x50, blk g6 50 cs3]) ⟨a19, c20, n21, h17_1, h17_3, h17_4, rfl, rfl, (hs.mask [true, true, true]).pick [0, 4]⟩ ?_
  intro s ρ w os55 hI hf hbbs55
  obtain ⟨x50, x54⟩ := s
  obtain ⟨a51, c52, n53, h49_1, h49_3, h49_4, h49_5, h49_6, hs⟩ := hI
  unfold esref39_Visible.l1 at hf
  refine W.seqK fun K56 hK56 => ?_
  refine W.seqK fun K57 hK57 => ?_
  refine W.region ?_
  refine WL.move (v := .int .i64 x54) h49_6 ?_
  refine WL.fieldAddr (m := 1) h49_5 FA65_1 rfl ?_
  refine WL.loadF (z := x42.Fields) F_fold_Object_Fields hs 0 rfl 0 rfl rfl TI63 (.inr rfl) rfl rfl (fun v58 hs => ?_)
  obtain ⟨a59, c60, rfl⟩ := hs.slice 0 rfl
  refine WL.len (v := .slice a59 (x42.Fields).length c60) rfl (len_slice UN63) ?_
  refine WL.bin (v := .bool (decide (x54 < ((x42.Fields).length : Int)))) rfl rfl (ib_lss _ _ _) ?_
  refine WL.nil ?_
  refine hK57 _ _ ?_
  rcases iteE hf with ⟨hc61, hf⟩ | ⟨hc61, hf⟩
  {
  refine W.cond_true (bool_tr rfl hc61) ?_
  refine W.skip ?_
  refine hK56 _ _ ?_
  refine W.seqK fun K62 hK62 => ?_
  refine W.block ?_
  refine W.seqK fun K63 hK63 => ?_
  refine W.region ?_
  refine WL.fieldAddr (m := 1) h49_5 FA65_1 rfl ?_
  refine WL.loadF (z := x42.Fields) F_fold_Object_Fields hs 0 rfl 1 rfl rfl TI63 (.inr rfl) rfl rfl (fun v64 hs => ?_)
  obtain ⟨a65, c66, rfl⟩ := hs.slice 0 rfl
  refine WL.move (v := .int .i64 x54) h49_6 ?_
  obtain ⟨x67, hxx67, hf⟩ := bindE hf
  refine WL.indexAddr hs 0 rfl UN63 TI61 rfl rfl hxx67 (fun ad68 hs => ?_)
  refine WL.loadP hs 0 rfl TI61 (.inl rfl) rfl (fun v69 hs => ?_)
  obtain ⟨cs70, hl71, rfl⟩ := hs.aggv (n := 12) 0 rfl rfl rfl
  refine WL.alloc hs ZV61 (fun g72 w hs => ?_)
  refine WL.storeAll (vs := cs70) hs 0 rfl TI61 rfl rfl rfl hl71 (hs.ones 0 rfl rfl) rfl (fun w hs => ?_)
  refine WL.nil ?_
  refine hK63 _ _ ?_
  obtain ⟨x85, hxx85, hf⟩ := bindE hf
  obtain ⟨hbx85, hex85⟩ := appE hxx85
  refine W.any (by kernel_rfl) 28 2 [true, true, true, true, true, true, true, true, true, true, true, true, true, true, true, true, true, true, true, true, true, true, true, true, true, true, true, true, false, false] rfl rfl (poAt [pv (.slice a51 n53 c52), pv (.pointer (some ⟨g47, 0, none⟩)), pv (bstr x42.Name), pv (.pointer (some ⟨g72, 0, none⟩)), pv (bstr x67.Name), pv (.pointer (some ⟨g72, 1, none⟩)), pv (.pointer (some ⟨g72, 1, none⟩)), pv (.bool x67.Register.Set), pv (.pointer (some ⟨g72, 1, none⟩)), pv (.pointer (some ⟨g72, 5, none⟩)), pv (.int .i64 x67.Register.N), pv (.pointer (some ⟨g72, 1, none⟩)), pv (.pointer (some ⟨g72, 6, none⟩)), pv (bstr x67.Register.S), pv (.pointer (some ⟨g72, 7, none⟩)), pv (.bool x67.HasMax), pv (.pointer (some ⟨g72, 8, none⟩)), pv (.int .i64 x67.Max), pv (.pointer (some ⟨g72, 9, none⟩)), pv (.int .i64 x67.Sum), pq (fun y : Option Addr => .slice y 0 0) (fun v => []) (fun v => []), pv (.pointer (some ⟨g72, 10, none⟩)), pq (fun y : (Option Addr × Nat) => .slice y.1 (x67.Elems).length y.2) (fun v => [vl (tSlice tStr) x67.Elems v]) (fun v => []), pq (fun y : (Option Addr × Nat) => .slice y.1 x85.length y.2) (fun v => [vl (tSlice tStr) x85 v]) (fun v => []), pv (.pointer (some ⟨g72, 11, none⟩)), pv (.bool x67.Flag), pn [23] (fun r => .agg ([bstr x42.Name, bstr x67.Name, .bool x67.Register.Set, .int .i64 x67.Register.N, bstr x67.Register.S, .bool x67.HasMax, .int .i64 x67.Max, .int .i64 x67.Sum, r.getD 0 undef, .bool x67.Flag] : List Value).toArray), pq (fun y : (Option Addr × Nat) => .slice y.1 ([(⟨x42.Name, x67.Name, x67.Register.Set, x67.Register.N, x67.Register.S, x67.HasMax, x67.Max, x67.Sum, x85, x67.Flag⟩ : history_Value)]).length y.2) (fun v => [vl (tSlice t_history_Value) [(⟨x42.Name, x67.Name, x67.Register.Set, x67.Register.N, x67.Register.S, x67.HasMax, x67.Max, x67.Sum, x85, x67.Flag⟩ : history_Value)] v]) (fun v => [])]) (Λ := [blk g72 61 cs70, blk g47 65 cs45, own t_history_Value 68 (.slice a51 n53 c52) x50, blk g6 50 cs3]) hs (by kernel_rfl) (by kernel_rfl) (by kernel_rfl) ⟨⟨⟨⟨⟨⟨⟨⟨⟨⟨⟨⟨⟨⟨⟨⟨⟨⟨⟨⟨⟨⟨⟨⟨⟨⟨⟨⟨trivial, ?_⟩, ?_⟩, ?_⟩, ?_⟩, ?_⟩, ?_⟩, ?_⟩, ?_⟩, ?_⟩, ?_⟩, ?_⟩, ?_⟩, ?_⟩, ?_⟩, ?_⟩, ?_⟩, ?_⟩, ?_⟩, ?_⟩, ?_⟩, ?_⟩, ?_⟩, ?_⟩, ?_⟩, ?_⟩, ?_⟩, ?_⟩, ?_⟩ ?_
  {
  intro ρ w Γx Λx hs hu hp
  refine WL.move (v := .slice a51 n53 c52) ((hu 3 rfl).trans h49_3) ?_
  exact WL.nil ⟨rfl, _, rfl, rfl, hs.cutG 0 0⟩ }
  {
  intro ρ w Γx Λx hs hu hp
  refine WL.fieldAddr (m := 0) ((hu 5 rfl).trans h49_5) FA65_0 rfl ?_
  exact WL.nil ⟨rfl, _, rfl, rfl, hs.cutG 0 0⟩ }
  {
  intro ρ w Γx Λx hs hu hp
  have e91 : ρ 33 = .pointer (some ⟨g47, 0, none⟩) := (hp 1 rfl).1
  refine WL.loadF (z := x42.Name) F_fold_Object_Name hs (Λx.length + 1) (getApp rfl) (Γx.length + 4) (getApp rfl) rfl TI9 (.inr rfl) e91 rfl (fun v73 hs => ?_)
  obtain rfl := hs.str 0 rfl
  exact WL.nil ⟨rfl, _, rfl, rfl, hs.cutG 0 1⟩ }
  {
  intro ρ w Γx Λx hs hu hp
  refine WL.fieldAddr (m := 0) (hu 7 rfl) FA61_0 rfl ?_
  exact WL.nil ⟨rfl, _, rfl, rfl, hs.cutG 0 0⟩ }
  {
  intro ρ w Γx Λx hs hu hp
  have e92 : ρ 35 = .pointer (some ⟨g72, 0, none⟩) := (hp 3 rfl).1
  refine WL.loadF (z := x67.Name) F_fold_Field_Name hs (Λx.length + 0) (getApp rfl) (Γx.length + 0) (getApp rfl) rfl TI9 (.inr rfl) e92 rfl (fun v74 hs => ?_)
  obtain rfl := hs.str 0 rfl
  exact WL.nil ⟨rfl, _, rfl, rfl, hs.cutG 0 1⟩ }
  {
  intro ρ w Γx Λx hs hu hp
  refine WL.fieldAddr (m := 1) (hu 7 rfl) FA61_1 rfl ?_
  exact WL.nil ⟨rfl, _, rfl, rfl, hs.cutG 0 0⟩ }
  {
  intro ρ w Γx Λx hs hu hp
  have e93 : ρ 37 = .pointer (some ⟨g72, 1, none⟩) := (hp 5 rfl).1
  refine WL.fieldAddr (m := 1) e93 FA58_0 rfl ?_
  exact WL.nil ⟨rfl, _, rfl, rfl, hs.cutG 0 0⟩ }
  {
  intro ρ w Γx Λx hs hu hp
  have e94 : ρ 38 = .pointer (some ⟨g72, 1, none⟩) := (hp 6 rfl).1
  refine WL.loadF (z := x67.Register.Set) (F_fold_Field_Register.comp F_fold_Register_Set) hs (Λx.length + 0) (getApp rfl) (Γx.length + 0) (getApp rfl) rfl TI4 (.inr rfl) e94 rfl (fun v75 hs => ?_)
  obtain rfl := hs.bool 0 rfl
  exact WL.nil ⟨rfl, _, rfl, rfl, hs.cutG 0 1⟩ }
  {
  intro ρ w Γx Λx hs hu hp
  refine WL.fieldAddr (m := 1) (hu 7 rfl) FA61_1 rfl ?_
  exact WL.nil ⟨rfl, _, rfl, rfl, hs.cutG 0 0⟩ }
  {
  intro ρ w Γx Λx hs hu hp
  have e95 : ρ 40 = .pointer (some ⟨g72, 1, none⟩) := (hp 8 rfl).1
  refine WL.fieldAddr (m := 5) e95 FA58_4 rfl ?_
  exact WL.nil ⟨rfl, _, rfl, rfl, hs.cutG 0 0⟩ }
  {
  intro ρ w Γx Λx hs hu hp
  have e96 : ρ 41 = .pointer (some ⟨g72, 5, none⟩) := (hp 9 rfl).1
  refine WL.loadF (z := x67.Register.N) (F_fold_Field_Register.comp F_fold_Register_N) hs (Λx.length + 0) (getApp rfl) (Γx.length + 0) (getApp rfl) rfl TI2 (.inr rfl) e96 rfl (fun v76 hs => ?_)
  obtain rfl := hs.int 0 rfl
  exact WL.nil ⟨rfl, _, rfl, rfl, hs.cutG 0 1⟩ }
  {
  intro ρ w Γx Λx hs hu hp
  refine WL.fieldAddr (m := 1) (hu 7 rfl) FA61_1 rfl ?_
  exact WL.nil ⟨rfl, _, rfl, rfl, hs.cutG 0 0⟩ }
  {
  intro ρ w Γx Λx hs hu hp
  have e97 : ρ 43 = .pointer (some ⟨g72, 1, none⟩) := (hp 11 rfl).1
  refine WL.fieldAddr (m := 6) e97 FA58_5 rfl ?_
  exact WL.nil ⟨rfl, _, rfl, rfl, hs.cutG 0 0⟩ }
  {
  intro ρ w Γx Λx hs hu hp
  have e98 : ρ 44 = .pointer (some ⟨g72, 6, none⟩) := (hp 12 rfl).1
  refine WL.loadF (z := x67.Register.S) (F_fold_Field_Register.comp F_fold_Register_S) hs (Λx.length + 0) (getApp rfl) (Γx.length + 0) (getApp rfl) rfl TI9 (.inr rfl) e98 rfl (fun v77 hs => ?_)
  obtain rfl := hs.str 0 rfl
  exact WL.nil ⟨rfl, _, rfl, rfl, hs.cutG 0 1⟩ }
  {
  intro ρ w Γx Λx hs hu hp
  refine WL.fieldAddr (m := 7) (hu 7 rfl) FA61_2 rfl ?_
  exact WL.nil ⟨rfl, _, rfl, rfl, hs.cutG 0 0⟩ }
  {
  intro ρ w Γx Λx hs hu hp
  have e99 : ρ 46 = .pointer (some ⟨g72, 7, none⟩) := (hp 14 rfl).1
  refine WL.loadF (z := x67.HasMax) F_fold_Field_HasMax hs (Λx.length + 0) (getApp rfl) (Γx.length + 0) (getApp rfl) rfl TI4 (.inr rfl) e99 rfl (fun v78 hs => ?_)
  obtain rfl := hs.bool 0 rfl
  exact WL.nil ⟨rfl, _, rfl, rfl, hs.cutG 0 1⟩ }
  {
  intro ρ w Γx Λx hs hu hp
  refine WL.fieldAddr (m := 8) (hu 7 rfl) FA61_3 rfl ?_
  exact WL.nil ⟨rfl, _, rfl, rfl, hs.cutG 0 0⟩ }
  {
  intro ρ w Γx Λx hs hu hp
  have e100 : ρ 48 = .pointer (some ⟨g72, 8, none⟩) := (hp 16 rfl).1
  refine WL.loadF (z := x67.Max) F_fold_Field_Max hs (Λx.length + 0) (getApp rfl) (Γx.length + 0) (getApp rfl) rfl TI2 (.inr rfl) e100 rfl (fun v79 hs => ?_)
  obtain rfl := hs.int 0 rfl
  exact WL.nil ⟨rfl, _, rfl, rfl, hs.cutG 0 1⟩ }
  {
  intro ρ w Γx Λx hs hu hp
  refine WL.fieldAddr (m := 9) (hu 7 rfl) FA61_4 rfl ?_
  exact WL.nil ⟨rfl, _, rfl, rfl, hs.cutG 0 0⟩ }
  {
  intro ρ w Γx Λx hs hu hp
  have e101 : ρ 50 = .pointer (some ⟨g72, 9, none⟩) := (hp 18 rfl).1
  refine WL.loadF (z := x67.Sum) F_fold_Field_Sum hs (Λx.length + 0) (getApp rfl) (Γx.length + 0) (getApp rfl) rfl TI2 (.inr rfl) e101 rfl (fun v80 hs => ?_)
  obtain rfl := hs.int 0 rfl
  exact WL.nil ⟨rfl, _, rfl, rfl, hs.cutG 0 1⟩ }
  {
  intro ρ w Γx Λx hs hu hp
  refine WL.buildSlice0 hs UN59 TI9 (fun a81 w hs => ?_)
  exact WL.nil ⟨rfl, _, rfl, ⟨a81, rfl⟩, hs.cutG 0 0⟩ }
  {
  intro ρ w Γx Λx hs hu hp
  refine WL.fieldAddr (m := 10) (hu 7 rfl) FA61_5 rfl ?_
  exact WL.nil ⟨rfl, _, rfl, rfl, hs.cutG 0 0⟩ }
  {
  intro ρ w Γx Λx hs hu hp
  have e102 : ρ 53 = .pointer (some ⟨g72, 10, none⟩) := (hp 21 rfl).1
  refine WL.loadF (z := x67.Elems) F_fold_Field_Elems hs (Λx.length + 0) (getApp rfl) (Γx.length + 0) (getApp rfl) rfl TI59 (.inr rfl) e102 rfl (fun v82 hs => ?_)
  obtain ⟨a83, c84, rfl⟩ := hs.slice 0 rfl
  have hs := hs.add (it := vl (tSlice tStr) x67.Elems (.slice a83 (x67.Elems).length c84)) fun ok hA => hA.get 0 rfl
  exact WL.nil ⟨rfl, _, rfl, ⟨(a83, c84), rfl⟩, hs.cutG 1 1⟩ }
  {
  intro ρ w Γx Λx hs hu hp
  obtain ⟨⟨a103, e104r⟩, hm105⟩ := hp 20 rfl
  have e104 : ρ 52 = .slice a103 0 0 := e104r
  obtain ⟨⟨⟨a106, c107⟩, e108r⟩, hm109⟩ := hp 22 rfl
  have e108 : ρ 54 = .slice a106 (x67.Elems).length c107 := e108r
  rw [e108r] at hm109
  have hs := hs.memo1 (it := vl (tSlice tStr) x67.Elems (.slice a106 (x67.Elems).length c107)) (List.mem_append.2 (.inl (hm109 _ (List.mem_of_getElem? (i := 0) rfl))))
  have hs := hs.add (it := vl (tSlice tStr) [] (.slice a103 0 0)) fun ok hA => tSlice_V.2 ⟨_, 0, rfl, Nat.le_refl _, .inl rfl⟩
  refine WL.appendFS (xs := []) (zs := x85) hs 0 rfl 1 rfl UN59 UN59 EI9 e104 e108 hbx85 (by omega) hex85 (fun a86 c87 w hs => ?_)
  have hs := hs.add (it := vl (tSlice tStr) x85 (.slice a86 x85.length c87)) fun ok hA => hA.get 0 rfl
  exact WL.nil ⟨rfl, _, rfl, ⟨(a86, c87), rfl⟩, hs.cutG 1 3⟩ }
  {
  intro ρ w Γx Λx hs hu hp
  refine WL.fieldAddr (m := 11) (hu 7 rfl) FA61_6 rfl ?_
  exact WL.nil ⟨rfl, _, rfl, rfl, hs.cutG 0 0⟩ }
  {
  intro ρ w Γx Λx hs hu hp
  have e110 : ρ 56 = .pointer (some ⟨g72, 11, none⟩) := (hp 24 rfl).1
  refine WL.loadF (z := x67.Flag) F_fold_Field_Flag hs (Λx.length + 0) (getApp rfl) (Γx.length + 0) (getApp rfl) rfl TI4 (.inr rfl) e110 rfl (fun v88 hs => ?_)
  obtain rfl := hs.bool 0 rfl
  exact WL.nil ⟨rfl, _, rfl, rfl, hs.cutG 0 1⟩ }
  {
  intro ρ w Γx Λx hs hu hp
  have e111 : ρ 34 = bstr x42.Name := (hp 2 rfl).1
  have e112 : ρ 36 = bstr x67.Name := (hp 4 rfl).1
  have e113 : ρ 39 = .bool x67.Register.Set := (hp 7 rfl).1
  have e114 : ρ 42 = .int .i64 x67.Register.N := (hp 10 rfl).1
  have e115 : ρ 45 = bstr x67.Register.S := (hp 13 rfl).1
  have e116 : ρ 47 = .bool x67.HasMax := (hp 15 rfl).1
  have e117 : ρ 49 = .int .i64 x67.Max := (hp 17 rfl).1
  have e118 : ρ 51 = .int .i64 x67.Sum := (hp 19 rfl).1
  obtain ⟨⟨⟨a119, c120⟩, e121r⟩, hm122⟩ := hp 23 rfl
  have e121 : ρ 55 = .slice a119 x85.length c120 := e121r
  rw [e121r] at hm122
  have hs := hs.memo1 (it := vl (tSlice tStr) x85 (.slice a119 x85.length c120)) (List.mem_append.2 (.inl (hm122 _ (List.mem_of_getElem? (i := 0) rfl))))
  have e123 : ρ 57 = .bool x67.Flag := (hp 25 rfl).1
  refine WL.build (vs := [(0, bstr x42.Name), (1, bstr x67.Name), (2, .bool x67.Register.Set), (3, .int .i64 x67.Register.N), (4, bstr x67.Register.S), (5, .bool x67.HasMax), (6, .int .i64 x67.Max), (7, .int .i64 x67.Sum), (8, .slice a119 x85.length c120), (9, .bool x67.Flag)]) (cs := [bstr x42.Name, bstr x67.Name, .bool x67.Register.Set, .int .i64 x67.Register.N, bstr x67.Register.S, .bool x67.HasMax, .int .i64 x67.Max, .int .i64 x67.Sum, .slice a119 x85.length c120, .bool x67.Flag]) ⟨⟨rfl, e111⟩, ⟨⟨rfl, e112⟩, ⟨⟨rfl, e113⟩, ⟨⟨rfl, e114⟩, ⟨⟨rfl, e115⟩, ⟨⟨rfl, e116⟩, ⟨⟨rfl, e117⟩, ⟨⟨rfl, e118⟩, ⟨⟨rfl, e121⟩, ⟨⟨rfl, e123⟩, trivial⟩⟩⟩⟩⟩⟩⟩⟩⟩⟩ (bld PL68 (by kernel_rfl)) ?_
  exact WL.nil ⟨rfl, _, rfl, (show (.agg ([bstr x42.Name, bstr x67.Name, .bool x67.Register.Set, .int .i64 x67.Register.N, bstr x67.Register.S, .bool x67.HasMax, .int .i64 x67.Max, .int .i64 x67.Sum, .slice a119 x85.length c120, .bool x67.Flag] : List Value).toArray : Value) = (.agg ([bstr x42.Name, bstr x67.Name, .bool x67.Register.Set, .int .i64 x67.Register.N, bstr x67.Register.S, .bool x67.HasMax, .int .i64 x67.Max, .int .i64 x67.Sum, ρ 55, .bool x67.Flag] : List Value).toArray : Value) by rw [e121]), hs.cutG 0 1⟩ }
  {
  intro ρ w Γx Λx hs hu hp
  obtain ⟨⟨⟨a124, c125⟩, e126r⟩, hm127⟩ := hp 23 rfl
  have e126 : ρ 55 = .slice a124 x85.length c125 := e126r
  rw [e126r] at hm127
  have hs := hs.memo1 (it := vl (tSlice tStr) x85 (.slice a124 x85.length c125)) (List.mem_append.2 (.inl (hm127 _ (List.mem_of_getElem? (i := 0) rfl))))
  have e128 : ρ 58 = .agg ([bstr x42.Name, bstr x67.Name, .bool x67.Register.Set, .int .i64 x67.Register.N, bstr x67.Register.S, .bool x67.HasMax, .int .i64 x67.Max, .int .i64 x67.Sum, ρ 55, .bool x67.Flag] : List Value).toArray := (hp 26 rfl).1
  rw [e126] at e128
  refine WL.buildSliceB (ys := [(⟨x42.Name, x67.Name, x67.Register.Set, x67.Register.N, x67.Register.S, x67.HasMax, x67.Max, x67.Sum, x85, x67.Flag⟩ : history_Value)]) (n := 1) (vs := [(0, .agg ([bstr x42.Name, bstr x67.Name, .bool x67.Register.Set, .int .i64 x67.Register.N, bstr x67.Register.S, .bool x67.HasMax, .int .i64 x67.Max, .int .i64 x67.Sum, .slice a124 x85.length c125, .bool x67.Flag] : List Value).toArray)]) (cs := [bstr x42.Name, bstr x67.Name, .bool x67.Register.Set, .int .i64 x67.Register.N, bstr x67.Register.S, .bool x67.HasMax, .int .i64 x67.Max, .int .i64 x67.Sum, .slice a124 x85.length c125, .bool x67.Flag]) hs ⟨⟨rfl, e128⟩, trivial⟩ (bls PS31 (by decide) rfl) (fun ok hA => (Cells.one (T := t_history_Value) (show t_history_Value.R ok _ (⟨x42.Name, x67.Name, x67.Register.Set, x67.Register.N, x67.Register.S, x67.HasMax, x67.Max, x67.Sum, x85, x67.Flag⟩ : history_Value) _ from ⟨[bstr x42.Name], [bstr x67.Name, .bool x67.Register.Set, .int .i64 x67.Register.N, bstr x67.Register.S, .bool x67.HasMax, .int .i64 x67.Max, .int .i64 x67.Sum, .slice a124 x85.length c125, .bool x67.Flag], rfl, rfl, ⟨[bstr x67.Name], [.bool x67.Register.Set, .int .i64 x67.Register.N, bstr x67.Register.S, .bool x67.HasMax, .int .i64 x67.Max, .int .i64 x67.Sum, .slice a124 x85.length c125, .bool x67.Flag], rfl, rfl, ⟨[.bool x67.Register.Set], [.int .i64 x67.Register.N, bstr x67.Register.S, .bool x67.HasMax, .int .i64 x67.Max, .int .i64 x67.Sum, .slice a124 x85.length c125, .bool x67.Flag], rfl, rfl, ⟨[.int .i64 x67.Register.N], [bstr x67.Register.S, .bool x67.HasMax, .int .i64 x67.Max, .int .i64 x67.Sum, .slice a124 x85.length c125, .bool x67.Flag], rfl, rfl, ⟨[bstr x67.Register.S], [.bool x67.HasMax, .int .i64 x67.Max, .int .i64 x67.Sum, .slice a124 x85.length c125, .bool x67.Flag], rfl, rfl, ⟨[.bool x67.HasMax], [.int .i64 x67.Max, .int .i64 x67.Sum, .slice a124 x85.length c125, .bool x67.Flag], rfl, rfl, ⟨[.int .i64 x67.Max], [.int .i64 x67.Sum, .slice a124 x85.length c125, .bool x67.Flag], rfl, rfl, ⟨[.int .i64 x67.Sum], [.slice a124 x85.length c125, .bool x67.Flag], rfl, rfl, ⟨[.slice a124 x85.length c125], [.bool x67.Flag], rfl, (R_one (hA.get 0 rfl)), rfl⟩⟩⟩⟩⟩⟩⟩⟩⟩))) rfl (by decide) (fun a90 w hBl hs => ?_)
  have hs := hs.add (it := vl (tSlice t_history_Value) [(⟨x42.Name, x67.Name, x67.Register.Set, x67.Register.N, x67.Register.S, x67.HasMax, x67.Max, x67.Sum, x85, x67.Flag⟩ : history_Value)] (.slice a90 ([(⟨x42.Name, x67.Name, x67.Register.Set, x67.Register.N, x67.Register.S, x67.HasMax, x67.Max, x67.Sum, x85, x67.Flag⟩ : history_Value)]).length 1)) fun ok hA => hA.get 0 rfl
  exact WL.nil ⟨rfl, _, rfl, ⟨(a90, 1), rfl⟩, hs.cutG 1 2⟩ }
  {
  intro ρ w hs hu129 hp
  obtain ⟨⟨⟨⟨⟨⟨⟨⟨⟨⟨⟨⟨⟨⟨⟨⟨⟨⟨⟨⟨⟨⟨⟨⟨⟨⟨⟨⟨_, hp0_⟩, hp1_⟩, hp2_⟩, hp3_⟩, hp4_⟩, hp5_⟩, hp6_⟩, hp7_⟩, hp8_⟩, hp9_⟩, hp10_⟩, hp11_⟩, hp12_⟩, hp13_⟩, hp14_⟩, hp15_⟩, hp16_⟩, hp17_⟩, hp18_⟩, hp19_⟩, hp20_⟩, hp21_⟩, hp22_⟩, hp23_⟩, hp24_⟩, hp25_⟩, hp26_⟩, hp27_⟩ := hp
  have hs : St ok (bz w0) w [vl (tSlice t_history_Value) [(⟨x42.Name, x67.Name, x67.Register.Set, x67.Register.N, x67.Register.S, x67.HasMax, x67.Max, x67.Sum, x85, x67.Flag⟩ : history_Value)] (ρ 59), vl (tSlice tStr) x85 (ρ 55), vl (tSlice tStr) x67.Elems (ρ 54), vl t_fold_Field x67 (.agg cs70.toArray), pl t_fold_Field x67 ad68, vl (tSlice t_fold_Field) x42.Fields (.slice a65 (x42.Fields).length c66), vl (tSlice t_fold_Field) x42.Fields (.slice a59 (x42.Fields).length c60), vl t_fold_Object x42 (.agg cs45.toArray), vl t_fold_Store x1 (.agg cs3.toArray)] [blk g72 61 cs70, blk g47 65 cs45, own t_history_Value 68 (.slice a51 n53 c52) x50, blk g6 50 cs3] := hs
  obtain ⟨⟨a130, c131⟩, e132⟩ := hp27_
  have e132 : ρ 59 = .slice a130 ([(⟨x42.Name, x67.Name, x67.Register.Set, x67.Register.N, x67.Register.S, x67.HasMax, x67.Max, x67.Sum, x85, x67.Flag⟩ : history_Value)]).length c131 := e132
  try rw [e132] at hs
  have e133 : ρ 57 = .bool x67.Flag := hp25_
  have e134 : ρ 56 = .pointer (some ⟨g72, 11, none⟩) := hp24_
  obtain ⟨⟨a135, c136⟩, e137⟩ := hp23_
  have e137 : ρ 55 = .slice a135 x85.length c136 := e137
  try rw [e137] at hs
  obtain ⟨⟨a138, c139⟩, e140⟩ := hp22_
  have e140 : ρ 54 = .slice a138 (x67.Elems).length c139 := e140
  try rw [e140] at hs
  have e141 : ρ 53 = .pointer (some ⟨g72, 10, none⟩) := hp21_
  obtain ⟨a142, e143⟩ := hp20_
  have e143 : ρ 52 = .slice a142 0 0 := e143
  try rw [e143] at hs
  have e144 : ρ 51 = .int .i64 x67.Sum := hp19_
  have e145 : ρ 50 = .pointer (some ⟨g72, 9, none⟩) := hp18_
  have e146 : ρ 49 = .int .i64 x67.Max := hp17_
  have e147 : ρ 48 = .pointer (some ⟨g72, 8, none⟩) := hp16_
  have e148 : ρ 47 = .bool x67.HasMax := hp15_
  have e149 : ρ 46 = .pointer (some ⟨g72, 7, none⟩) := hp14_
  have e150 : ρ 45 = bstr x67.Register.S := hp13_
  have e151 : ρ 44 = .pointer (some ⟨g72, 6, none⟩) := hp12_
  have e152 : ρ 43 = .pointer (some ⟨g72, 1, none⟩) := hp11_
  have e153 : ρ 42 = .int .i64 x67.Register.N := hp10_
  have e154 : ρ 41 = .pointer (some ⟨g72, 5, none⟩) := hp9_
  have e155 : ρ 40 = .pointer (some ⟨g72, 1, none⟩) := hp8_
  have e156 : ρ 39 = .bool x67.Register.Set := hp7_
  have e157 : ρ 38 = .pointer (some ⟨g72, 1, none⟩) := hp6_
  have e158 : ρ 37 = .pointer (some ⟨g72, 1, none⟩) := hp5_
  have e159 : ρ 36 = bstr x67.Name := hp4_
  have e160 : ρ 35 = .pointer (some ⟨g72, 0, none⟩) := hp3_
  have e161 : ρ 34 = bstr x42.Name := hp2_
  have e162 : ρ 33 = .pointer (some ⟨g47, 0, none⟩) := hp1_
  have e163 : ρ 32 = .slice a51 n53 c52 := hp0_
  have e164 : ρ 58 = .agg ([bstr x42.Name, bstr x67.Name, .bool x67.Register.Set, .int .i64 x67.Register.N, bstr x67.Register.S, .bool x67.HasMax, .int .i64 x67.Max, .int .i64 x67.Sum, ρ 55, .bool x67.Flag] : List Value).toArray := hp26_
  rw [e137] at e164
  refine WA.step [28] (by kernel_rfl) (by simp) ⟨?_, trivial⟩
  obtain ⟨x165, hxx165, hf⟩ := bindE hf
  obtain ⟨hbx165, hex165⟩ := appE hxx165
  refine WL.appendS (zs := x165) hs 2 rfl 0 rfl UN31 UN31 EI68 e163 e132 hbx165 (by omega) hex165 (fun v166 w hs => ?_)
  obtain ⟨a167, n169, c168, rfl⟩ := hs.ownv3 2 rfl
  refine WL.nil ⟨rfl, _, rfl, ?_⟩
  refine WA.step [29] (by kernel_rfl) (by simp) ⟨?_, trivial⟩
  refine WL.assign (v := .slice a167 n169 c168) rfl ?_
  refine WL.nil ⟨rfl, _, rfl, ?_⟩
  refine WA.done (by kernel_rfl) ?_
  refine hK62 _ _ ?_
  refine W.region ?_
  refine WL.move (v := .int .i64 x54) ((hu129 6 rfl).trans h49_6) ?_
  obtain ⟨x170, ex170, hf⟩ := letE hf
  refine WL.bin (v := .int .i64 x170) rfl rfl (ib_as ex170 (ib_add _ _ _)) ?_
  refine WL.assign (v := .int .i64 x170) rfl ?_
  refine WL.nil ?_
  exact ⟨_, (Option.some.inj hf).symm, a167, c168, n169, ((hu129 1 rfl).trans h49_1), rfl, ((hu129 4 rfl).trans h49_4), ((hu129 5 rfl).trans h49_5), rfl, (hs.mask [false, true, true, true]).pick [7, 8]⟩ } }
  {
  refine W.cond_false (bool_tr rfl hc61) ?_
  refine W.exit ?_
  have hr := Option.some.inj hf; subst hr
  have hr := hbbs55 _ rfl; subst hr
  have hf := hfs55
  exact Jk36 x50 a51 c52 n53 _ _ h49_1 h49_3 h49_4 ((hs.mask [false, true, true]).pick [2]) hf } }
  {
  refine W.cond_false (bool_tr rfl hc29) ?_
  refine W.exit ?_
  have hr := Option.some.inj hf; subst hr
  have hr := hbbs23 _ rfl; subst hr
  have hf := hfs23
  exact Jk14 x18 a19 c20 n21 _ _ h17_3 ((hs.mask [true]).pick []) hf }
theorem esref32_Find.calls {ok : Nat → Prop} {w0 : World} {x1 : fold_Store} {x5 : List UInt8} {v2 : Value} {r : fold_Object} (hf : esref32_Find x1 x5 = some r) (i0 : (vl t_fold_Store x1 v2).holds ok w0) :
    Calls Try.prog 33 #[v2, bstr x5] w0 fun e w' => ∃ v, e = .returned v ∧ ∃ y : List Value, v = .agg y.toArray ∧ St ok (bz w0) w' [vl t_fold_Object r (.agg y.toArray)] [] := by
  unfold esref32_Find at hf
  refine calls_of_W (fn := Try.f33) (N := 28) Try.func33 rfl Try.ntmps33 rfl ?_
  have hs : St ok (bz w0) w0 [vl t_fold_Store x1 v2] [] := St.init (All.cons i0 All.nil)
  clear i0
  obtain ⟨cs3, hl4, rfl⟩ := hs.aggv (n := 1) 0 rfl rfl rfl
  refine W.seqK fun K6 hK6 => ?_
  refine W.region ?_
  refine WL.box (vs := cs3) hs rfl rfl (fun g7 w hs => ?_)
  refine WL.alloc hs ZV65 (fun g8 w hs => ?_)
  refine WL.nil ?_
  refine hK6 _ _ ?_
  refine W.seqK fun K9 hK9 => ?_
  have Jk15 : ∀ (x11 : List UInt8) (x12 : List fold_Field) (a13 : Option Addr) (c14 : Nat) (ρ : Env) (w : World), ρ 1 = bstr x5 → ρ 4 = .pointer (some ⟨g8, 0, none⟩) → St ok (bz w0) w [vl (tSlice t_fold_Field) x12 (.slice a13 x12.length c14)] [blk g8 65 [bstr x11, .slice a13 x12.length c14]] → esref32_Find.j1 x5 x11 x12 = some r → K9 ρ w := by
    intro x11 x12 a13 c14 ρ w h10_1 h10_4 hs hf
    refine hK9 _ _ ?_
    unfold esref32_Find.j1 at hf
    refine W.seqK fun K16 hK16 => ?_
    refine W.region ?_
    refine WL.move (v := bstr x5) h10_1 ?_
    refine WL.build (vs := [(0, bstr x5)]) (cs := [bstr x5, .slice none 0 0]) ⟨⟨rfl, rfl⟩, trivial⟩ (bld PL65 rfl) ?_
    refine WL.storeAll (vs := [bstr x5, .slice none 0 0]) hs 0 rfl TI65 h10_4 rfl rfl rfl (ones_of rfl) rfl (fun w hs => ?_)
    refine WL.nil ?_
    refine hK16 _ _ ?_
    refine W.ret ?_
    have hr := Option.some.inj hf; subst hr
    have hs := hs.add (it := vl t_fold_Object (⟨x5, []⟩ : fold_Object) (.agg [bstr x5, .slice none 0 0].toArray)) fun ok hA => V_agg (show t_fold_Object.R ok _ _ _ from ⟨[bstr x5], [.slice none 0 0], rfl, rfl, R_nil⟩) rfl
    exact ⟨_, resOk_one rfl (res_all hs 0 rfl TI65 h10_4 rfl), [bstr x5, .slice none 0 0], rfl, (hs.mask []).pick [0]⟩
  refine W.seqK fun K17 hK17 => ?_
  refine W.region ?_
  refine WL.assign (v := .int .i64 0) rfl ?_
  refine WL.nil ?_
  refine hK17 _ _ ?_
  refine W.block ?_
  obtain ⟨bs24, hbs24, hfs24⟩ := bindE hf
  have hs := hs.add (it := vl (tSlice t_fold_Field) [] (.slice none 0 0)) fun ok hA => V_nil
  refine W.loop hbs24 (fun s ρ w => match s with | (x19, x20, x21) => ∃ (a22 : Option Addr), ∃ (c23 : Nat), ρ 1 = bstr x5 ∧ ρ 2 = .pointer (some ⟨g7, 0, none⟩) ∧ ρ 4 = .pointer (some ⟨g8, 0, none⟩) ∧ ρ 5 = .int .i64 x19 ∧ St ok (bz w0) w [vl (tSlice t_fold_Field) x21 (.slice a22 x21.length c23), vl t_fold_Store x1 (.agg cs3.toArray)] [blk g8 65 [bstr x20, .slice a22 x21.length c23], blk g7 50 cs3]) ⟨none, 0, rfl, rfl, rfl, rfl, (hs.mask [true, true]).pick [0, 1]⟩ ?_
  intro s ρ w os24 hI hf hbbs24
  obtain ⟨x19, x20, x21⟩ := s
  obtain ⟨a22, c23, h18_1, h18_2, h18_4, h18_5, hs⟩ := hI
  unfold esref32_Find.l1 at hf
  refine W.seqK fun K25 hK25 => ?_
  refine W.seqK fun K26 hK26 => ?_
  refine W.region ?_
  refine WL.move (v := .int .i64 x19) h18_5 ?_
  refine WL.fieldAddr (m := 0) h18_2 FA50_0 rfl ?_
  refine WL.loadF (z := x1.Objects) F_fold_Store_Objects hs 1 rfl 1 rfl rfl TI48 (.inr rfl) rfl rfl (fun v27 hs => ?_)
  obtain ⟨a28, c29, rfl⟩ := hs.slice 0 rfl
  refine WL.len (v := .slice a28 (x1.Objects).length c29) rfl (len_slice UN48) ?_
  refine WL.bin (v := .bool (decide (x19 < ((x1.Objects).length : Int)))) rfl rfl (ib_lss _ _ _) ?_
  refine WL.nil ?_
  refine hK26 _ _ ?_
  rcases iteE hf with ⟨hc30, hf⟩ | ⟨hc30, hf⟩
  {
  refine W.cond_true (bool_tr rfl hc30) ?_
  refine W.skip ?_
  refine hK25 _ _ ?_
  refine W.seqK fun K31 hK31 => ?_
  refine W.block ?_
  refine W.seqK fun K32 hK32 => ?_
  refine W.region ?_
  refine WL.fieldAddr (m := 0) h18_2 FA50_0 rfl ?_
  refine WL.loadF (z := x1.Objects) F_fold_Store_Objects hs 1 rfl 2 rfl rfl TI48 (.inr rfl) rfl rfl (fun v33 hs => ?_)
  obtain ⟨a34, c35, rfl⟩ := hs.slice 0 rfl
  refine WL.move (v := .int .i64 x19) h18_5 ?_
  obtain ⟨x36, hxx36, hf⟩ := bindE hf
  refine WL.indexAddr hs 0 rfl UN48 TI65 rfl rfl hxx36 (fun ad37 hs => ?_)
  refine WL.fieldAddrP (z := x36.Name) F_fold_Object_Name hs 0 rfl rfl FA65_0 rfl (fun ad38 hs => ?_)
  refine WL.loadP hs 0 rfl TI9 (.inr rfl) rfl (fun v39 hs => ?_)
  obtain rfl := hs.str 0 rfl
  refine WL.move (v := bstr x5) h18_1 ?_
  refine WL.binS (v := .bool (x36.Name == x5)) rfl rfl (sb_eql _ _) ?_
  refine WL.nil ?_
  refine hK32 _ _ ?_
  rcases iteE hf with ⟨hc40, hf⟩ | ⟨hc40, hf⟩
  {
  refine W.cond_true (bool_tr rfl hc40) ?_
  refine W.seqK fun K41 hK41 => ?_
  refine W.region ?_
  refine WL.fieldAddr (m := 0) h18_2 FA50_0 rfl ?_
  refine WL.loadF (z := x1.Objects) F_fold_Store_Objects hs 1 rfl 6 rfl rfl TI48 (.inr rfl) rfl rfl (fun v42 hs => ?_)
  obtain ⟨a43, c44, rfl⟩ := hs.slice 0 rfl
  refine WL.move (v := .int .i64 x19) h18_5 ?_
  obtain ⟨x45, hxx45, hf⟩ := bindE hf
  refine WL.indexAddr hs 0 rfl UN48 TI65 rfl rfl hxx45 (fun ad46 hs => ?_)
  refine WL.loadP hs 0 rfl TI65 (.inl rfl) rfl (fun v47 hs => ?_)
  obtain ⟨cs48, hl49, rfl⟩ := hs.aggv (n := 2) 0 rfl rfl rfl
  refine WL.storeAll (vs := cs48) hs 0 rfl TI65 h18_4 rfl rfl hl49 (hs.ones 0 rfl rfl) rfl (fun w hs => ?_)
  refine WL.nil ?_
  refine hK41 _ _ ?_
  refine W.ret ?_
  have hr := Option.some.inj hf; subst hr
  have hr := hbbs24 _ rfl; subst hr
  have hf := hfs24
  have hr := Option.some.inj hf; subst hr
  exact ⟨_, resOk_one rfl (res_all hs 0 rfl TI65 h18_4 hl49), cs48, rfl, (hs.mask []).pick [0]⟩ }
  {
  refine W.cond_false (bool_tr rfl hc40) ?_
  refine W.skip ?_
  refine hK31 _ _ ?_
  refine W.region ?_
  refine WL.move (v := .int .i64 x19) h18_5 ?_
  obtain ⟨x50, ex50, hf⟩ := letE hf
  refine WL.bin (v := .int .i64 x50) rfl rfl (ib_as ex50 (ib_add _ _ _)) ?_
  refine WL.assign (v := .int .i64 x50) rfl ?_
  refine WL.nil ?_
  exact ⟨_, (Option.some.inj hf).symm, a22, c23, h18_1, h18_2, h18_4, rfl, (hs.mask [true, true]).pick [5, 6]⟩ } }
  {
  refine W.cond_false (bool_tr rfl hc30) ?_
  refine W.exit ?_
  have hr := Option.some.inj hf; subst hr
  have hr := hbbs24 _ rfl; subst hr
  have hf := hfs24
  exact Jk15 x20 x21 a22 c23 _ _ h18_1 h18_4 ((hs.mask [true]).pick [1]) hf }
theorem esref32_FieldOf.calls {ok : Nat → Prop} {w0 : World} {x1 : fold_Object} {x5 : List UInt8} {v2 : Value} {r : fold_Field} (hf : esref32_FieldOf x1 x5 = some r) (i0 : (vl t_fold_Object x1 v2).holds ok w0) :
    Calls Try.prog 32 #[v2, bstr x5] w0 fun e w' => ∃ v, e = .returned v ∧ ∃ y : List Value, v = .agg y.toArray ∧ St ok (bz w0) w' [vl t_fold_Field r (.agg y.toArray)] [] := by
  unfold esref32_FieldOf at hf
  refine calls_of_W (fn := Try.f32) (N := 28) Try.func32 rfl Try.ntmps32 rfl ?_
  have hs : St ok (bz w0) w0 [vl t_fold_Object x1 v2] [] := St.init (All.cons i0 All.nil)
  clear i0
  obtain ⟨cs3, hl4, rfl⟩ := hs.aggv (n := 2) 0 rfl rfl rfl
  refine W.seqK fun K6 hK6 => ?_
  refine W.region ?_
  refine WL.box (vs := cs3) hs rfl rfl (fun g7 w hs => ?_)
  refine WL.alloc hs ZV61 (fun g8 w hs => ?_)
  refine WL.nil ?_
  refine hK6 _ _ ?_
  refine W.seqK fun K9 hK9 => ?_
  have Jk14 : ∀ (x11 : fold_Field) (cs12 : List Value) (ρ : Env) (w : World), cs12.length = 12 → ρ 1 = bstr x5 → ρ 4 = .pointer (some ⟨g8, 0, none⟩) → St ok (bz w0) w [vl t_fold_Field x11 (.agg cs12.toArray)] [blk g8 61 cs12] → esref32_FieldOf.j1 x5 x11 = some r → K9 ρ w := by
    intro x11 cs12 ρ w hl13 h10_1 h10_4 hs hf
    refine hK9 _ _ ?_
    unfold esref32_FieldOf.j1 at hf
    refine W.seqK fun K15 hK15 => ?_
    refine W.region ?_
    refine WL.move (v := bstr x5) h10_1 ?_
    refine WL.build (vs := [(0, bstr x5)]) (cs := [bstr x5, .bool false, .int .i64 0, .int .i64 0, .int .i64 0, .int .i64 0, bstr [], .bool false, .int .i64 0, .int .i64 0, .slice none 0 0, .bool false]) ⟨⟨rfl, rfl⟩, trivial⟩ (bld PL61 rfl) ?_
    refine WL.storeAll (vs := [bstr x5, .bool false, .int .i64 0, .int .i64 0, .int .i64 0, .int .i64 0, bstr [], .bool false, .int .i64 0, .int .i64 0, .slice none 0 0, .bool false]) hs 0 rfl TI61 h10_4 rfl rfl rfl (ones_of rfl) hl13 (fun w hs => ?_)
    refine WL.nil ?_
    refine hK15 _ _ ?_
    refine W.ret ?_
    have hr := Option.some.inj hf; subst hr
    have hs := hs.add (it := vl t_fold_Field (⟨x5, (⟨false, 0, 0, 0, 0, []⟩ : fold_Register), false, 0, 0, [], false⟩ : fold_Field) (.agg ([bstr x5, .bool false, .int .i64 0, .int .i64 0, .int .i64 0, .int .i64 0, bstr [], .bool false, .int .i64 0, .int .i64 0, .slice none 0 0, .bool false]).toArray)) fun ok hA => V_agg (show t_fold_Field.R ok _ _ _ from ⟨[bstr x5], ([.bool false, .int .i64 0, .int .i64 0, .int .i64 0, .int .i64 0, bstr [], .bool false, .int .i64 0, .int .i64 0, .slice none 0 0, .bool false]), rfl, rfl, ⟨([.bool false, .int .i64 0, .int .i64 0, .int .i64 0, .int .i64 0, bstr []]), [.bool false, .int .i64 0, .int .i64 0, .slice none 0 0, .bool false], rfl, ⟨[.bool false], ([.int .i64 0, .int .i64 0, .int .i64 0, .int .i64 0, bstr []]), rfl, rfl, ⟨[.int .i64 0], ([.int .i64 0, .int .i64 0, .int .i64 0, bstr []]), rfl, rfl, ⟨[.int .i64 0], ([.int .i64 0, .int .i64 0, bstr []]), rfl, rfl, ⟨[.int .i64 0], ([.int .i64 0, bstr []]), rfl, rfl, ⟨[.int .i64 0], ([bstr []]), rfl, rfl, rfl⟩⟩⟩⟩⟩, ⟨[.bool false], [.int .i64 0, .int .i64 0, .slice none 0 0, .bool false], rfl, rfl, ⟨[.int .i64 0], [.int .i64 0, .slice none 0 0, .bool false], rfl, rfl, ⟨[.int .i64 0], [.slice none 0 0, .bool false], rfl, rfl, ⟨[.slice none 0 0], [.bool false], rfl, R_nil, rfl⟩⟩⟩⟩⟩⟩) rfl
    exact ⟨_, resOk_one rfl (res_all hs 0 rfl TI61 h10_4 rfl), [bstr x5, .bool false, .int .i64 0, .int .i64 0, .int .i64 0, .int .i64 0, bstr [], .bool false, .int .i64 0, .int .i64 0, .slice none 0 0, .bool false], rfl, (hs.mask []).pick [0]⟩
  refine W.seqK fun K16 hK16 => ?_
  refine W.region ?_
  refine WL.assign (v := .int .i64 0) rfl ?_
  refine WL.nil ?_
  refine hK16 _ _ ?_
  refine W.block ?_
  obtain ⟨bs22, hbs22, hfs22⟩ := bindE hf
  have hs := hs.add (it := vl t_fold_Field (⟨[], (⟨false, 0, 0, 0, 0, []⟩ : fold_Register), false, 0, 0, [], false⟩ : fold_Field) (.agg ([bstr [], .bool false, .int .i64 0, .int .i64 0, .int .i64 0, .int .i64 0, bstr [], .bool false, .int .i64 0, .int .i64 0, .slice none 0 0, .bool false]).toArray)) fun ok hA => V_agg (show t_fold_Field.R ok _ _ _ from ⟨([bstr []]), ([.bool false, .int .i64 0, .int .i64 0, .int .i64 0, .int .i64 0, bstr [], .bool false, .int .i64 0, .int .i64 0, .slice none 0 0, .bool false]), rfl, rfl, ⟨([.bool false, .int .i64 0, .int .i64 0, .int .i64 0, .int .i64 0, bstr []]), [.bool false, .int .i64 0, .int .i64 0, .slice none 0 0, .bool false], rfl, ⟨[.bool false], ([.int .i64 0, .int .i64 0, .int .i64 0, .int .i64 0, bstr []]), rfl, rfl, ⟨[.int .i64 0], ([.int .i64 0, .int .i64 0, .int .i64 0, bstr []]), rfl, rfl, ⟨[.int .i64 0], ([.int .i64 0, .int .i64 0, bstr []]), rfl, rfl, ⟨[.int .i64 0], ([.int .i64 0, bstr []]), rfl, rfl, ⟨[.int .i64 0], ([bstr []]), rfl, rfl, rfl⟩⟩⟩⟩⟩, ⟨[.bool false], [.int .i64 0, .int .i64 0, .slice none 0 0, .bool false], rfl, rfl, ⟨[.int .i64 0], [.int .i64 0, .slice none 0 0, .bool false], rfl, rfl, ⟨[.int .i64 0], [.slice none 0 0, .bool false], rfl, rfl, ⟨[.slice none 0 0], [.bool false], rfl, R_nil, rfl⟩⟩⟩⟩⟩⟩) rfl
  have hs := hs.add (it := vl t_fold_Field (⟨[], (⟨false, 0, 0, 0, 0, []⟩ : fold_Register), false, 0, 0, [], false⟩ : fold_Field) (.agg ([bstr [], .bool false, .int .i64 0, .int .i64 0, .int .i64 0, .int .i64 0, bstr [], .bool false, .int .i64 0, .int .i64 0, .slice none 0 0, .bool false]).toArray)) fun ok hA => V_agg (show t_fold_Field.R ok _ _ _ from ⟨([bstr []]), ([.bool false, .int .i64 0, .int .i64 0, .int .i64 0, .int .i64 0, bstr [], .bool false, .int .i64 0, .int .i64 0, .slice none 0 0, .bool false]), rfl, rfl, ⟨([.bool false, .int .i64 0, .int .i64 0, .int .i64 0, .int .i64 0, bstr []]), [.bool false, .int .i64 0, .int .i64 0, .slice none 0 0, .bool false], rfl, ⟨[.bool false], ([.int .i64 0, .int .i64 0, .int .i64 0, .int .i64 0, bstr []]), rfl, rfl, ⟨[.int .i64 0], ([.int .i64 0, .int .i64 0, .int .i64 0, bstr []]), rfl, rfl, ⟨[.int .i64 0], ([.int .i64 0, .int .i64 0, bstr []]), rfl, rfl, ⟨[.int .i64 0], ([.int .i64 0, bstr []]), rfl, rfl, ⟨[.int .i64 0], ([bstr []]), rfl, rfl, rfl⟩⟩⟩⟩⟩, ⟨[.bool false], [.int .i64 0, .int .i64 0, .slice none 0 0, .bool false], rfl, rfl, ⟨[.int .i64 0], [.int .i64 0, .slice none 0 0, .bool false], rfl, rfl, ⟨[.int .i64 0], [.slice none 0 0, .bool false], rfl, rfl, ⟨[.slice none 0 0], [.bool false], rfl, R_nil, rfl⟩⟩⟩⟩⟩⟩) rfl
  refine W.loop hbs22 (fun s ρ w => match s with | (x18, x19) => ∃ (cs20 : List Value), cs20.length = 12 ∧ ρ 1 = bstr x5 ∧ ρ 2 = .pointer (some ⟨g7, 0, none⟩) ∧ ρ 4 = .pointer (some ⟨g8, 0, none⟩) ∧ ρ 5 = .int .i64 x18 ∧ St ok (bz w0) w [vl t_fold_Field x19 (.agg cs20.toArray), vl t_fold_Object x1 (.agg cs3.toArray)] [blk g8 61 cs20, blk g7 65 cs3]) ⟨[bstr [], .bool false, .int .i64 0, .int .i64 0, .int .i64 0, .int .i64 0, bstr [], .bool false, .int .i64 0, .int .i64 0, .slice none 0 0, .bool false], rfl, rfl, rfl, rfl, rfl, (hs.mask [true, true]).pick [0, 2]⟩ ?_
  intro s ρ w os22 hI hf hbbs22
  obtain ⟨x18, x19⟩ := s
  obtain ⟨cs20, hl21, h17_1, h17_2, h17_4, h17_5, hs⟩ := hI
  unfold esref32_FieldOf.l1 at hf
  refine W.seqK fun K23 hK23 => ?_
  refine W.seqK fun K24 hK24 => ?_
  refine W.region ?_
  refine WL.move (v := .int .i64 x18) h17_5 ?_
  refine WL.fieldAddr (m := 1) h17_2 FA65_1 rfl ?_
  refine WL.loadF (z := x1.Fields) F_fold_Object_Fields hs 1 rfl 1 rfl rfl TI63 (.inr rfl) rfl rfl (fun v25 hs => ?_)
  obtain ⟨a26, c27, rfl⟩ := hs.slice 0 rfl
  refine WL.len (v := .slice a26 (x1.Fields).length c27) rfl (len_slice UN63) ?_
  refine WL.bin (v := .bool (decide (x18 < ((x1.Fields).length : Int)))) rfl rfl (ib_lss _ _ _) ?_
  refine WL.nil ?_
  refine hK24 _ _ ?_
  rcases iteE hf with ⟨hc28, hf⟩ | ⟨hc28, hf⟩
  {
  refine W.cond_true (bool_tr rfl hc28) ?_
  refine W.skip ?_
  refine hK23 _ _ ?_
  refine W.seqK fun K29 hK29 => ?_
  refine W.block ?_
  refine W.seqK fun K30 hK30 => ?_
  refine W.region ?_
  refine WL.fieldAddr (m := 1) h17_2 FA65_1 rfl ?_
  refine WL.loadF (z := x1.Fields) F_fold_Object_Fields hs 1 rfl 2 rfl rfl TI63 (.inr rfl) rfl rfl (fun v31 hs => ?_)
  obtain ⟨a32, c33, rfl⟩ := hs.slice 0 rfl
  refine WL.move (v := .int .i64 x18) h17_5 ?_
  obtain ⟨x34, hxx34, hf⟩ := bindE hf
  refine WL.indexAddr hs 0 rfl UN63 TI61 rfl rfl hxx34 (fun ad35 hs => ?_)
  refine WL.fieldAddrP (z := x34.Name) F_fold_Field_Name hs 0 rfl rfl FA61_0 rfl (fun ad36 hs => ?_)
  refine WL.loadP hs 0 rfl TI9 (.inr rfl) rfl (fun v37 hs => ?_)
  obtain rfl := hs.str 0 rfl
  refine WL.move (v := bstr x5) h17_1 ?_
  refine WL.binS (v := .bool (x34.Name == x5)) rfl rfl (sb_eql _ _) ?_
  refine WL.nil ?_
  refine hK30 _ _ ?_
  rcases iteE hf with ⟨hc38, hf⟩ | ⟨hc38, hf⟩
  {
  refine W.cond_true (bool_tr rfl hc38) ?_
  refine W.seqK fun K39 hK39 => ?_
  refine W.region ?_
  refine WL.fieldAddr (m := 1) h17_2 FA65_1 rfl ?_
  refine WL.loadF (z := x1.Fields) F_fold_Object_Fields hs 1 rfl 6 rfl rfl TI63 (.inr rfl) rfl rfl (fun v40 hs => ?_)
  obtain ⟨a41, c42, rfl⟩ := hs.slice 0 rfl
  refine WL.move (v := .int .i64 x18) h17_5 ?_
  obtain ⟨x43, hxx43, hf⟩ := bindE hf
  refine WL.indexAddr hs 0 rfl UN63 TI61 rfl rfl hxx43 (fun ad44 hs => ?_)
  refine WL.loadP hs 0 rfl TI61 (.inl rfl) rfl (fun v45 hs => ?_)
  obtain ⟨cs46, hl47, rfl⟩ := hs.aggv (n := 12) 0 rfl rfl rfl
  refine WL.storeAll (vs := cs46) hs 0 rfl TI61 h17_4 rfl rfl hl47 (hs.ones 0 rfl rfl) hl21 (fun w hs => ?_)
  refine WL.nil ?_
  refine hK39 _ _ ?_
  refine W.ret ?_
  have hr := Option.some.inj hf; subst hr
  have hr := hbbs22 _ rfl; subst hr
  have hf := hfs22
  have hr := Option.some.inj hf; subst hr
  exact ⟨_, resOk_one rfl (res_all hs 0 rfl TI61 h17_4 hl47), cs46, rfl, (hs.mask []).pick [0]⟩ }
  {
  refine W.cond_false (bool_tr rfl hc38) ?_
  refine W.skip ?_
  refine hK29 _ _ ?_
  refine W.region ?_
  refine WL.move (v := .int .i64 x18) h17_5 ?_
  obtain ⟨x48, ex48, hf⟩ := letE hf
  refine WL.bin (v := .int .i64 x48) rfl rfl (ib_as ex48 (ib_add _ _ _)) ?_
  refine WL.assign (v := .int .i64 x48) rfl ?_
  refine WL.nil ?_
  exact ⟨_, (Option.some.inj hf).symm, cs20, hl21, h17_1, h17_2, h17_4, rfl, (hs.mask [true, true]).pick [5, 6]⟩ } }
  {
  refine W.cond_false (bool_tr rfl hc28) ?_
  refine W.exit ?_
  have hr := Option.some.inj hf; subst hr
  have hr := hbbs22 _ rfl; subst hr
  have hf := hfs22
  exact Jk14 x19 cs20 _ _ hl21 h17_1 h17_4 ((hs.mask [true]).pick [1]) hf }

theorem eslaw38_HistoryVisible.calls {ok : Nat → Prop} {w0 : World} {x1 : List Int} {x4 : List Int} {x7 : Int} {a2 : Option Addr} {c3 : Nat} {a5 : Option Addr} {c6 : Nat} {r : Bool} (hf : eslaw38_HistoryVisible x1 x4 x7 = some r) (i0 : (vl (tSlice (tInt .i64)) x1 (.slice a2 x1.length c3)).holds ok w0) (i1 : (vl (tSlice (tInt .i64)) x4 (.slice a5 x4.length c6)).holds ok w0) :
    Calls Try.prog 9 #[.slice a2 x1.length c3, .slice a5 x4.length c6, .int .i64 x7] w0 fun e w' => ∃ v, e = .returned v ∧ ∃ y : Unit, v = .bool r ∧ St ok (bz w0) w' [] [] := by
  unfold eslaw38_HistoryVisible at hf
  refine calls_of_W (fn := Try.f9) (N := 95) Try.func9 rfl Try.ntmps9 rfl ?_
  have hs : St ok (bz w0) w0 [vl (tSlice (tInt .i64)) x1 (.slice a2 x1.length c3), vl (tSlice (tInt .i64)) x4 (.slice a5 x4.length c6)] [] := St.init (All.cons i0 (All.cons i1 All.nil))
  clear i0 i1
  refine W.seqK fun K8 hK8 => ?_
  refine W.region ?_
  refine WL.assign (v := .bool false) rfl ?_
  refine WL.nil ?_
  refine hK8 _ _ ?_
  refine W.seqK fun K9 hK9 => ?_
  refine W.region ?_
  refine WL.move (v := .slice a2 x1.length c3) rfl ?_
  obtain ⟨x10, hxx10, hf⟩ := bindE hf
  refine WL.call (vs := [.slice a2 x1.length c3]) hs FN28 ⟨rfl, trivial⟩ (fun ok hA => eslaw00_Updates.calls (x1 := x1) hxx10 (hA.get 0 rfl)) ?_
  rintro ⟨a11, n12, c13⟩ w hs
  obtain rfl := hs.ownLen 0 rfl
  have hs := hs.freezeOwn 0 rfl
  obtain ⟨x14, hxx14, hf⟩ := bindE hf
  refine WL.call (vs := [.slice a11 x10.length c13]) hs FN27 ⟨rfl, trivial⟩ (fun ok hA => fold_Fold.calls (x1 := x10) hxx14 (hA.get 0 rfl)) ?_
  rintro cs15 w hs
  have hl16 := hs.agglen (n := 1) 0 rfl rfl rfl
  refine WL.move (v := .slice a5 x4.length c6) rfl ?_
  obtain ⟨x17, hxx17, hf⟩ := bindE hf
  refine WL.call (vs := [.slice a5 x4.length c6]) hs FN28 ⟨rfl, trivial⟩ (fun ok hA => eslaw00_Updates.calls (x1 := x4) hxx17 (hA.get 3 rfl)) ?_
  rintro ⟨a18, n19, c20⟩ w hs
  refine WL.move (v := .int .i64 x7) rfl ?_
  obtain rfl := hs.ownLen 0 rfl
  have hs := hs.freezeOwn 0 rfl
  obtain ⟨x21, hxx21, hf⟩ := bindE hf
  refine WL.call (vs := [.slice a18 x17.length c20, .int .i64 x7]) hs FN29 ⟨rfl, ⟨rfl, trivial⟩⟩ (fun ok hA => eslaw00_Some.calls (x1 := x17) (x4 := x7) hxx21 (hA.get 0 rfl)) ?_
  rintro ⟨a22, n23, c24⟩ w hs
  obtain rfl := hs.ownLen 0 rfl
  have hs := hs.freezeOwn 0 rfl
  obtain ⟨x25, hxx25, hf⟩ := bindE hf
  refine WL.call (vs := [.slice a22 x21.length c24]) hs FN27 ⟨rfl, trivial⟩ (fun ok hA => fold_Fold.calls (x1 := x21) hxx25 (hA.get 0 rfl)) ?_
  rintro cs26 w hs
  have hl27 := hs.agglen (n := 1) 0 rfl rfl rfl
  refine WL.alloc hs ZV50 (fun g28 w hs => ?_)
  refine WL.alloc hs ZV50 (fun g29 w hs => ?_)
  refine WL.storeAll (vs := cs15) hs 1 rfl TI50 rfl rfl rfl hl16 (hs.ones 3 rfl rfl) rfl (fun w hs => ?_)
  refine WL.storeAll (vs := cs26) hs 0 rfl TI50 rfl rfl rfl hl27 (hs.ones 0 rfl rfl) rfl (fun w hs => ?_)
  refine WL.nil ?_
  refine hK9 _ _ ?_
  refine W.seqK fun K30 hK30 => ?_
  obtain ⟨x31, hxx31, hf⟩ := bindE hf
  obtain ⟨x35, hxx35, hf⟩ := bindE hf
  refine W.any (by kernel_rfl) 4 2 [true, true, true, true, false, false] rfl rfl (poAt [pv (.agg cs15.toArray), pq (fun y : (Option Addr × Nat × Nat) => .slice y.1 y.2.1 y.2.2) (fun v => []) (fun v => [own t_history_Value 68 v x31]), pv (.agg cs26.toArray), pq (fun y : (Option Addr × Nat × Nat) => .slice y.1 y.2.1 y.2.2) (fun v => []) (fun v => [own t_history_Value 68 v x35])]) (Λ := [blk g29 50 cs26, blk g28 50 cs15]) hs (by kernel_rfl) (by kernel_rfl) (by kernel_rfl) ⟨⟨⟨⟨trivial, ?_⟩, ?_⟩, ?_⟩, ?_⟩ ?_
  {
  intro ρ w Γx Λx hs hu hp
  refine WL.loadAll hs (Λx.length + 1) (getApp rfl) TI50 (hu 7 rfl) hl16 ?_
  exact WL.nil ⟨rfl, _, rfl, rfl, hs.cutG 0 0⟩ }
  {
  intro ρ w Γx Λx hs hu hp
  have e39 : ρ 21 = .agg cs15.toArray := (hp 0 rfl).1
  refine WL.call (vs := [.agg cs15.toArray]) hs FN30 ⟨e39, trivial⟩ (fun ok hA => history_Visible.calls (x1 := x14) hxx31 (hA.get (Γx.length + 3) (getApp rfl))) ?_
  rintro ⟨a32, n33, c34⟩ w hs
  exact WL.nil ⟨rfl, _, rfl, ⟨(a32, n33, c34), rfl⟩, hs.cutG 0 0⟩ }
  {
  intro ρ w Γx Λx hs hu hp
  refine WL.loadAll hs (Λx.length + 0) (getApp rfl) TI50 (hu 8 rfl) hl27 ?_
  exact WL.nil ⟨rfl, _, rfl, rfl, hs.cutG 0 0⟩ }
  {
  intro ρ w Γx Λx hs hu hp
  have e40 : ρ 23 = .agg cs26.toArray := (hp 2 rfl).1
  refine WL.call (vs := [.agg cs26.toArray]) hs FN30 ⟨e40, trivial⟩ (fun ok hA => history_Visible.calls (x1 := x25) hxx35 (hA.get (Γx.length + 0) (getApp rfl))) ?_
  rintro ⟨a36, n37, c38⟩ w hs
  exact WL.nil ⟨rfl, _, rfl, ⟨(a36, n37, c38), rfl⟩, hs.cutG 0 0⟩ }
  {
  intro ρ w hs hu41 hp
  obtain ⟨⟨⟨⟨_, hp0_⟩, hp1_⟩, hp2_⟩, hp3_⟩ := hp
  have hs : St ok (bz w0) w [vl t_fold_Store x25 (.agg cs26.toArray), vl (tSlice t_api_Update) x21 (.slice a22 x21.length c24), vl (tSlice t_api_Update) x17 (.slice a18 x17.length c20), vl t_fold_Store x14 (.agg cs15.toArray), vl (tSlice t_api_Update) x10 (.slice a11 x10.length c13), vl (tSlice (tInt .i64)) x1 (.slice a2 x1.length c3), vl (tSlice (tInt .i64)) x4 (.slice a5 x4.length c6)] [own t_history_Value 68 ((ρ 24)) x35, own t_history_Value 68 ((ρ 22)) x31, blk g29 50 cs26, blk g28 50 cs15] := hs
  obtain ⟨⟨a42, n44, c43⟩, e45⟩ := hp3_
  have e45 : ρ 24 = .slice a42 n44 c43 := e45
  try rw [e45] at hs
  have e46 : ρ 23 = .agg cs26.toArray := hp2_
  obtain ⟨⟨a47, n49, c48⟩, e50⟩ := hp1_
  have e50 : ρ 22 = .slice a47 n49 c48 := e50
  try rw [e50] at hs
  have e51 : ρ 21 = .agg cs15.toArray := hp0_
  refine WA.step [4] (by kernel_rfl) (by simp) ⟨?_, trivial⟩
  refine WL.assign (v := .slice a47 n49 c48) e50 ?_
  refine WL.nil ⟨rfl, _, rfl, ?_⟩
  refine WA.step [5] (by kernel_rfl) (by simp) ⟨?_, trivial⟩
  refine WL.assign (v := .slice a42 n44 c43) e45 ?_
  refine WL.nil ⟨rfl, _, rfl, ?_⟩
  refine WA.done (by kernel_rfl) ?_
  refine hK30 _ _ ?_
  refine W.seqK fun K52 hK52 => ?_
  refine W.seqK fun K53 hK53 => ?_
  have Jk56 : ∀ (x55 : Bool) (ρ : Env) (w : World), ρ 7 = .pointer (some ⟨g28, 0, none⟩) → ρ 9 = .slice a47 n49 c48 → ρ 44 = .bool x55 → St ok (bz w0) w [vl t_fold_Store x14 (.agg cs15.toArray)] [own t_history_Value 68 (.slice a47 n49 c48) x31, blk g28 50 cs15] → eslaw38_HistoryVisible.j3 x14 x31 x55 = some r → K53 ρ w := by
    intro x55 ρ w h54_7 h54_9 h54_44 hs hf
    refine hK53 _ _ ?_
    unfold eslaw38_HistoryVisible.j3 at hf
    rcases iteE hf with ⟨hc57, hf⟩ | ⟨hc57, hf⟩
    {
    refine W.cond_true (bool_tr h54_44 hc57) ?_
    refine W.seqK fun K58 hK58 => ?_
    refine W.region ?_
    refine WL.assign (v := .bool false) rfl ?_
    refine WL.nil ?_
    refine hK58 _ _ ?_
    refine W.ret ?_
    have hr := Option.some.inj hf; subst hr
    exact ⟨_, resOk_one rfl rfl, (), rfl, (hs.mask []).pick []⟩ }
    {
    refine W.cond_false (bool_tr h54_44 hc57) ?_
    refine W.skip ?_
    refine hK52 _ _ ?_
    refine W.seqK fun K59 hK59 => ?_
    have Jk61 : ∀  (ρ : Env) (w : World), St ok (bz w0) w [] [] → eslaw38_HistoryVisible.j1 = some r → K59 ρ w := by
      intro  ρ w  hs hf
      refine hK59 _ _ ?_
      unfold eslaw38_HistoryVisible.j1 at hf
      refine W.seqK fun K62 hK62 => ?_
      refine W.region ?_
      obtain ⟨x63, hxx63, hf⟩ := bindE hf
      refine WL.call (vs := []) hs FN10 trivial (fun ok hA => eslaw38_awake.calls hxx63) ?_
      rintro _ w hs
      refine WL.assign (v := .bool x63) rfl ?_
      refine WL.nil ?_
      refine hK62 _ _ ?_
      refine W.ret ?_
      have hr := Option.some.inj hf; subst hr
      exact ⟨_, resOk_one rfl rfl, (), rfl, (hs.mask []).pick []⟩
    refine W.seqK fun K64 hK64 => ?_
    refine W.region ?_
    refine WL.assign (v := .int .i64 0) rfl ?_
    refine WL.nil ?_
    refine hK64 _ _ ?_
    refine W.block ?_
    obtain ⟨bs67, hbs67, hfs67⟩ := bindE hf
    refine W.loop hbs67 (fun s ρ w => match s with | x66 => ρ 7 = .pointer (some ⟨g28, 0, none⟩) ∧ ρ 9 = .slice a47 n49 c48 ∧ ρ 11 = .int .i64 x66 ∧ St ok (bz w0) w [vl t_fold_Store x14 (.agg cs15.toArray)] [own t_history_Value 68 (.slice a47 n49 c48) x31, blk g28 50 cs15]) ⟨h54_7, h54_9, rfl, (hs.mask [true, true]).pick [0]⟩ ?_
    intro x66 ρ w os67 hI hf hbbs67
    obtain ⟨h65_7, h65_9, h65_11, hs⟩ := hI
    unfold eslaw38_HistoryVisible.l1 at hf
    refine W.seqK fun K68 hK68 => ?_
    refine W.seqK fun K69 hK69 => ?_
    refine W.region ?_
    refine WL.move (v := .int .i64 x66) h65_11 ?_
    refine WL.move (v := .slice a47 n49 c48) h65_9 ?_
    refine WL.len (v := .slice a47 n49 c48) rfl (len_own hs 0 rfl UN31) ?_
    refine WL.bin (v := .bool (decide (x66 < (x31.length : Int)))) rfl rfl (ib_lss _ _ _) ?_
    refine WL.nil ?_
    refine hK69 _ _ ?_
    rcases iteE hf with ⟨hc70, hf⟩ | ⟨hc70, hf⟩
    {
    refine W.cond_true (bool_tr rfl hc70) ?_
    refine W.skip ?_
    refine hK68 _ _ ?_
    refine W.seqK fun K71 hK71 => ?_
    refine W.block ?_
    refine W.seqK fun K72 hK72 => ?_
    obtain ⟨x73, hxx73, hf⟩ := bindE hf
    obtain ⟨x77, hxx77, hf⟩ := bindE hf
    obtain ⟨x80, hxx80, hf⟩ := bindE hf
    obtain ⟨x84, hxx84, hf⟩ := bindE hf
    refine W.any (by kernel_rfl) 14 1 [true, true, true, true, true, true, true, true, true, true, true, true, true, true, false] rfl rfl (poAt [pv (.agg cs15.toArray), pv (.slice a47 n49 c48), pv (.int .i64 x66), po (fun ad => Go.Proofs.YtbbeobiampbddaaL.OwnAt 10 (.slice a47 n49 c48) x66 ad), po (fun ad => OwnAtF 10 0 (.slice a47 n49 c48) x66 ad), pv (bstr x73.Object), pq (fun y : List Value => .agg y.toArray) (fun v => [vl t_fold_Object x77 v]) (fun v => []), pv (.slice a47 n49 c48), pv (.int .i64 x66), po (fun ad => Go.Proofs.YtbbeobiampbddaaL.OwnAt 10 (.slice a47 n49 c48) x66 ad), po (fun ad => OwnAtF 10 1 (.slice a47 n49 c48) x66 ad), pv (bstr x80.Field), pq (fun y : List Value => .agg y.toArray) (fun v => [vl t_fold_Field x84 v]) (fun v => []), pq (fun y : Nat => .pointer (some ⟨y, 0, none⟩)) (fun v => []) (fun v => [blk (gOf v) 61 ([bstr [], .bool false, .int .i64 0, .int .i64 0, .int .i64 0, .int .i64 0, bstr [], .bool false, .int .i64 0, .int .i64 0, .slice none 0 0, .bool false])])]) (Λ := [own t_history_Value 68 (.slice a47 n49 c48) x31, blk g28 50 cs15]) hs (by kernel_rfl) (by kernel_rfl) (by kernel_rfl) ⟨⟨⟨⟨⟨⟨⟨⟨⟨⟨⟨⟨⟨⟨trivial, ?_⟩, ?_⟩, ?_⟩, ?_⟩, ?_⟩, ?_⟩, ?_⟩, ?_⟩, ?_⟩, ?_⟩, ?_⟩, ?_⟩, ?_⟩, ?_⟩ ?_
    {
    intro ρ w Γx Λx hs hu hp
    refine WL.loadAll hs (Λx.length + 1) (getApp rfl) TI50 ((hu 7 rfl).trans h65_7) hl16 ?_
    exact WL.nil ⟨rfl, _, rfl, rfl, hs.cutG 0 0⟩ }
    {
    intro ρ w Γx Λx hs hu hp
    refine WL.move (v := .slice a47 n49 c48) ((hu 9 rfl).trans h65_9) ?_
    exact WL.nil ⟨rfl, _, rfl, rfl, hs.cutG 0 0⟩ }
    {
    intro ρ w Γx Λx hs hu hp
    refine WL.move (v := .int .i64 x66) ((hu 11 rfl).trans h65_11) ?_
    exact WL.nil ⟨rfl, _, rfl, rfl, hs.cutG 0 0⟩ }
    {
    intro ρ w Γx Λx hs hu hp
    have e88 : ρ 52 = .slice a47 n49 c48 := (hp 1 rfl).1
    have e89 : ρ 53 = .int .i64 x66 := (hp 2 rfl).1
    refine WL.indexAddrO hs (Λx.length + 0) (getApp rfl) UN31 TI68 e88 e89 hxx73 (fun ad74 hatad74 => ?_)
    exact WL.nil ⟨rfl, _, rfl, ⟨ad74, rfl, hatad74⟩, hs.cutG 0 0⟩ }
    {
    intro ρ w Γx Λx hs hu hp
    obtain ⟨ad91, e90, hatad91⟩ := (hp 3 rfl).1
    have e90 : ρ 54 = .pointer (some ad91) := e90
    refine WL.fieldAddrO (OwnAt.f hatad91) e90 FA68_0 rfl (fun ad75 hatad75 => ?_)
    exact WL.nil ⟨rfl, _, rfl, ⟨ad75, rfl, hatad75⟩, hs.cutG 0 0⟩ }
    {
    intro ρ w Γx Λx hs hu hp
    obtain ⟨ad93, e92, hatad93⟩ := (hp 4 rfl).1
    have e92 : ρ 55 = .pointer (some ad93) := e92
    refine WL.loadOF (z := x73.Object) F_history_Value_Object hs (Λx.length + 0) (getApp rfl) TI9 (.inr rfl) hatad93 hxx73 e92 rfl (fun v76 hs => ?_)
    obtain rfl := hs.str 0 rfl
    exact WL.nil ⟨rfl, _, rfl, rfl, hs.cutG 0 1⟩ }
    {
    intro ρ w Γx Λx hs hu hp
    have e94 : ρ 51 = .agg cs15.toArray := (hp 0 rfl).1
    have e95 : ρ 56 = bstr x73.Object := (hp 5 rfl).1
    refine WL.call (vs := [.agg cs15.toArray, bstr x73.Object]) hs FN33 ⟨e94, ⟨e95, trivial⟩⟩ (fun ok hA => esref32_Find.calls (x1 := x14) (x5 := x73.Object) hxx77 (hA.get (Γx.length + 0) (getApp rfl))) ?_
    rintro cs78 w hs
    have hl79 := hs.agglen (n := 2) 0 rfl rfl rfl
    have hs := hs.add (it := vl t_fold_Object x77 (.agg cs78.toArray)) fun ok hA => hA.get 0 rfl
    exact WL.nil ⟨rfl, _, rfl, ⟨cs78, rfl⟩, hs.cutG 1 1⟩ }
    {
    intro ρ w Γx Λx hs hu hp
    refine WL.move (v := .slice a47 n49 c48) ((hu 9 rfl).trans h65_9) ?_
    exact WL.nil ⟨rfl, _, rfl, rfl, hs.cutG 0 0⟩ }
    {
    intro ρ w Γx Λx hs hu hp
    refine WL.move (v := .int .i64 x66) ((hu 11 rfl).trans h65_11) ?_
    exact WL.nil ⟨rfl, _, rfl, rfl, hs.cutG 0 0⟩ }
    {
    intro ρ w Γx Λx hs hu hp
    have e96 : ρ 58 = .slice a47 n49 c48 := (hp 7 rfl).1
    have e97 : ρ 59 = .int .i64 x66 := (hp 8 rfl).1
    refine WL.indexAddrO hs (Λx.length + 0) (getApp rfl) UN31 TI68 e96 e97 hxx80 (fun ad81 hatad81 => ?_)
    exact WL.nil ⟨rfl, _, rfl, ⟨ad81, rfl, hatad81⟩, hs.cutG 0 0⟩ }
    {
    intro ρ w Γx Λx hs hu hp
    obtain ⟨ad99, e98, hatad99⟩ := (hp 9 rfl).1
    have e98 : ρ 60 = .pointer (some ad99) := e98
    refine WL.fieldAddrO (OwnAt.f hatad99) e98 FA68_1 rfl (fun ad82 hatad82 => ?_)
    exact WL.nil ⟨rfl, _, rfl, ⟨ad82, rfl, hatad82⟩, hs.cutG 0 0⟩ }
    {
    intro ρ w Γx Λx hs hu hp
    obtain ⟨ad101, e100, hatad101⟩ := (hp 10 rfl).1
    have e100 : ρ 61 = .pointer (some ad101) := e100
    refine WL.loadOF (z := x80.Field) F_history_Value_Field hs (Λx.length + 0) (getApp rfl) TI9 (.inr rfl) hatad101 hxx80 e100 rfl (fun v83 hs => ?_)
    obtain rfl := hs.str 0 rfl
    exact WL.nil ⟨rfl, _, rfl, rfl, hs.cutG 0 1⟩ }
    {
    intro ρ w Γx Λx hs hu hp
    obtain ⟨⟨cs102, e104r⟩, hm105⟩ := hp 6 rfl
    have e104 : ρ 57 = .agg cs102.toArray := e104r
    rw [e104r] at hm105
    have hs := hs.memo1 (it := vl t_fold_Object x77 (.agg cs102.toArray)) (List.mem_append.2 (.inl (hm105 _ (List.mem_of_getElem? (i := 0) rfl))))
    have hl103 := hs.agglen (n := 2) 0 rfl rfl rfl
    have e106 : ρ 62 = bstr x80.Field := (hp 11 rfl).1
    refine WL.call (vs := [.agg cs102.toArray, bstr x80.Field]) hs FN32 ⟨e104, ⟨e106, trivial⟩⟩ (fun ok hA => esref32_FieldOf.calls (x1 := x77) (x5 := x80.Field) hxx84 (hA.get 0 rfl)) ?_
    rintro cs85 w hs
    have hl86 := hs.agglen (n := 12) 0 rfl rfl rfl
    have hs := hs.add (it := vl t_fold_Field x84 (.agg cs85.toArray)) fun ok hA => hA.get 0 rfl
    exact WL.nil ⟨rfl, _, rfl, ⟨cs85, rfl⟩, hs.cutG 1 2⟩ }
    {
    intro ρ w Γx Λx hs hu hp
    refine WL.alloc hs ZV61 (fun g87 w hs => ?_)
    exact WL.nil ⟨rfl, _, rfl, ⟨g87, rfl⟩, hs.cutG 0 0⟩ }
    {
    intro ρ w hs hu107 hp
    obtain ⟨⟨⟨⟨⟨⟨⟨⟨⟨⟨⟨⟨⟨⟨_, hp0_⟩, hp1_⟩, hp2_⟩, hp3_⟩, hp4_⟩, hp5_⟩, hp6_⟩, hp7_⟩, hp8_⟩, hp9_⟩, hp10_⟩, hp11_⟩, hp12_⟩, hp13_⟩ := hp
    have hs : St ok (bz w0) w [vl t_fold_Field x84 (ρ 63), vl t_fold_Object x77 (ρ 57), vl t_fold_Store x14 (.agg cs15.toArray)] [blk (gOf ((ρ 12))) 61 ([bstr [], .bool false, .int .i64 0, .int .i64 0, .int .i64 0, .int .i64 0, bstr [], .bool false, .int .i64 0, .int .i64 0, .slice none 0 0, .bool false]), own t_history_Value 68 (.slice a47 n49 c48) x31, blk g28 50 cs15] := hs
    obtain ⟨g108, e109⟩ := hp13_
    have e109 : ρ 12 = .pointer (some ⟨g108, 0, none⟩) := e109
    try rw [e109] at hs
    obtain ⟨cs110, e112⟩ := hp12_
    have e112 : ρ 63 = .agg cs110.toArray := e112
    try rw [e112] at hs
    have e113 : ρ 62 = bstr x80.Field := hp11_
    have e114 : ρ 59 = .int .i64 x66 := hp8_
    have e115 : ρ 58 = .slice a47 n49 c48 := hp7_
    obtain ⟨cs116, e118⟩ := hp6_
    have e118 : ρ 57 = .agg cs116.toArray := e118
    try rw [e118] at hs
    have e119 : ρ 56 = bstr x73.Object := hp5_
    have e120 : ρ 53 = .int .i64 x66 := hp2_
    have e121 : ρ 52 = .slice a47 n49 c48 := hp1_
    have e122 : ρ 51 = .agg cs15.toArray := hp0_
    have hl117 := hs.agglen (n := 2) 1 rfl rfl rfl
    have hl111 := hs.agglen (n := 12) 0 rfl rfl rfl
    refine WA.step [14] (by kernel_rfl) (by simp) ⟨?_, trivial⟩
    refine WL.storeAll (vs := cs110) hs 0 rfl TI61 e109 e112 rfl hl111 (hs.ones 0 rfl rfl) rfl (fun w hs => ?_)
    refine WL.nil ⟨rfl, _, rfl, ?_⟩
    refine WA.done (by kernel_rfl) ?_
    refine hK72 _ _ ?_
    refine W.seqK fun K123 hK123 => ?_
    have Jk126 : ∀ (x125 : Bool) (ρ : Env) (w : World), ρ 7 = .pointer (some ⟨g28, 0, none⟩) → ρ 9 = .slice a47 n49 c48 → ρ 11 = .int .i64 x66 → ρ 93 = .bool x125 → St ok (bz w0) w [vl t_fold_Store x14 (.agg cs15.toArray)] [own t_history_Value 68 (.slice a47 n49 c48) x31, blk g28 50 cs15] → eslaw38_HistoryVisible.j2 x66 x125 = some os67 → K123 ρ w := by
      intro x125 ρ w h124_7 h124_9 h124_11 h124_93 hs hf
      refine hK123 _ _ ?_
      unfold eslaw38_HistoryVisible.j2 at hf
      rcases iteE hf with ⟨hc127, hf⟩ | ⟨hc127, hf⟩
      {
      refine W.cond_true (bool_tr h124_93 hc127) ?_
      refine W.seqK fun K128 hK128 => ?_
      refine W.region ?_
      refine WL.assign (v := .bool false) rfl ?_
      refine WL.nil ?_
      refine hK128 _ _ ?_
      refine W.ret ?_
      have hr := Option.some.inj hf; subst hr
      have hr := hbbs67 _ rfl; subst hr
      have hf := hfs67
      have hr := Option.some.inj hf; subst hr
      exact ⟨_, resOk_one rfl rfl, (), rfl, (hs.mask []).pick []⟩ }
      {
      refine W.cond_false (bool_tr h124_93 hc127) ?_
      refine W.skip ?_
      refine hK71 _ _ ?_
      refine W.region ?_
      refine WL.move (v := .int .i64 x66) h124_11 ?_
      obtain ⟨x129, ex129, hf⟩ := letE hf
      refine WL.bin (v := .int .i64 x129) rfl rfl (ib_as ex129 (ib_add _ _ _)) ?_
      refine WL.assign (v := .int .i64 x129) rfl ?_
      refine WL.nil ?_
      exact ⟨_, (Option.some.inj hf).symm, h124_7, h124_9, rfl, (hs.mask [true, true]).pick [0]⟩ }
    obtain ⟨x130, hxx130, hf⟩ := bindE hf
    rcases iteE hf with ⟨hc135, hf⟩ | ⟨hc135, hf⟩
    {
    refine W.any (by kernel_rfl) 30 0 [true, true, true, true, true, true, true, true, true, true, true, true, true, true, true, true, true, true, true, true, true, true, true, true, true, true, true, true, true, true] rfl rfl (poAt [pv (.slice a47 n49 c48), pv (.int .i64 x66), po (fun ad => Go.Proofs.YtbbeobiampbddaaL.OwnAt 10 (.slice a47 n49 c48) x66 ad), po (fun ad => OwnAtF 10 2 (.slice a47 n49 c48) x66 ad), pv (.bool x130.Set), pv (.pointer (some ⟨g108, 1, none⟩)), pv (.pointer (some ⟨g108, 1, none⟩)), pv (.bool x84.Register.Set), pv (.bool (x130.Set != x84.Register.Set)), pv (.bool (x130.Set != x84.Register.Set)), pv (undef), pv (undef), pv (undef), pv (undef), pv (undef), pv (undef), pv (undef), pv (undef), pv (.bool true), pv (.bool true), pv (undef), pv (undef), pv (undef), pv (undef), pv (undef), pv (undef), pv (undef), pv (undef), pv (undef), pv (.bool true)]) (Λ := [blk g108 61 cs110, own t_history_Value 68 (.slice a47 n49 c48) x31, blk g28 50 cs15]) hs (by kernel_rfl) (by kernel_rfl) (by kernel_rfl) ⟨⟨⟨⟨⟨⟨⟨⟨⟨⟨⟨⟨⟨⟨⟨⟨⟨⟨⟨⟨⟨⟨⟨⟨⟨⟨⟨⟨⟨⟨trivial, ?_⟩, ?_⟩, ?_⟩, ?_⟩, ?_⟩, ?_⟩, ?_⟩, ?_⟩, ?_⟩, ?_⟩, ?_⟩, ?_⟩, ?_⟩, ?_⟩, ?_⟩, ?_⟩, ?_⟩, ?_⟩, ?_⟩, ?_⟩, ?_⟩, ?_⟩, ?_⟩, ?_⟩, ?_⟩, ?_⟩, ?_⟩, ?_⟩, ?_⟩, ?_⟩ ?_
    {
    intro ρ w Γx Λx hs hu hp
    refine WL.move (v := .slice a47 n49 c48) ((hu 9 rfl).trans ((hu107 9 rfl).trans h65_9)) ?_
    exact WL.nil ⟨rfl, _, rfl, rfl, hs.cutG 0 0⟩ }
    {
    intro ρ w Γx Λx hs hu hp
    refine WL.move (v := .int .i64 x66) ((hu 11 rfl).trans ((hu107 11 rfl).trans h65_11)) ?_
    exact WL.nil ⟨rfl, _, rfl, rfl, hs.cutG 0 0⟩ }
    {
    intro ρ w Γx Λx hs hu hp
    have e136 : ρ 64 = .slice a47 n49 c48 := (hp 0 rfl).1
    have e137 : ρ 65 = .int .i64 x66 := (hp 1 rfl).1
    refine WL.indexAddrO hs (Λx.length + 1) (getApp rfl) UN31 TI68 e136 e137 hxx130 (fun ad131 hatad131 => ?_)
    exact WL.nil ⟨rfl, _, rfl, ⟨ad131, rfl, hatad131⟩, hs.cutG 0 0⟩ }
    {
    intro ρ w Γx Λx hs hu hp
    obtain ⟨ad139, e138, hatad139⟩ := (hp 2 rfl).1
    have e138 : ρ 66 = .pointer (some ad139) := e138
    refine WL.fieldAddrO (OwnAt.f hatad139) e138 FA68_2 rfl (fun ad132 hatad132 => ?_)
    exact WL.nil ⟨rfl, _, rfl, ⟨ad132, rfl, hatad132⟩, hs.cutG 0 0⟩ }
    {
    intro ρ w Γx Λx hs hu hp
    obtain ⟨ad141, e140, hatad141⟩ := (hp 3 rfl).1
    have e140 : ρ 67 = .pointer (some ad141) := e140
    refine WL.loadOF (z := x130.Set) F_history_Value_Set hs (Λx.length + 1) (getApp rfl) TI4 (.inr rfl) hatad141 hxx130 e140 rfl (fun v133 hs => ?_)
    obtain rfl := hs.bool 0 rfl
    exact WL.nil ⟨rfl, _, rfl, rfl, hs.cutG 0 1⟩ }
    {
    intro ρ w Γx Λx hs hu hp
    refine WL.fieldAddr (m := 1) ((hu 12 rfl).trans e109) FA61_1 rfl ?_
    exact WL.nil ⟨rfl, _, rfl, rfl, hs.cutG 0 0⟩ }
    {
    intro ρ w Γx Λx hs hu hp
    have e142 : ρ 69 = .pointer (some ⟨g108, 1, none⟩) := (hp 5 rfl).1
    refine WL.fieldAddr (m := 1) e142 FA58_0 rfl ?_
    exact WL.nil ⟨rfl, _, rfl, rfl, hs.cutG 0 0⟩ }
    {
    intro ρ w Γx Λx hs hu hp
    have e143 : ρ 70 = .pointer (some ⟨g108, 1, none⟩) := (hp 6 rfl).1
    refine WL.loadF (z := x84.Register.Set) (F_fold_Field_Register.comp F_fold_Register_Set) hs (Λx.length + 0) (getApp rfl) (Γx.length + 0) (getApp rfl) rfl TI4 (.inr rfl) e143 rfl (fun v134 hs => ?_)
    obtain rfl := hs.bool 0 rfl
    exact WL.nil ⟨rfl, _, rfl, rfl, hs.cutG 0 1⟩ }
    {
    intro ρ w Γx Λx hs hu hp
    have e144 : ρ 68 = .bool x130.Set := (hp 4 rfl).1
    have e145 : ρ 71 = .bool x84.Register.Set := (hp 7 rfl).1
    refine WL.neB UN4 e144 e145 ?_
    exact WL.nil ⟨rfl, _, rfl, rfl, hs.cutG 0 0⟩ }
    {
    intro ρ w Γx Λx hs hu hp
    have e146 : ρ 72 = .bool (x130.Set != x84.Register.Set) := (hp 8 rfl).1
    refine WL.move (v := .bool (x130.Set != x84.Register.Set)) e146 ?_
    exact WL.nil ⟨rfl, _, rfl, rfl, hs.cutG 0 0⟩ }
    {
    intro ρ w Γx Λx hs hu hp
    have e147 : ρ 73 = .bool (x130.Set != x84.Register.Set) := (hp 9 rfl).1
    refine WL.pass ((wanted_of rfl rfl (bool_tr e147 hc135)).trans rfl) rfl ?_
    exact WL.nil ⟨rfl, _, rfl, rfl, hs.cutG 0 0⟩ }
    {
    intro ρ w Γx Λx hs hu hp
    have e148 : ρ 73 = .bool (x130.Set != x84.Register.Set) := (hp 9 rfl).1
    refine WL.pass ((wanted_of rfl rfl (bool_tr e148 hc135)).trans rfl) rfl ?_
    exact WL.nil ⟨rfl, _, rfl, rfl, hs.cutG 0 0⟩ }
    {
    intro ρ w Γx Λx hs hu hp
    have e149 : ρ 74 = undef := (hp 10 rfl).1
    have e150 : ρ 75 = undef := (hp 11 rfl).1
    have e151 : ρ 73 = .bool (x130.Set != x84.Register.Set) := (hp 9 rfl).1
    refine WL.pass ((wanted_of rfl rfl (bool_tr e151 hc135)).trans rfl) rfl ?_
    exact WL.nil ⟨rfl, _, rfl, rfl, hs.cutG 0 0⟩ }
    {
    intro ρ w Γx Λx hs hu hp
    have e152 : ρ 76 = undef := (hp 12 rfl).1
    have e153 : ρ 73 = .bool (x130.Set != x84.Register.Set) := (hp 9 rfl).1
    refine WL.pass ((wanted_of rfl rfl (bool_tr e153 hc135)).trans rfl) rfl ?_
    exact WL.nil ⟨rfl, _, rfl, rfl, hs.cutG 0 0⟩ }
    {
    intro ρ w Γx Λx hs hu hp
    have e154 : ρ 77 = undef := (hp 13 rfl).1
    have e155 : ρ 73 = .bool (x130.Set != x84.Register.Set) := (hp 9 rfl).1
    refine WL.pass ((wanted_of rfl rfl (bool_tr e155 hc135)).trans rfl) rfl ?_
    exact WL.nil ⟨rfl, _, rfl, rfl, hs.cutG 0 0⟩ }
    {
    intro ρ w Γx Λx hs hu hp
    have e156 : ρ 73 = .bool (x130.Set != x84.Register.Set) := (hp 9 rfl).1
    refine WL.pass ((wanted_of rfl rfl (bool_tr e156 hc135)).trans rfl) rfl ?_
    exact WL.nil ⟨rfl, _, rfl, rfl, hs.cutG 0 0⟩ }
    {
    intro ρ w Γx Λx hs hu hp
    have e157 : ρ 79 = undef := (hp 15 rfl).1
    have e158 : ρ 73 = .bool (x130.Set != x84.Register.Set) := (hp 9 rfl).1
    refine WL.pass ((wanted_of rfl rfl (bool_tr e158 hc135)).trans rfl) rfl ?_
    exact WL.nil ⟨rfl, _, rfl, rfl, hs.cutG 0 0⟩ }
    {
    intro ρ w Γx Λx hs hu hp
    have e159 : ρ 78 = undef := (hp 14 rfl).1
    have e160 : ρ 80 = undef := (hp 16 rfl).1
    have e161 : ρ 73 = .bool (x130.Set != x84.Register.Set) := (hp 9 rfl).1
    refine WL.pass ((wanted_of rfl rfl (bool_tr e161 hc135)).trans rfl) rfl ?_
    exact WL.nil ⟨rfl, _, rfl, rfl, hs.cutG 0 0⟩ }
    {
    intro ρ w Γx Λx hs hu hp
    have e162 : ρ 73 = .bool (x130.Set != x84.Register.Set) := (hp 9 rfl).1
    have e163 : ρ 81 = undef := (hp 17 rfl).1
    refine WL.pickT (v := .bool true) (bool_tr e162 hc135) rfl ?_
    exact WL.nil ⟨rfl, _, rfl, rfl, hs.cutG 0 0⟩ }
    {
    intro ρ w Γx Λx hs hu hp
    have e164 : ρ 82 = .bool true := (hp 18 rfl).1
    refine WL.move (v := .bool true) e164 ?_
    exact WL.nil ⟨rfl, _, rfl, rfl, hs.cutG 0 0⟩ }
    {
    intro ρ w Γx Λx hs hu hp
    have e165 : ρ 83 = .bool true := (hp 19 rfl).1
    refine WL.pass ((wanted_of rfl rfl e165).trans rfl) rfl ?_
    exact WL.nil ⟨rfl, _, rfl, rfl, hs.cutG 0 0⟩ }
    {
    intro ρ w Γx Λx hs hu hp
    have e166 : ρ 83 = .bool true := (hp 19 rfl).1
    refine WL.pass ((wanted_of rfl rfl e166).trans rfl) rfl ?_
    exact WL.nil ⟨rfl, _, rfl, rfl, hs.cutG 0 0⟩ }
    {
    intro ρ w Γx Λx hs hu hp
    have e167 : ρ 84 = undef := (hp 20 rfl).1
    have e168 : ρ 85 = undef := (hp 21 rfl).1
    have e169 : ρ 83 = .bool true := (hp 19 rfl).1
    refine WL.pass ((wanted_of rfl rfl e169).trans rfl) rfl ?_
    exact WL.nil ⟨rfl, _, rfl, rfl, hs.cutG 0 0⟩ }
    {
    intro ρ w Γx Λx hs hu hp
    have e170 : ρ 86 = undef := (hp 22 rfl).1
    have e171 : ρ 83 = .bool true := (hp 19 rfl).1
    refine WL.pass ((wanted_of rfl rfl e171).trans rfl) rfl ?_
    exact WL.nil ⟨rfl, _, rfl, rfl, hs.cutG 0 0⟩ }
    {
    intro ρ w Γx Λx hs hu hp
    have e172 : ρ 87 = undef := (hp 23 rfl).1
    have e173 : ρ 83 = .bool true := (hp 19 rfl).1
    refine WL.pass ((wanted_of rfl rfl e173).trans rfl) rfl ?_
    exact WL.nil ⟨rfl, _, rfl, rfl, hs.cutG 0 0⟩ }
    {
    intro ρ w Γx Λx hs hu hp
    have e174 : ρ 83 = .bool true := (hp 19 rfl).1
    refine WL.pass ((wanted_of rfl rfl e174).trans rfl) rfl ?_
    exact WL.nil ⟨rfl, _, rfl, rfl, hs.cutG 0 0⟩ }
    {
    intro ρ w Γx Λx hs hu hp
    have e175 : ρ 89 = undef := (hp 25 rfl).1
    have e176 : ρ 83 = .bool true := (hp 19 rfl).1
    refine WL.pass ((wanted_of rfl rfl e176).trans rfl) rfl ?_
    exact WL.nil ⟨rfl, _, rfl, rfl, hs.cutG 0 0⟩ }
    {
    intro ρ w Γx Λx hs hu hp
    have e177 : ρ 88 = undef := (hp 24 rfl).1
    have e178 : ρ 90 = undef := (hp 26 rfl).1
    have e179 : ρ 83 = .bool true := (hp 19 rfl).1
    refine WL.pass ((wanted_of rfl rfl e179).trans rfl) rfl ?_
    exact WL.nil ⟨rfl, _, rfl, rfl, hs.cutG 0 0⟩ }
    {
    intro ρ w Γx Λx hs hu hp
    have e180 : ρ 91 = undef := (hp 27 rfl).1
    have e181 : ρ 83 = .bool true := (hp 19 rfl).1
    refine WL.pass ((wanted_of rfl rfl e181).trans rfl) rfl ?_
    exact WL.nil ⟨rfl, _, rfl, rfl, hs.cutG 0 0⟩ }
    {
    intro ρ w Γx Λx hs hu hp
    have e182 : ρ 83 = .bool true := (hp 19 rfl).1
    have e183 : ρ 92 = undef := (hp 28 rfl).1
    refine WL.pickT (v := .bool true) e182 rfl ?_
    exact WL.nil ⟨rfl, _, rfl, rfl, hs.cutG 0 0⟩ }
    {
    intro ρ w hs hu184 hp
    obtain ⟨⟨⟨⟨⟨⟨⟨⟨⟨⟨⟨⟨⟨⟨⟨⟨⟨⟨⟨⟨⟨⟨⟨⟨⟨⟨⟨⟨⟨⟨_, hp0_⟩, hp1_⟩, hp2_⟩, hp3_⟩, hp4_⟩, hp5_⟩, hp6_⟩, hp7_⟩, hp8_⟩, hp9_⟩, hp10_⟩, hp11_⟩, hp12_⟩, hp13_⟩, hp14_⟩, hp15_⟩, hp16_⟩, hp17_⟩, hp18_⟩, hp19_⟩, hp20_⟩, hp21_⟩, hp22_⟩, hp23_⟩, hp24_⟩, hp25_⟩, hp26_⟩, hp27_⟩, hp28_⟩, hp29_⟩ := hp
    have hs : St ok (bz w0) w [vl t_fold_Field x84 (.agg cs110.toArray), vl t_fold_Object x77 (.agg cs116.toArray), vl t_fold_Store x14 (.agg cs15.toArray)] [blk g108 61 cs110, own t_history_Value 68 (.slice a47 n49 c48) x31, blk g28 50 cs15] := hs
    have e185 : ρ 93 = .bool true := hp29_
    have e186 : ρ 92 = undef := hp28_
    have e187 : ρ 91 = undef := hp27_
    have e188 : ρ 90 = undef := hp26_
    have e189 : ρ 89 = undef := hp25_
    have e190 : ρ 88 = undef := hp24_
    have e191 : ρ 87 = undef := hp23_
    have e192 : ρ 86 = undef := hp22_
    have e193 : ρ 85 = undef := hp21_
    have e194 : ρ 84 = undef := hp20_
    have e195 : ρ 83 = .bool true := hp19_
    have e196 : ρ 82 = .bool true := hp18_
    have e197 : ρ 81 = undef := hp17_
    have e198 : ρ 80 = undef := hp16_
    have e199 : ρ 79 = undef := hp15_
    have e200 : ρ 78 = undef := hp14_
    have e201 : ρ 77 = undef := hp13_
    have e202 : ρ 76 = undef := hp12_
    have e203 : ρ 75 = undef := hp11_
    have e204 : ρ 74 = undef := hp10_
    have e205 : ρ 73 = .bool (x130.Set != x84.Register.Set) := hp9_
    have e206 : ρ 72 = .bool (x130.Set != x84.Register.Set) := hp8_
    have e207 : ρ 71 = .bool x84.Register.Set := hp7_
    have e208 : ρ 70 = .pointer (some ⟨g108, 1, none⟩) := hp6_
    have e209 : ρ 69 = .pointer (some ⟨g108, 1, none⟩) := hp5_
    have e210 : ρ 68 = .bool x130.Set := hp4_
    have e211 : ρ 65 = .int .i64 x66 := hp1_
    have e212 : ρ 64 = .slice a47 n49 c48 := hp0_
    refine WA.done (by kernel_rfl) ?_
    exact Jk126 true _ _ ((hu184 7 rfl).trans ((hu107 7 rfl).trans h65_7)) ((hu184 9 rfl).trans ((hu107 9 rfl).trans h65_9)) ((hu184 11 rfl).trans ((hu107 11 rfl).trans h65_11)) e185 ((hs.mask [false, true, true]).pick [2]) hf } }
    {
    obtain ⟨x213, hxx213, hf⟩ := bindE hf
    rcases iteE hf with ⟨hc218, hf⟩ | ⟨hc218, hf⟩
    {
    refine W.any (by kernel_rfl) 30 0 [true, true, true, true, true, true, true, true, true, true, true, true, true, true, true, true, true, true, true, true, true, true, true, true, true, true, true, true, true, true] rfl rfl (poAt [pv (.slice a47 n49 c48), pv (.int .i64 x66), po (fun ad => Go.Proofs.YtbbeobiampbddaaL.OwnAt 10 (.slice a47 n49 c48) x66 ad), po (fun ad => OwnAtF 10 2 (.slice a47 n49 c48) x66 ad), pv (.bool x130.Set), pv (.pointer (some ⟨g108, 1, none⟩)), pv (.pointer (some ⟨g108, 1, none⟩)), pv (.bool x84.Register.Set), pv (.bool (x130.Set != x84.Register.Set)), pv (.bool (x130.Set != x84.Register.Set)), pv (.slice a47 n49 c48), pv (.int .i64 x66), po (fun ad => Go.Proofs.YtbbeobiampbddaaL.OwnAt 10 (.slice a47 n49 c48) x66 ad), po (fun ad => OwnAtF 10 7 (.slice a47 n49 c48) x66 ad), pv (.int .i64 x213.Sum), pv (.pointer (some ⟨g108, 9, none⟩)), pv (.int .i64 x84.Sum), pv (.bool (x213.Sum != x84.Sum)), pv (.bool (x213.Sum != x84.Sum)), pv (.bool (x213.Sum != x84.Sum)), pv (undef), pv (undef), pv (undef), pv (undef), pv (undef), pv (undef), pv (undef), pv (undef), pv (undef), pv (.bool true)]) (Λ := [blk g108 61 cs110, own t_history_Value 68 (.slice a47 n49 c48) x31, blk g28 50 cs15]) hs (by kernel_rfl) (by kernel_rfl) (by kernel_rfl) ⟨⟨⟨⟨⟨⟨⟨⟨⟨⟨⟨⟨⟨⟨⟨⟨⟨⟨⟨⟨⟨⟨⟨⟨⟨⟨⟨⟨⟨⟨trivial, ?_⟩, ?_⟩, ?_⟩, ?_⟩, ?_⟩, ?_⟩, ?_⟩, ?_⟩, ?_⟩, ?_⟩, ?_⟩, ?_⟩, ?_⟩, ?_⟩, ?_⟩, ?_⟩, ?_⟩, ?_⟩, ?_⟩, ?_⟩, ?_⟩, ?_⟩, ?_⟩, ?_⟩, ?_⟩, ?_⟩, ?_⟩, ?_⟩, ?_⟩, ?_⟩ ?_
    {
    intro ρ w Γx Λx hs hu hp
    refine WL.move (v := .slice a47 n49 c48) ((hu 9 rfl).trans ((hu107 9 rfl).trans h65_9)) ?_
    exact WL.nil ⟨rfl, _, rfl, rfl, hs.cutG 0 0⟩ }
    {
    intro ρ w Γx Λx hs hu hp
    refine WL.move (v := .int .i64 x66) ((hu 11 rfl).trans ((hu107 11 rfl).trans h65_11)) ?_
    exact WL.nil ⟨rfl, _, rfl, rfl, hs.cutG 0 0⟩ }
    {
    intro ρ w Γx Λx hs hu hp
    have e219 : ρ 64 = .slice a47 n49 c48 := (hp 0 rfl).1
    have e220 : ρ 65 = .int .i64 x66 := (hp 1 rfl).1
    refine WL.indexAddrO hs (Λx.length + 1) (getApp rfl) UN31 TI68 e219 e220 hxx130 (fun ad131 hatad131 => ?_)
    exact WL.nil ⟨rfl, _, rfl, ⟨ad131, rfl, hatad131⟩, hs.cutG 0 0⟩ }
    {
    intro ρ w Γx Λx hs hu hp
    obtain ⟨ad222, e221, hatad222⟩ := (hp 2 rfl).1
    have e221 : ρ 66 = .pointer (some ad222) := e221
    refine WL.fieldAddrO (OwnAt.f hatad222) e221 FA68_2 rfl (fun ad132 hatad132 => ?_)
    exact WL.nil ⟨rfl, _, rfl, ⟨ad132, rfl, hatad132⟩, hs.cutG 0 0⟩ }
    {
    intro ρ w Γx Λx hs hu hp
    obtain ⟨ad224, e223, hatad224⟩ := (hp 3 rfl).1
    have e223 : ρ 67 = .pointer (some ad224) := e223
    refine WL.loadOF (z := x130.Set) F_history_Value_Set hs (Λx.length + 1) (getApp rfl) TI4 (.inr rfl) hatad224 hxx130 e223 rfl (fun v133 hs => ?_)
    obtain rfl := hs.bool 0 rfl
    exact WL.nil ⟨rfl, _, rfl, rfl, hs.cutG 0 1⟩ }
    {
    intro ρ w Γx Λx hs hu hp
    refine WL.fieldAddr (m := 1) ((hu 12 rfl).trans e109) FA61_1 rfl ?_
    exact WL.nil ⟨rfl, _, rfl, rfl, hs.cutG 0 0⟩ }
    {
    intro ρ w Γx Λx hs hu hp
    have e225 : ρ 69 = .pointer (some ⟨g108, 1, none⟩) := (hp 5 rfl).1
    refine WL.fieldAddr (m := 1) e225 FA58_0 rfl ?_
    exact WL.nil ⟨rfl, _, rfl, rfl, hs.cutG 0 0⟩ }
    {
    intro ρ w Γx Λx hs hu hp
    have e226 : ρ 70 = .pointer (some ⟨g108, 1, none⟩) := (hp 6 rfl).1
    refine WL.loadF (z := x84.Register.Set) (F_fold_Field_Register.comp F_fold_Register_Set) hs (Λx.length + 0) (getApp rfl) (Γx.length + 0) (getApp rfl) rfl TI4 (.inr rfl) e226 rfl (fun v134 hs => ?_)
    obtain rfl := hs.bool 0 rfl
    exact WL.nil ⟨rfl, _, rfl, rfl, hs.cutG 0 1⟩ }
    {
    intro ρ w Γx Λx hs hu hp
    have e227 : ρ 68 = .bool x130.Set := (hp 4 rfl).1
    have e228 : ρ 71 = .bool x84.Register.Set := (hp 7 rfl).1
    refine WL.neB UN4 e227 e228 ?_
    exact WL.nil ⟨rfl, _, rfl, rfl, hs.cutG 0 0⟩ }
    {
    intro ρ w Γx Λx hs hu hp
    have e229 : ρ 72 = .bool (x130.Set != x84.Register.Set) := (hp 8 rfl).1
    refine WL.move (v := .bool (x130.Set != x84.Register.Set)) e229 ?_
    exact WL.nil ⟨rfl, _, rfl, rfl, hs.cutG 0 0⟩ }
    {
    intro ρ w Γx Λx hs hu hp
    have e230 : ρ 73 = .bool (x130.Set != x84.Register.Set) := (hp 9 rfl).1
    refine WL.move (v := .slice a47 n49 c48) ((hu 9 rfl).trans ((hu107 9 rfl).trans h65_9)) ?_ (hg := (wanted_of rfl rfl (bool_tr e230 hc135)).trans rfl)
    exact WL.nil ⟨rfl, _, rfl, rfl, hs.cutG 0 0⟩ }
    {
    intro ρ w Γx Λx hs hu hp
    have e231 : ρ 73 = .bool (x130.Set != x84.Register.Set) := (hp 9 rfl).1
    refine WL.move (v := .int .i64 x66) ((hu 11 rfl).trans ((hu107 11 rfl).trans h65_11)) ?_ (hg := (wanted_of rfl rfl (bool_tr e231 hc135)).trans rfl)
    exact WL.nil ⟨rfl, _, rfl, rfl, hs.cutG 0 0⟩ }
    {
    intro ρ w Γx Λx hs hu hp
    have e232 : ρ 74 = .slice a47 n49 c48 := (hp 10 rfl).1
    have e233 : ρ 75 = .int .i64 x66 := (hp 11 rfl).1
    have e234 : ρ 73 = .bool (x130.Set != x84.Register.Set) := (hp 9 rfl).1
    refine WL.indexAddrO hs (Λx.length + 1) (getApp rfl) UN31 TI68 e232 e233 hxx213 (fun ad214 hatad214 => ?_) (hg := (wanted_of rfl rfl (bool_tr e234 hc135)).trans rfl)
    exact WL.nil ⟨rfl, _, rfl, ⟨ad214, rfl, hatad214⟩, hs.cutG 0 0⟩ }
    {
    intro ρ w Γx Λx hs hu hp
    obtain ⟨ad236, e235, hatad236⟩ := (hp 12 rfl).1
    have e235 : ρ 76 = .pointer (some ad236) := e235
    have e237 : ρ 73 = .bool (x130.Set != x84.Register.Set) := (hp 9 rfl).1
    refine WL.fieldAddrO (OwnAt.f hatad236) e235 FA68_7 rfl (fun ad215 hatad215 => ?_) (hg := (wanted_of rfl rfl (bool_tr e237 hc135)).trans rfl)
    exact WL.nil ⟨rfl, _, rfl, ⟨ad215, rfl, hatad215⟩, hs.cutG 0 0⟩ }
    {
    intro ρ w Γx Λx hs hu hp
    obtain ⟨ad239, e238, hatad239⟩ := (hp 13 rfl).1
    have e238 : ρ 77 = .pointer (some ad239) := e238
    have e240 : ρ 73 = .bool (x130.Set != x84.Register.Set) := (hp 9 rfl).1
    refine WL.loadOF (z := x213.Sum) F_history_Value_Sum hs (Λx.length + 1) (getApp rfl) TI2 (.inr rfl) hatad239 hxx213 e238 rfl (fun v216 hs => ?_) (hg := (wanted_of rfl rfl (bool_tr e240 hc135)).trans rfl)
    obtain rfl := hs.int 0 rfl
    exact WL.nil ⟨rfl, _, rfl, rfl, hs.cutG 0 1⟩ }
    {
    intro ρ w Γx Λx hs hu hp
    have e241 : ρ 73 = .bool (x130.Set != x84.Register.Set) := (hp 9 rfl).1
    refine WL.fieldAddr (m := 9) ((hu 12 rfl).trans e109) FA61_4 rfl ?_ (hg := (wanted_of rfl rfl (bool_tr e241 hc135)).trans rfl)
    exact WL.nil ⟨rfl, _, rfl, rfl, hs.cutG 0 0⟩ }
    {
    intro ρ w Γx Λx hs hu hp
    have e242 : ρ 79 = .pointer (some ⟨g108, 9, none⟩) := (hp 15 rfl).1
    have e243 : ρ 73 = .bool (x130.Set != x84.Register.Set) := (hp 9 rfl).1
    refine WL.loadF (z := x84.Sum) F_fold_Field_Sum hs (Λx.length + 0) (getApp rfl) (Γx.length + 0) (getApp rfl) rfl TI2 (.inr rfl) e242 rfl (fun v217 hs => ?_) (hg := (wanted_of rfl rfl (bool_tr e243 hc135)).trans rfl)
    obtain rfl := hs.int 0 rfl
    exact WL.nil ⟨rfl, _, rfl, rfl, hs.cutG 0 1⟩ }
    {
    intro ρ w Γx Λx hs hu hp
    have e244 : ρ 78 = .int .i64 x213.Sum := (hp 14 rfl).1
    have e245 : ρ 80 = .int .i64 x84.Sum := (hp 16 rfl).1
    have e246 : ρ 73 = .bool (x130.Set != x84.Register.Set) := (hp 9 rfl).1
    refine WL.bin (v := .bool (x213.Sum != x84.Sum)) e244 e245 (ib_neq _ _ _) ?_ (hg := (wanted_of rfl rfl (bool_tr e246 hc135)).trans rfl)
    exact WL.nil ⟨rfl, _, rfl, rfl, hs.cutG 0 0⟩ }
    {
    intro ρ w Γx Λx hs hu hp
    have e247 : ρ 73 = .bool (x130.Set != x84.Register.Set) := (hp 9 rfl).1
    have e248 : ρ 81 = .bool (x213.Sum != x84.Sum) := (hp 17 rfl).1
    refine WL.pickF (v := .bool (x213.Sum != x84.Sum)) (bool_tr e247 hc135) e248 ?_
    exact WL.nil ⟨rfl, _, rfl, rfl, hs.cutG 0 0⟩ }
    {
    intro ρ w Γx Λx hs hu hp
    have e249 : ρ 82 = .bool (x213.Sum != x84.Sum) := (hp 18 rfl).1
    refine WL.move (v := .bool (x213.Sum != x84.Sum)) e249 ?_
    exact WL.nil ⟨rfl, _, rfl, rfl, hs.cutG 0 0⟩ }
    {
    intro ρ w Γx Λx hs hu hp
    have e250 : ρ 83 = .bool (x213.Sum != x84.Sum) := (hp 19 rfl).1
    refine WL.pass ((wanted_of rfl rfl (bool_tr e250 hc218)).trans rfl) rfl ?_
    exact WL.nil ⟨rfl, _, rfl, rfl, hs.cutG 0 0⟩ }
    {
    intro ρ w Γx Λx hs hu hp
    have e251 : ρ 83 = .bool (x213.Sum != x84.Sum) := (hp 19 rfl).1
    refine WL.pass ((wanted_of rfl rfl (bool_tr e251 hc218)).trans rfl) rfl ?_
    exact WL.nil ⟨rfl, _, rfl, rfl, hs.cutG 0 0⟩ }
    {
    intro ρ w Γx Λx hs hu hp
    have e252 : ρ 84 = undef := (hp 20 rfl).1
    have e253 : ρ 85 = undef := (hp 21 rfl).1
    have e254 : ρ 83 = .bool (x213.Sum != x84.Sum) := (hp 19 rfl).1
    refine WL.pass ((wanted_of rfl rfl (bool_tr e254 hc218)).trans rfl) rfl ?_
    exact WL.nil ⟨rfl, _, rfl, rfl, hs.cutG 0 0⟩ }
    {
    intro ρ w Γx Λx hs hu hp
    have e255 : ρ 86 = undef := (hp 22 rfl).1
    have e256 : ρ 83 = .bool (x213.Sum != x84.Sum) := (hp 19 rfl).1
    refine WL.pass ((wanted_of rfl rfl (bool_tr e256 hc218)).trans rfl) rfl ?_
    exact WL.nil ⟨rfl, _, rfl, rfl, hs.cutG 0 0⟩ }
    {
    intro ρ w Γx Λx hs hu hp
    have e257 : ρ 87 = undef := (hp 23 rfl).1
    have e258 : ρ 83 = .bool (x213.Sum != x84.Sum) := (hp 19 rfl).1
    refine WL.pass ((wanted_of rfl rfl (bool_tr e258 hc218)).trans rfl) rfl ?_
    exact WL.nil ⟨rfl, _, rfl, rfl, hs.cutG 0 0⟩ }
    {
    intro ρ w Γx Λx hs hu hp
    have e259 : ρ 83 = .bool (x213.Sum != x84.Sum) := (hp 19 rfl).1
    refine WL.pass ((wanted_of rfl rfl (bool_tr e259 hc218)).trans rfl) rfl ?_
    exact WL.nil ⟨rfl, _, rfl, rfl, hs.cutG 0 0⟩ }
    {
    intro ρ w Γx Λx hs hu hp
    have e260 : ρ 89 = undef := (hp 25 rfl).1
    have e261 : ρ 83 = .bool (x213.Sum != x84.Sum) := (hp 19 rfl).1
    refine WL.pass ((wanted_of rfl rfl (bool_tr e261 hc218)).trans rfl) rfl ?_
    exact WL.nil ⟨rfl, _, rfl, rfl, hs.cutG 0 0⟩ }
    {
    intro ρ w Γx Λx hs hu hp
    have e262 : ρ 88 = undef := (hp 24 rfl).1
    have e263 : ρ 90 = undef := (hp 26 rfl).1
    have e264 : ρ 83 = .bool (x213.Sum != x84.Sum) := (hp 19 rfl).1
    refine WL.pass ((wanted_of rfl rfl (bool_tr e264 hc218)).trans rfl) rfl ?_
    exact WL.nil ⟨rfl, _, rfl, rfl, hs.cutG 0 0⟩ }
    {
    intro ρ w Γx Λx hs hu hp
    have e265 : ρ 91 = undef := (hp 27 rfl).1
    have e266 : ρ 83 = .bool (x213.Sum != x84.Sum) := (hp 19 rfl).1
    refine WL.pass ((wanted_of rfl rfl (bool_tr e266 hc218)).trans rfl) rfl ?_
    exact WL.nil ⟨rfl, _, rfl, rfl, hs.cutG 0 0⟩ }
    {
    intro ρ w Γx Λx hs hu hp
    have e267 : ρ 83 = .bool (x213.Sum != x84.Sum) := (hp 19 rfl).1
    have e268 : ρ 92 = undef := (hp 28 rfl).1
    refine WL.pickT (v := .bool true) (bool_tr e267 hc218) rfl ?_
    exact WL.nil ⟨rfl, _, rfl, rfl, hs.cutG 0 0⟩ }
    {
    intro ρ w hs hu269 hp
    obtain ⟨⟨⟨⟨⟨⟨⟨⟨⟨⟨⟨⟨⟨⟨⟨⟨⟨⟨⟨⟨⟨⟨⟨⟨⟨⟨⟨⟨⟨⟨_, hp0_⟩, hp1_⟩, hp2_⟩, hp3_⟩, hp4_⟩, hp5_⟩, hp6_⟩, hp7_⟩, hp8_⟩, hp9_⟩, hp10_⟩, hp11_⟩, hp12_⟩, hp13_⟩, hp14_⟩, hp15_⟩, hp16_⟩, hp17_⟩, hp18_⟩, hp19_⟩, hp20_⟩, hp21_⟩, hp22_⟩, hp23_⟩, hp24_⟩, hp25_⟩, hp26_⟩, hp27_⟩, hp28_⟩, hp29_⟩ := hp
    have hs : St ok (bz w0) w [vl t_fold_Field x84 (.agg cs110.toArray), vl t_fold_Object x77 (.agg cs116.toArray), vl t_fold_Store x14 (.agg cs15.toArray)] [blk g108 61 cs110, own t_history_Value 68 (.slice a47 n49 c48) x31, blk g28 50 cs15] := hs
    have e270 : ρ 93 = .bool true := hp29_
    have e271 : ρ 92 = undef := hp28_
    have e272 : ρ 91 = undef := hp27_
    have e273 : ρ 90 = undef := hp26_
    have e274 : ρ 89 = undef := hp25_
    have e275 : ρ 88 = undef := hp24_
    have e276 : ρ 87 = undef := hp23_
    have e277 : ρ 86 = undef := hp22_
    have e278 : ρ 85 = undef := hp21_
    have e279 : ρ 84 = undef := hp20_
    have e280 : ρ 83 = .bool (x213.Sum != x84.Sum) := hp19_
    have e281 : ρ 82 = .bool (x213.Sum != x84.Sum) := hp18_
    have e282 : ρ 81 = .bool (x213.Sum != x84.Sum) := hp17_
    have e283 : ρ 80 = .int .i64 x84.Sum := hp16_
    have e284 : ρ 79 = .pointer (some ⟨g108, 9, none⟩) := hp15_
    have e285 : ρ 78 = .int .i64 x213.Sum := hp14_
    have e286 : ρ 75 = .int .i64 x66 := hp11_
    have e287 : ρ 74 = .slice a47 n49 c48 := hp10_
    have e288 : ρ 73 = .bool (x130.Set != x84.Register.Set) := hp9_
    have e289 : ρ 72 = .bool (x130.Set != x84.Register.Set) := hp8_
    have e290 : ρ 71 = .bool x84.Register.Set := hp7_
    have e291 : ρ 70 = .pointer (some ⟨g108, 1, none⟩) := hp6_
    have e292 : ρ 69 = .pointer (some ⟨g108, 1, none⟩) := hp5_
    have e293 : ρ 68 = .bool x130.Set := hp4_
    have e294 : ρ 65 = .int .i64 x66 := hp1_
    have e295 : ρ 64 = .slice a47 n49 c48 := hp0_
    refine WA.done (by kernel_rfl) ?_
    exact Jk126 true _ _ ((hu269 7 rfl).trans ((hu107 7 rfl).trans h65_7)) ((hu269 9 rfl).trans ((hu107 9 rfl).trans h65_9)) ((hu269 11 rfl).trans ((hu107 11 rfl).trans h65_11)) e270 ((hs.mask [false, true, true]).pick [2]) hf } }
    {
    obtain ⟨x296, hxx296, hf⟩ := bindE hf
    obtain ⟨x305, hxx305, hf⟩ := bindE hf
    refine W.any (by kernel_rfl) 30 0 [true, true, true, true, true, true, true, true, true, true, true, true, true, true, true, true, true, true, true, true, true, true, true, true, true, true, true, true, true, true] rfl rfl (poAt [pv (.slice a47 n49 c48), pv (.int .i64 x66), po (fun ad => Go.Proofs.YtbbeobiampbddaaL.OwnAt 10 (.slice a47 n49 c48) x66 ad), po (fun ad => OwnAtF 10 2 (.slice a47 n49 c48) x66 ad), pv (.bool x130.Set), pv (.pointer (some ⟨g108, 1, none⟩)), pv (.pointer (some ⟨g108, 1, none⟩)), pv (.bool x84.Register.Set), pv (.bool (x130.Set != x84.Register.Set)), pv (.bool (x130.Set != x84.Register.Set)), pv (.slice a47 n49 c48), pv (.int .i64 x66), po (fun ad => Go.Proofs.YtbbeobiampbddaaL.OwnAt 10 (.slice a47 n49 c48) x66 ad), po (fun ad => OwnAtF 10 7 (.slice a47 n49 c48) x66 ad), pv (.int .i64 x213.Sum), pv (.pointer (some ⟨g108, 9, none⟩)), pv (.int .i64 x84.Sum), pv (.bool (x213.Sum != x84.Sum)), pv (.bool (x213.Sum != x84.Sum)), pv (.bool (x213.Sum != x84.Sum)), pv (.slice a47 n49 c48), pv (.int .i64 x66), po (fun ad => Go.Proofs.YtbbeobiampbddaaL.OwnAt 10 (.slice a47 n49 c48) x66 ad), po (fun ad => OwnAtF 10 8 (.slice a47 n49 c48) x66 ad), pq (fun y : (Option Addr × Nat) => .slice y.1 (x296.Elems).length y.2) (fun v => [vl (tSlice tStr) x296.Elems v]) (fun v => []), pv (.pointer (some ⟨g108, 10, none⟩)), pq (fun y : (Option Addr × Nat) => .slice y.1 (x84.Elems).length y.2) (fun v => [vl (tSlice tStr) x84.Elems v]) (fun v => []), pv (.bool x305), pv (.bool (!x305)), pv (.bool (!x305))]) (Λ := [blk g108 61 cs110, own t_history_Value 68 (.slice a47 n49 c48) x31, blk g28 50 cs15]) hs (by kernel_rfl) (by kernel_rfl) (by kernel_rfl) ⟨⟨⟨⟨⟨⟨⟨⟨⟨⟨⟨⟨⟨⟨⟨⟨⟨⟨⟨⟨⟨⟨⟨⟨⟨⟨⟨⟨⟨⟨trivial, ?_⟩, ?_⟩, ?_⟩, ?_⟩, ?_⟩, ?_⟩, ?_⟩, ?_⟩, ?_⟩, ?_⟩, ?_⟩, ?_⟩, ?_⟩, ?_⟩, ?_⟩, ?_⟩, ?_⟩, ?_⟩, ?_⟩, ?_⟩, ?_⟩, ?_⟩, ?_⟩, ?_⟩, ?_⟩, ?_⟩, ?_⟩, ?_⟩, ?_⟩, ?_⟩ ?_
    {
    intro ρ w Γx Λx hs hu hp
    refine WL.move (v := .slice a47 n49 c48) ((hu 9 rfl).trans ((hu107 9 rfl).trans h65_9)) ?_
    exact WL.nil ⟨rfl, _, rfl, rfl, hs.cutG 0 0⟩ }
    {
    intro ρ w Γx Λx hs hu hp
    refine WL.move (v := .int .i64 x66) ((hu 11 rfl).trans ((hu107 11 rfl).trans h65_11)) ?_
    exact WL.nil ⟨rfl, _, rfl, rfl, hs.cutG 0 0⟩ }
    {
    intro ρ w Γx Λx hs hu hp
    have e306 : ρ 64 = .slice a47 n49 c48 := (hp 0 rfl).1
    have e307 : ρ 65 = .int .i64 x66 := (hp 1 rfl).1
    refine WL.indexAddrO hs (Λx.length + 1) (getApp rfl) UN31 TI68 e306 e307 hxx130 (fun ad131 hatad131 => ?_)
    exact WL.nil ⟨rfl, _, rfl, ⟨ad131, rfl, hatad131⟩, hs.cutG 0 0⟩ }
    {
    intro ρ w Γx Λx hs hu hp
    obtain ⟨ad309, e308, hatad309⟩ := (hp 2 rfl).1
    have e308 : ρ 66 = .pointer (some ad309) := e308
    refine WL.fieldAddrO (OwnAt.f hatad309) e308 FA68_2 rfl (fun ad132 hatad132 => ?_)
    exact WL.nil ⟨rfl, _, rfl, ⟨ad132, rfl, hatad132⟩, hs.cutG 0 0⟩ }
    {
    intro ρ w Γx Λx hs hu hp
    obtain ⟨ad311, e310, hatad311⟩ := (hp 3 rfl).1
    have e310 : ρ 67 = .pointer (some ad311) := e310
    refine WL.loadOF (z := x130.Set) F_history_Value_Set hs (Λx.length + 1) (getApp rfl) TI4 (.inr rfl) hatad311 hxx130 e310 rfl (fun v133 hs => ?_)
    obtain rfl := hs.bool 0 rfl
    exact WL.nil ⟨rfl, _, rfl, rfl, hs.cutG 0 1⟩ }
    {
    intro ρ w Γx Λx hs hu hp
    refine WL.fieldAddr (m := 1) ((hu 12 rfl).trans e109) FA61_1 rfl ?_
    exact WL.nil ⟨rfl, _, rfl, rfl, hs.cutG 0 0⟩ }
    {
    intro ρ w Γx Λx hs hu hp
    have e312 : ρ 69 = .pointer (some ⟨g108, 1, none⟩) := (hp 5 rfl).1
    refine WL.fieldAddr (m := 1) e312 FA58_0 rfl ?_
    exact WL.nil ⟨rfl, _, rfl, rfl, hs.cutG 0 0⟩ }
    {
    intro ρ w Γx Λx hs hu hp
    have e313 : ρ 70 = .pointer (some ⟨g108, 1, none⟩) := (hp 6 rfl).1
    refine WL.loadF (z := x84.Register.Set) (F_fold_Field_Register.comp F_fold_Register_Set) hs (Λx.length + 0) (getApp rfl) (Γx.length + 0) (getApp rfl) rfl TI4 (.inr rfl) e313 rfl (fun v134 hs => ?_)
    obtain rfl := hs.bool 0 rfl
    exact WL.nil ⟨rfl, _, rfl, rfl, hs.cutG 0 1⟩ }
    {
    intro ρ w Γx Λx hs hu hp
    have e314 : ρ 68 = .bool x130.Set := (hp 4 rfl).1
    have e315 : ρ 71 = .bool x84.Register.Set := (hp 7 rfl).1
    refine WL.neB UN4 e314 e315 ?_
    exact WL.nil ⟨rfl, _, rfl, rfl, hs.cutG 0 0⟩ }
    {
    intro ρ w Γx Λx hs hu hp
    have e316 : ρ 72 = .bool (x130.Set != x84.Register.Set) := (hp 8 rfl).1
    refine WL.move (v := .bool (x130.Set != x84.Register.Set)) e316 ?_
    exact WL.nil ⟨rfl, _, rfl, rfl, hs.cutG 0 0⟩ }
    {
    intro ρ w Γx Λx hs hu hp
    have e317 : ρ 73 = .bool (x130.Set != x84.Register.Set) := (hp 9 rfl).1
    refine WL.move (v := .slice a47 n49 c48) ((hu 9 rfl).trans ((hu107 9 rfl).trans h65_9)) ?_ (hg := (wanted_of rfl rfl (bool_tr e317 hc135)).trans rfl)
    exact WL.nil ⟨rfl, _, rfl, rfl, hs.cutG 0 0⟩ }
    {
    intro ρ w Γx Λx hs hu hp
    have e318 : ρ 73 = .bool (x130.Set != x84.Register.Set) := (hp 9 rfl).1
    refine WL.move (v := .int .i64 x66) ((hu 11 rfl).trans ((hu107 11 rfl).trans h65_11)) ?_ (hg := (wanted_of rfl rfl (bool_tr e318 hc135)).trans rfl)
    exact WL.nil ⟨rfl, _, rfl, rfl, hs.cutG 0 0⟩ }
    {
    intro ρ w Γx Λx hs hu hp
    have e319 : ρ 74 = .slice a47 n49 c48 := (hp 10 rfl).1
    have e320 : ρ 75 = .int .i64 x66 := (hp 11 rfl).1
    have e321 : ρ 73 = .bool (x130.Set != x84.Register.Set) := (hp 9 rfl).1
    refine WL.indexAddrO hs (Λx.length + 1) (getApp rfl) UN31 TI68 e319 e320 hxx213 (fun ad214 hatad214 => ?_) (hg := (wanted_of rfl rfl (bool_tr e321 hc135)).trans rfl)
    exact WL.nil ⟨rfl, _, rfl, ⟨ad214, rfl, hatad214⟩, hs.cutG 0 0⟩ }
    {
    intro ρ w Γx Λx hs hu hp
    obtain ⟨ad323, e322, hatad323⟩ := (hp 12 rfl).1
    have e322 : ρ 76 = .pointer (some ad323) := e322
    have e324 : ρ 73 = .bool (x130.Set != x84.Register.Set) := (hp 9 rfl).1
    refine WL.fieldAddrO (OwnAt.f hatad323) e322 FA68_7 rfl (fun ad215 hatad215 => ?_) (hg := (wanted_of rfl rfl (bool_tr e324 hc135)).trans rfl)
    exact WL.nil ⟨rfl, _, rfl, ⟨ad215, rfl, hatad215⟩, hs.cutG 0 0⟩ }
    {
    intro ρ w Γx Λx hs hu hp
    obtain ⟨ad326, e325, hatad326⟩ := (hp 13 rfl).1
    have e325 : ρ 77 = .pointer (some ad326) := e325
    have e327 : ρ 73 = .bool (x130.Set != x84.Register.Set) := (hp 9 rfl).1
    refine WL.loadOF (z := x213.Sum) F_history_Value_Sum hs (Λx.length + 1) (getApp rfl) TI2 (.inr rfl) hatad326 hxx213 e325 rfl (fun v216 hs => ?_) (hg := (wanted_of rfl rfl (bool_tr e327 hc135)).trans rfl)
    obtain rfl := hs.int 0 rfl
    exact WL.nil ⟨rfl, _, rfl, rfl, hs.cutG 0 1⟩ }
    {
    intro ρ w Γx Λx hs hu hp
    have e328 : ρ 73 = .bool (x130.Set != x84.Register.Set) := (hp 9 rfl).1
    refine WL.fieldAddr (m := 9) ((hu 12 rfl).trans e109) FA61_4 rfl ?_ (hg := (wanted_of rfl rfl (bool_tr e328 hc135)).trans rfl)
    exact WL.nil ⟨rfl, _, rfl, rfl, hs.cutG 0 0⟩ }
    {
    intro ρ w Γx Λx hs hu hp
    have e329 : ρ 79 = .pointer (some ⟨g108, 9, none⟩) := (hp 15 rfl).1
    have e330 : ρ 73 = .bool (x130.Set != x84.Register.Set) := (hp 9 rfl).1
    refine WL.loadF (z := x84.Sum) F_fold_Field_Sum hs (Λx.length + 0) (getApp rfl) (Γx.length + 0) (getApp rfl) rfl TI2 (.inr rfl) e329 rfl (fun v217 hs => ?_) (hg := (wanted_of rfl rfl (bool_tr e330 hc135)).trans rfl)
    obtain rfl := hs.int 0 rfl
    exact WL.nil ⟨rfl, _, rfl, rfl, hs.cutG 0 1⟩ }
    {
    intro ρ w Γx Λx hs hu hp
    have e331 : ρ 78 = .int .i64 x213.Sum := (hp 14 rfl).1
    have e332 : ρ 80 = .int .i64 x84.Sum := (hp 16 rfl).1
    have e333 : ρ 73 = .bool (x130.Set != x84.Register.Set) := (hp 9 rfl).1
    refine WL.bin (v := .bool (x213.Sum != x84.Sum)) e331 e332 (ib_neq _ _ _) ?_ (hg := (wanted_of rfl rfl (bool_tr e333 hc135)).trans rfl)
    exact WL.nil ⟨rfl, _, rfl, rfl, hs.cutG 0 0⟩ }
    {
    intro ρ w Γx Λx hs hu hp
    have e334 : ρ 73 = .bool (x130.Set != x84.Register.Set) := (hp 9 rfl).1
    have e335 : ρ 81 = .bool (x213.Sum != x84.Sum) := (hp 17 rfl).1
    refine WL.pickF (v := .bool (x213.Sum != x84.Sum)) (bool_tr e334 hc135) e335 ?_
    exact WL.nil ⟨rfl, _, rfl, rfl, hs.cutG 0 0⟩ }
    {
    intro ρ w Γx Λx hs hu hp
    have e336 : ρ 82 = .bool (x213.Sum != x84.Sum) := (hp 18 rfl).1
    refine WL.move (v := .bool (x213.Sum != x84.Sum)) e336 ?_
    exact WL.nil ⟨rfl, _, rfl, rfl, hs.cutG 0 0⟩ }
    {
    intro ρ w Γx Λx hs hu hp
    have e337 : ρ 83 = .bool (x213.Sum != x84.Sum) := (hp 19 rfl).1
    refine WL.move (v := .slice a47 n49 c48) ((hu 9 rfl).trans ((hu107 9 rfl).trans h65_9)) ?_ (hg := (wanted_of rfl rfl (bool_tr e337 hc218)).trans rfl)
    exact WL.nil ⟨rfl, _, rfl, rfl, hs.cutG 0 0⟩ }
    {
    intro ρ w Γx Λx hs hu hp
    have e338 : ρ 83 = .bool (x213.Sum != x84.Sum) := (hp 19 rfl).1
    refine WL.move (v := .int .i64 x66) ((hu 11 rfl).trans ((hu107 11 rfl).trans h65_11)) ?_ (hg := (wanted_of rfl rfl (bool_tr e338 hc218)).trans rfl)
    exact WL.nil ⟨rfl, _, rfl, rfl, hs.cutG 0 0⟩ }
    {
    intro ρ w Γx Λx hs hu hp
    have e339 : ρ 84 = .slice a47 n49 c48 := (hp 20 rfl).1
    have e340 : ρ 85 = .int .i64 x66 := (hp 21 rfl).1
    have e341 : ρ 83 = .bool (x213.Sum != x84.Sum) := (hp 19 rfl).1
    refine WL.indexAddrO hs (Λx.length + 1) (getApp rfl) UN31 TI68 e339 e340 hxx296 (fun ad297 hatad297 => ?_) (hg := (wanted_of rfl rfl (bool_tr e341 hc218)).trans rfl)
    exact WL.nil ⟨rfl, _, rfl, ⟨ad297, rfl, hatad297⟩, hs.cutG 0 0⟩ }
    {
    intro ρ w Γx Λx hs hu hp
    obtain ⟨ad343, e342, hatad343⟩ := (hp 22 rfl).1
    have e342 : ρ 86 = .pointer (some ad343) := e342
    have e344 : ρ 83 = .bool (x213.Sum != x84.Sum) := (hp 19 rfl).1
    refine WL.fieldAddrO (OwnAt.f hatad343) e342 FA68_8 rfl (fun ad298 hatad298 => ?_) (hg := (wanted_of rfl rfl (bool_tr e344 hc218)).trans rfl)
    exact WL.nil ⟨rfl, _, rfl, ⟨ad298, rfl, hatad298⟩, hs.cutG 0 0⟩ }
    {
    intro ρ w Γx Λx hs hu hp
    obtain ⟨ad346, e345, hatad346⟩ := (hp 23 rfl).1
    have e345 : ρ 87 = .pointer (some ad346) := e345
    have e347 : ρ 83 = .bool (x213.Sum != x84.Sum) := (hp 19 rfl).1
    refine WL.loadOF (z := x296.Elems) F_history_Value_Elems hs (Λx.length + 1) (getApp rfl) TI59 (.inr rfl) hatad346 hxx296 e345 rfl (fun v299 hs => ?_) (hg := (wanted_of rfl rfl (bool_tr e347 hc218)).trans rfl)
    obtain ⟨a300, c301, rfl⟩ := hs.slice 0 rfl
    have hs := hs.add (it := vl (tSlice tStr) x296.Elems (.slice a300 (x296.Elems).length c301)) fun ok hA => hA.get 0 rfl
    exact WL.nil ⟨rfl, _, rfl, ⟨(a300, c301), rfl⟩, hs.cutG 1 1⟩ }
    {
    intro ρ w Γx Λx hs hu hp
    have e348 : ρ 83 = .bool (x213.Sum != x84.Sum) := (hp 19 rfl).1
    refine WL.fieldAddr (m := 10) ((hu 12 rfl).trans e109) FA61_5 rfl ?_ (hg := (wanted_of rfl rfl (bool_tr e348 hc218)).trans rfl)
    exact WL.nil ⟨rfl, _, rfl, rfl, hs.cutG 0 0⟩ }
    {
    intro ρ w Γx Λx hs hu hp
    have e349 : ρ 89 = .pointer (some ⟨g108, 10, none⟩) := (hp 25 rfl).1
    have e350 : ρ 83 = .bool (x213.Sum != x84.Sum) := (hp 19 rfl).1
    refine WL.loadF (z := x84.Elems) F_fold_Field_Elems hs (Λx.length + 0) (getApp rfl) (Γx.length + 0) (getApp rfl) rfl TI59 (.inr rfl) e349 rfl (fun v302 hs => ?_) (hg := (wanted_of rfl rfl (bool_tr e350 hc218)).trans rfl)
    obtain ⟨a303, c304, rfl⟩ := hs.slice 0 rfl
    have hs := hs.add (it := vl (tSlice tStr) x84.Elems (.slice a303 (x84.Elems).length c304)) fun ok hA => hA.get 0 rfl
    exact WL.nil ⟨rfl, _, rfl, ⟨(a303, c304), rfl⟩, hs.cutG 1 1⟩ }
    {
    intro ρ w Γx Λx hs hu hp
    obtain ⟨⟨⟨a351, c352⟩, e353r⟩, hm354⟩ := hp 24 rfl
    have e353 : ρ 88 = .slice a351 (x296.Elems).length c352 := e353r
    rw [e353r] at hm354
    have hs := hs.memo1 (it := vl (tSlice tStr) x296.Elems (.slice a351 (x296.Elems).length c352)) (List.mem_append.2 (.inl (hm354 _ (List.mem_of_getElem? (i := 0) rfl))))
    obtain ⟨⟨⟨a355, c356⟩, e357r⟩, hm358⟩ := hp 26 rfl
    have e357 : ρ 90 = .slice a355 (x84.Elems).length c356 := e357r
    rw [e357r] at hm358
    have hs := hs.memo1 (it := vl (tSlice tStr) x84.Elems (.slice a355 (x84.Elems).length c356)) (List.mem_cons_of_mem _ (List.mem_append.2 (.inl (hm358 _ (List.mem_of_getElem? (i := 0) rfl)))))
    have e359 : ρ 83 = .bool (x213.Sum != x84.Sum) := (hp 19 rfl).1
    refine WL.call (vs := [.slice a351 (x296.Elems).length c352, .slice a355 (x84.Elems).length c356]) hs FN34 ⟨e353, ⟨e357, trivial⟩⟩ (fun ok hA => esref32_EqualStrings.calls (x1 := x296.Elems) (x4 := x84.Elems) hxx305 (hA.get 1 rfl) (hA.get 0 rfl)) ?_ (hg := (wanted_of rfl rfl (bool_tr e359 hc218)).trans rfl)
    rintro _ w hs
    exact WL.nil ⟨rfl, _, rfl, rfl, hs.cutG 0 2⟩ }
    {
    intro ρ w Γx Λx hs hu hp
    have e360 : ρ 91 = .bool x305 := (hp 27 rfl).1
    have e361 : ρ 83 = .bool (x213.Sum != x84.Sum) := (hp 19 rfl).1
    refine WL.not e360 ?_ (hg := (wanted_of rfl rfl (bool_tr e361 hc218)).trans rfl)
    exact WL.nil ⟨rfl, _, rfl, rfl, hs.cutG 0 0⟩ }
    {
    intro ρ w Γx Λx hs hu hp
    have e362 : ρ 83 = .bool (x213.Sum != x84.Sum) := (hp 19 rfl).1
    have e363 : ρ 92 = .bool (!x305) := (hp 28 rfl).1
    refine WL.pickF (v := .bool (!x305)) (bool_tr e362 hc218) e363 ?_
    exact WL.nil ⟨rfl, _, rfl, rfl, hs.cutG 0 0⟩ }
    {
    intro ρ w hs hu364 hp
    obtain ⟨⟨⟨⟨⟨⟨⟨⟨⟨⟨⟨⟨⟨⟨⟨⟨⟨⟨⟨⟨⟨⟨⟨⟨⟨⟨⟨⟨⟨⟨_, hp0_⟩, hp1_⟩, hp2_⟩, hp3_⟩, hp4_⟩, hp5_⟩, hp6_⟩, hp7_⟩, hp8_⟩, hp9_⟩, hp10_⟩, hp11_⟩, hp12_⟩, hp13_⟩, hp14_⟩, hp15_⟩, hp16_⟩, hp17_⟩, hp18_⟩, hp19_⟩, hp20_⟩, hp21_⟩, hp22_⟩, hp23_⟩, hp24_⟩, hp25_⟩, hp26_⟩, hp27_⟩, hp28_⟩, hp29_⟩ := hp
    have hs : St ok (bz w0) w [vl (tSlice tStr) x84.Elems (ρ 90), vl (tSlice tStr) x296.Elems (ρ 88), vl t_fold_Field x84 (.agg cs110.toArray), vl t_fold_Object x77 (.agg cs116.toArray), vl t_fold_Store x14 (.agg cs15.toArray)] [blk g108 61 cs110, own t_history_Value 68 (.slice a47 n49 c48) x31, blk g28 50 cs15] := hs
    have e365 : ρ 93 = .bool (!x305) := hp29_
    have e366 : ρ 92 = .bool (!x305) := hp28_
    have e367 : ρ 91 = .bool x305 := hp27_
    obtain ⟨⟨a368, c369⟩, e370⟩ := hp26_
    have e370 : ρ 90 = .slice a368 (x84.Elems).length c369 := e370
    try rw [e370] at hs
    have e371 : ρ 89 = .pointer (some ⟨g108, 10, none⟩) := hp25_
    obtain ⟨⟨a372, c373⟩, e374⟩ := hp24_
    have e374 : ρ 88 = .slice a372 (x296.Elems).length c373 := e374
    try rw [e374] at hs
    have e375 : ρ 85 = .int .i64 x66 := hp21_
    have e376 : ρ 84 = .slice a47 n49 c48 := hp20_
    have e377 : ρ 83 = .bool (x213.Sum != x84.Sum) := hp19_
    have e378 : ρ 82 = .bool (x213.Sum != x84.Sum) := hp18_
    have e379 : ρ 81 = .bool (x213.Sum != x84.Sum) := hp17_
    have e380 : ρ 80 = .int .i64 x84.Sum := hp16_
    have e381 : ρ 79 = .pointer (some ⟨g108, 9, none⟩) := hp15_
    have e382 : ρ 78 = .int .i64 x213.Sum := hp14_
    have e383 : ρ 75 = .int .i64 x66 := hp11_
    have e384 : ρ 74 = .slice a47 n49 c48 := hp10_
    have e385 : ρ 73 = .bool (x130.Set != x84.Register.Set) := hp9_
    have e386 : ρ 72 = .bool (x130.Set != x84.Register.Set) := hp8_
    have e387 : ρ 71 = .bool x84.Register.Set := hp7_
    have e388 : ρ 70 = .pointer (some ⟨g108, 1, none⟩) := hp6_
    have e389 : ρ 69 = .pointer (some ⟨g108, 1, none⟩) := hp5_
    have e390 : ρ 68 = .bool x130.Set := hp4_
    have e391 : ρ 65 = .int .i64 x66 := hp1_
    have e392 : ρ 64 = .slice a47 n49 c48 := hp0_
    refine WA.done (by kernel_rfl) ?_
    exact Jk126 (!x305) _ _ ((hu364 7 rfl).trans ((hu107 7 rfl).trans h65_7)) ((hu364 9 rfl).trans ((hu107 9 rfl).trans h65_9)) ((hu364 11 rfl).trans ((hu107 11 rfl).trans h65_11)) e365 ((hs.mask [false, true, true]).pick [4]) hf } } } } }
    {
    refine W.cond_false (bool_tr rfl hc70) ?_
    refine W.exit ?_
    have hr := Option.some.inj hf; subst hr
    have hr := hbbs67 _ rfl; subst hr
    have hf := hfs67
    exact Jk61  _ _  ((hs.mask []).pick []) hf } }
  refine W.region ?_
  refine WL.move (v := .slice a47 n49 c48) rfl ?_
  refine WL.loadAll hs 3 rfl TI50 (hu41 7 rfl) hl16 ?_
  obtain ⟨x394, hxx394, hf⟩ := bindE hf
  refine WL.call (vs := [.agg cs15.toArray]) hs FN31 ⟨rfl, trivial⟩ (fun ok hA => esref39_Visible.calls (x1 := x14) hxx394 (hA.get 3 rfl)) ?_
  rintro ⟨a395, n396, c397⟩ w hs
  obtain ⟨x398, hxx398, hf⟩ := bindE hf
  refine WL.callL (vs := [.slice a47 x31.length c48, .slice a395 x394.length c397]) hs FN26 ⟨(Eq.trans rfl (sl_len (hs.ownLen 2 rfl))), ⟨(Eq.trans rfl (sl_len (hs.ownLen 0 rfl))), trivial⟩⟩ (esref39_SameValues.calls (x1 := x31) (x4 := x394) hxx398 (hs.ownN 2 rfl) (hs.ownN 0 rfl)) ?_
  rintro _ w hs
  refine WL.not rfl ?_
  refine WL.move (v := .bool (!x398)) rfl ?_
  rcases iteE hf with ⟨hc399, hf⟩ | ⟨hc399, hf⟩
  {
  refine WL.pass ((wanted_of rfl rfl (bool_tr rfl hc399)).trans rfl) rfl ?_
  refine WL.pass ((wanted_of rfl rfl (bool_tr rfl hc399)).trans rfl) rfl ?_
  refine WL.pass ((wanted_of rfl rfl (bool_tr rfl hc399)).trans rfl) rfl ?_
  refine WL.pass ((wanted_of rfl rfl (bool_tr rfl hc399)).trans rfl) rfl ?_
  refine WL.pass ((wanted_of rfl rfl (bool_tr rfl hc399)).trans rfl) rfl ?_
  refine WL.pass ((wanted_of rfl rfl (bool_tr rfl hc399)).trans rfl) rfl ?_
  refine WL.pass ((wanted_of rfl rfl (bool_tr rfl hc399)).trans rfl) rfl ?_
  refine WL.pickT (v := .bool true) (bool_tr rfl hc399) rfl ?_
  refine WL.move (v := .bool true) rfl ?_
  refine WL.pass ((wanted_of rfl rfl rfl).trans rfl) rfl ?_
  refine WL.pass ((wanted_of rfl rfl rfl).trans rfl) rfl ?_
  refine WL.pass ((wanted_of rfl rfl rfl).trans rfl) rfl ?_
  refine WL.pass ((wanted_of rfl rfl rfl).trans rfl) rfl ?_
  refine WL.pickT (v := .bool true) rfl rfl ?_
  refine WL.nil ?_
  exact Jk56 true _ _ (hu41 7 rfl) rfl rfl ((hs.mask [false, false, true, false, true]).pick [3]) hf }
  {
  refine WL.move (v := .slice a47 n49 c48) rfl ?_ (hg := (wanted_of rfl rfl (bool_tr rfl hc399)).trans rfl)
  refine WL.move (v := .slice a42 n44 c43) rfl ?_ (hg := (wanted_of rfl rfl (bool_tr rfl hc399)).trans rfl)
  obtain ⟨x400, hxx400, hf⟩ := bindE hf
  refine WL.callL (vs := [.slice a47 x31.length c48, .slice a42 x35.length c43]) hs FN25 ⟨(Eq.trans rfl (sl_len (hs.ownLen 2 rfl))), ⟨(Eq.trans rfl (sl_len (hs.ownLen 1 rfl))), trivial⟩⟩ (history_SameValues.calls (x1 := x31) (x4 := x35) hxx400 (hs.ownN 2 rfl) (hs.ownN 1 rfl)) ?_ (hg := (wanted_of rfl rfl (bool_tr rfl hc399)).trans rfl)
  rintro _ w hs
  refine WL.move (v := .slice a47 n49 c48) rfl ?_ (hg := (wanted_of rfl rfl (bool_tr rfl hc399)).trans rfl)
  refine WL.move (v := .slice a42 n44 c43) rfl ?_ (hg := (wanted_of rfl rfl (bool_tr rfl hc399)).trans rfl)
  obtain ⟨x401, hxx401, hf⟩ := bindE hf
  refine WL.callL (vs := [.slice a47 x31.length c48, .slice a42 x35.length c43]) hs FN26 ⟨(Eq.trans rfl (sl_len (hs.ownLen 2 rfl))), ⟨(Eq.trans rfl (sl_len (hs.ownLen 1 rfl))), trivial⟩⟩ (esref39_SameValues.calls (x1 := x31) (x4 := x35) hxx401 (hs.ownN 2 rfl) (hs.ownN 1 rfl)) ?_ (hg := (wanted_of rfl rfl (bool_tr rfl hc399)).trans rfl)
  rintro _ w hs
  refine WL.neB UN4 rfl rfl ?_ (hg := (wanted_of rfl rfl (bool_tr rfl hc399)).trans rfl)
  refine WL.pickF (v := .bool (x400 != x401)) (bool_tr rfl hc399) rfl ?_
  refine WL.move (v := .bool (x400 != x401)) rfl ?_
  rcases iteE hf with ⟨hc402, hf⟩ | ⟨hc402, hf⟩
  {
  refine WL.pass ((wanted_of rfl rfl (bool_tr rfl hc402)).trans rfl) rfl ?_
  refine WL.pass ((wanted_of rfl rfl (bool_tr rfl hc402)).trans rfl) rfl ?_
  refine WL.pass ((wanted_of rfl rfl (bool_tr rfl hc402)).trans rfl) rfl ?_
  refine WL.pass ((wanted_of rfl rfl (bool_tr rfl hc402)).trans rfl) rfl ?_
  refine WL.pickT (v := .bool true) (bool_tr rfl hc402) rfl ?_
  refine WL.nil ?_
  exact Jk56 true _ _ (hu41 7 rfl) rfl rfl ((hs.mask [false, false, true, false, true]).pick [3]) hf }
  {
  refine WL.move (v := .slice a47 n49 c48) rfl ?_ (hg := (wanted_of rfl rfl (bool_tr rfl hc402)).trans rfl)
  refine WL.move (v := .slice a47 n49 c48) rfl ?_ (hg := (wanted_of rfl rfl (bool_tr rfl hc402)).trans rfl)
  obtain ⟨x403, hxx403, hf⟩ := bindE hf
  refine WL.callL (vs := [.slice a47 x31.length c48, .slice a47 x31.length c48]) hs FN25 ⟨(Eq.trans rfl (sl_len (hs.ownLen 2 rfl))), ⟨(Eq.trans rfl (sl_len (hs.ownLen 2 rfl))), trivial⟩⟩ (history_SameValues.calls (x1 := x31) (x4 := x31) hxx403 (hs.ownN 2 rfl) (hs.ownN 2 rfl)) ?_ (hg := (wanted_of rfl rfl (bool_tr rfl hc402)).trans rfl)
  rintro _ w hs
  refine WL.not rfl ?_ (hg := (wanted_of rfl rfl (bool_tr rfl hc402)).trans rfl)
  refine WL.pickF (v := .bool (!x403)) (bool_tr rfl hc402) rfl ?_
  refine WL.nil ?_
  exact Jk56 (!x403) _ _ (hu41 7 rfl) rfl rfl ((hs.mask [false, false, true, false, true]).pick [3]) hf } } }


end Go.Proofs.Ytbbeobiampbddaa
set_option linter.unusedVariables false
set_option linter.unusedSimpArgs false
namespace Go.Proofs.YtbbeobiampbddaaL
open Go

theorem w64 {x : Int} (h1 : -9223372036854775808 ≤ x) (h2 : x ≤ 9223372036854775807) : IntKind.i64.wrap x = x := by
  simp only [IntKind.wrap, IntKind.bits, IntKind.signed]; simp; split <;> omega
theorem w64n {k : Nat} (h : k < 9223372036854775807) : IntKind.i64.wrap ((k : Int) + 1) = ((k + 1 : Nat) : Int) := by
  rw [w64 (by omega) (by omega)]; omega
theorem idx_nat {α : Type} {xs : List α} {k : Nat} (h : k < xs.length) : idx xs (k : Int) = some xs[k] := by
  unfold idx
  rw [if_pos (by omega)]
  simp [h]
theorem idx_zero {α : Type} {x : α} {xs : List α} : idx (x :: xs) 0 = some x := rfl
theorem app_of {α : Type} {b : Nat} {xs ys : List α} (h : (xs.length + ys.length) * b ≤ 140737488355328) : app b xs ys = some (xs ++ ys) := if_pos h
theorem letV_of {α β : Type} (e : α) (f : α → Option β) : letV e f = f e := rfl
theorem loopO_up {σ β : Type} {step : σ → Option (σ ⊕ β)} (f : Nat → σ) (n : Nat) {b : β} (hs : ∀ k, k < n → step (f k) = some (.inl (f (k + 1)))) (he : step (f n) = some (.inr b)) : loopO step (f 0) = some b := by
  have : ∀ m k, k + m = n → loopO step (f k) = some b := by
    intro m
    induction m with
    | zero => intro k hk; have : k = n := by omega
              subst this; exact loopO_done he
    | succ m ih => intro k hk; rw [loopO_next (hs k (by omega))]; exact ih (k + 1) (by omega)
  exact this n 0 (by omega)
theorem loopO_inv {σ β : Type} {step : σ → Option (σ ⊕ β)} (I : Nat → σ → Prop) (n : Nat) {s0 : σ} {Q : β → Prop} (h0 : I 0 s0)
    (hs : ∀ k s, k < n → I k s → ∃ s', step s = some (.inl s') ∧ I (k + 1) s') (he : ∀ s, I n s → ∃ b, step s = some (.inr b) ∧ Q b) : ∃ b, loopO step s0 = some b ∧ Q b := by
  have : ∀ m k s, k + m = n → I k s → ∃ b, loopO step s = some b ∧ Q b := by
    intro m
    induction m with
    | zero =>
      intro k s hk hI
      have : k = n := by omega
      subst this
      obtain ⟨b, h1, h2⟩ := he s hI
      exact ⟨b, loopO_done h1, h2⟩
    | succ m ih =>
      intro k s hk hI
      obtain ⟨s', h1, h2⟩ := hs k s (by omega) hI
      rw [loopO_next h1]
      exact ih (k + 1) s' (by omega) h2
  exact this n 0 s0 (by omega) h0
theorem loopO_ex {σ β : Type} {step : σ → Option (σ ⊕ β)} (I : Nat → σ → Prop) (n : Nat) {s0 : σ} {Q : β → Prop} (h0 : I 0 s0)
    (hs : ∀ k s, k < n → I k s → (∃ s', step s = some (.inl s') ∧ I (k + 1) s') ∨ ∃ b, step s = some (.inr b) ∧ Q b) (he : ∀ s, I n s → ∃ b, step s = some (.inr b) ∧ Q b) : ∃ b, loopO step s0 = some b ∧ Q b := by
  have : ∀ m k s, k + m = n → I k s → ∃ b, loopO step s = some b ∧ Q b := by
    intro m
    induction m with
    | zero =>
      intro k s hk hI
      have : k = n := by omega
      subst this
      obtain ⟨b, h1, h2⟩ := he s hI
      exact ⟨b, loopO_done h1, h2⟩
    | succ m ih =>
      intro k s hk hI
      rcases hs k s (by omega) hI with ⟨s', h1, h2⟩ | ⟨b, h1, h2⟩
      · rw [loopO_next h1]
        exact ih (k + 1) s' (by omega) h2
      · exact ⟨b, loopO_done h1, h2⟩
  exact this n 0 s0 (by omega) h0
theorem loopO_mu {σ β : Type} {step : σ → Option (σ ⊕ β)} (I : σ → Prop) (μ : σ → Nat) {s0 : σ} {Q : β → Prop} (h0 : I s0)
    (hs : ∀ s, I s → (∃ s', step s = some (.inl s') ∧ I s' ∧ μ s' < μ s) ∨ ∃ b, step s = some (.inr b) ∧ Q b) : ∃ b, loopO step s0 = some b ∧ Q b := by
  have : ∀ m s, μ s ≤ m → I s → ∃ b, loopO step s = some b ∧ Q b := by
    intro m
    induction m with
    | zero =>
      intro s hm hI
      rcases hs s hI with ⟨s', _, _, h3⟩ | ⟨b, h1, h2⟩
      · omega
      · exact ⟨b, loopO_done h1, h2⟩
    | succ m ih =>
      intro s hm hI
      rcases hs s hI with ⟨s', h1, h2, h3⟩ | ⟨b, h1, h2⟩
      · rw [loopO_next h1]
        exact ih s' (by omega) h2
      · exact ⟨b, loopO_done h1, h2⟩
  exact this _ s0 (Nat.le_refl _) h0
theorem take_snoc {α : Type} {xs : List α} {k : Nat} (h : k < xs.length) : xs.take (k + 1) = xs.take k ++ [xs[k]] := by
  rw [List.take_succ_eq_append_getElem h]
theorem foldO_app {κ σ β : Type} {step : κ → σ → Option (σ ⊕ β)} {g : κ → σ → σ} (hs : ∀ k s, step k s = some (.inl (g k s))) : ∀ (l : List κ) (s : σ), foldO step l s = some (.inl (l.foldl (fun s k => g k s) s))
  | [], s => rfl
  | k :: l, s => by rw [foldO, hs]; exact foldO_app hs l (g k s)
theorem mset_keys {κ β : Type} [BEq κ] [LawfulBEq κ] (k : κ) (y : β) : ∀ l : List (κ × β), (l.map (·.1)).Nodup → ((mset l k y).map (·.1)).Nodup ∧ ∀ x, x ∈ (mset l k y).map (·.1) → x = k ∨ x ∈ l.map (·.1)
  | [], _ => by simp [mset]
  | e :: l, h => by
    simp only [List.map_cons, List.nodup_cons] at h
    unfold mset
    by_cases hk : k == e.1
    · rw [if_pos hk]
      simp only [List.map_cons, List.nodup_cons]
      exact ⟨h, fun x hx => .inr hx⟩
    · rw [if_neg hk]
      obtain ⟨h1, h2⟩ := mset_keys k y l h.2
      simp only [List.map_cons, List.nodup_cons]
      refine ⟨⟨fun hm => ?_, h1⟩, fun x hx => ?_⟩
      · rcases h2 _ hm with h3 | h3
        · exact hk (by simp [h3])
        · exact h.1 h3
      · rcases List.mem_cons.1 hx with hx | hx
        · exact .inr (List.mem_cons.2 (.inl hx))
        · rcases h2 x hx with h3 | h3
          · exact .inl h3
          · exact .inr (List.mem_cons.2 (.inr h3))
theorem mset_length {κ β : Type} [BEq κ] (k : κ) (y : β) : ∀ l : List (κ × β), (mset l k y).length ≤ l.length + 1
  | [] => by simp [mset]
  | e :: l => by
    unfold mset
    split
    · simp
    · have := mset_length k y l
      simp only [List.length_cons]
      omega
theorem mset_lookup {κ β : Type} [BEq κ] [LawfulBEq κ] (k : κ) (y : β) (x : κ) : ∀ l : List (κ × β), (mset l k y).lookup x = if x == k then some y else l.lookup x
  | [] => by
    simp only [mset, List.lookup]
    cases h : x == k <;> simp
  | e :: l => by
    unfold mset
    by_cases hk : k == e.1
    · rw [if_pos hk]
      have he : k = e.1 := by simpa using hk
      simp only [List.lookup, ← he]
      cases h : x == k <;> simp
    · rw [if_neg hk]
      have ih := mset_lookup k y x l
      simp only [List.lookup]
      cases h : x == e.1 with
      | true =>
        have : (x == k) = false := by
          have hx : x = e.1 := by simpa using h
          rw [hx]
          cases h2 : e.1 == k with
          | false => rfl
          | true => have : e.1 = k := by simpa using h2
                    exact absurd (by simp [this]) hk
        simp [this]
      | false => simpa using ih
end Go.Proofs.YtbbeobiampbddaaL
set_option linter.unusedVariables false
set_option linter.unusedSimpArgs false
namespace Go.Proofs.YtbbeobiampbddaaL
open Go

def runL {α σ β : Type} (g : Nat → α → σ → Option (σ ⊕ β)) (fin : σ → Option β) : Nat → List α → σ → Option β
  | _, [], s => fin s
  | i, x :: xs, s => match g i x s with
    | none => none
    | some (.inl s') => runL g fin (i + 1) xs s'
    | some (.inr b) => some b
theorem loopO_runL {α σ τ β : Type} {step : τ → Option (τ ⊕ β)} (pack : Nat → σ → τ) (g : Nat → α → σ → Option (σ ⊕ β)) (fin : σ → Option β) (xs : List α)
    (hs : ∀ k (hk : k < xs.length) s, step (pack k s) = match g k xs[k] s with | none => none | some (.inl s') => some (.inl (pack (k + 1) s')) | some (.inr b) => some (.inr b))
    (he : ∀ s, step (pack xs.length s) = (fin s).map .inr) (s : σ) : loopO step (pack 0 s) = runL g fin 0 xs s := by
  have : ∀ m k s, k + m = xs.length → loopO step (pack k s) = runL g fin k (xs.drop k) s := by
    intro m
    induction m with
    | zero =>
      intro k s hk
      have hk : k = xs.length := by omega
      subst hk
      rw [List.drop_length, runL, loopO_unfold, he]
      cases fin s <;> rfl
    | succ m ih =>
      intro k s hk
      have hk' : k < xs.length := by omega
      rw [List.drop_eq_getElem_cons hk', runL, loopO_unfold, hs k hk']
      cases g k xs[k] s with
      | none => rfl
      | some o =>
        cases o with
        | inl s' => exact ih (k + 1) s' (by omega)
        | inr b => rfl
  have h := this xs.length 0 s (by omega)
  rwa [List.drop_zero] at h
theorem loopO_congr {σ β : Type} {f g : σ → Option (σ ⊕ β)} (h : ∀ s, f s = g s) (s : σ) : loopO f s = loopO g s := by
  rw [show f = g from funext h]
theorem lt_of_len {k n : Nat} (h : k < n) : decide ((k : Int) < (n : Int)) = true := by simpa using h
theorem not_lt_len {n : Nat} : decide ((n : Int) < (n : Int)) = false := by simp
theorem wcast {k n : Nat} (hk : k < n) (h : n ≤ 4611686018427387904) : IntKind.i64.wrap ((k : Int) + 1) = ((k + 1 : Nat) : Int) := w64n (by omega)
end Go.Proofs.YtbbeobiampbddaaL
