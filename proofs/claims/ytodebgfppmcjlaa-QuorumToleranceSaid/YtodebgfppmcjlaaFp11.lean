import Derived.Test.YtodebgfppmcjlaaFh
import Derived.Test.YtodebgfppmcjlaaLt
import Derived.Test.YtodebgfppmcjlaaFp0
import Derived.Test.YtodebgfppmcjlaaFp4
import Derived.Test.YtodebgfppmcjlaaFp7
import Derived.Test.YtodebgfppmcjlaaFp9
set_option linter.unusedVariables false
set_option linter.unusedSimpArgs false
namespace Go.Proofs.Ytodebgfppmcjlaa
open Go Go.RowKit Go.Proofs.YtodebgfppmcjlaaL
set_option maxRecDepth 100000
set_option maxHeartbeats 4000000
/-! elasticstore/elasticstoreref06.bits: function 45 -/
theorem esref06_bits.calls {ok : Nat → Prop} {w0 : World} {x1 : Int}  {r : Int} (hf : esref06_bits x1 = some r)  :
    Calls Try.prog 45 #[.int .i64 x1] w0 fun e w' => ∃ v, e = .returned v ∧ ∃ y : Unit, v = .int .i64 r ∧ St ok (bz w0) w' [] [] := by
  unfold esref06_bits at hf
  refine calls_of_W (fn := Try.f45) (N := 13) Try.func45 rfl Try.ntmps45 rfl ?_
  have hs : St ok (bz w0) w0 [] [] := St.init All.nil
  refine W.seqK fun K2 hK2 => ?_
  refine W.region ?_
  refine WL.assign (v := .int .i64 0) rfl ?_
  refine WL.nil ?_
  refine hK2 _ _ ?_
  refine W.seqK fun K3 hK3 => ?_
  refine W.region ?_
  refine WL.assign (v := .int .i64 0) rfl ?_
  refine WL.nil ?_
  refine hK3 _ _ ?_
  refine W.seqK fun K4 hK4 => ?_
  have Jk7 : ∀ (x6 : Int) (ρ : Env) (w : World), ρ 3 = .int .i64 x6 → St ok (bz w0) w [] [] → esref06_bits.j1 x6 = some r → K4 ρ w := by
    intro x6 ρ w h5_3 hs hf
    refine hK4 _ _ ?_
    unfold esref06_bits.j1 at hf
    refine W.seqK fun K8 hK8 => ?_
    refine W.region ?_
    refine WL.move (v := .int .i64 x6) h5_3 ?_
    refine WL.assign (v := .int .i64 x6) rfl ?_
    refine WL.nil ?_
    refine hK8 _ _ ?_
    refine W.ret ?_
    have hr := Option.some.inj hf; subst hr
    exact ⟨_, resOk_one rfl rfl, (), rfl, (hs.mask []).pick []⟩
  refine W.block ?_
  obtain ⟨bs12, hbs12, hfs12⟩ := bindE hf
  refine W.loop hbs12 (fun s ρ w => match s with | (x10, x11) => ρ 0 = .int .i64 x10 ∧ ρ 3 = .int .i64 x11 ∧ St ok (bz w0) w [] []) ⟨rfl, rfl, (hs.mask []).pick []⟩ ?_
  intro s ρ w os12 hI hf hbbs12
  obtain ⟨x10, x11⟩ := s
  obtain ⟨h9_0, h9_3, hs⟩ := hI
  unfold esref06_bits.l1 at hf
  refine W.seqK fun K13 hK13 => ?_
  refine W.seqK fun K14 hK14 => ?_
  refine W.region ?_
  refine WL.move (v := .int .i64 x10) h9_0 ?_
  refine WL.bin (v := .bool (decide (0 < x10))) rfl rfl (ib_gtr _ _ _) ?_
  refine WL.nil ?_
  refine hK14 _ _ ?_
  rcases iteE hf with ⟨hc15, hf⟩ | ⟨hc15, hf⟩
  · refine W.cond_true (bool_tr rfl hc15) ?_
    refine W.skip ?_
    refine hK13 _ _ ?_
    refine W.block ?_
    refine W.seqK fun K16 hK16 => ?_
    refine W.region ?_
    refine WL.move (v := .int .i64 x11) h9_3 ?_
    refine WL.move (v := .int .i64 x10) h9_0 ?_
    refine WL.bin (v := .int .i64 (Int.tmod x10 2)) rfl rfl (ib_rem _ _ _ (by decide)) ?_
    obtain ⟨x17, ex17, hf⟩ := letE hf
    refine WL.bin (v := .int .i64 x17) rfl rfl (ib_as ex17 (ib_add _ _ _)) ?_
    refine WL.assign (v := .int .i64 x17) rfl ?_
    refine WL.nil ?_
    refine hK16 _ _ ?_
    refine W.region ?_
    refine WL.move (v := .int .i64 x10) h9_0 ?_
    obtain ⟨x18, ex18, hf⟩ := letE hf
    refine WL.bin (v := .int .i64 x18) rfl rfl (ib_as ex18 (ib_quo _ _ _ (by decide))) ?_
    refine WL.assign (v := .int .i64 x18) rfl ?_
    refine WL.nil ?_
    exact ⟨_, (Option.some.inj hf).symm, rfl, rfl, (hs.mask []).pick []⟩
  · refine W.cond_false (bool_tr rfl hc15) ?_
    refine W.exit ?_
    have hr := Option.some.inj hf; subst hr
    have hr := hbbs12 _ rfl; subst hr
    have hf := hfs12
    exact Jk7 x11 _ _ h9_3 ((hs.mask []).pick []) hf
/-! elasticstore/elasticstoreref06.Tolerance: function 28 -/
theorem esref06_Tolerance.calls {ok : Nat → Prop} {w0 : World} {x1 : api_View} {v2 : Value} {r : Int} (hf : esref06_Tolerance x1 = some r) (i0 : (vl t_api_View x1 v2).holds ok w0) :
    Calls Try.prog 28 #[v2] w0 fun e w' => ∃ v, e = .returned v ∧ ∃ y : Unit, v = .int .i64 r ∧ St ok (bz w0) w' [] [] := by
  unfold esref06_Tolerance at hf
  refine calls_of_W (fn := Try.f28) (N := 35) Try.func28 rfl Try.ntmps28 rfl ?_
  have hs : St ok (bz w0) w0 [vl t_api_View x1 v2] [] := St.init (All.cons i0 All.nil)
  clear i0
  obtain ⟨cs3, hl4, rfl⟩ := hs.aggv (n := 4) 0 rfl rfl rfl
  refine W.seqK fun K5 hK5 => ?_
  refine W.region ?_
  refine WL.box (vs := cs3) hs rfl rfl (fun g6 w hs => ?_)
  refine WL.assign (v := .int .i64 0) rfl ?_
  refine WL.nil ?_
  refine hK5 _ _ ?_
  refine W.seqK fun K7 hK7 => ?_
  refine W.region ?_
  refine WL.fieldAddr (m := 0) rfl FA26_0 rfl ?_
  refine WL.loadF (z := x1.Members) F_api_View_Members hs 0 rfl 0 rfl rfl TI24 (.inr rfl) rfl rfl (fun v8 hs => ?_)
  obtain ⟨a9, c10, rfl⟩ := hs.slice 0 rfl
  refine WL.len (v := .slice a9 (x1.Members).length c10) rfl (len_slice UN24) ?_
  refine WL.assign (v := .int .i64 ((x1.Members).length : Int)) rfl ?_
  refine WL.nil ?_
  refine hK7 _ _ ?_
  refine W.seqK fun K11 hK11 => ?_
  refine W.region ?_
  refine WL.move (v := .int .i64 ((x1.Members).length : Int)) rfl ?_
  obtain ⟨x12, ex12, hf⟩ := letE hf
  refine WL.bin (v := .int .i64 x12) rfl rfl (ib_as ex12 (ib_add _ _ _)) ?_
  refine WL.assign (v := .int .i64 x12) rfl ?_
  refine WL.nil ?_
  refine hK11 _ _ ?_
  refine W.seqK fun K13 hK13 => ?_
  have Jk16 : ∀ (x15 : Int) (ρ : Env) (w : World), ρ 4 = .int .i64 x15 → St ok (bz w0) w [] [] → esref06_Tolerance.j1 x15 = some r → K13 ρ w := by
    intro x15 ρ w h14_4 hs hf
    refine hK13 _ _ ?_
    unfold esref06_Tolerance.j1 at hf
    refine W.seqK fun K17 hK17 => ?_
    refine W.region ?_
    refine WL.move (v := .int .i64 x15) h14_4 ?_
    obtain ⟨x18, ex18, hf⟩ := letE hf
    refine WL.bin (v := .int .i64 x18) rfl rfl (ib_as ex18 (ib_sub _ _ _)) ?_
    refine WL.assign (v := .int .i64 x18) rfl ?_
    refine WL.nil ?_
    refine hK17 _ _ ?_
    refine W.ret ?_
    have hr := Option.some.inj hf; subst hr
    exact ⟨_, resOk_one rfl rfl, (), rfl, (hs.mask []).pick []⟩
  refine W.seqK fun K19 hK19 => ?_
  refine W.region ?_
  refine WL.assign (v := .int .i64 0) rfl ?_
  refine WL.nil ?_
  refine hK19 _ _ ?_
  refine W.block ?_
  obtain ⟨bs23, hbs23, hfs23⟩ := bindE hf
  refine W.loop hbs23 (fun s ρ w => match s with | (x21, x22) => ρ 1 = .pointer (some ⟨g6, 0, none⟩) ∧ ρ 3 = .int .i64 ((x1.Members).length : Int) ∧ ρ 4 = .int .i64 x21 ∧ ρ 5 = .int .i64 x22 ∧ St ok (bz w0) w [vl t_api_View x1 (.agg cs3.toArray)] [blk g6 26 cs3]) ⟨rfl, rfl, rfl, rfl, (hs.mask [true]).pick [1]⟩ ?_
  intro s ρ w os23 hI hf hbbs23
  obtain ⟨x21, x22⟩ := s
  obtain ⟨h20_1, h20_3, h20_4, h20_5, hs⟩ := hI
  unfold esref06_Tolerance.l1 at hf
  refine W.seqK fun K24 hK24 => ?_
  refine W.seqK fun K25 hK25 => ?_
  refine W.region ?_
  refine WL.move (v := .int .i64 x22) h20_5 ?_
  refine WL.move (v := .int .i64 ((x1.Members).length : Int)) h20_3 ?_
  obtain ⟨x26, ex26, hf⟩ := letE hf
  refine WL.convI_ UN3 UN56 rfl ex26 ?_
  obtain ⟨hn27, hf⟩ := guardE hf
  refine WL.shl rfl rfl hn27 ?_
  refine WL.bin (v := .bool (decide (x22 < shlI .i64 1 x26))) rfl rfl (ib_lss _ _ _) ?_
  refine WL.nil ?_
  refine hK25 _ _ ?_
  rcases iteE hf with ⟨hc28, hf⟩ | ⟨hc28, hf⟩
  · refine W.cond_true (bool_tr rfl hc28) ?_
    refine W.skip ?_
    refine hK24 _ _ ?_
    refine W.seqK fun K29 hK29 => ?_
    have Jk32 : ∀ (x31 : Int) (ρ : Env) (w : World), ρ 1 = .pointer (some ⟨g6, 0, none⟩) → ρ 3 = .int .i64 ((x1.Members).length : Int) → ρ 4 = .int .i64 x31 → ρ 5 = .int .i64 x22 → St ok (bz w0) w [vl t_api_View x1 (.agg cs3.toArray)] [blk g6 26 cs3] → esref06_Tolerance.j2 x22 x31 = some os23 → K29 ρ w := by
      intro x31 ρ w h30_1 h30_3 h30_4 h30_5 hs hf
      refine hK29 _ _ ?_
      unfold esref06_Tolerance.j2 at hf
      refine W.region ?_
      refine WL.move (v := .int .i64 x22) h30_5 ?_
      obtain ⟨x33, ex33, hf⟩ := letE hf
      refine WL.bin (v := .int .i64 x33) rfl rfl (ib_as ex33 (ib_add _ _ _)) ?_
      refine WL.assign (v := .int .i64 x33) rfl ?_
      refine WL.nil ?_
      exact ⟨_, (Option.some.inj hf).symm, h30_1, h30_3, h30_4, rfl, (hs.mask [true]).pick [0]⟩
    refine W.block ?_
    refine W.seqK fun K34 hK34 => ?_
    obtain ⟨x35, ex35, hf⟩ := letE hf
    obtain ⟨hn36, hf⟩ := guardE hf
    obtain ⟨x37, ex37, hf⟩ := letE hf
    obtain ⟨x38, ex38, hf⟩ := letE hf
    obtain ⟨x39, hxx39, hf⟩ := bindE hf
    obtain ⟨x42, hxx42, hf⟩ := bindE hf
    refine W.any (by kernel_rfl) 11 0 [true, true, true, true, true, true, true, true, true, true, true] rfl rfl (poAt [pv (.agg cs3.toArray), pv (.agg cs3.toArray), pv (.int .i64 ((x1.Members).length : Int)), pv (.int .u64 x35), pv (.int .i64 (shlI .i64 1 x35)), pv (.int .i64 x37), pv (.int .i64 x22), pv (.int .i64 x38), pq (fun y : (Option Addr × Nat) => .slice y.1 x39.length y.2) (fun v => [vl (tSlice (tInt .i64)) x39 v]) (fun v => []), pv (.bool x42), pv (.bool (!x42))]) (Λ := [blk g6 26 cs3]) hs (by kernel_rfl) (by kernel_rfl) (by kernel_rfl) ⟨⟨⟨⟨⟨⟨⟨⟨⟨⟨⟨trivial, ?_⟩, ?_⟩, ?_⟩, ?_⟩, ?_⟩, ?_⟩, ?_⟩, ?_⟩, ?_⟩, ?_⟩, ?_⟩ ?_
    · intro ρ w Γx Λx hs hu hp
      refine WL.loadAll hs (Λx.length + 0) (getApp rfl) TI26 ((hu 1 rfl).trans h20_1) hl4 ?_
      exact WL.nil ⟨rfl, _, rfl, rfl, hs.cutG 0 0⟩
    · intro ρ w Γx Λx hs hu hp
      refine WL.loadAll hs (Λx.length + 0) (getApp rfl) TI26 ((hu 1 rfl).trans h20_1) hl4 ?_
      exact WL.nil ⟨rfl, _, rfl, rfl, hs.cutG 0 0⟩
    · intro ρ w Γx Λx hs hu hp
      refine WL.move (v := .int .i64 ((x1.Members).length : Int)) ((hu 3 rfl).trans h20_3) ?_
      exact WL.nil ⟨rfl, _, rfl, rfl, hs.cutG 0 0⟩
    · intro ρ w Γx Λx hs hu hp
      have e43 : ρ 20 = .int .i64 ((x1.Members).length : Int) := (hp 2 rfl).1
      refine WL.convI_ UN3 UN56 e43 ex35 ?_
      exact WL.nil ⟨rfl, _, rfl, rfl, hs.cutG 0 0⟩
    · intro ρ w Γx Λx hs hu hp
      have e44 : ρ 21 = .int .u64 x35 := (hp 3 rfl).1
      refine WL.shl rfl e44 hn36 ?_
      exact WL.nil ⟨rfl, _, rfl, rfl, hs.cutG 0 0⟩
    · intro ρ w Γx Λx hs hu hp
      have e45 : ρ 22 = .int .i64 (shlI .i64 1 x35) := (hp 4 rfl).1
      refine WL.bin (v := .int .i64 x37) e45 rfl (ib_as ex37 (ib_sub _ _ _)) ?_
      exact WL.nil ⟨rfl, _, rfl, rfl, hs.cutG 0 0⟩
    · intro ρ w Γx Λx hs hu hp
      refine WL.move (v := .int .i64 x22) ((hu 5 rfl).trans h20_5) ?_
      exact WL.nil ⟨rfl, _, rfl, rfl, hs.cutG 0 0⟩
    · intro ρ w Γx Λx hs hu hp
      have e46 : ρ 23 = .int .i64 x37 := (hp 5 rfl).1
      have e47 : ρ 24 = .int .i64 x22 := (hp 6 rfl).1
      refine WL.bin (v := .int .i64 x38) e46 e47 (ib_as ex38 (ib_sub _ _ _)) ?_
      exact WL.nil ⟨rfl, _, rfl, rfl, hs.cutG 0 0⟩
    · intro ρ w Γx Λx hs hu hp
      have e48 : ρ 19 = .agg cs3.toArray := (hp 1 rfl).1
      have e49 : ρ 25 = .int .i64 x38 := (hp 7 rfl).1
      refine WL.call (vs := [.agg cs3.toArray, .int .i64 x38]) hs FN38 ⟨e48, ⟨e49, trivial⟩⟩ (fun ok hA => esref06_subset.callc (x1 := x1) (x5 := x38) hxx39 (hA.get (Γx.length + 0) (getApp rfl))) ?_
      rintro ⟨a40, c41⟩ w hs
      have hs := hs.add (it := vl (tSlice (tInt .i64)) x39 (.slice a40 x39.length c41)) fun ok hA => hA.get 0 rfl
      exact WL.nil ⟨rfl, _, rfl, ⟨(a40, c41), rfl⟩, hs.cutG 1 1⟩
    · intro ρ w Γx Λx hs hu hp
      have e50 : ρ 18 = .agg cs3.toArray := (hp 0 rfl).1
      obtain ⟨⟨⟨a51, c52⟩, e53r⟩, hm54⟩ := hp 8 rfl
      have e53 : ρ 26 = .slice a51 x39.length c52 := e53r
      rw [e53r] at hm54
      have hs := hs.memo1 (it := vl (tSlice (tInt .i64)) x39 (.slice a51 x39.length c52)) (List.mem_append.2 (.inl (hm54 _ (List.mem_of_getElem? (i := 0) rfl))))
      refine WL.call (vs := [.agg cs3.toArray, .slice a51 x39.length c52]) hs FN19 ⟨e50, ⟨e53, trivial⟩⟩ (fun ok hA => esref06_IsQuorum.calls (x1 := x1) (x5 := x39) hxx42 (hA.get (Γx.length + 0 + 1) (getApp1 rfl)) (hA.get 0 rfl)) ?_
      rintro _ w hs
      exact WL.nil ⟨rfl, _, rfl, rfl, hs.cutG 0 1⟩
    · intro ρ w Γx Λx hs hu hp
      have e55 : ρ 27 = .bool x42 := (hp 9 rfl).1
      refine WL.not e55 ?_
      exact WL.nil ⟨rfl, _, rfl, rfl, hs.cutG 0 0⟩
    · intro ρ w hs hu56 hp
      obtain ⟨⟨⟨⟨⟨⟨⟨⟨⟨⟨⟨_, hp0_⟩, hp1_⟩, hp2_⟩, hp3_⟩, hp4_⟩, hp5_⟩, hp6_⟩, hp7_⟩, hp8_⟩, hp9_⟩, hp10_⟩ := hp
      have hs : St ok (bz w0) w [vl (tSlice (tInt .i64)) x39 (ρ 26), vl t_api_View x1 (.agg cs3.toArray)] [blk g6 26 cs3] := hs
      have e57 : ρ 28 = .bool (!x42) := hp10_
      have e58 : ρ 27 = .bool x42 := hp9_
      obtain ⟨⟨a59, c60⟩, e61⟩ := hp8_
      have e61 : ρ 26 = .slice a59 x39.length c60 := e61
      try rw [e61] at hs
      have e62 : ρ 25 = .int .i64 x38 := hp7_
      have e63 : ρ 24 = .int .i64 x22 := hp6_
      have e64 : ρ 23 = .int .i64 x37 := hp5_
      have e65 : ρ 22 = .int .i64 (shlI .i64 1 x35) := hp4_
      have e66 : ρ 21 = .int .u64 x35 := hp3_
      have e67 : ρ 20 = .int .i64 ((x1.Members).length : Int) := hp2_
      have e68 : ρ 19 = .agg cs3.toArray := hp1_
      have e69 : ρ 18 = .agg cs3.toArray := hp0_
      refine WA.done (by kernel_rfl) ?_
      refine hK34 _ _ ?_
      rcases iteE hf with ⟨hc70, hf⟩ | ⟨hc70, hf⟩
      · refine W.cond_true (bool_tr e57 hc70) ?_
        refine W.region ?_
        refine WL.move (v := .int .i64 x21) ((hu56 4 rfl).trans h20_4) ?_
        refine WL.move (v := .int .i64 x22) ((hu56 5 rfl).trans h20_5) ?_
        obtain ⟨x71, hxx71, hf⟩ := bindE hf
        refine WL.call (vs := [.int .i64 x22]) hs FN45 ⟨rfl, trivial⟩ (fun ok hA => esref06_bits.calls (x1 := x22) hxx71) ?_
        rintro _ w hs
        refine WL.min rfl rfl ?_
        refine WL.assign (v := .int .i64 (minI x21 x71)) rfl ?_
        refine WL.nil ?_
        exact Jk32 (minI x21 x71) _ _ ((hu56 1 rfl).trans h20_1) ((hu56 3 rfl).trans h20_3) rfl ((hu56 5 rfl).trans h20_5) ((hs.mask [true]).pick [1]) hf
      · refine W.cond_false (bool_tr e57 hc70) ?_
        refine W.skip ?_
        exact Jk32 x21 _ _ ((hu56 1 rfl).trans h20_1) ((hu56 3 rfl).trans h20_3) ((hu56 4 rfl).trans h20_4) ((hu56 5 rfl).trans h20_5) ((hs.mask [true]).pick [1]) hf
  · refine W.cond_false (bool_tr rfl hc28) ?_
    refine W.exit ?_
    have hr := Option.some.inj hf; subst hr
    have hr := hbbs23 _ rfl; subst hr
    have hf := hfs23
    exact Jk16 x21 _ _ h20_4 ((hs.mask []).pick []) hf
/-! elasticstore/elasticstorelaw04.QuorumTolerance: function 9 -/
theorem eslaw04_QuorumTolerance.calls {ok : Nat → Prop} {w0 : World} {x1 : Int} {x2 : Int} {x3 : Int}  {r : Bool} (hf : eslaw04_QuorumTolerance x1 x2 x3 = some r)  :
    Calls Try.prog 9 #[.int .i64 x1, .int .i64 x2, .int .i64 x3] w0 fun e w' => ∃ v, e = .returned v ∧ ∃ y : Unit, v = .bool r ∧ St ok (bz w0) w' [] [] := by
  unfold eslaw04_QuorumTolerance at hf
  refine calls_of_W (fn := Try.f9) (N := 54) Try.func9 rfl Try.ntmps9 rfl ?_
  have hs : St ok (bz w0) w0 [] [] := St.init All.nil
  refine W.seqK fun K4 hK4 => ?_
  refine W.region ?_
  refine WL.assign (v := .bool false) rfl ?_
  refine WL.nil ?_
  refine hK4 _ _ ?_
  refine W.seqK fun K5 hK5 => ?_
  refine W.region ?_
  refine WL.move (v := .int .i64 x1) rfl ?_
  refine WL.move (v := .int .i64 x2) rfl ?_
  obtain ⟨x6, hxx6, hf⟩ := bindE hf
  refine WL.call (vs := [.int .i64 x1, .int .i64 x2]) hs FN22 ⟨rfl, ⟨rfl, trivial⟩⟩ (fun ok hA => eslaw04_view.calls (x1 := x1) (x2 := x2) hxx6) ?_
  rintro ⟨a7, n8, c9⟩ w hs
  refine WL.alloc hs ZV26 (fun g10 w hs => ?_)
  refine WL.storeAll (vs := [.slice a7 n8 c9, .int .i64 x6.Rule.Kind, .int .i64 x6.Rule.Columns, .int .i64 x6.Rule.Faulty]) hs 0 rfl TI26 rfl rfl rfl rfl (ones_of rfl) rfl (fun w hs => ?_)
  refine WL.nil ?_
  refine hK5 _ _ ?_
  refine W.seqK fun K11 hK11 => ?_
  refine W.region ?_
  refine WL.loadN (vs := [.slice a7 n8 c9, .int .i64 x6.Rule.Kind, .int .i64 x6.Rule.Columns, .int .i64 x6.Rule.Faulty]) hs 0 rfl TI26 rfl rfl rfl ?_
  obtain ⟨x12, hxx12, hf⟩ := bindE hf
  refine WL.callL (vs := [.agg ([.slice a7 n8 c9, .int .i64 x6.Rule.Kind, .int .i64 x6.Rule.Columns, .int .i64 x6.Rule.Faulty] : List Value).toArray]) hs FN27 ⟨rfl, trivial⟩ (quorum_Tolerance.calls (x1 := (⟨x6.Members, (⟨x6.Rule.Kind, x6.Rule.Columns, x6.Rule.Faulty⟩ : api_Rule)⟩ : api_View)) hxx12 (V_agg (show t_api_View.R (fun _ => True) _ (⟨x6.Members, (⟨x6.Rule.Kind, x6.Rule.Columns, x6.Rule.Faulty⟩ : api_Rule)⟩ : api_View) [.slice a7 n8 c9, .int .i64 x6.Rule.Kind, .int .i64 x6.Rule.Columns, .int .i64 x6.Rule.Faulty] from ⟨[.slice a7 n8 c9], [.int .i64 x6.Rule.Kind, .int .i64 x6.Rule.Columns, .int .i64 x6.Rule.Faulty], rfl, (R_one (hs.ownT 1 rfl)), ⟨[.int .i64 x6.Rule.Kind], [.int .i64 x6.Rule.Columns, .int .i64 x6.Rule.Faulty], rfl, rfl, ⟨[.int .i64 x6.Rule.Columns], [.int .i64 x6.Rule.Faulty], rfl, rfl, rfl⟩⟩⟩) rfl)) ?_
  rintro _ w hs
  refine WL.assign (v := .int .i64 x12) rfl ?_
  refine WL.nil ?_
  refine hK11 _ _ ?_
  refine W.seqK fun K13 hK13 => ?_
  refine W.seqK fun K14 hK14 => ?_
  refine W.region ?_
  refine WL.move (v := .int .i64 x12) rfl ?_
  refine WL.loadN (vs := [.slice a7 n8 c9, .int .i64 x6.Rule.Kind, .int .i64 x6.Rule.Columns, .int .i64 x6.Rule.Faulty]) hs 0 rfl TI26 rfl rfl rfl ?_
  obtain ⟨x15, hxx15, hf⟩ := bindE hf
  refine WL.callL (vs := [.agg ([.slice a7 n8 c9, .int .i64 x6.Rule.Kind, .int .i64 x6.Rule.Columns, .int .i64 x6.Rule.Faulty] : List Value).toArray]) hs FN28 ⟨rfl, trivial⟩ (esref06_Tolerance.calls (x1 := (⟨x6.Members, (⟨x6.Rule.Kind, x6.Rule.Columns, x6.Rule.Faulty⟩ : api_Rule)⟩ : api_View)) hxx15 (V_agg (show t_api_View.R (fun _ => True) _ (⟨x6.Members, (⟨x6.Rule.Kind, x6.Rule.Columns, x6.Rule.Faulty⟩ : api_Rule)⟩ : api_View) [.slice a7 n8 c9, .int .i64 x6.Rule.Kind, .int .i64 x6.Rule.Columns, .int .i64 x6.Rule.Faulty] from ⟨[.slice a7 n8 c9], [.int .i64 x6.Rule.Kind, .int .i64 x6.Rule.Columns, .int .i64 x6.Rule.Faulty], rfl, (R_one (hs.ownT 1 rfl)), ⟨[.int .i64 x6.Rule.Kind], [.int .i64 x6.Rule.Columns, .int .i64 x6.Rule.Faulty], rfl, rfl, ⟨[.int .i64 x6.Rule.Columns], [.int .i64 x6.Rule.Faulty], rfl, rfl, rfl⟩⟩⟩) rfl)) ?_
  rintro _ w hs
  refine WL.bin (v := .bool (x12 != x15)) rfl rfl (ib_neq _ _ _) ?_
  refine WL.nil ?_
  refine hK14 _ _ ?_
  rcases iteE hf with ⟨hc16, hf⟩ | ⟨hc16, hf⟩
  · refine W.cond_true (bool_tr rfl hc16) ?_
    refine W.seqK fun K17 hK17 => ?_
    refine W.region ?_
    refine WL.assign (v := .bool false) rfl ?_
    refine WL.nil ?_
    refine hK17 _ _ ?_
    refine W.ret ?_
    have hr := Option.some.inj hf; subst hr
    exact ⟨_, resOk_one rfl rfl, (), rfl, (hs.mask []).pick []⟩
  · refine W.cond_false (bool_tr rfl hc16) ?_
    refine W.skip ?_
    refine hK13 _ _ ?_
    refine W.seqK fun K18 hK18 => ?_
    refine W.region ?_
    refine WL.assign (v := .slice none 0 0) rfl ?_
    refine WL.nil ?_
    refine hK18 _ _ ?_
    refine W.seqK fun K19 hK19 => ?_
    refine W.region ?_
    refine WL.assign (v := .int .i64 0) rfl ?_
    refine WL.nil ?_
    refine hK19 _ _ ?_
    refine W.seqK fun K20 hK20 => ?_
    have hs := hs.ownNil (tInt .i64) 3
    have Jk27 : ∀ (x22 : List Int) (x26 : Int) (a23 : Option Addr) (c24 : Nat) (n25 : Nat) (ρ : Env) (w : World), ρ 7 = .pointer (some ⟨g10, 0, none⟩) → ρ 8 = .int .i64 x12 → ρ 9 = .slice a23 n25 c24 → ρ 10 = .int .i64 x26 → St ok (bz w0) w [] [own (tInt .i64) 3 (.slice a23 n25 c24) x22, blk g10 26 [.slice a7 n8 c9, .int .i64 x6.Rule.Kind, .int .i64 x6.Rule.Columns, .int .i64 x6.Rule.Faulty], own t_api_Member 44 (.slice a7 n8 c9) x6.Members] → eslaw04_QuorumTolerance.j2 x6 x12 x22 x26 = some r → K20 ρ w := by
      intro x22 x26 a23 c24 n25 ρ w h21_7 h21_8 h21_9 h21_10 hs hf
      refine hK20 _ _ ?_
      unfold eslaw04_QuorumTolerance.j2 at hf
      refine W.seqK fun K28 hK28 => ?_
      have Jk31 : ∀ (x30 : Bool) (ρ : Env) (w : World), ρ 6 = .bool x30 → St ok (bz w0) w [] [] → eslaw04_QuorumTolerance.j1 x30 = some r → K28 ρ w := by
        intro x30 ρ w h29_6 hs hf
        refine hK28 _ _ ?_
        unfold eslaw04_QuorumTolerance.j1 at hf
        refine W.ret ?_
        have hr := Option.some.inj hf; subst hr
        exact ⟨_, resOk_one rfl h29_6, (), rfl, (hs.mask []).pick []⟩
      refine W.region ?_
      refine WL.move (v := .int .i64 x26) h21_10 ?_
      refine WL.move (v := .int .i64 x12) h21_8 ?_
      refine WL.bin (v := .bool (decide (x12 < x26))) rfl rfl (ib_gtr _ _ _) ?_
      refine WL.move (v := .bool (decide (x12 < x26))) rfl ?_
      rcases iteE hf with ⟨hc32, hf⟩ | ⟨hc32, hf⟩
      · refine WL.pass ((wanted_of rfl rfl (bool_tr rfl hc32)).trans rfl) rfl ?_
        refine WL.pass ((wanted_of rfl rfl (bool_tr rfl hc32)).trans rfl) rfl ?_
        refine WL.pass ((wanted_of rfl rfl (bool_tr rfl hc32)).trans rfl) rfl ?_
        refine WL.pickT (v := .bool true) (bool_tr rfl hc32) rfl ?_
        refine WL.move (v := .bool true) rfl ?_
        obtain ⟨x33, hxx33, hf⟩ := bindE hf
        refine WL.call (vs := []) hs FN11 trivial (fun ok hA => eslaw04_awake.calls hxx33) ?_ (hg := (wanted_of rfl rfl rfl).trans rfl)
        rintro _ w hs
        refine WL.pickT (v := .bool x33) rfl rfl ?_
        refine WL.assign (v := .bool x33) rfl ?_
        refine WL.nil ?_
        exact Jk31 x33 _ _ rfl ((hs.mask []).pick []) hf
      · refine WL.loadN (vs := [.slice a7 n8 c9, .int .i64 x6.Rule.Kind, .int .i64 x6.Rule.Columns, .int .i64 x6.Rule.Faulty]) hs 1 rfl TI26 h21_7 rfl rfl ?_ (hg := (wanted_of rfl rfl (bool_tr rfl hc32)).trans rfl)
        refine WL.move (v := .slice a23 n25 c24) h21_9 ?_ (hg := (wanted_of rfl rfl (bool_tr rfl hc32)).trans rfl)
        obtain ⟨x34, hxx34, hf⟩ := bindE hf
        refine WL.callL (vs := [.agg ([.slice a7 n8 c9, .int .i64 x6.Rule.Kind, .int .i64 x6.Rule.Columns, .int .i64 x6.Rule.Faulty] : List Value).toArray, .slice a23 x22.length c24]) hs FN18 ⟨rfl, ⟨(Eq.trans rfl (sl_len (hs.ownLen 0 rfl))), trivial⟩⟩ (quorum_IsQuorum.calls (x1 := (⟨x6.Members, (⟨x6.Rule.Kind, x6.Rule.Columns, x6.Rule.Faulty⟩ : api_Rule)⟩ : api_View)) (x5 := x22) hxx34 (V_agg (show t_api_View.R (fun _ => True) _ (⟨x6.Members, (⟨x6.Rule.Kind, x6.Rule.Columns, x6.Rule.Faulty⟩ : api_Rule)⟩ : api_View) [.slice a7 n8 c9, .int .i64 x6.Rule.Kind, .int .i64 x6.Rule.Columns, .int .i64 x6.Rule.Faulty] from ⟨[.slice a7 n8 c9], [.int .i64 x6.Rule.Kind, .int .i64 x6.Rule.Columns, .int .i64 x6.Rule.Faulty], rfl, (R_one (hs.ownT 2 rfl)), ⟨[.int .i64 x6.Rule.Kind], [.int .i64 x6.Rule.Columns, .int .i64 x6.Rule.Faulty], rfl, rfl, ⟨[.int .i64 x6.Rule.Columns], [.int .i64 x6.Rule.Faulty], rfl, rfl, rfl⟩⟩⟩) rfl) (hs.ownN 0 rfl)) ?_ (hg := (wanted_of rfl rfl (bool_tr rfl hc32)).trans rfl)
        rintro _ w hs
        refine WL.pickF (v := .bool x34) (bool_tr rfl hc32) rfl ?_
        refine WL.move (v := .bool x34) rfl ?_
        rcases iteE hf with ⟨hc35, hf⟩ | ⟨hc35, hf⟩
        · obtain ⟨x36, hxx36, hf⟩ := bindE hf
          refine WL.call (vs := []) hs FN11 trivial (fun ok hA => eslaw04_awake.calls hxx36) ?_ (hg := (wanted_of rfl rfl (bool_tr rfl hc35)).trans rfl)
          rintro _ w hs
          refine WL.pickT (v := .bool x36) (bool_tr rfl hc35) rfl ?_
          refine WL.assign (v := .bool x36) rfl ?_
          refine WL.nil ?_
          exact Jk31 x36 _ _ rfl ((hs.mask []).pick []) hf
        · refine WL.pass ((wanted_of rfl rfl (bool_tr rfl hc35)).trans rfl) rfl ?_
          refine WL.pickF (v := .bool false) (bool_tr rfl hc35) rfl ?_
          refine WL.assign (v := .bool false) rfl ?_
          refine WL.nil ?_
          exact Jk31 false _ _ rfl ((hs.mask []).pick []) hf
    refine W.seqK fun K37 hK37 => ?_
    refine W.region ?_
    refine WL.assign (v := .int .i64 0) rfl ?_
    refine WL.nil ?_
    refine hK37 _ _ ?_
    refine W.block ?_
    obtain ⟨bs45, hbs45, hfs45⟩ := bindE hf
    refine W.loop hbs45 (fun s ρ w => match s with | (x39, x43, x44) => ∃ (a40 : Option Addr), ∃ (c41 : Nat), ∃ (n42 : Nat), ρ 2 = .int .i64 x3 ∧ ρ 7 = .pointer (some ⟨g10, 0, none⟩) ∧ ρ 8 = .int .i64 x12 ∧ ρ 9 = .slice a40 n42 c41 ∧ ρ 10 = .int .i64 x43 ∧ ρ 11 = .int .i64 x44 ∧ St ok (bz w0) w [] [own (tInt .i64) 3 (.slice a40 n42 c41) x39, blk g10 26 [.slice a7 n8 c9, .int .i64 x6.Rule.Kind, .int .i64 x6.Rule.Columns, .int .i64 x6.Rule.Faulty], own t_api_Member 44 (.slice a7 n8 c9) x6.Members]) ⟨none, 0, 0, rfl, rfl, rfl, rfl, rfl, rfl, (hs.mask [true, true, true]).pick []⟩ ?_
    intro s ρ w os45 hI hf hbbs45
    obtain ⟨x39, x43, x44⟩ := s
    obtain ⟨a40, c41, n42, h38_2, h38_7, h38_8, h38_9, h38_10, h38_11, hs⟩ := hI
    unfold eslaw04_QuorumTolerance.l1 at hf
    refine W.seqK fun K46 hK46 => ?_
    refine W.seqK fun K47 hK47 => ?_
    refine W.region ?_
    refine WL.move (v := .int .i64 x44) h38_11 ?_
    refine WL.fieldAddr (m := 0) h38_7 FA26_0 rfl ?_
    refine WL.load1 (v := .slice a7 n8 c9) hs 1 rfl TI24 rfl rfl ?_
    refine WL.len (v := .slice a7 n8 c9) rfl (len_own hs 2 rfl UN24) ?_
    refine WL.bin (v := .bool (decide (x44 < ((x6.Members).length : Int)))) rfl rfl (ib_lss _ _ _) ?_
    refine WL.nil ?_
    refine hK47 _ _ ?_
    rcases iteE hf with ⟨hc48, hf⟩ | ⟨hc48, hf⟩
    · refine W.cond_true (bool_tr rfl hc48) ?_
      refine W.skip ?_
      refine hK46 _ _ ?_
      refine W.seqK fun K49 hK49 => ?_
      have Jk56 : ∀ (x51 : List Int) (x55 : Int) (a52 : Option Addr) (c53 : Nat) (n54 : Nat) (ρ : Env) (w : World), ρ 2 = .int .i64 x3 → ρ 7 = .pointer (some ⟨g10, 0, none⟩) → ρ 8 = .int .i64 x12 → ρ 9 = .slice a52 n54 c53 → ρ 10 = .int .i64 x55 → ρ 11 = .int .i64 x44 → St ok (bz w0) w [] [own (tInt .i64) 3 (.slice a52 n54 c53) x51, blk g10 26 [.slice a7 n8 c9, .int .i64 x6.Rule.Kind, .int .i64 x6.Rule.Columns, .int .i64 x6.Rule.Faulty], own t_api_Member 44 (.slice a7 n8 c9) x6.Members] → eslaw04_QuorumTolerance.j3 x44 x51 x55 = some os45 → K49 ρ w := by
        intro x51 x55 a52 c53 n54 ρ w h50_2 h50_7 h50_8 h50_9 h50_10 h50_11 hs hf
        refine hK49 _ _ ?_
        unfold eslaw04_QuorumTolerance.j3 at hf
        refine W.region ?_
        refine WL.move (v := .int .i64 x44) h50_11 ?_
        obtain ⟨x57, ex57, hf⟩ := letE hf
        refine WL.bin (v := .int .i64 x57) rfl rfl (ib_as ex57 (ib_add _ _ _)) ?_
        refine WL.assign (v := .int .i64 x57) rfl ?_
        refine WL.nil ?_
        exact ⟨_, (Option.some.inj hf).symm, a52, c53, n54, h50_2, h50_7, h50_8, h50_9, h50_10, rfl, (hs.mask [true, true, true]).pick []⟩
      refine W.block ?_
      refine W.seqK fun K58 hK58 => ?_
      refine W.region ?_
      refine WL.move (v := .int .i64 x3) h38_2 ?_
      refine WL.move (v := .int .i64 x44) h38_11 ?_
      obtain ⟨x59, hxx59, hf⟩ := bindE hf
      refine WL.call (vs := [.int .i64 x3, .int .i64 2, .int .i64 x44]) hs FN29 ⟨rfl, ⟨rfl, ⟨rfl, trivial⟩⟩⟩ (fun ok hA => eslaw00_Digit.calls (x1 := x3) (x2 := 2) (x3 := x44) hxx59) ?_
      rintro _ w hs
      refine WL.bin (v := .bool (x59 == 1)) rfl rfl (ib_eql _ _ _) ?_
      refine WL.nil ?_
      refine hK58 _ _ ?_
      rcases iteE hf with ⟨hc60, hf⟩ | ⟨hc60, hf⟩
      · refine W.cond_true (bool_tr rfl hc60) ?_
        refine W.region ?_
        refine WL.move (v := .int .i64 x43) h38_10 ?_
        obtain ⟨x61, ex61, hf⟩ := letE hf
        refine WL.bin (v := .int .i64 x61) rfl rfl (ib_as ex61 (ib_add _ _ _)) ?_
        refine WL.assign (v := .int .i64 x61) rfl ?_
        refine WL.nil ?_
        exact Jk56 x39 x61 a40 c41 n42 _ _ h38_2 h38_7 h38_8 h38_9 rfl h38_11 ((hs.mask [true, true, true]).pick []) hf
      · refine W.cond_false (bool_tr rfl hc60) ?_
        refine W.region ?_
        refine WL.move (v := .slice a40 n42 c41) h38_9 ?_
        refine WL.fieldAddr (m := 0) h38_7 FA26_0 rfl ?_
        refine WL.load1 (v := .slice a7 n8 c9) hs 1 rfl TI24 rfl rfl ?_
        refine WL.move (v := .int .i64 x44) h38_11 ?_
        obtain ⟨x62, hxx62, hf⟩ := bindE hf
        refine WL.indexAddrO hs 2 rfl UN24 TI44 rfl rfl hxx62 (fun ad63 hatad63 => ?_)
        refine WL.fieldAddrO (OwnAt.f hatad63) rfl FA44_0 rfl (fun ad64 hatad64 => ?_)
        refine WL.loadOF (z := x62.Server) F_api_Member_Server hs 2 rfl TI3 (.inr rfl) hatad64 hxx62 rfl rfl (fun v65 hs => ?_)
        obtain rfl := hs.int 0 rfl
        refine WL.buildSlice (n := 1) (vs := [(0, .int .i64 x62.Server)]) (cs := [.int .i64 x62.Server]) hs ⟨⟨rfl, rfl⟩, trivial⟩ (bls PS33 (by decide) rfl) (fun g66 w hs => ?_)
        obtain ⟨x67, hxx67, hf⟩ := bindE hf
        obtain ⟨hbx67, hex67⟩ := appE hxx67
        refine WL.append (ys := [x62.Server]) (zs := x67) hs 1 rfl 0 rfl UN33 EI3 rfl rfl (fun ok hA => (Cells.one (T := tInt .i64) rfl)) hbx67 (by omega) hex67 (fun v68 w hs => ?_)
        obtain ⟨a69, n71, c70, rfl⟩ := hs.ownv3 1 rfl
        refine WL.assign (v := .slice a69 n71 c70) rfl ?_
        refine WL.nil ?_
        exact Jk56 x67 x43 a69 c70 n71 _ _ h38_2 h38_7 h38_8 rfl h38_10 h38_11 ((hs.mask [false, true, true, true]).pick []) hf
    · refine W.cond_false (bool_tr rfl hc48) ?_
      refine W.exit ?_
      have hr := Option.some.inj hf; subst hr
      have hr := hbbs45 _ rfl; subst hr
      have hf := hfs45
      exact Jk27 x39 x43 a40 c41 n42 _ _ h38_7 h38_8 h38_9 h38_10 ((hs.mask [true, true, true]).pick []) hf
end Go.Proofs.Ytodebgfppmcjlaa
