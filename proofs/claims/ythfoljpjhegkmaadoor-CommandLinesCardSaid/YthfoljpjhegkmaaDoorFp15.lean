import Derived.Test.YthfoljpjhegkmaaDoorFh
import Derived.Test.YthfoljpjhegkmaaDoorLw
import Derived.Test.YthfoljpjhegkmaaDoorFp5
import Derived.Test.YthfoljpjhegkmaaDoorFp10
import Derived.Test.YthfoljpjhegkmaaDoorFp12
import Derived.Test.YthfoljpjhegkmaaDoorFp14
set_option linter.unusedVariables false
set_option linter.unusedSimpArgs false
namespace Go.Proofs.YthfoljpjhegkmaaDoor
open Go Go.RowKit Go.Proofs.YthfoljpjhegkmaaDoorL
set_option maxRecDepth 100000
set_option maxHeartbeats 4000000
/-! elasticstore/elasticstoreref10.CompileCommands: function 15 -/
theorem esref10_CompileCommands.calls {ok : Nat → Prop} {w0 : World} {x1 : List UInt8} {x2 : api_Summary} {v3 : Value} {r : (List api_Change) × Int × Int} (hf : esref10_CompileCommands x1 x2 = some r) (i0 : (vl t_api_Summary x2 v3).holds ok w0) :
    Calls Tryd.prog 15 #[bstr x1, v3] w0 fun e w' => ∃ v, e = .returned v ∧ ∃ y : (Option Addr × Nat × Nat), v = .tuple #[.slice y.1 y.2.1 y.2.2, .int .i64 r.2.1, .int .i64 r.2.2] ∧ St ok (bz w0) w' [] [own t_api_Change 26 (.slice y.1 y.2.1 y.2.2) r.1] := by
  unfold esref10_CompileCommands at hf
  refine calls_of_W (fn := Tryd.f15) (N := 73) Tryd.func15 rfl Tryd.ntmps15 rfl ?_
  have hs : St ok (bz w0) w0 [vl t_api_Summary x2 v3] [] := St.init (All.cons i0 All.nil)
  clear i0
  obtain ⟨cs4, hl5, rfl⟩ := hs.aggv (n := 9) 0 rfl rfl rfl
  refine W.seqK fun K6 hK6 => ?_
  refine W.region ?_
  refine WL.box (vs := cs4) hs rfl rfl (fun g7 w hs => ?_)
  refine WL.assign (v := .slice none 0 0) rfl ?_
  refine WL.assign (v := .int .i64 0) rfl ?_
  refine WL.assign (v := .int .i64 0) rfl ?_
  refine WL.nil ?_
  refine hK6 _ _ ?_
  refine W.seqK fun K8 hK8 => ?_
  refine W.region ?_
  refine WL.assign (v := .slice none 0 0) rfl ?_
  refine WL.nil ?_
  refine hK8 _ _ ?_
  refine W.seqK fun K9 hK9 => ?_
  refine W.region ?_
  refine WL.assign (v := .int .i64 0) rfl ?_
  refine WL.assign (v := .int .i64 0) rfl ?_
  refine WL.nil ?_
  refine hK9 _ _ ?_
  refine W.seqK fun K10 hK10 => ?_
  have hs := hs.ownNil t_api_Change 26
  have Jk16 : ∀ (x12 : List api_Change) (a13 : Option Addr) (c14 : Nat) (n15 : Nat) (ρ : Env) (w : World), ρ 7 = .slice a13 n15 c14 → St ok (bz w0) w [] [own t_api_Change 26 (.slice a13 n15 c14) x12] → esref10_CompileCommands.j1 x12 = some r → K10 ρ w := by
    intro x12 a13 c14 n15 ρ w h11_7 hs hf
    refine hK10 _ _ ?_
    unfold esref10_CompileCommands.j1 at hf
    refine W.seqK fun K17 hK17 => ?_
    refine W.seqK fun K18 hK18 => ?_
    refine W.region ?_
    refine WL.move (v := .slice a13 n15 c14) h11_7 ?_
    refine WL.len (v := .slice a13 n15 c14) rfl (len_own hs 0 rfl UN38) ?_
    refine WL.bin (v := .bool ((x12.length : Int) == 0)) rfl rfl (ib_eql _ _ _) ?_
    refine WL.nil ?_
    refine hK18 _ _ ?_
    rcases iteE hf with ⟨hc19, hf⟩ | ⟨hc19, hf⟩
    · refine W.cond_true (bool_tr rfl hc19) ?_
      refine W.seqK fun K20 hK20 => ?_
      refine W.region ?_
      refine WL.assign (v := .slice none 0 0) rfl ?_
      refine WL.assign (v := .int .i64 0) rfl ?_
      refine WL.assign (v := .int .i64 2) rfl ?_
      refine WL.nil ?_
      refine hK20 _ _ ?_
      refine W.ret ?_
      have hr := Option.some.inj hf; subst hr
      have hs := hs.ownNil t_api_Change 26
      exact ⟨_, resOk_three rfl rfl rfl rfl, (none, 0, 0), rfl, (hs.mask [true]).pick []⟩
    · refine W.cond_false (bool_tr rfl hc19) ?_
      refine W.skip ?_
      refine hK17 _ _ ?_
      refine W.seqK fun K21 hK21 => ?_
      refine W.region ?_
      refine WL.move (v := .slice a13 n15 c14) h11_7 ?_
      refine WL.assign (v := .slice a13 n15 c14) rfl ?_
      refine WL.assign (v := .int .i64 0) rfl ?_
      refine WL.assign (v := .int .i64 0) rfl ?_
      refine WL.nil ?_
      refine hK21 _ _ ?_
      refine W.ret ?_
      have hr := Option.some.inj hf; subst hr
      exact ⟨_, resOk_three rfl rfl rfl rfl, (a13, n15, c14), rfl, (hs.mask [true]).pick []⟩
  refine W.seqK fun K22 hK22 => ?_
  refine W.region ?_
  refine WL.assign (v := .int .i64 0) rfl ?_
  refine WL.nil ?_
  refine hK22 _ _ ?_
  refine W.block ?_
  obtain ⟨bs31, hbs31, hfs31⟩ := bindE hf
  refine W.loop hbs31 (fun s ρ w => match s with | (x24, x28, x29, x30) => ∃ (a25 : Option Addr), ∃ (c26 : Nat), ∃ (n27 : Nat), ρ 0 = bstr x1 ∧ ρ 3 = .pointer (some ⟨g7, 0, none⟩) ∧ ρ 7 = .slice a25 n27 c26 ∧ ρ 8 = .int .i64 x28 ∧ ρ 9 = .int .i64 x29 ∧ ρ 10 = .int .i64 x30 ∧ St ok (bz w0) w [vl t_api_Summary x2 (.agg cs4.toArray)] [own t_api_Change 26 (.slice a25 n27 c26) x24, blk g7 36 cs4]) ⟨none, 0, 0, rfl, rfl, rfl, rfl, rfl, rfl, (hs.mask [true, true]).pick [0]⟩ ?_
  intro s ρ w os31 hI hf hbbs31
  obtain ⟨x24, x28, x29, x30⟩ := s
  obtain ⟨a25, c26, n27, h23_0, h23_3, h23_7, h23_8, h23_9, h23_10, hs⟩ := hI
  unfold esref10_CompileCommands.l1 at hf
  refine W.seqK fun K32 hK32 => ?_
  refine W.seqK fun K33 hK33 => ?_
  refine W.region ?_
  refine WL.move (v := .int .i64 x30) h23_10 ?_
  refine WL.move (v := bstr x1) h23_0 ?_
  refine WL.len (v := bstr x1) rfl (len_string UN9) ?_
  refine WL.bin (v := .bool (decide (x30 ≤ (x1.length : Int)))) rfl rfl (ib_leq _ _ _) ?_
  refine WL.nil ?_
  refine hK33 _ _ ?_
  rcases iteE hf with ⟨hc34, hf⟩ | ⟨hc34, hf⟩
  · refine W.cond_true (bool_tr rfl hc34) ?_
    refine W.skip ?_
    refine hK32 _ _ ?_
    refine W.seqK fun K35 hK35 => ?_
    have Jk43 : ∀ (x37 : List api_Change) (x41 : Int) (x42 : Int) (a38 : Option Addr) (c39 : Nat) (n40 : Nat) (ρ : Env) (w : World), ρ 0 = bstr x1 → ρ 3 = .pointer (some ⟨g7, 0, none⟩) → ρ 7 = .slice a38 n40 c39 → ρ 8 = .int .i64 x41 → ρ 9 = .int .i64 x42 → ρ 10 = .int .i64 x30 → St ok (bz w0) w [vl t_api_Summary x2 (.agg cs4.toArray)] [own t_api_Change 26 (.slice a38 n40 c39) x37, blk g7 36 cs4] → esref10_CompileCommands.j2 x30 x37 x41 x42 = some os31 → K35 ρ w := by
      intro x37 x41 x42 a38 c39 n40 ρ w h36_0 h36_3 h36_7 h36_8 h36_9 h36_10 hs hf
      refine hK35 _ _ ?_
      unfold esref10_CompileCommands.j2 at hf
      refine W.region ?_
      refine WL.move (v := .int .i64 x30) h36_10 ?_
      obtain ⟨x44, ex44, hf⟩ := letE hf
      refine WL.bin (v := .int .i64 x44) rfl rfl (ib_as ex44 (ib_add _ _ _)) ?_
      refine WL.assign (v := .int .i64 x44) rfl ?_
      refine WL.nil ?_
      exact ⟨_, (Option.some.inj hf).symm, a38, c39, n40, h36_0, h36_3, h36_7, h36_8, h36_9, rfl, (hs.mask [true, true]).pick [0]⟩
    refine W.block ?_
    refine W.seqK fun K45 hK45 => ?_
    refine W.seqK fun K46 hK46 => ?_
    have Jk49 : ∀ (x48 : Bool) (ρ : Env) (w : World), ρ 0 = bstr x1 → ρ 3 = .pointer (some ⟨g7, 0, none⟩) → ρ 7 = .slice a25 n27 c26 → ρ 8 = .int .i64 x28 → ρ 9 = .int .i64 x29 → ρ 10 = .int .i64 x30 → ρ 29 = .bool x48 → St ok (bz w0) w [vl t_api_Summary x2 (.agg cs4.toArray)] [own t_api_Change 26 (.slice a25 n27 c26) x24, blk g7 36 cs4] → esref10_CompileCommands.j4 x1 x2 x24 x28 x29 x30 x48 = some os31 → K46 ρ w := by
      intro x48 ρ w h47_0 h47_3 h47_7 h47_8 h47_9 h47_10 h47_29 hs hf
      refine hK46 _ _ ?_
      unfold esref10_CompileCommands.j4 at hf
      rcases iteE hf with ⟨hc50, hf⟩ | ⟨hc50, hf⟩
      · refine W.cond_true (bool_tr h47_29 hc50) ?_
        refine W.exit ?_
        exact Jk43 x24 x28 x29 a25 c26 n27 _ _ h47_0 h47_3 h47_7 h47_8 h47_9 h47_10 ((hs.mask [true, true]).pick [0]) hf
      · refine W.cond_false (bool_tr h47_29 hc50) ?_
        refine W.skip ?_
        refine hK45 _ _ ?_
        refine W.seqK fun K51 hK51 => ?_
        refine W.region ?_
        refine WL.move (v := bstr x1) h47_0 ?_
        refine WL.move (v := .int .i64 x28) h47_8 ?_
        refine WL.move (v := .int .i64 x30) h47_10 ?_
        obtain ⟨x52, hxx52, hf⟩ := bindE hf
        refine WL.sliceS_lh UN9 rfl rfl rfl hxx52 ?_
        refine WL.assign (v := bstr x52) rfl ?_
        refine WL.nil ?_
        refine hK51 _ _ ?_
        refine W.seqK fun K53 hK53 => ?_
        refine W.region ?_
        refine WL.move (v := .int .i64 x30) h47_10 ?_
        obtain ⟨x54, ex54, hf⟩ := letE hf
        refine WL.bin (v := .int .i64 x54) rfl rfl (ib_as ex54 (ib_add _ _ _)) ?_
        refine WL.assign (v := .int .i64 x54) rfl ?_
        refine WL.nil ?_
        refine hK53 _ _ ?_
        refine W.seqK fun K55 hK55 => ?_
        refine W.region ?_
        refine WL.move (v := .int .i64 x29) h47_9 ?_
        obtain ⟨x56, ex56, hf⟩ := letE hf
        refine WL.bin (v := .int .i64 x56) rfl rfl (ib_as ex56 (ib_add _ _ _)) ?_
        refine WL.assign (v := .int .i64 x56) rfl ?_
        refine WL.nil ?_
        refine hK55 _ _ ?_
        refine W.seqK fun K57 hK57 => ?_
        refine W.seqK fun K58 hK58 => ?_
        have Jk61 : ∀ (x60 : Bool) (ρ : Env) (w : World), ρ 0 = bstr x1 → ρ 3 = .pointer (some ⟨g7, 0, none⟩) → ρ 7 = .slice a25 n27 c26 → ρ 8 = .int .i64 x54 → ρ 9 = .int .i64 x56 → ρ 10 = .int .i64 x30 → ρ 11 = bstr x52 → ρ 44 = .bool x60 → St ok (bz w0) w [vl t_api_Summary x2 (.agg cs4.toArray)] [own t_api_Change 26 (.slice a25 n27 c26) x24, blk g7 36 cs4] → esref10_CompileCommands.j3 x2 x24 x30 x52 x54 x56 x60 = some os31 → K58 ρ w := by
          intro x60 ρ w h59_0 h59_3 h59_7 h59_8 h59_9 h59_10 h59_11 h59_44 hs hf
          refine hK58 _ _ ?_
          unfold esref10_CompileCommands.j3 at hf
          rcases iteE hf with ⟨hc62, hf⟩ | ⟨hc62, hf⟩
          · refine W.cond_true (bool_tr h59_44 hc62) ?_
            refine W.exit ?_
            exact Jk43 x24 x54 x56 a25 c26 n27 _ _ h59_0 h59_3 h59_7 h59_8 h59_9 h59_10 ((hs.mask [true, true]).pick [0]) hf
          · refine W.cond_false (bool_tr h59_44 hc62) ?_
            refine W.skip ?_
            refine hK57 _ _ ?_
            refine W.seqK fun K63 hK63 => ?_
            refine W.region ?_
            refine WL.move (v := bstr x52) h59_11 ?_
            obtain ⟨⟨x64, x65⟩, hxx64, hf⟩ := bindE hf
            refine WL.call (vs := [bstr x52]) hs FN10 ⟨rfl, trivial⟩ (fun ok hA => esref10_ParseCommand.calls (x1 := x52) hxx64) ?_
            rintro cs66 w hs
            have hl67 := hs.agglen (n := 7) 0 rfl rfl rfl
            refine WL.move (v := .tuple #[.agg cs66.toArray, .int .i64 x65]) rfl ?_
            refine WL.extract (v := .agg cs66.toArray) rfl rfl ?_
            refine WL.extract (v := .int .i64 x65) rfl rfl ?_
            refine WL.alloc hs ZV26 (fun g68 w hs => ?_)
            refine WL.storeAll (vs := cs66) hs 0 rfl TI26 rfl rfl rfl hl67 (hs.ones 0 rfl rfl) rfl (fun w hs => ?_)
            refine WL.assign (v := .int .i64 x65) rfl ?_
            refine WL.nil ?_
            refine hK63 _ _ ?_
            refine W.seqK fun K69 hK69 => ?_
            refine W.seqK fun K70 hK70 => ?_
            refine W.region ?_
            refine WL.move (v := .int .i64 x65) rfl ?_
            refine WL.bin (v := .bool (x65 != 0)) rfl rfl (ib_neq _ _ _) ?_
            refine WL.nil ?_
            refine hK70 _ _ ?_
            rcases iteE hf with ⟨hc71, hf⟩ | ⟨hc71, hf⟩
            · refine W.cond_true (bool_tr rfl hc71) ?_
              refine W.seqK fun K72 hK72 => ?_
              refine W.region ?_
              refine WL.move (v := .int .i64 x56) h59_9 ?_
              refine WL.move (v := .int .i64 x65) rfl ?_
              refine WL.assign (v := .slice none 0 0) rfl ?_
              refine WL.assign (v := .int .i64 x56) rfl ?_
              refine WL.assign (v := .int .i64 x65) rfl ?_
              refine WL.nil ?_
              refine hK72 _ _ ?_
              refine W.ret ?_
              have hr := Option.some.inj hf; subst hr
              have hr := hbbs31 _ rfl; subst hr
              have hf := hfs31
              have hr := Option.some.inj hf; subst hr
              have hs := hs.ownNil t_api_Change 26
              exact ⟨_, resOk_three rfl rfl rfl rfl, (none, 0, 0), rfl, (hs.mask [true]).pick []⟩
            · refine W.cond_false (bool_tr rfl hc71) ?_
              refine W.skip ?_
              refine hK69 _ _ ?_
              refine W.seqK fun K73 hK73 => ?_
              refine W.region ?_
              refine WL.loadAll hs 0 rfl TI26 rfl hl67 ?_
              refine WL.move (v := .slice a25 n27 c26) h59_7 ?_
              refine WL.loadAll hs 2 rfl TI36 h59_3 hl5 ?_
              obtain ⟨⟨x74, x75⟩, hxx74, hf⟩ := bindE hf
              refine WL.callLF (vs := [.agg cs66.toArray, .slice a25 x24.length c26, .agg cs4.toArray]) hs FN38 ⟨rfl, ⟨(Eq.trans rfl (sl_len (hs.ownLen 1 rfl))), ⟨rfl, trivial⟩⟩⟩ (fun _ => by exact (flatC (fun _ _ _ _ h => h) flat0)) (esref10_placed.calls (x1 := x64) (x5 := x24) (x8 := x2) hxx74 (hs.allT.get 0 rfl) (hs.ownN 1 rfl) (hs.allT.get 1 rfl)) ?_
              rintro cs76 w hs
              have hl77 := hs.agglen (n := 7) 0 rfl rfl rfl
              refine WL.move (v := .tuple #[.agg cs76.toArray, .int .i64 x75]) rfl ?_
              refine WL.extract (v := .agg cs76.toArray) rfl rfl ?_
              refine WL.extract (v := .int .i64 x75) rfl rfl ?_
              refine WL.storeAll (vs := cs76) hs 0 rfl TI26 rfl rfl rfl hl77 (hs.ones 0 rfl rfl) hl67 (fun w hs => ?_)
              refine WL.assign (v := .int .i64 x75) rfl ?_
              refine WL.nil ?_
              refine hK73 _ _ ?_
              refine W.seqK fun K78 hK78 => ?_
              refine W.seqK fun K79 hK79 => ?_
              refine W.region ?_
              refine WL.move (v := .int .i64 x75) rfl ?_
              refine WL.bin (v := .bool (x75 != 0)) rfl rfl (ib_neq _ _ _) ?_
              refine WL.nil ?_
              refine hK79 _ _ ?_
              rcases iteE hf with ⟨hc80, hf⟩ | ⟨hc80, hf⟩
              · refine W.cond_true (bool_tr rfl hc80) ?_
                refine W.seqK fun K81 hK81 => ?_
                refine W.region ?_
                refine WL.move (v := .int .i64 x56) h59_9 ?_
                refine WL.move (v := .int .i64 x75) rfl ?_
                refine WL.assign (v := .slice none 0 0) rfl ?_
                refine WL.assign (v := .int .i64 x56) rfl ?_
                refine WL.assign (v := .int .i64 x75) rfl ?_
                refine WL.nil ?_
                refine hK81 _ _ ?_
                refine W.ret ?_
                have hr := Option.some.inj hf; subst hr
                have hr := hbbs31 _ rfl; subst hr
                have hf := hfs31
                have hr := Option.some.inj hf; subst hr
                have hs := hs.ownNil t_api_Change 26
                exact ⟨_, resOk_three rfl rfl rfl rfl, (none, 0, 0), rfl, (hs.mask [true]).pick []⟩
              · refine W.cond_false (bool_tr rfl hc80) ?_
                refine W.skip ?_
                refine hK78 _ _ ?_
                refine W.region ?_
                refine WL.move (v := .slice a25 n27 c26) h59_7 ?_
                refine WL.loadAll hs 0 rfl TI26 rfl hl77 ?_
                refine WL.buildSlice (n := 1) (vs := [(0, .agg cs76.toArray)]) (cs := cs76) hs ⟨⟨rfl, rfl⟩, trivial⟩ (bls PS38 (by decide) (by simp [fillS, fillL, Value.cells, hl77])) (fun g82 w hs => ?_)
                obtain ⟨x83, hxx83, hf⟩ := bindE hf
                obtain ⟨hbx83, hex83⟩ := appE hxx83
                refine WL.append (ys := [x74]) (zs := x83) hs 2 rfl 0 rfl UN38 EI26 rfl rfl (fun ok hA => (Cells.one (T := t_api_Change) (R_agg (hA.get 0 rfl) rfl))) hbx83 (by omega) hex83 (fun v84 w hs => ?_)
                obtain ⟨a85, n87, c86, rfl⟩ := hs.ownv3 2 rfl
                refine WL.assign (v := .slice a85 n87 c86) rfl ?_
                refine WL.nil ?_
                exact Jk43 x83 x54 x56 a85 c86 n87 _ _ h59_0 h59_3 rfl h59_8 h59_9 h59_10 ((hs.mask [false, false, true, true]).pick [2]) hf
        refine W.region ?_
        refine WL.move (v := bstr x52) rfl ?_
        refine WL.binS (v := .bool (x52 == ([] : List UInt8))) rfl rfl (sb_eql _ _) ?_
        refine WL.move (v := .bool (x52 == ([] : List UInt8))) rfl ?_
        rcases iteE hf with ⟨hc88, hf⟩ | ⟨hc88, hf⟩
        · refine WL.pass ((wanted_of rfl rfl (bool_tr rfl hc88)).trans rfl) rfl ?_
          refine WL.pass ((wanted_of rfl rfl (bool_tr rfl hc88)).trans rfl) rfl ?_
          refine WL.pass ((wanted_of rfl rfl (bool_tr rfl hc88)).trans rfl) rfl ?_
          refine WL.pickT (v := .bool true) (bool_tr rfl hc88) rfl ?_
          refine WL.nil ?_
          exact Jk61 true _ _ h47_0 h47_3 h47_7 rfl rfl h47_10 rfl rfl ((hs.mask [true, true]).pick [0]) hf
        · refine WL.move (v := bstr x52) rfl ?_ (hg := (wanted_of rfl rfl (bool_tr rfl hc88)).trans rfl)
          obtain ⟨x89, hxx89, hf⟩ := bindE hf
          refine WL.indexS UN9 rfl rfl hxx89 ?_ (hg := (wanted_of rfl rfl (bool_tr rfl hc88)).trans rfl)
          refine WL.bin (v := .bool ((x89.toNat : Int) == 35)) rfl rfl (ib_eql _ _ _) ?_ (hg := (wanted_of rfl rfl (bool_tr rfl hc88)).trans rfl)
          refine WL.pickF (v := .bool ((x89.toNat : Int) == 35)) (bool_tr rfl hc88) rfl ?_
          refine WL.nil ?_
          exact Jk61 ((x89.toNat : Int) == 35) _ _ h47_0 h47_3 h47_7 rfl rfl h47_10 rfl rfl ((hs.mask [true, true]).pick [0]) hf
    refine W.region ?_
    refine WL.move (v := .int .i64 x30) h23_10 ?_
    refine WL.move (v := bstr x1) h23_0 ?_
    refine WL.len (v := bstr x1) rfl (len_string UN9) ?_
    refine WL.bin (v := .bool (decide (x30 < (x1.length : Int)))) rfl rfl (ib_lss _ _ _) ?_
    refine WL.move (v := .bool (decide (x30 < (x1.length : Int)))) rfl ?_
    rcases iteE hf with ⟨hc90, hf⟩ | ⟨hc90, hf⟩
    · refine WL.move (v := bstr x1) h23_0 ?_ (hg := (wanted_of rfl rfl (bool_tr rfl hc90)).trans rfl)
      refine WL.move (v := .int .i64 x30) h23_10 ?_ (hg := (wanted_of rfl rfl (bool_tr rfl hc90)).trans rfl)
      obtain ⟨x91, hxx91, hf⟩ := bindE hf
      refine WL.indexS UN9 rfl rfl hxx91 ?_ (hg := (wanted_of rfl rfl (bool_tr rfl hc90)).trans rfl)
      refine WL.bin (v := .bool ((x91.toNat : Int) != 10)) rfl rfl (ib_neq _ _ _) ?_ (hg := (wanted_of rfl rfl (bool_tr rfl hc90)).trans rfl)
      refine WL.pickT (v := .bool ((x91.toNat : Int) != 10)) (bool_tr rfl hc90) rfl ?_
      refine WL.nil ?_
      exact Jk49 ((x91.toNat : Int) != 10) _ _ h23_0 h23_3 h23_7 h23_8 h23_9 h23_10 rfl ((hs.mask [true, true]).pick [0]) hf
    · refine WL.pass ((wanted_of rfl rfl (bool_tr rfl hc90)).trans rfl) rfl ?_
      refine WL.pass ((wanted_of rfl rfl (bool_tr rfl hc90)).trans rfl) rfl ?_
      refine WL.pass ((wanted_of rfl rfl (bool_tr rfl hc90)).trans rfl) rfl ?_
      refine WL.pass ((wanted_of rfl rfl (bool_tr rfl hc90)).trans rfl) rfl ?_
      refine WL.pickF (v := .bool false) (bool_tr rfl hc90) rfl ?_
      refine WL.nil ?_
      exact Jk49 false _ _ h23_0 h23_3 h23_7 h23_8 h23_9 h23_10 rfl ((hs.mask [true, true]).pick [0]) hf
  · refine W.cond_false (bool_tr rfl hc34) ?_
    refine W.exit ?_
    have hr := Option.some.inj hf; subst hr
    have hr := hbbs31 _ rfl; subst hr
    have hf := hfs31
    exact Jk16 x24 a25 c26 n27 _ _ h23_7 ((hs.mask [true]).pick []) hf
theorem esref10_CompileCommands.callc {ok : Nat → Prop} {w0 : World} {x1 : List UInt8} {x2 : api_Summary} {v3 : Value} {r : (List api_Change) × Int × Int} (hf : esref10_CompileCommands x1 x2 = some r) (i0 : (vl t_api_Summary x2 v3).holds ok w0) :
    Calls Tryd.prog 15 #[bstr x1, v3] w0 fun e w' => ∃ v, e = .returned v ∧ ∃ y : (Option Addr × Nat), v = .tuple #[.slice y.1 (r.1).length y.2, .int .i64 r.2.1, .int .i64 r.2.2] ∧ St ok (bz w0) w' [vl (tSlice t_api_Change) r.1 (.slice y.1 (r.1).length y.2)] [] := by
  refine (esref10_CompileCommands.calls (ok := ok) (w0 := w0) (x1 := x1) (x2 := x2) hf i0).mono ?_
  rintro e w' ⟨v, rfl, ⟨a96, n97, c98⟩, rfl, hs⟩
  obtain rfl := hs.ownLen 0 rfl
  have hs := hs.freezeOwn 0 rfl
  exact ⟨_, rfl, (a96, c98), rfl, hs.pick [0]⟩
/-! elasticstore/elasticstorelaw08.same: function 16 -/
theorem eslaw08_same.calls {ok : Nat → Prop} {w0 : World} {x1 : List api_Change} {x4 : List api_Change} {a2 : Option Addr} {c3 : Nat} {a5 : Option Addr} {c6 : Nat} {r : Bool} (hf : eslaw08_same x1 x4 = some r) (i0 : (vl (tSlice t_api_Change) x1 (.slice a2 x1.length c3)).holds ok w0) (i1 : (vl (tSlice t_api_Change) x4 (.slice a5 x4.length c6)).holds ok w0) :
    Calls Tryd.prog 16 #[.slice a2 x1.length c3, .slice a5 x4.length c6] w0 fun e w' => ∃ v, e = .returned v ∧ ∃ y : Unit, v = .bool r ∧ St ok (bz w0) w' [] [] := by
  unfold eslaw08_same at hf
  refine calls_of_W (fn := Tryd.f16) (N := 26) Tryd.func16 rfl Tryd.ntmps16 rfl ?_
  have hs : St ok (bz w0) w0 [vl (tSlice t_api_Change) x1 (.slice a2 x1.length c3), vl (tSlice t_api_Change) x4 (.slice a5 x4.length c6)] [] := St.init (All.cons i0 (All.cons i1 All.nil))
  clear i0 i1
  refine W.seqK fun K7 hK7 => ?_
  refine W.region ?_
  refine WL.assign (v := .bool false) rfl ?_
  refine WL.nil ?_
  refine hK7 _ _ ?_
  refine W.seqK fun K8 hK8 => ?_
  refine W.seqK fun K9 hK9 => ?_
  refine W.region ?_
  refine WL.move (v := .slice a2 x1.length c3) rfl ?_
  refine WL.len (v := .slice a2 x1.length c3) rfl (len_slice UN38) ?_
  refine WL.move (v := .slice a5 x4.length c6) rfl ?_
  refine WL.len (v := .slice a5 x4.length c6) rfl (len_slice UN38) ?_
  refine WL.bin (v := .bool ((x1.length : Int) != (x4.length : Int))) rfl rfl (ib_neq _ _ _) ?_
  refine WL.nil ?_
  refine hK9 _ _ ?_
  rcases iteE hf with ⟨hc10, hf⟩ | ⟨hc10, hf⟩
  · refine W.cond_true (bool_tr rfl hc10) ?_
    refine W.seqK fun K11 hK11 => ?_
    refine W.region ?_
    refine WL.assign (v := .bool false) rfl ?_
    refine WL.nil ?_
    refine hK11 _ _ ?_
    refine W.ret ?_
    have hr := Option.some.inj hf; subst hr
    exact ⟨_, resOk_one rfl rfl, (), rfl, (hs.mask []).pick []⟩
  · refine W.cond_false (bool_tr rfl hc10) ?_
    refine W.skip ?_
    refine hK8 _ _ ?_
    refine W.seqK fun K12 hK12 => ?_
    have Jk14 : ∀  (ρ : Env) (w : World), St ok (bz w0) w [] [] → eslaw08_same.j1 = some r → K12 ρ w := by
      intro  ρ w  hs hf
      refine hK12 _ _ ?_
      unfold eslaw08_same.j1 at hf
      refine W.seqK fun K15 hK15 => ?_
      refine W.region ?_
      refine WL.assign (v := .bool true) rfl ?_
      refine WL.nil ?_
      refine hK15 _ _ ?_
      refine W.ret ?_
      have hr := Option.some.inj hf; subst hr
      exact ⟨_, resOk_one rfl rfl, (), rfl, (hs.mask []).pick []⟩
    refine W.seqK fun K16 hK16 => ?_
    refine W.region ?_
    refine WL.assign (v := .int .i64 0) rfl ?_
    refine WL.nil ?_
    refine hK16 _ _ ?_
    refine W.block ?_
    obtain ⟨bs19, hbs19, hfs19⟩ := bindE hf
    refine W.loop hbs19 (fun s ρ w => match s with | x18 => ρ 0 = .slice a2 x1.length c3 ∧ ρ 1 = .slice a5 x4.length c6 ∧ ρ 5 = .int .i64 x18 ∧ St ok (bz w0) w [vl (tSlice t_api_Change) x1 (.slice a2 x1.length c3), vl (tSlice t_api_Change) x4 (.slice a5 x4.length c6)] []) ⟨rfl, rfl, rfl, (hs.mask []).pick [0, 1]⟩ ?_
    intro x18 ρ w os19 hI hf hbbs19
    obtain ⟨h17_0, h17_1, h17_5, hs⟩ := hI
    unfold eslaw08_same.l1 at hf
    refine W.seqK fun K20 hK20 => ?_
    refine W.seqK fun K21 hK21 => ?_
    refine W.region ?_
    refine WL.move (v := .int .i64 x18) h17_5 ?_
    refine WL.move (v := .slice a2 x1.length c3) h17_0 ?_
    refine WL.len (v := .slice a2 x1.length c3) rfl (len_slice UN38) ?_
    refine WL.bin (v := .bool (decide (x18 < (x1.length : Int)))) rfl rfl (ib_lss _ _ _) ?_
    refine WL.nil ?_
    refine hK21 _ _ ?_
    rcases iteE hf with ⟨hc22, hf⟩ | ⟨hc22, hf⟩
    · refine W.cond_true (bool_tr rfl hc22) ?_
      refine W.skip ?_
      refine hK20 _ _ ?_
      refine W.seqK fun K23 hK23 => ?_
      refine W.block ?_
      refine W.seqK fun K24 hK24 => ?_
      obtain ⟨x25, hxx25, hf⟩ := bindE hf
      obtain ⟨x30, hxx30, hf⟩ := bindE hf
      refine W.any (by kernel_rfl) 9 0 [true, true, true, true, true, true, true, true, true] rfl rfl (poAt [pv (.slice a2 x1.length c3), pv (.int .i64 x18), pq (fun y : Addr => .pointer (some y)) (fun v => [pl t_api_Change x25 (adOf v)]) (fun v => []), pq (fun y : List Value => .agg y.toArray) (fun v => [vl t_api_Change x25 v]) (fun v => []), pv (.slice a5 x4.length c6), pv (.int .i64 x18), pq (fun y : Addr => .pointer (some y)) (fun v => [pl t_api_Change x30 (adOf v)]) (fun v => []), pq (fun y : List Value => .agg y.toArray) (fun v => [vl t_api_Change x30 v]) (fun v => []), pv (.bool (!decide ((⟨x25.Kind, x25.Server, x25.Weight, x25.Version, (⟨x25.Rule.Kind, x25.Rule.Columns, x25.Rule.Faulty⟩ : api_Rule)⟩ : api_Change) = (⟨x30.Kind, x30.Server, x30.Weight, x30.Version, (⟨x30.Rule.Kind, x30.Rule.Columns, x30.Rule.Faulty⟩ : api_Rule)⟩ : api_Change))))]) (Λ := []) hs (by kernel_rfl) (by kernel_rfl) (by kernel_rfl) ⟨⟨⟨⟨⟨⟨⟨⟨⟨trivial, ?_⟩, ?_⟩, ?_⟩, ?_⟩, ?_⟩, ?_⟩, ?_⟩, ?_⟩, ?_⟩ ?_
      · intro ρ w Γx Λx hs hu hp
        refine WL.move (v := .slice a2 x1.length c3) ((hu 0 rfl).trans h17_0) ?_
        exact WL.nil ⟨rfl, _, rfl, rfl, hs.cutG 0 0⟩
      · intro ρ w Γx Λx hs hu hp
        refine WL.move (v := .int .i64 x18) ((hu 5 rfl).trans h17_5) ?_
        exact WL.nil ⟨rfl, _, rfl, rfl, hs.cutG 0 0⟩
      · intro ρ w Γx Λx hs hu hp
        have e35 : ρ 17 = .slice a2 x1.length c3 := (hp 0 rfl).1
        have e36 : ρ 18 = .int .i64 x18 := (hp 1 rfl).1
        refine WL.indexAddr hs (Γx.length + 0) (getApp rfl) UN38 TI26 e35 e36 hxx25 (fun ad26 hs => ?_)
        have hs := hs.add (it := pl t_api_Change x25 ad26) fun ok hA => hA.get 0 rfl
        exact WL.nil ⟨rfl, _, rfl, ⟨ad26, rfl⟩, hs.cutG 1 1⟩
      · intro ρ w Γx Λx hs hu hp
        obtain ⟨⟨ad37, e38r⟩, hm39⟩ := hp 2 rfl
        have e38 : ρ 19 = .pointer (some ad37) := e38r
        rw [e38r] at hm39
        have hs := hs.memo1 (it := pl t_api_Change x25 ad37) (List.mem_append.2 (.inl (hm39 _ (List.mem_of_getElem? (i := 0) rfl))))
        refine WL.loadP hs 0 rfl TI26 (.inl rfl) e38 (fun v27 hs => ?_)
        obtain ⟨cs28, hl29, rfl⟩ := hs.aggv (n := 7) 0 rfl rfl rfl
        have hs := hs.add (it := vl t_api_Change x25 (.agg cs28.toArray)) fun ok hA => hA.get 0 rfl
        exact WL.nil ⟨rfl, _, rfl, ⟨cs28, rfl⟩, hs.cutG 1 2⟩
      · intro ρ w Γx Λx hs hu hp
        refine WL.move (v := .slice a5 x4.length c6) ((hu 1 rfl).trans h17_1) ?_
        exact WL.nil ⟨rfl, _, rfl, rfl, hs.cutG 0 0⟩
      · intro ρ w Γx Λx hs hu hp
        refine WL.move (v := .int .i64 x18) ((hu 5 rfl).trans h17_5) ?_
        exact WL.nil ⟨rfl, _, rfl, rfl, hs.cutG 0 0⟩
      · intro ρ w Γx Λx hs hu hp
        have e40 : ρ 21 = .slice a5 x4.length c6 := (hp 4 rfl).1
        have e41 : ρ 22 = .int .i64 x18 := (hp 5 rfl).1
        refine WL.indexAddr hs (Γx.length + 1) (getApp rfl) UN38 TI26 e40 e41 hxx30 (fun ad31 hs => ?_)
        have hs := hs.add (it := pl t_api_Change x30 ad31) fun ok hA => hA.get 0 rfl
        exact WL.nil ⟨rfl, _, rfl, ⟨ad31, rfl⟩, hs.cutG 1 1⟩
      · intro ρ w Γx Λx hs hu hp
        obtain ⟨⟨ad42, e43r⟩, hm44⟩ := hp 6 rfl
        have e43 : ρ 23 = .pointer (some ad42) := e43r
        rw [e43r] at hm44
        have hs := hs.memo1 (it := pl t_api_Change x30 ad42) (List.mem_append.2 (.inl (hm44 _ (List.mem_of_getElem? (i := 0) rfl))))
        refine WL.loadP hs 0 rfl TI26 (.inl rfl) e43 (fun v32 hs => ?_)
        obtain ⟨cs33, hl34, rfl⟩ := hs.aggv (n := 7) 0 rfl rfl rfl
        have hs := hs.add (it := vl t_api_Change x30 (.agg cs33.toArray)) fun ok hA => hA.get 0 rfl
        exact WL.nil ⟨rfl, _, rfl, ⟨cs33, rfl⟩, hs.cutG 1 2⟩
      · intro ρ w Γx Λx hs hu hp
        obtain ⟨⟨cs45, e47r⟩, hm48⟩ := hp 3 rfl
        have e47 : ρ 20 = .agg cs45.toArray := e47r
        rw [e47r] at hm48
        have hs := hs.memo1 (it := vl t_api_Change x25 (.agg cs45.toArray)) (List.mem_append.2 (.inl (hm48 _ (List.mem_of_getElem? (i := 0) rfl))))
        have hl46 := hs.agglen (n := 7) 0 rfl rfl rfl
        obtain ⟨⟨cs49, e51r⟩, hm52⟩ := hp 7 rfl
        have e51 : ρ 24 = .agg cs49.toArray := e51r
        rw [e51r] at hm52
        have hs := hs.memo1 (it := vl t_api_Change x30 (.agg cs49.toArray)) (List.mem_cons_of_mem _ (List.mem_append.2 (.inl (hm52 _ (List.mem_of_getElem? (i := 0) rfl)))))
        have hl50 := hs.agglen (n := 7) 0 rfl rfl rfl
        obtain rfl := open_api_Change hs 1 rfl
        obtain rfl := open_api_Change hs 0 rfl
        refine WL.eqA e47 e51 EG26 (NQ26 (⟨x25.Kind, x25.Server, x25.Weight, x25.Version, (⟨x25.Rule.Kind, x25.Rule.Columns, x25.Rule.Faulty⟩ : api_Rule)⟩ : api_Change) (⟨x30.Kind, x30.Server, x30.Weight, x30.Version, (⟨x30.Rule.Kind, x30.Rule.Columns, x30.Rule.Faulty⟩ : api_Rule)⟩ : api_Change)) ?_
        exact WL.nil ⟨rfl, _, rfl, rfl, hs.cutG 0 2⟩
      · intro ρ w hs hu53 hp
        obtain ⟨⟨⟨⟨⟨⟨⟨⟨⟨_, hp0_⟩, hp1_⟩, hp2_⟩, hp3_⟩, hp4_⟩, hp5_⟩, hp6_⟩, hp7_⟩, hp8_⟩ := hp
        have hs : St ok (bz w0) w [vl t_api_Change x30 (ρ 24), pl t_api_Change x30 (adOf (ρ 23)), vl t_api_Change x25 (ρ 20), pl t_api_Change x25 (adOf (ρ 19)), vl (tSlice t_api_Change) x1 (.slice a2 x1.length c3), vl (tSlice t_api_Change) x4 (.slice a5 x4.length c6)] [] := hs
        have e54 : ρ 25 = .bool (!decide ((⟨x25.Kind, x25.Server, x25.Weight, x25.Version, (⟨x25.Rule.Kind, x25.Rule.Columns, x25.Rule.Faulty⟩ : api_Rule)⟩ : api_Change) = (⟨x30.Kind, x30.Server, x30.Weight, x30.Version, (⟨x30.Rule.Kind, x30.Rule.Columns, x30.Rule.Faulty⟩ : api_Rule)⟩ : api_Change))) := hp8_
        obtain ⟨cs55, e57⟩ := hp7_
        have e57 : ρ 24 = .agg cs55.toArray := e57
        try rw [e57] at hs
        obtain ⟨ad58, e59⟩ := hp6_
        have e59 : ρ 23 = .pointer (some ad58) := e59
        try rw [e59] at hs
        have e60 : ρ 22 = .int .i64 x18 := hp5_
        have e61 : ρ 21 = .slice a5 x4.length c6 := hp4_
        obtain ⟨cs62, e64⟩ := hp3_
        have e64 : ρ 20 = .agg cs62.toArray := e64
        try rw [e64] at hs
        obtain ⟨ad65, e66⟩ := hp2_
        have e66 : ρ 19 = .pointer (some ad65) := e66
        try rw [e66] at hs
        have e67 : ρ 18 = .int .i64 x18 := hp1_
        have e68 : ρ 17 = .slice a2 x1.length c3 := hp0_
        have hl63 := hs.agglen (n := 7) 2 rfl rfl rfl
        have hl56 := hs.agglen (n := 7) 0 rfl rfl rfl
        refine WA.done (by kernel_rfl) ?_
        refine hK24 _ _ ?_
        rcases iteE hf with ⟨hc69, hf⟩ | ⟨hc69, hf⟩
        · refine W.cond_true (bool_tr e54 hc69) ?_
          refine W.seqK fun K70 hK70 => ?_
          refine W.region ?_
          refine WL.assign (v := .bool false) rfl ?_
          refine WL.nil ?_
          refine hK70 _ _ ?_
          refine W.ret ?_
          have hr := Option.some.inj hf; subst hr
          have hr := hbbs19 _ rfl; subst hr
          have hf := hfs19
          have hr := Option.some.inj hf; subst hr
          exact ⟨_, resOk_one rfl rfl, (), rfl, (hs.mask []).pick []⟩
        · refine W.cond_false (bool_tr e54 hc69) ?_
          refine W.skip ?_
          refine hK23 _ _ ?_
          refine W.region ?_
          refine WL.move (v := .int .i64 x18) ((hu53 5 rfl).trans h17_5) ?_
          obtain ⟨x71, ex71, hf⟩ := letE hf
          refine WL.bin (v := .int .i64 x71) rfl rfl (ib_as ex71 (ib_add _ _ _)) ?_
          refine WL.assign (v := .int .i64 x71) rfl ?_
          refine WL.nil ?_
          exact ⟨_, (Option.some.inj hf).symm, ((hu53 0 rfl).trans h17_0), ((hu53 1 rfl).trans h17_1), rfl, (hs.mask []).pick [4, 5]⟩
    · refine W.cond_false (bool_tr rfl hc22) ?_
      refine W.exit ?_
      have hr := Option.some.inj hf; subst hr
      have hr := hbbs19 _ rfl; subst hr
      have hf := hfs19
      exact Jk14  _ _  ((hs.mask []).pick []) hf
/-! elasticstore/elasticstorelaw08.CommandCompile: function 5 -/
theorem eslaw08_CommandCompile.calls {ok : Nat → Prop} {w0 : World} {x1 : List UInt8} {x2 : api_Summary} {v3 : Value} {r : Bool} (hf : eslaw08_CommandCompile x1 x2 = some r) (i0 : (vl t_api_Summary x2 v3).holds ok w0) :
    Calls Tryd.prog 5 #[bstr x1, v3] w0 fun e w' => ∃ v, e = .returned v ∧ ∃ y : Unit, v = .bool r ∧ St ok (bz w0) w' [] [] := by
  unfold eslaw08_CommandCompile at hf
  refine calls_of_W (fn := Tryd.f5) (N := 68) Tryd.func5 rfl Tryd.ntmps5 rfl ?_
  have hs : St ok (bz w0) w0 [vl t_api_Summary x2 v3] [] := St.init (All.cons i0 All.nil)
  clear i0
  obtain ⟨cs4, hl5, rfl⟩ := hs.aggv (n := 9) 0 rfl rfl rfl
  refine W.seqK fun K6 hK6 => ?_
  refine W.region ?_
  refine WL.box (vs := cs4) hs rfl rfl (fun g7 w hs => ?_)
  refine WL.assign (v := .bool false) rfl ?_
  refine WL.nil ?_
  refine hK6 _ _ ?_
  refine W.seqK fun K8 hK8 => ?_
  refine W.seqK fun K9 hK9 => ?_
  have Jk12 : ∀ (x11 : Bool) (ρ : Env) (w : World), ρ 0 = bstr x1 → ρ 3 = .pointer (some ⟨g7, 0, none⟩) → ρ 36 = .bool x11 → St ok (bz w0) w [vl t_api_Summary x2 (.agg cs4.toArray)] [blk g7 36 cs4] → eslaw08_CommandCompile.j2 x1 x2 x11 = some r → K9 ρ w := by
    intro x11 ρ w h10_0 h10_3 h10_36 hs hf
    refine hK9 _ _ ?_
    unfold eslaw08_CommandCompile.j2 at hf
    rcases iteE hf with ⟨hc13, hf⟩ | ⟨hc13, hf⟩
    · refine W.cond_true (bool_tr h10_36 hc13) ?_
      refine W.seqK fun K14 hK14 => ?_
      refine W.region ?_
      obtain ⟨x15, hxx15, hf⟩ := bindE hf
      refine WL.call (vs := []) hs FN8 trivial (fun ok hA => eslaw08_awake.calls hxx15) ?_
      rintro _ w hs
      refine WL.assign (v := .bool x15) rfl ?_
      refine WL.nil ?_
      refine hK14 _ _ ?_
      refine W.ret ?_
      have hr := Option.some.inj hf; subst hr
      exact ⟨_, resOk_one rfl rfl, (), rfl, (hs.mask []).pick []⟩
    · refine W.cond_false (bool_tr h10_36 hc13) ?_
      refine W.skip ?_
      refine hK8 _ _ ?_
      refine W.seqK fun K16 hK16 => ?_
      refine W.region ?_
      refine WL.move (v := bstr x1) h10_0 ?_
      refine WL.loadAll hs 0 rfl TI36 h10_3 hl5 ?_
      obtain ⟨⟨x17, x18, x19⟩, hxx17, hf⟩ := bindE hf
      refine WL.call (vs := [bstr x1, .agg cs4.toArray]) hs FN14 ⟨rfl, ⟨rfl, trivial⟩⟩ (fun ok hA => command_Compile.calls (x1 := x1) (x2 := x2) hxx17 (hA.get 0 rfl)) ?_
      rintro ⟨a20, n21, c22⟩ w hs
      refine WL.move (v := .tuple #[.slice a20 n21 c22, .int .i64 x18, .int .i64 x19]) rfl ?_
      refine WL.extract (v := .slice a20 n21 c22) rfl rfl ?_
      refine WL.extract (v := .int .i64 x18) rfl rfl ?_
      refine WL.extract (v := .int .i64 x19) rfl rfl ?_
      refine WL.assign (v := .slice a20 n21 c22) rfl ?_
      refine WL.assign (v := .int .i64 x18) rfl ?_
      refine WL.assign (v := .int .i64 x19) rfl ?_
      refine WL.nil ?_
      refine hK16 _ _ ?_
      refine W.seqK fun K23 hK23 => ?_
      refine W.region ?_
      refine WL.move (v := bstr x1) h10_0 ?_
      refine WL.loadAll hs 1 rfl TI36 h10_3 hl5 ?_
      obtain ⟨⟨x24, x25, x26⟩, hxx24, hf⟩ := bindE hf
      refine WL.call (vs := [bstr x1, .agg cs4.toArray]) hs FN15 ⟨rfl, ⟨rfl, trivial⟩⟩ (fun ok hA => esref10_CompileCommands.calls (x1 := x1) (x2 := x2) hxx24 (hA.get 0 rfl)) ?_
      rintro ⟨a27, n28, c29⟩ w hs
      refine WL.move (v := .tuple #[.slice a27 n28 c29, .int .i64 x25, .int .i64 x26]) rfl ?_
      refine WL.extract (v := .slice a27 n28 c29) rfl rfl ?_
      refine WL.extract (v := .int .i64 x25) rfl rfl ?_
      refine WL.extract (v := .int .i64 x26) rfl rfl ?_
      refine WL.assign (v := .slice a27 n28 c29) rfl ?_
      refine WL.assign (v := .int .i64 x25) rfl ?_
      refine WL.assign (v := .int .i64 x26) rfl ?_
      refine WL.nil ?_
      refine hK23 _ _ ?_
      refine W.seqK fun K30 hK30 => ?_
      have Jk33 : ∀ (x32 : Bool) (ρ : Env) (w : World), ρ 4 = .bool x32 → St ok (bz w0) w [] [] → eslaw08_CommandCompile.j1 x32 = some r → K30 ρ w := by
        intro x32 ρ w h31_4 hs hf
        refine hK30 _ _ ?_
        unfold eslaw08_CommandCompile.j1 at hf
        refine W.ret ?_
        have hr := Option.some.inj hf; subst hr
        exact ⟨_, resOk_one rfl h31_4, (), rfl, (hs.mask []).pick []⟩
      refine W.region ?_
      refine WL.move (v := .slice a20 n21 c22) rfl ?_
      refine WL.move (v := .slice a27 n28 c29) rfl ?_
      obtain ⟨x34, hxx34, hf⟩ := bindE hf
      refine WL.callL (vs := [.slice a20 x17.length c22, .slice a27 x24.length c29]) hs FN16 ⟨(Eq.trans rfl (sl_len (hs.ownLen 1 rfl))), ⟨(Eq.trans rfl (sl_len (hs.ownLen 0 rfl))), trivial⟩⟩ (eslaw08_same.calls (x1 := x17) (x4 := x24) hxx34 (hs.ownN 1 rfl) (hs.ownN 0 rfl)) ?_
      rintro _ w hs
      refine WL.move (v := .bool x34) rfl ?_
      rcases iteE hf with ⟨hc35, hf⟩ | ⟨hc35, hf⟩
      · refine WL.move (v := .int .i64 x18) rfl ?_ (hg := (wanted_of rfl rfl (bool_tr rfl hc35)).trans rfl)
        refine WL.move (v := .int .i64 x25) rfl ?_ (hg := (wanted_of rfl rfl (bool_tr rfl hc35)).trans rfl)
        refine WL.bin (v := .bool (x18 == x25)) rfl rfl (ib_eql _ _ _) ?_ (hg := (wanted_of rfl rfl (bool_tr rfl hc35)).trans rfl)
        refine WL.pickT (v := .bool (x18 == x25)) (bool_tr rfl hc35) rfl ?_
        refine WL.move (v := .bool (x18 == x25)) rfl ?_
        rcases iteE hf with ⟨hc36, hf⟩ | ⟨hc36, hf⟩
        · refine WL.move (v := .int .i64 x19) rfl ?_ (hg := (wanted_of rfl rfl (bool_tr rfl hc36)).trans rfl)
          refine WL.move (v := .int .i64 x26) rfl ?_ (hg := (wanted_of rfl rfl (bool_tr rfl hc36)).trans rfl)
          refine WL.bin (v := .bool (x19 == x26)) rfl rfl (ib_eql _ _ _) ?_ (hg := (wanted_of rfl rfl (bool_tr rfl hc36)).trans rfl)
          refine WL.pickT (v := .bool (x19 == x26)) (bool_tr rfl hc36) rfl ?_
          refine WL.move (v := .bool (x19 == x26)) rfl ?_
          rcases iteE hf with ⟨hc37, hf⟩ | ⟨hc37, hf⟩
          · obtain ⟨x38, hxx38, hf⟩ := bindE hf
            refine WL.call (vs := []) hs FN8 trivial (fun ok hA => eslaw08_awake.calls hxx38) ?_ (hg := (wanted_of rfl rfl (bool_tr rfl hc37)).trans rfl)
            rintro _ w hs
            refine WL.pickT (v := .bool x38) (bool_tr rfl hc37) rfl ?_
            refine WL.assign (v := .bool x38) rfl ?_
            refine WL.nil ?_
            exact Jk33 x38 _ _ rfl ((hs.mask []).pick []) hf
          · refine WL.pass ((wanted_of rfl rfl (bool_tr rfl hc37)).trans rfl) rfl ?_
            refine WL.pickF (v := .bool false) (bool_tr rfl hc37) rfl ?_
            refine WL.assign (v := .bool false) rfl ?_
            refine WL.nil ?_
            exact Jk33 false _ _ rfl ((hs.mask []).pick []) hf
        · refine WL.pass ((wanted_of rfl rfl (bool_tr rfl hc36)).trans rfl) rfl ?_
          refine WL.pass ((wanted_of rfl rfl (bool_tr rfl hc36)).trans rfl) rfl ?_
          refine WL.pass ((wanted_of rfl rfl (bool_tr rfl hc36)).trans rfl) rfl ?_
          refine WL.pickF (v := .bool false) (bool_tr rfl hc36) rfl ?_
          refine WL.move (v := .bool false) rfl ?_
          refine WL.pass ((wanted_of rfl rfl rfl).trans rfl) rfl ?_
          refine WL.pickF (v := .bool false) rfl rfl ?_
          refine WL.assign (v := .bool false) rfl ?_
          refine WL.nil ?_
          exact Jk33 false _ _ rfl ((hs.mask []).pick []) hf
      · refine WL.pass ((wanted_of rfl rfl (bool_tr rfl hc35)).trans rfl) rfl ?_
        refine WL.pass ((wanted_of rfl rfl (bool_tr rfl hc35)).trans rfl) rfl ?_
        refine WL.pass ((wanted_of rfl rfl (bool_tr rfl hc35)).trans rfl) rfl ?_
        refine WL.pickF (v := .bool false) (bool_tr rfl hc35) rfl ?_
        refine WL.move (v := .bool false) rfl ?_
        refine WL.pass ((wanted_of rfl rfl rfl).trans rfl) rfl ?_
        refine WL.pass ((wanted_of rfl rfl rfl).trans rfl) rfl ?_
        refine WL.pass ((wanted_of rfl rfl rfl).trans rfl) rfl ?_
        refine WL.pickF (v := .bool false) rfl rfl ?_
        refine WL.move (v := .bool false) rfl ?_
        refine WL.pass ((wanted_of rfl rfl rfl).trans rfl) rfl ?_
        refine WL.pickF (v := .bool false) rfl rfl ?_
        refine WL.assign (v := .bool false) rfl ?_
        refine WL.nil ?_
        exact Jk33 false _ _ rfl ((hs.mask []).pick []) hf
  refine W.region ?_
  refine WL.move (v := bstr x1) rfl ?_
  refine WL.len (v := bstr x1) rfl (len_string UN9) ?_
  refine WL.bin (v := .bool (decide (600 < (x1.length : Int)))) rfl rfl (ib_gtr _ _ _) ?_
  refine WL.move (v := .bool (decide (600 < (x1.length : Int)))) rfl ?_
  rcases iteE hf with ⟨hc39, hf⟩ | ⟨hc39, hf⟩
  · refine WL.pass ((wanted_of rfl rfl (bool_tr rfl hc39)).trans rfl) rfl ?_
    refine WL.pass ((wanted_of rfl rfl (bool_tr rfl hc39)).trans rfl) rfl ?_
    refine WL.pass ((wanted_of rfl rfl (bool_tr rfl hc39)).trans rfl) rfl ?_
    refine WL.pass ((wanted_of rfl rfl (bool_tr rfl hc39)).trans rfl) rfl ?_
    refine WL.pickT (v := .bool true) (bool_tr rfl hc39) rfl ?_
    refine WL.move (v := .bool true) rfl ?_
    refine WL.pass ((wanted_of rfl rfl rfl).trans rfl) rfl ?_
    refine WL.pass ((wanted_of rfl rfl rfl).trans rfl) rfl ?_
    refine WL.pass ((wanted_of rfl rfl rfl).trans rfl) rfl ?_
    refine WL.pass ((wanted_of rfl rfl rfl).trans rfl) rfl ?_
    refine WL.pickT (v := .bool true) rfl rfl ?_
    refine WL.move (v := .bool true) rfl ?_
    refine WL.pass ((wanted_of rfl rfl rfl).trans rfl) rfl ?_
    refine WL.pass ((wanted_of rfl rfl rfl).trans rfl) rfl ?_
    refine WL.pass ((wanted_of rfl rfl rfl).trans rfl) rfl ?_
    refine WL.pass ((wanted_of rfl rfl rfl).trans rfl) rfl ?_
    refine WL.pickT (v := .bool true) rfl rfl ?_
    refine WL.move (v := .bool true) rfl ?_
    refine WL.pass ((wanted_of rfl rfl rfl).trans rfl) rfl ?_
    refine WL.pass ((wanted_of rfl rfl rfl).trans rfl) rfl ?_
    refine WL.pass ((wanted_of rfl rfl rfl).trans rfl) rfl ?_
    refine WL.pickT (v := .bool true) rfl rfl ?_
    refine WL.nil ?_
    exact Jk12 true _ _ rfl rfl rfl ((hs.mask [true]).pick [0]) hf
  · refine WL.fieldAddr (m := 0) rfl FA36_0 rfl ?_ (hg := (wanted_of rfl rfl (bool_tr rfl hc39)).trans rfl)
    refine WL.loadF (z := x2.Joined) F_api_Summary_Joined hs 0 rfl 0 rfl rfl TI33 (.inr rfl) rfl rfl (fun v40 hs => ?_) (hg := (wanted_of rfl rfl (bool_tr rfl hc39)).trans rfl)
    obtain ⟨a41, c42, rfl⟩ := hs.slice 0 rfl
    refine WL.len (v := .slice a41 (x2.Joined).length c42) rfl (len_slice UN33) ?_ (hg := (wanted_of rfl rfl (bool_tr rfl hc39)).trans rfl)
    refine WL.bin (v := .bool (decide (40 < ((x2.Joined).length : Int)))) rfl rfl (ib_gtr _ _ _) ?_ (hg := (wanted_of rfl rfl (bool_tr rfl hc39)).trans rfl)
    refine WL.pickF (v := .bool (decide (40 < ((x2.Joined).length : Int)))) (bool_tr rfl hc39) rfl ?_
    refine WL.move (v := .bool (decide (40 < ((x2.Joined).length : Int)))) rfl ?_
    rcases iteE hf with ⟨hc43, hf⟩ | ⟨hc43, hf⟩
    · refine WL.pass ((wanted_of rfl rfl (bool_tr rfl hc43)).trans rfl) rfl ?_
      refine WL.pass ((wanted_of rfl rfl (bool_tr rfl hc43)).trans rfl) rfl ?_
      refine WL.pass ((wanted_of rfl rfl (bool_tr rfl hc43)).trans rfl) rfl ?_
      refine WL.pass ((wanted_of rfl rfl (bool_tr rfl hc43)).trans rfl) rfl ?_
      refine WL.pickT (v := .bool true) (bool_tr rfl hc43) rfl ?_
      refine WL.move (v := .bool true) rfl ?_
      refine WL.pass ((wanted_of rfl rfl rfl).trans rfl) rfl ?_
      refine WL.pass ((wanted_of rfl rfl rfl).trans rfl) rfl ?_
      refine WL.pass ((wanted_of rfl rfl rfl).trans rfl) rfl ?_
      refine WL.pass ((wanted_of rfl rfl rfl).trans rfl) rfl ?_
      refine WL.pickT (v := .bool true) rfl rfl ?_
      refine WL.move (v := .bool true) rfl ?_
      refine WL.pass ((wanted_of rfl rfl rfl).trans rfl) rfl ?_
      refine WL.pass ((wanted_of rfl rfl rfl).trans rfl) rfl ?_
      refine WL.pass ((wanted_of rfl rfl rfl).trans rfl) rfl ?_
      refine WL.pickT (v := .bool true) rfl rfl ?_
      refine WL.nil ?_
      exact Jk12 true _ _ rfl rfl rfl ((hs.mask [true]).pick [1]) hf
    · refine WL.fieldAddr (m := 1) rfl FA36_1 rfl ?_ (hg := (wanted_of rfl rfl (bool_tr rfl hc43)).trans rfl)
      refine WL.loadF (z := x2.Removed) F_api_Summary_Removed hs 0 rfl 1 rfl rfl TI33 (.inr rfl) rfl rfl (fun v44 hs => ?_) (hg := (wanted_of rfl rfl (bool_tr rfl hc43)).trans rfl)
      obtain ⟨a45, c46, rfl⟩ := hs.slice 0 rfl
      refine WL.len (v := .slice a45 (x2.Removed).length c46) rfl (len_slice UN33) ?_ (hg := (wanted_of rfl rfl (bool_tr rfl hc43)).trans rfl)
      refine WL.bin (v := .bool (decide (40 < ((x2.Removed).length : Int)))) rfl rfl (ib_gtr _ _ _) ?_ (hg := (wanted_of rfl rfl (bool_tr rfl hc43)).trans rfl)
      refine WL.pickF (v := .bool (decide (40 < ((x2.Removed).length : Int)))) (bool_tr rfl hc43) rfl ?_
      refine WL.move (v := .bool (decide (40 < ((x2.Removed).length : Int)))) rfl ?_
      rcases iteE hf with ⟨hc47, hf⟩ | ⟨hc47, hf⟩
      · refine WL.pass ((wanted_of rfl rfl (bool_tr rfl hc47)).trans rfl) rfl ?_
        refine WL.pass ((wanted_of rfl rfl (bool_tr rfl hc47)).trans rfl) rfl ?_
        refine WL.pass ((wanted_of rfl rfl (bool_tr rfl hc47)).trans rfl) rfl ?_
        refine WL.pass ((wanted_of rfl rfl (bool_tr rfl hc47)).trans rfl) rfl ?_
        refine WL.pickT (v := .bool true) (bool_tr rfl hc47) rfl ?_
        refine WL.move (v := .bool true) rfl ?_
        refine WL.pass ((wanted_of rfl rfl rfl).trans rfl) rfl ?_
        refine WL.pass ((wanted_of rfl rfl rfl).trans rfl) rfl ?_
        refine WL.pass ((wanted_of rfl rfl rfl).trans rfl) rfl ?_
        refine WL.pickT (v := .bool true) rfl rfl ?_
        refine WL.nil ?_
        exact Jk12 true _ _ rfl rfl rfl ((hs.mask [true]).pick [2]) hf
      · refine WL.fieldAddr (m := 2) rfl FA36_2 rfl ?_ (hg := (wanted_of rfl rfl (bool_tr rfl hc47)).trans rfl)
        refine WL.loadF (z := x2.Weights) F_api_Summary_Weights hs 0 rfl 2 rfl rfl TI34 (.inr rfl) rfl rfl (fun v48 hs => ?_) (hg := (wanted_of rfl rfl (bool_tr rfl hc47)).trans rfl)
        obtain ⟨a49, c50, rfl⟩ := hs.slice 0 rfl
        refine WL.len (v := .slice a49 (x2.Weights).length c50) rfl (len_slice UN34) ?_ (hg := (wanted_of rfl rfl (bool_tr rfl hc47)).trans rfl)
        refine WL.bin (v := .bool (decide (40 < ((x2.Weights).length : Int)))) rfl rfl (ib_gtr _ _ _) ?_ (hg := (wanted_of rfl rfl (bool_tr rfl hc47)).trans rfl)
        refine WL.pickF (v := .bool (decide (40 < ((x2.Weights).length : Int)))) (bool_tr rfl hc47) rfl ?_
        refine WL.move (v := .bool (decide (40 < ((x2.Weights).length : Int)))) rfl ?_
        rcases iteE hf with ⟨hc51, hf⟩ | ⟨hc51, hf⟩
        · refine WL.pass ((wanted_of rfl rfl (bool_tr rfl hc51)).trans rfl) rfl ?_
          refine WL.pass ((wanted_of rfl rfl (bool_tr rfl hc51)).trans rfl) rfl ?_
          refine WL.pass ((wanted_of rfl rfl (bool_tr rfl hc51)).trans rfl) rfl ?_
          refine WL.pickT (v := .bool true) (bool_tr rfl hc51) rfl ?_
          refine WL.nil ?_
          exact Jk12 true _ _ rfl rfl rfl ((hs.mask [true]).pick [3]) hf
        · refine WL.loadAll hs 0 rfl TI36 rfl hl5 ?_ (hg := (wanted_of rfl rfl (bool_tr rfl hc51)).trans rfl)
          obtain ⟨x52, hxx52, hf⟩ := bindE hf
          refine WL.call (vs := [.agg cs4.toArray]) hs FN13 ⟨rfl, trivial⟩ (fun ok hA => esref10_ValidateSummary.calls (x1 := x2) hxx52 (hA.get 3 rfl)) ?_ (hg := (wanted_of rfl rfl (bool_tr rfl hc51)).trans rfl)
          rintro _ w hs
          refine WL.bin (v := .bool (x52 != 0)) rfl rfl (ib_neq _ _ _) ?_ (hg := (wanted_of rfl rfl (bool_tr rfl hc51)).trans rfl)
          refine WL.pickF (v := .bool (x52 != 0)) (bool_tr rfl hc51) rfl ?_
          refine WL.nil ?_
          exact Jk12 (x52 != 0) _ _ rfl rfl rfl ((hs.mask [true]).pick [3]) hf
end Go.Proofs.YthfoljpjhegkmaaDoor
