import Derived.Test.YthfoljpjhegkmaaDoorFh
import Derived.Test.YthfoljpjhegkmaaDoorLt
import Derived.Test.YthfoljpjhegkmaaDoorLx
import Derived.Test.YthfoljpjhegkmaaDoorFp5
import Derived.Test.YthfoljpjhegkmaaDoorFp6
set_option linter.unusedVariables false
set_option linter.unusedSimpArgs false
namespace Go.Proofs.YthfoljpjhegkmaaDoor
open Go Go.RowKit Go.Proofs.YthfoljpjhegkmaaDoorL
set_option maxRecDepth 100000
set_option maxHeartbeats 4000000
/-! elasticstore/elasticstorelaw00.Pool: function 18 -/
theorem eslaw00_Pool.calls {ok : Nat → Prop} {w0 : World} {x1 : List Int} {a2 : Option Addr} {c3 : Nat} {r : List api_Proposal} (hf : eslaw00_Pool x1 = some r) (i0 : (vl (tSlice (tInt .i64)) x1 (.slice a2 x1.length c3)).holds ok w0) :
    Calls Tryd.prog 18 #[.slice a2 x1.length c3] w0 fun e w' => ∃ v, e = .returned v ∧ ∃ y : (Option Addr × Nat × Nat), v = .slice y.1 y.2.1 y.2.2 ∧ St ok (bz w0) w' [] [own t_api_Proposal 54 (.slice y.1 y.2.1 y.2.2) r] := by
  unfold eslaw00_Pool at hf
  refine calls_of_W (fn := Tryd.f18) (N := 74) Tryd.func18 rfl Tryd.ntmps18 rfl ?_
  have hs : St ok (bz w0) w0 [vl (tSlice (tInt .i64)) x1 (.slice a2 x1.length c3)] [] := St.init (All.cons i0 All.nil)
  clear i0
  refine W.seqK fun K4 hK4 => ?_
  refine W.region ?_
  refine WL.assign (v := .slice none 0 0) rfl ?_
  refine WL.nil ?_
  refine hK4 _ _ ?_
  refine W.seqK fun K5 hK5 => ?_
  refine W.region ?_
  refine WL.assign (v := .slice none 0 0) rfl ?_
  refine WL.nil ?_
  refine hK5 _ _ ?_
  refine W.seqK fun K6 hK6 => ?_
  refine W.region ?_
  refine WL.assign (v := .int .i64 3) rfl ?_
  refine WL.nil ?_
  refine hK6 _ _ ?_
  refine W.seqK fun K7 hK7 => ?_
  have hs := hs.ownNil t_api_Proposal 54
  have Jk13 : ∀ (x9 : List api_Proposal) (a10 : Option Addr) (c11 : Nat) (n12 : Nat) (ρ : Env) (w : World), ρ 3 = .slice a10 n12 c11 → St ok (bz w0) w [] [own t_api_Proposal 54 (.slice a10 n12 c11) x9] → eslaw00_Pool.j1 x9 = some r → K7 ρ w := by
    intro x9 a10 c11 n12 ρ w h8_3 hs hf
    refine hK7 _ _ ?_
    unfold eslaw00_Pool.j1 at hf
    refine W.seqK fun K14 hK14 => ?_
    refine W.region ?_
    refine WL.move (v := .slice a10 n12 c11) h8_3 ?_
    refine WL.assign (v := .slice a10 n12 c11) rfl ?_
    refine WL.nil ?_
    refine hK14 _ _ ?_
    refine W.ret ?_
    have hr := Option.some.inj hf; subst hr
    exact ⟨_, resOk_one rfl rfl, (a10, n12, c11), rfl, (hs.mask [true]).pick []⟩
  refine W.seqK fun K15 hK15 => ?_
  refine W.region ?_
  refine WL.assign (v := .int .i64 0) rfl ?_
  refine WL.nil ?_
  refine hK15 _ _ ?_
  refine W.block ?_
  obtain ⟨bs23, hbs23, hfs23⟩ := bindE hf
  refine W.loop hbs23 (fun s ρ w => match s with | (x17, x21, x22) => ∃ (a18 : Option Addr), ∃ (c19 : Nat), ∃ (n20 : Nat), ρ 0 = .slice a2 x1.length c3 ∧ ρ 3 = .slice a18 n20 c19 ∧ ρ 4 = .int .i64 x21 ∧ ρ 5 = .int .i64 x22 ∧ St ok (bz w0) w [vl (tSlice (tInt .i64)) x1 (.slice a2 x1.length c3)] [own t_api_Proposal 54 (.slice a18 n20 c19) x17]) ⟨none, 0, 0, rfl, rfl, rfl, rfl, (hs.mask [true]).pick [0]⟩ ?_
  intro s ρ w os23 hI hf hbbs23
  obtain ⟨x17, x21, x22⟩ := s
  obtain ⟨a18, c19, n20, h16_0, h16_3, h16_4, h16_5, hs⟩ := hI
  unfold eslaw00_Pool.l2 at hf
  refine W.seqK fun K24 hK24 => ?_
  refine W.seqK fun K25 hK25 => ?_
  refine W.region ?_
  refine WL.move (v := .int .i64 x22) h16_5 ?_
  refine WL.bin (v := .bool (decide (x22 < 3))) rfl rfl (ib_lss _ _ _) ?_
  refine WL.nil ?_
  refine hK25 _ _ ?_
  rcases iteE hf with ⟨hc26, hf⟩ | ⟨hc26, hf⟩
  {
  refine W.cond_true (bool_tr rfl hc26) ?_
  refine W.skip ?_
  refine hK24 _ _ ?_
  refine W.seqK fun K27 hK27 => ?_
  have Jk34 : ∀ (x29 : List api_Proposal) (x33 : Int) (a30 : Option Addr) (c31 : Nat) (n32 : Nat) (ρ : Env) (w : World), ρ 0 = .slice a2 x1.length c3 → ρ 3 = .slice a30 n32 c31 → ρ 4 = .int .i64 x33 → ρ 5 = .int .i64 x22 → St ok (bz w0) w [vl (tSlice (tInt .i64)) x1 (.slice a2 x1.length c3)] [own t_api_Proposal 54 (.slice a30 n32 c31) x29] → eslaw00_Pool.j2 x22 x29 x33 = some os23 → K27 ρ w := by
    intro x29 x33 a30 c31 n32 ρ w h28_0 h28_3 h28_4 h28_5 hs hf
    refine hK27 _ _ ?_
    unfold eslaw00_Pool.j2 at hf
    refine W.region ?_
    refine WL.move (v := .int .i64 x22) h28_5 ?_
    obtain ⟨x35, ex35, hf⟩ := letE hf
    refine WL.bin (v := .int .i64 x35) rfl rfl (ib_as ex35 (ib_add _ _ _)) ?_
    refine WL.assign (v := .int .i64 x35) rfl ?_
    refine WL.nil ?_
    exact ⟨_, (Option.some.inj hf).symm, a30, c31, n32, h28_0, h28_3, h28_4, rfl, (hs.mask [true]).pick [0]⟩
  refine W.block ?_
  refine W.seqK fun K36 hK36 => ?_
  refine W.region ?_
  refine WL.assign (v := .int .i64 0) rfl ?_
  refine WL.nil ?_
  refine hK36 _ _ ?_
  refine W.block ?_
  obtain ⟨bs44, hbs44, hfs44⟩ := bindE hf
  refine W.loop hbs44 (fun s ρ w => match s with | (x38, x42, x43) => ∃ (a39 : Option Addr), ∃ (c40 : Nat), ∃ (n41 : Nat), ρ 0 = .slice a2 x1.length c3 ∧ ρ 3 = .slice a39 n41 c40 ∧ ρ 4 = .int .i64 x42 ∧ ρ 5 = .int .i64 x22 ∧ ρ 6 = .int .i64 x43 ∧ St ok (bz w0) w [vl (tSlice (tInt .i64)) x1 (.slice a2 x1.length c3)] [own t_api_Proposal 54 (.slice a39 n41 c40) x38]) ⟨a18, c19, n20, h16_0, h16_3, h16_4, h16_5, rfl, (hs.mask [true]).pick [0]⟩ ?_
  intro s ρ w os44 hI hf hbbs44
  obtain ⟨x38, x42, x43⟩ := s
  obtain ⟨a39, c40, n41, h37_0, h37_3, h37_4, h37_5, h37_6, hs⟩ := hI
  unfold eslaw00_Pool.l1 at hf
  refine W.seqK fun K45 hK45 => ?_
  refine W.seqK fun K46 hK46 => ?_
  refine W.region ?_
  refine WL.move (v := .int .i64 x43) h37_6 ?_
  refine WL.move (v := .slice a2 x1.length c3) h37_0 ?_
  refine WL.move (v := .int .i64 x22) h37_5 ?_
  obtain ⟨x47, hxx47, hf⟩ := bindE hf
  refine WL.call (vs := [.slice a2 x1.length c3, .int .i64 x22]) hs FN41 ⟨rfl, ⟨rfl, trivial⟩⟩ (fun ok hA => eslaw00_At.calls (x1 := x1) (x4 := x22) hxx47 (hA.get 0 rfl)) ?_
  rintro _ w hs
  obtain ⟨x48, hxx48, hf⟩ := bindE hf
  refine WL.call (vs := [.int .i64 x47, .int .i64 4, .int .i64 0]) hs FN40 ⟨rfl, ⟨rfl, ⟨rfl, trivial⟩⟩⟩ (fun ok hA => eslaw00_Digit.calls (x1 := x47) (x2 := 4) (x3 := 0) hxx48) ?_
  rintro _ w hs
  refine WL.bin (v := .bool (decide (x43 < x48))) rfl rfl (ib_lss _ _ _) ?_
  refine WL.nil ?_
  refine hK46 _ _ ?_
  rcases iteE hf with ⟨hc49, hf⟩ | ⟨hc49, hf⟩
  {
  refine W.cond_true (bool_tr rfl hc49) ?_
  refine W.skip ?_
  refine hK45 _ _ ?_
  refine W.seqK fun K50 hK50 => ?_
  refine W.block ?_
  refine W.seqK fun K51 hK51 => ?_
  refine W.region ?_
  refine WL.move (v := .int .i64 x22) h37_5 ?_
  obtain ⟨x52, ex52, hf⟩ := letE hf
  refine WL.bin (v := .int .i64 x52) rfl rfl (ib_as ex52 (ib_add _ _ _)) ?_
  refine WL.move (v := .int .i64 x43) h37_6 ?_
  obtain ⟨x53, ex53, hf⟩ := letE hf
  refine WL.bin (v := .int .i64 x53) rfl rfl (ib_as ex53 (ib_add _ _ _)) ?_
  refine WL.move (v := .slice a2 x1.length c3) h37_0 ?_
  refine WL.move (v := .int .i64 x42) h37_4 ?_
  obtain ⟨x54, hxx54, hf⟩ := bindE hf
  refine WL.call (vs := [.slice a2 x1.length c3, .int .i64 x42]) hs FN41 ⟨rfl, ⟨rfl, trivial⟩⟩ (fun ok hA => eslaw00_At.calls (x1 := x1) (x4 := x42) hxx54 (hA.get 0 rfl)) ?_
  rintro _ w hs
  obtain ⟨x55, hxx55, hf⟩ := bindE hf
  refine WL.call (vs := [.int .i64 x54]) hs FN42 ⟨rfl, trivial⟩ (fun ok hA => eslaw00_Change.calls (x1 := x54) hxx55) ?_
  rintro cs56 w hs
  have hl57 := hs.agglen (n := 7) 0 rfl rfl rfl
  refine WL.buildSlice (n := 1) (vs := [(0, .agg cs56.toArray)]) (cs := cs56) hs ⟨⟨rfl, rfl⟩, trivial⟩ (bls PS38 (by decide) (by simp [fillS, fillL, Value.cells, hl57])) (fun g58 w hs => ?_)
  refine WL.build (vs := [(0, .int .i64 x52), (1, .int .i64 x53), (2, .slice (some ⟨g58, 0, none⟩) ([x55]).length 1)]) (cs := [.int .i64 x52, .int .i64 x53, .slice (some ⟨g58, 0, none⟩) ([x55]).length 1]) ⟨⟨rfl, rfl⟩, ⟨⟨rfl, rfl⟩, ⟨⟨rfl, rfl⟩, trivial⟩⟩⟩ (bld PL54 rfl) ?_
  refine WL.alloc hs ZV54 (fun g59 w hs => ?_)
  refine WL.storeAll (vs := [.int .i64 x52, .int .i64 x53, .slice (some ⟨g58, 0, none⟩) ([x55]).length 1]) hs 0 rfl TI54 rfl rfl rfl rfl (ones_of rfl) rfl (fun w hs => ?_)
  have hs := hs.ownLit (A := t_api_Change) (xs := [x55]) 1 rfl (fun ok hA => (Cells.one (T := t_api_Change) (R_agg (hA.get 0 rfl) rfl))) (Nat.le_of_ble_eq_true rfl)
  refine WL.nil ?_
  refine hK51 _ _ ?_
  refine W.seqK fun K60 hK60 => ?_
  refine W.region ?_
  refine WL.move (v := .slice a2 x1.length c3) h37_0 ?_
  refine WL.move (v := .int .i64 x42) h37_4 ?_
  obtain ⟨x61, ex61, hf⟩ := letE hf
  refine WL.bin (v := .int .i64 x61) rfl rfl (ib_as ex61 (ib_add _ _ _)) ?_
  obtain ⟨x62, hxx62, hf⟩ := bindE hf
  refine WL.call (vs := [.slice a2 x1.length c3, .int .i64 x61]) hs FN41 ⟨rfl, ⟨rfl, trivial⟩⟩ (fun ok hA => eslaw00_At.calls (x1 := x1) (x4 := x61) hxx62 (hA.get 1 rfl)) ?_
  rintro _ w hs
  obtain ⟨x63, hxx63, hf⟩ := bindE hf
  refine WL.call (vs := [.int .i64 x62]) hs FN42 ⟨rfl, trivial⟩ (fun ok hA => eslaw00_Change.calls (x1 := x62) hxx63) ?_
  rintro cs64 w hs
  have hl65 := hs.agglen (n := 7) 0 rfl rfl rfl
  refine WL.alloc hs ZV26 (fun g66 w hs => ?_)
  refine WL.storeAll (vs := cs64) hs 0 rfl TI26 rfl rfl rfl hl65 (hs.ones 0 rfl rfl) rfl (fun w hs => ?_)
  refine WL.nil ?_
  refine hK60 _ _ ?_
  refine W.seqK fun K67 hK67 => ?_
  have Jk73 : ∀ (x69 : List api_Change) (a70 : Option Addr) (c71 : Nat) (n72 : Nat) (ρ : Env) (w : World), ρ 0 = .slice a2 x1.length c3 → ρ 3 = .slice a39 n41 c40 → ρ 4 = .int .i64 x42 → ρ 5 = .int .i64 x22 → ρ 6 = .int .i64 x43 → ρ 7 = .pointer (some ⟨g59, 0, none⟩) → St ok (bz w0) w [vl (tSlice (tInt .i64)) x1 (.slice a2 x1.length c3)] [blk g59 54 [.int .i64 x52, .int .i64 x53, .slice a70 n72 c71], own t_api_Change 26 (.slice a70 n72 c71) x69, own t_api_Proposal 54 (.slice a39 n41 c40) x38] → eslaw00_Pool.j3 x38 x42 x43 x52 x53 x69 = some os44 → K67 ρ w := by
    intro x69 a70 c71 n72 ρ w h68_0 h68_3 h68_4 h68_5 h68_6 h68_7 hs hf
    refine hK67 _ _ ?_
    unfold eslaw00_Pool.j3 at hf
    refine W.seqK fun K74 hK74 => ?_
    refine W.region ?_
    refine WL.move (v := .slice a39 n41 c40) h68_3 ?_
    refine WL.loadN (vs := [.int .i64 x52, .int .i64 x53, .slice a70 n72 c71]) hs 0 rfl TI54 h68_7 rfl rfl ?_
    refine WL.buildSlice (n := 1) (vs := [(0, .agg ([.int .i64 x52, .int .i64 x53, .slice a70 n72 c71] : List Value).toArray)]) (cs := [.int .i64 x52, .int .i64 x53, .slice a70 n72 c71]) hs ⟨⟨rfl, rfl⟩, trivial⟩ (bls PS50 (by decide) rfl) (fun g75 w hs => ?_)
    obtain rfl := hs.ownLen 2 rfl
    have hs := hs.freezeOwn 2 rfl
    obtain ⟨x76, hxx76, hf⟩ := bindE hf
    obtain ⟨hbx76, hex76⟩ := appE hxx76
    refine WL.append (ys := [(⟨x52, x53, x69⟩ : api_Proposal)]) (zs := x76) hs 2 rfl 0 rfl UN50 EI54 rfl rfl (fun ok hA => (Cells.one (T := t_api_Proposal) (show t_api_Proposal.R ok _ (⟨x52, x53, x69⟩ : api_Proposal) _ from ⟨[.int .i64 x52], [.int .i64 x53, .slice a70 x69.length c71], rfl, rfl, ⟨[.int .i64 x53], [.slice a70 x69.length c71], rfl, rfl, (R_one (hA.get 0 rfl))⟩⟩))) hbx76 (by omega) hex76 (fun v77 w hs => ?_)
    obtain ⟨a78, n80, c79, rfl⟩ := hs.ownv3 2 rfl
    refine WL.assign (v := .slice a78 n80 c79) rfl ?_
    refine WL.nil ?_
    refine hK74 _ _ ?_
    refine W.region ?_
    refine WL.move (v := .int .i64 x42) h68_4 ?_
    obtain ⟨x81, ex81, hf⟩ := letE hf
    refine WL.bin (v := .int .i64 x81) rfl rfl (ib_as ex81 (ib_add _ _ _)) ?_
    refine WL.assign (v := .int .i64 x81) rfl ?_
    refine WL.nil ?_
    refine hK50 _ _ ?_
    refine W.region ?_
    refine WL.move (v := .int .i64 x43) h68_6 ?_
    obtain ⟨x82, ex82, hf⟩ := letE hf
    refine WL.bin (v := .int .i64 x82) rfl rfl (ib_as ex82 (ib_add _ _ _)) ?_
    refine WL.assign (v := .int .i64 x82) rfl ?_
    refine WL.nil ?_
    exact ⟨_, (Option.some.inj hf).symm, a78, c79, n80, h68_0, rfl, rfl, h68_5, rfl, (hs.mask [false, false, true]).pick [1]⟩
  refine W.seqK fun K83 hK83 => ?_
  have Jk86 : ∀ (x85 : Bool) (ρ : Env) (w : World), ρ 0 = .slice a2 x1.length c3 → ρ 3 = .slice a39 n41 c40 → ρ 4 = .int .i64 x42 → ρ 5 = .int .i64 x22 → ρ 6 = .int .i64 x43 → ρ 7 = .pointer (some ⟨g59, 0, none⟩) → ρ 8 = .pointer (some ⟨g66, 0, none⟩) → ρ 60 = .bool x85 → St ok (bz w0) w [vl (tSlice (tInt .i64)) x1 (.slice a2 x1.length c3), vl t_api_Change x63 (.agg cs64.toArray)] [blk g66 26 cs64, blk g59 54 ([.int .i64 x52, .int .i64 x53, .slice (some ⟨g58, 0, none⟩) ([x55]).length 1]), own t_api_Change 26 (.slice (some ⟨g58, 0, none⟩) ([x55]).length 1) [x55], own t_api_Proposal 54 (.slice a39 n41 c40) x38] → eslaw00_Pool.j4 x38 x42 x43 x52 x53 x55 x63 x85 = some os44 → K83 ρ w := by
    intro x85 ρ w h84_0 h84_3 h84_4 h84_5 h84_6 h84_7 h84_8 h84_60 hs hf
    refine hK83 _ _ ?_
    unfold eslaw00_Pool.j4 at hf
    rcases iteE hf with ⟨hc87, hf⟩ | ⟨hc87, hf⟩
    {
    refine W.cond_true (bool_tr h84_60 hc87) ?_
    refine W.region ?_
    refine WL.fieldAddr (m := 2) h84_7 FA54_2 rfl ?_
    refine WL.load1 (v := .slice (some ⟨g58, 0, none⟩) ([x55]).length 1) hs 1 rfl TI38 rfl rfl ?_
    refine WL.loadAll hs 0 rfl TI26 h84_8 hl65 ?_
    refine WL.buildSlice (n := 1) (vs := [(0, .agg cs64.toArray)]) (cs := cs64) hs ⟨⟨rfl, rfl⟩, trivial⟩ (bls PS38 (by decide) (by simp [fillS, fillL, Value.cells, hl65])) (fun g88 w hs => ?_)
    obtain ⟨x89, hxx89, hf⟩ := bindE hf
    obtain ⟨hbx89, hex89⟩ := appE hxx89
    refine WL.append (ys := [x63]) (zs := x89) hs 3 rfl 0 rfl UN38 EI26 rfl rfl (fun ok hA => (Cells.one (T := t_api_Change) (R_agg (hA.get 1 rfl) rfl))) hbx89 (by omega) hex89 (fun v90 w hs => ?_)
    obtain ⟨a91, n93, c92, rfl⟩ := hs.ownv3 3 rfl
    refine WL.fieldAddr (m := 2) h84_7 FA54_2 rfl ?_
    refine WL.store (vs := [.slice a91 n93 c92]) (cs' := [.int .i64 x52, .int .i64 x53, .slice a91 n93 c92]) hs 2 rfl TI38 rfl rfl rfl rfl (ones_of rfl) (Nat.le_of_ble_eq_true rfl) rfl (fun w hs => ?_)
    refine WL.nil ?_
    exact Jk73 x89 a91 c92 n93 _ _ h84_0 h84_3 h84_4 h84_5 h84_6 h84_7 ((hs.mask [false, false, true, true, true]).pick [0]) hf }
    {
    refine W.cond_false (bool_tr h84_60 hc87) ?_
    refine W.skip ?_
    exact Jk73 [x55] (some ⟨g58, 0, none⟩) 1 (([x55]).length) _ _ h84_0 h84_3 h84_4 h84_5 h84_6 h84_7 ((hs.mask [false, true, true, true]).pick [0]) hf }
  obtain ⟨x94, hxx94, hf⟩ := bindE hf
  obtain ⟨x95, hxx95, hf⟩ := bindE hf
  rcases iteE hf with ⟨hc96, hf⟩ | ⟨hc96, hf⟩
  {
  obtain ⟨x98, hxx98, hf⟩ := bindE hf
  rcases iteE hf with ⟨hc102, hf⟩ | ⟨hc102, hf⟩
  {
  refine W.any (by kernel_rfl) 25 0 [true, true, true, true, true, true, true, true, true, true, true, true, true, true, true, true, true, true, true, true, true, true, true, true, true] rfl rfl (poAt [pv (.slice a2 x1.length c3), pv (.int .i64 x42), pv (.int .i64 x94), pv (.int .i64 x95), pv (.bool (x95 == 1)), pv (.bool (x95 == 1)), pv (.pointer (some ⟨g66, 0, none⟩)), pv (.int .i64 x63.Kind), pv (.pointer (some ⟨g59, 2, none⟩)), pv (.slice (some ⟨g58, 0, none⟩) ([x55]).length 1), po (fun ad => Go.Proofs.YthfoljpjhegkmaaDoorL.OwnAt 7 (.slice (some ⟨g58, 0, none⟩) ([x55]).length 1) 0 ad), po (fun ad => OwnAtF 7 0 (.slice (some ⟨g58, 0, none⟩) ([x55]).length 1) 0 ad), pv (.int .i64 x98.Kind), pv (.bool (x63.Kind != x98.Kind)), pv (.bool (x63.Kind != x98.Kind)), pv (undef), pv (undef), pv (undef), pv (undef), pv (undef), pv (undef), pv (undef), pv (undef), pv (.bool true), pv (.bool true)]) (Λ := [blk g66 26 cs64, blk g59 54 ([.int .i64 x52, .int .i64 x53, .slice (some ⟨g58, 0, none⟩) ([x55]).length 1]), own t_api_Change 26 (.slice (some ⟨g58, 0, none⟩) ([x55]).length 1) [x55], own t_api_Proposal 54 (.slice a39 n41 c40) x38]) hs (by kernel_rfl) (by kernel_rfl) (by kernel_rfl) ⟨⟨⟨⟨⟨⟨⟨⟨⟨⟨⟨⟨⟨⟨⟨⟨⟨⟨⟨⟨⟨⟨⟨⟨⟨trivial, ?_⟩, ?_⟩, ?_⟩, ?_⟩, ?_⟩, ?_⟩, ?_⟩, ?_⟩, ?_⟩, ?_⟩, ?_⟩, ?_⟩, ?_⟩, ?_⟩, ?_⟩, ?_⟩, ?_⟩, ?_⟩, ?_⟩, ?_⟩, ?_⟩, ?_⟩, ?_⟩, ?_⟩, ?_⟩ ?_
  {
  intro ρ w Γx Λx hs hu hp
  refine WL.move (v := .slice a2 x1.length c3) ((hu 0 rfl).trans h37_0) ?_
  exact WL.nil ⟨rfl, _, rfl, rfl, hs.cutG 0 0⟩ }
  {
  intro ρ w Γx Λx hs hu hp
  refine WL.move (v := .int .i64 x42) ((hu 4 rfl).trans h37_4) ?_
  exact WL.nil ⟨rfl, _, rfl, rfl, hs.cutG 0 0⟩ }
  {
  intro ρ w Γx Λx hs hu hp
  have e103 : ρ 36 = .slice a2 x1.length c3 := (hp 0 rfl).1
  have e104 : ρ 37 = .int .i64 x42 := (hp 1 rfl).1
  refine WL.call (vs := [.slice a2 x1.length c3, .int .i64 x42]) hs FN41 ⟨e103, ⟨e104, trivial⟩⟩ (fun ok hA => eslaw00_At.calls (x1 := x1) (x4 := x42) hxx94 (hA.get (Γx.length + 2) (getApp rfl))) ?_
  rintro _ w hs
  exact WL.nil ⟨rfl, _, rfl, rfl, hs.cutG 0 0⟩ }
  {
  intro ρ w Γx Λx hs hu hp
  have e105 : ρ 38 = .int .i64 x94 := (hp 2 rfl).1
  refine WL.call (vs := [.int .i64 x94, .int .i64 2, .int .i64 12]) hs FN40 ⟨e105, ⟨rfl, ⟨rfl, trivial⟩⟩⟩ (fun ok hA => eslaw00_Digit.calls (x1 := x94) (x2 := 2) (x3 := 12) hxx95) ?_
  rintro _ w hs
  exact WL.nil ⟨rfl, _, rfl, rfl, hs.cutG 0 0⟩ }
  {
  intro ρ w Γx Λx hs hu hp
  have e106 : ρ 39 = .int .i64 x95 := (hp 3 rfl).1
  refine WL.bin (v := .bool (x95 == 1)) e106 rfl (ib_eql _ _ _) ?_
  exact WL.nil ⟨rfl, _, rfl, rfl, hs.cutG 0 0⟩ }
  {
  intro ρ w Γx Λx hs hu hp
  have e107 : ρ 40 = .bool (x95 == 1) := (hp 4 rfl).1
  refine WL.move (v := .bool (x95 == 1)) e107 ?_
  exact WL.nil ⟨rfl, _, rfl, rfl, hs.cutG 0 0⟩ }
  {
  intro ρ w Γx Λx hs hu hp
  have e108 : ρ 41 = .bool (x95 == 1) := (hp 5 rfl).1
  refine WL.fieldAddr (m := 0) (hu 8 rfl) FA26_0 rfl ?_ (hg := (wanted_of rfl rfl (bool_tr e108 hc96)).trans rfl)
  exact WL.nil ⟨rfl, _, rfl, rfl, hs.cutG 0 0⟩ }
  {
  intro ρ w Γx Λx hs hu hp
  have e109 : ρ 42 = .pointer (some ⟨g66, 0, none⟩) := (hp 6 rfl).1
  have e110 : ρ 41 = .bool (x95 == 1) := (hp 5 rfl).1
  refine WL.loadF (z := x63.Kind) F_api_Change_Kind hs (Λx.length + 0) (getApp rfl) (Γx.length + 0) (getApp rfl) rfl TI3 (.inr rfl) e109 rfl (fun v97 hs => ?_) (hg := (wanted_of rfl rfl (bool_tr e110 hc96)).trans rfl)
  obtain rfl := hs.int 0 rfl
  exact WL.nil ⟨rfl, _, rfl, rfl, hs.cutG 0 1⟩ }
  {
  intro ρ w Γx Λx hs hu hp
  have e111 : ρ 41 = .bool (x95 == 1) := (hp 5 rfl).1
  refine WL.fieldAddr (m := 2) (hu 7 rfl) FA54_2 rfl ?_ (hg := (wanted_of rfl rfl (bool_tr e111 hc96)).trans rfl)
  exact WL.nil ⟨rfl, _, rfl, rfl, hs.cutG 0 0⟩ }
  {
  intro ρ w Γx Λx hs hu hp
  have e112 : ρ 44 = .pointer (some ⟨g59, 2, none⟩) := (hp 8 rfl).1
  have e113 : ρ 41 = .bool (x95 == 1) := (hp 5 rfl).1
  refine WL.load1 (v := .slice (some ⟨g58, 0, none⟩) ([x55]).length 1) hs (Λx.length + 1) (getApp rfl) TI38 e112 rfl ?_ (hg := (wanted_of rfl rfl (bool_tr e113 hc96)).trans rfl)
  exact WL.nil ⟨rfl, _, rfl, rfl, hs.cutG 0 0⟩ }
  {
  intro ρ w Γx Λx hs hu hp
  have e114 : ρ 45 = .slice (some ⟨g58, 0, none⟩) ([x55]).length 1 := (hp 9 rfl).1
  have e115 : ρ 41 = .bool (x95 == 1) := (hp 5 rfl).1
  refine WL.indexAddrO hs (Λx.length + 2) (getApp rfl) UN38 TI26 e114 rfl hxx98 (fun ad99 hatad99 => ?_) (hg := (wanted_of rfl rfl (bool_tr e115 hc96)).trans rfl)
  exact WL.nil ⟨rfl, _, rfl, ⟨ad99, rfl, hatad99⟩, hs.cutG 0 0⟩ }
  {
  intro ρ w Γx Λx hs hu hp
  obtain ⟨ad117, e116, hatad117⟩ := (hp 10 rfl).1
  have e116 : ρ 46 = .pointer (some ad117) := e116
  have e118 : ρ 41 = .bool (x95 == 1) := (hp 5 rfl).1
  refine WL.fieldAddrO (OwnAt.f hatad117) e116 FA26_0 rfl (fun ad100 hatad100 => ?_) (hg := (wanted_of rfl rfl (bool_tr e118 hc96)).trans rfl)
  exact WL.nil ⟨rfl, _, rfl, ⟨ad100, rfl, hatad100⟩, hs.cutG 0 0⟩ }
  {
  intro ρ w Γx Λx hs hu hp
  obtain ⟨ad120, e119, hatad120⟩ := (hp 11 rfl).1
  have e119 : ρ 47 = .pointer (some ad120) := e119
  have e121 : ρ 41 = .bool (x95 == 1) := (hp 5 rfl).1
  refine WL.loadOF (z := x98.Kind) F_api_Change_Kind hs (Λx.length + 2) (getApp rfl) TI3 (.inr rfl) hatad120 hxx98 e119 rfl (fun v101 hs => ?_) (hg := (wanted_of rfl rfl (bool_tr e121 hc96)).trans rfl)
  obtain rfl := hs.int 0 rfl
  exact WL.nil ⟨rfl, _, rfl, rfl, hs.cutG 0 1⟩ }
  {
  intro ρ w Γx Λx hs hu hp
  have e122 : ρ 43 = .int .i64 x63.Kind := (hp 7 rfl).1
  have e123 : ρ 48 = .int .i64 x98.Kind := (hp 12 rfl).1
  have e124 : ρ 41 = .bool (x95 == 1) := (hp 5 rfl).1
  refine WL.bin (v := .bool (x63.Kind != x98.Kind)) e122 e123 (ib_neq _ _ _) ?_ (hg := (wanted_of rfl rfl (bool_tr e124 hc96)).trans rfl)
  exact WL.nil ⟨rfl, _, rfl, rfl, hs.cutG 0 0⟩ }
  {
  intro ρ w Γx Λx hs hu hp
  have e125 : ρ 49 = .bool (x63.Kind != x98.Kind) := (hp 13 rfl).1
  have e126 : ρ 41 = .bool (x95 == 1) := (hp 5 rfl).1
  refine WL.move (v := .bool (x63.Kind != x98.Kind)) e125 ?_ (hg := (wanted_of rfl rfl (bool_tr e126 hc96)).trans rfl)
  exact WL.nil ⟨rfl, _, rfl, rfl, hs.cutG 0 0⟩ }
  {
  intro ρ w Γx Λx hs hu hp
  have e127 : ρ 50 = .bool (x63.Kind != x98.Kind) := (hp 14 rfl).1
  refine WL.pass ((wanted_of rfl rfl (bool_tr e127 hc102)).trans rfl) rfl ?_
  exact WL.nil ⟨rfl, _, rfl, rfl, hs.cutG 0 0⟩ }
  {
  intro ρ w Γx Λx hs hu hp
  have e128 : ρ 51 = undef := (hp 15 rfl).1
  have e129 : ρ 50 = .bool (x63.Kind != x98.Kind) := (hp 14 rfl).1
  refine WL.pass ((wanted_of rfl rfl (bool_tr e129 hc102)).trans rfl) rfl ?_
  exact WL.nil ⟨rfl, _, rfl, rfl, hs.cutG 0 0⟩ }
  {
  intro ρ w Γx Λx hs hu hp
  have e130 : ρ 50 = .bool (x63.Kind != x98.Kind) := (hp 14 rfl).1
  refine WL.pass ((wanted_of rfl rfl (bool_tr e130 hc102)).trans rfl) rfl ?_
  exact WL.nil ⟨rfl, _, rfl, rfl, hs.cutG 0 0⟩ }
  {
  intro ρ w Γx Λx hs hu hp
  have e131 : ρ 53 = undef := (hp 17 rfl).1
  have e132 : ρ 50 = .bool (x63.Kind != x98.Kind) := (hp 14 rfl).1
  refine WL.pass ((wanted_of rfl rfl (bool_tr e132 hc102)).trans rfl) rfl ?_
  exact WL.nil ⟨rfl, _, rfl, rfl, hs.cutG 0 0⟩ }
  {
  intro ρ w Γx Λx hs hu hp
  have e133 : ρ 54 = undef := (hp 18 rfl).1
  have e134 : ρ 50 = .bool (x63.Kind != x98.Kind) := (hp 14 rfl).1
  refine WL.pass ((wanted_of rfl rfl (bool_tr e134 hc102)).trans rfl) rfl ?_
  exact WL.nil ⟨rfl, _, rfl, rfl, hs.cutG 0 0⟩ }
  {
  intro ρ w Γx Λx hs hu hp
  have e135 : ρ 55 = undef := (hp 19 rfl).1
  have e136 : ρ 50 = .bool (x63.Kind != x98.Kind) := (hp 14 rfl).1
  refine WL.pass ((wanted_of rfl rfl (bool_tr e136 hc102)).trans rfl) rfl ?_
  exact WL.nil ⟨rfl, _, rfl, rfl, hs.cutG 0 0⟩ }
  {
  intro ρ w Γx Λx hs hu hp
  have e137 : ρ 56 = undef := (hp 20 rfl).1
  have e138 : ρ 50 = .bool (x63.Kind != x98.Kind) := (hp 14 rfl).1
  refine WL.pass ((wanted_of rfl rfl (bool_tr e138 hc102)).trans rfl) rfl ?_
  exact WL.nil ⟨rfl, _, rfl, rfl, hs.cutG 0 0⟩ }
  {
  intro ρ w Γx Λx hs hu hp
  have e139 : ρ 52 = undef := (hp 16 rfl).1
  have e140 : ρ 57 = undef := (hp 21 rfl).1
  have e141 : ρ 50 = .bool (x63.Kind != x98.Kind) := (hp 14 rfl).1
  refine WL.pass ((wanted_of rfl rfl (bool_tr e141 hc102)).trans rfl) rfl ?_
  exact WL.nil ⟨rfl, _, rfl, rfl, hs.cutG 0 0⟩ }
  {
  intro ρ w Γx Λx hs hu hp
  have e142 : ρ 50 = .bool (x63.Kind != x98.Kind) := (hp 14 rfl).1
  have e143 : ρ 58 = undef := (hp 22 rfl).1
  have e144 : ρ 41 = .bool (x95 == 1) := (hp 5 rfl).1
  refine WL.pickT (v := .bool true) (bool_tr e142 hc102) rfl ?_ (hg := (wanted_of rfl rfl (bool_tr e144 hc96)).trans rfl)
  exact WL.nil ⟨rfl, _, rfl, rfl, hs.cutG 0 0⟩ }
  {
  intro ρ w Γx Λx hs hu hp
  have e145 : ρ 41 = .bool (x95 == 1) := (hp 5 rfl).1
  have e146 : ρ 59 = .bool true := (hp 23 rfl).1
  refine WL.pickT (v := .bool true) (bool_tr e145 hc96) e146 ?_
  exact WL.nil ⟨rfl, _, rfl, rfl, hs.cutG 0 0⟩ }
  {
  intro ρ w hs hu147 hp
  obtain ⟨⟨⟨⟨⟨⟨⟨⟨⟨⟨⟨⟨⟨⟨⟨⟨⟨⟨⟨⟨⟨⟨⟨⟨⟨_, hp0_⟩, hp1_⟩, hp2_⟩, hp3_⟩, hp4_⟩, hp5_⟩, hp6_⟩, hp7_⟩, hp8_⟩, hp9_⟩, hp10_⟩, hp11_⟩, hp12_⟩, hp13_⟩, hp14_⟩, hp15_⟩, hp16_⟩, hp17_⟩, hp18_⟩, hp19_⟩, hp20_⟩, hp21_⟩, hp22_⟩, hp23_⟩, hp24_⟩ := hp
  have hs : St ok (bz w0) w [vl t_api_Change x63 (.agg cs64.toArray), vl t_api_Change x55 (.agg cs56.toArray), vl (tSlice (tInt .i64)) x1 (.slice a2 x1.length c3)] [blk g66 26 cs64, blk g59 54 ([.int .i64 x52, .int .i64 x53, .slice (some ⟨g58, 0, none⟩) ([x55]).length 1]), own t_api_Change 26 (.slice (some ⟨g58, 0, none⟩) ([x55]).length 1) [x55], own t_api_Proposal 54 (.slice a39 n41 c40) x38] := hs
  have e148 : ρ 60 = .bool true := hp24_
  have e149 : ρ 59 = .bool true := hp23_
  have e150 : ρ 58 = undef := hp22_
  have e151 : ρ 57 = undef := hp21_
  have e152 : ρ 56 = undef := hp20_
  have e153 : ρ 55 = undef := hp19_
  have e154 : ρ 54 = undef := hp18_
  have e155 : ρ 53 = undef := hp17_
  have e156 : ρ 52 = undef := hp16_
  have e157 : ρ 51 = undef := hp15_
  have e158 : ρ 50 = .bool (x63.Kind != x98.Kind) := hp14_
  have e159 : ρ 49 = .bool (x63.Kind != x98.Kind) := hp13_
  have e160 : ρ 48 = .int .i64 x98.Kind := hp12_
  have e161 : ρ 45 = .slice (some ⟨g58, 0, none⟩) ([x55]).length 1 := hp9_
  have e162 : ρ 44 = .pointer (some ⟨g59, 2, none⟩) := hp8_
  have e163 : ρ 43 = .int .i64 x63.Kind := hp7_
  have e164 : ρ 42 = .pointer (some ⟨g66, 0, none⟩) := hp6_
  have e165 : ρ 41 = .bool (x95 == 1) := hp5_
  have e166 : ρ 40 = .bool (x95 == 1) := hp4_
  have e167 : ρ 39 = .int .i64 x95 := hp3_
  have e168 : ρ 38 = .int .i64 x94 := hp2_
  have e169 : ρ 37 = .int .i64 x42 := hp1_
  have e170 : ρ 36 = .slice a2 x1.length c3 := hp0_
  refine WA.done (by kernel_rfl) ?_
  exact Jk86 true _ _ ((hu147 0 rfl).trans h37_0) ((hu147 3 rfl).trans h37_3) ((hu147 4 rfl).trans h37_4) ((hu147 5 rfl).trans h37_5) ((hu147 6 rfl).trans h37_6) (hu147 7 rfl) (hu147 8 rfl) e148 ((hs.mask [true, true, true, true]).pick [2, 0]) hf } }
  {
  obtain ⟨x172, hxx172, hf⟩ := bindE hf
  refine W.any (by kernel_rfl) 25 0 [true, true, true, true, true, true, true, true, true, true, true, true, true, true, true, true, true, true, true, true, true, true, true, true, true] rfl rfl (poAt [pv (.slice a2 x1.length c3), pv (.int .i64 x42), pv (.int .i64 x94), pv (.int .i64 x95), pv (.bool (x95 == 1)), pv (.bool (x95 == 1)), pv (.pointer (some ⟨g66, 0, none⟩)), pv (.int .i64 x63.Kind), pv (.pointer (some ⟨g59, 2, none⟩)), pv (.slice (some ⟨g58, 0, none⟩) ([x55]).length 1), po (fun ad => Go.Proofs.YthfoljpjhegkmaaDoorL.OwnAt 7 (.slice (some ⟨g58, 0, none⟩) ([x55]).length 1) 0 ad), po (fun ad => OwnAtF 7 0 (.slice (some ⟨g58, 0, none⟩) ([x55]).length 1) 0 ad), pv (.int .i64 x98.Kind), pv (.bool (x63.Kind != x98.Kind)), pv (.bool (x63.Kind != x98.Kind)), pv (.pointer (some ⟨g66, 1, none⟩)), pv (.int .i64 x63.Server), pv (.pointer (some ⟨g59, 2, none⟩)), pv (.slice (some ⟨g58, 0, none⟩) ([x55]).length 1), po (fun ad => Go.Proofs.YthfoljpjhegkmaaDoorL.OwnAt 7 (.slice (some ⟨g58, 0, none⟩) ([x55]).length 1) 0 ad), po (fun ad => OwnAtF 7 1 (.slice (some ⟨g58, 0, none⟩) ([x55]).length 1) 0 ad), pv (.int .i64 x172.Server), pv (.bool (x63.Server != x172.Server)), pv (.bool (x63.Server != x172.Server)), pv (.bool (x63.Server != x172.Server))]) (Λ := [blk g66 26 cs64, blk g59 54 ([.int .i64 x52, .int .i64 x53, .slice (some ⟨g58, 0, none⟩) ([x55]).length 1]), own t_api_Change 26 (.slice (some ⟨g58, 0, none⟩) ([x55]).length 1) [x55], own t_api_Proposal 54 (.slice a39 n41 c40) x38]) hs (by kernel_rfl) (by kernel_rfl) (by kernel_rfl) ⟨⟨⟨⟨⟨⟨⟨⟨⟨⟨⟨⟨⟨⟨⟨⟨⟨⟨⟨⟨⟨⟨⟨⟨⟨trivial, ?_⟩, ?_⟩, ?_⟩, ?_⟩, ?_⟩, ?_⟩, ?_⟩, ?_⟩, ?_⟩, ?_⟩, ?_⟩, ?_⟩, ?_⟩, ?_⟩, ?_⟩, ?_⟩, ?_⟩, ?_⟩, ?_⟩, ?_⟩, ?_⟩, ?_⟩, ?_⟩, ?_⟩, ?_⟩ ?_
  {
  intro ρ w Γx Λx hs hu hp
  refine WL.move (v := .slice a2 x1.length c3) ((hu 0 rfl).trans h37_0) ?_
  exact WL.nil ⟨rfl, _, rfl, rfl, hs.cutG 0 0⟩ }
  {
  intro ρ w Γx Λx hs hu hp
  refine WL.move (v := .int .i64 x42) ((hu 4 rfl).trans h37_4) ?_
  exact WL.nil ⟨rfl, _, rfl, rfl, hs.cutG 0 0⟩ }
  {
  intro ρ w Γx Λx hs hu hp
  have e176 : ρ 36 = .slice a2 x1.length c3 := (hp 0 rfl).1
  have e177 : ρ 37 = .int .i64 x42 := (hp 1 rfl).1
  refine WL.call (vs := [.slice a2 x1.length c3, .int .i64 x42]) hs FN41 ⟨e176, ⟨e177, trivial⟩⟩ (fun ok hA => eslaw00_At.calls (x1 := x1) (x4 := x42) hxx94 (hA.get (Γx.length + 2) (getApp rfl))) ?_
  rintro _ w hs
  exact WL.nil ⟨rfl, _, rfl, rfl, hs.cutG 0 0⟩ }
  {
  intro ρ w Γx Λx hs hu hp
  have e178 : ρ 38 = .int .i64 x94 := (hp 2 rfl).1
  refine WL.call (vs := [.int .i64 x94, .int .i64 2, .int .i64 12]) hs FN40 ⟨e178, ⟨rfl, ⟨rfl, trivial⟩⟩⟩ (fun ok hA => eslaw00_Digit.calls (x1 := x94) (x2 := 2) (x3 := 12) hxx95) ?_
  rintro _ w hs
  exact WL.nil ⟨rfl, _, rfl, rfl, hs.cutG 0 0⟩ }
  {
  intro ρ w Γx Λx hs hu hp
  have e179 : ρ 39 = .int .i64 x95 := (hp 3 rfl).1
  refine WL.bin (v := .bool (x95 == 1)) e179 rfl (ib_eql _ _ _) ?_
  exact WL.nil ⟨rfl, _, rfl, rfl, hs.cutG 0 0⟩ }
  {
  intro ρ w Γx Λx hs hu hp
  have e180 : ρ 40 = .bool (x95 == 1) := (hp 4 rfl).1
  refine WL.move (v := .bool (x95 == 1)) e180 ?_
  exact WL.nil ⟨rfl, _, rfl, rfl, hs.cutG 0 0⟩ }
  {
  intro ρ w Γx Λx hs hu hp
  have e181 : ρ 41 = .bool (x95 == 1) := (hp 5 rfl).1
  refine WL.fieldAddr (m := 0) (hu 8 rfl) FA26_0 rfl ?_ (hg := (wanted_of rfl rfl (bool_tr e181 hc96)).trans rfl)
  exact WL.nil ⟨rfl, _, rfl, rfl, hs.cutG 0 0⟩ }
  {
  intro ρ w Γx Λx hs hu hp
  have e182 : ρ 42 = .pointer (some ⟨g66, 0, none⟩) := (hp 6 rfl).1
  have e183 : ρ 41 = .bool (x95 == 1) := (hp 5 rfl).1
  refine WL.loadF (z := x63.Kind) F_api_Change_Kind hs (Λx.length + 0) (getApp rfl) (Γx.length + 0) (getApp rfl) rfl TI3 (.inr rfl) e182 rfl (fun v97 hs => ?_) (hg := (wanted_of rfl rfl (bool_tr e183 hc96)).trans rfl)
  obtain rfl := hs.int 0 rfl
  exact WL.nil ⟨rfl, _, rfl, rfl, hs.cutG 0 1⟩ }
  {
  intro ρ w Γx Λx hs hu hp
  have e184 : ρ 41 = .bool (x95 == 1) := (hp 5 rfl).1
  refine WL.fieldAddr (m := 2) (hu 7 rfl) FA54_2 rfl ?_ (hg := (wanted_of rfl rfl (bool_tr e184 hc96)).trans rfl)
  exact WL.nil ⟨rfl, _, rfl, rfl, hs.cutG 0 0⟩ }
  {
  intro ρ w Γx Λx hs hu hp
  have e185 : ρ 44 = .pointer (some ⟨g59, 2, none⟩) := (hp 8 rfl).1
  have e186 : ρ 41 = .bool (x95 == 1) := (hp 5 rfl).1
  refine WL.load1 (v := .slice (some ⟨g58, 0, none⟩) ([x55]).length 1) hs (Λx.length + 1) (getApp rfl) TI38 e185 rfl ?_ (hg := (wanted_of rfl rfl (bool_tr e186 hc96)).trans rfl)
  exact WL.nil ⟨rfl, _, rfl, rfl, hs.cutG 0 0⟩ }
  {
  intro ρ w Γx Λx hs hu hp
  have e187 : ρ 45 = .slice (some ⟨g58, 0, none⟩) ([x55]).length 1 := (hp 9 rfl).1
  have e188 : ρ 41 = .bool (x95 == 1) := (hp 5 rfl).1
  refine WL.indexAddrO hs (Λx.length + 2) (getApp rfl) UN38 TI26 e187 rfl hxx98 (fun ad99 hatad99 => ?_) (hg := (wanted_of rfl rfl (bool_tr e188 hc96)).trans rfl)
  exact WL.nil ⟨rfl, _, rfl, ⟨ad99, rfl, hatad99⟩, hs.cutG 0 0⟩ }
  {
  intro ρ w Γx Λx hs hu hp
  obtain ⟨ad190, e189, hatad190⟩ := (hp 10 rfl).1
  have e189 : ρ 46 = .pointer (some ad190) := e189
  have e191 : ρ 41 = .bool (x95 == 1) := (hp 5 rfl).1
  refine WL.fieldAddrO (OwnAt.f hatad190) e189 FA26_0 rfl (fun ad100 hatad100 => ?_) (hg := (wanted_of rfl rfl (bool_tr e191 hc96)).trans rfl)
  exact WL.nil ⟨rfl, _, rfl, ⟨ad100, rfl, hatad100⟩, hs.cutG 0 0⟩ }
  {
  intro ρ w Γx Λx hs hu hp
  obtain ⟨ad193, e192, hatad193⟩ := (hp 11 rfl).1
  have e192 : ρ 47 = .pointer (some ad193) := e192
  have e194 : ρ 41 = .bool (x95 == 1) := (hp 5 rfl).1
  refine WL.loadOF (z := x98.Kind) F_api_Change_Kind hs (Λx.length + 2) (getApp rfl) TI3 (.inr rfl) hatad193 hxx98 e192 rfl (fun v101 hs => ?_) (hg := (wanted_of rfl rfl (bool_tr e194 hc96)).trans rfl)
  obtain rfl := hs.int 0 rfl
  exact WL.nil ⟨rfl, _, rfl, rfl, hs.cutG 0 1⟩ }
  {
  intro ρ w Γx Λx hs hu hp
  have e195 : ρ 43 = .int .i64 x63.Kind := (hp 7 rfl).1
  have e196 : ρ 48 = .int .i64 x98.Kind := (hp 12 rfl).1
  have e197 : ρ 41 = .bool (x95 == 1) := (hp 5 rfl).1
  refine WL.bin (v := .bool (x63.Kind != x98.Kind)) e195 e196 (ib_neq _ _ _) ?_ (hg := (wanted_of rfl rfl (bool_tr e197 hc96)).trans rfl)
  exact WL.nil ⟨rfl, _, rfl, rfl, hs.cutG 0 0⟩ }
  {
  intro ρ w Γx Λx hs hu hp
  have e198 : ρ 49 = .bool (x63.Kind != x98.Kind) := (hp 13 rfl).1
  have e199 : ρ 41 = .bool (x95 == 1) := (hp 5 rfl).1
  refine WL.move (v := .bool (x63.Kind != x98.Kind)) e198 ?_ (hg := (wanted_of rfl rfl (bool_tr e199 hc96)).trans rfl)
  exact WL.nil ⟨rfl, _, rfl, rfl, hs.cutG 0 0⟩ }
  {
  intro ρ w Γx Λx hs hu hp
  have e200 : ρ 50 = .bool (x63.Kind != x98.Kind) := (hp 14 rfl).1
  refine WL.fieldAddr (m := 1) (hu 8 rfl) FA26_1 rfl ?_ (hg := (wanted_of rfl rfl (bool_tr e200 hc102)).trans rfl)
  exact WL.nil ⟨rfl, _, rfl, rfl, hs.cutG 0 0⟩ }
  {
  intro ρ w Γx Λx hs hu hp
  have e201 : ρ 51 = .pointer (some ⟨g66, 1, none⟩) := (hp 15 rfl).1
  have e202 : ρ 50 = .bool (x63.Kind != x98.Kind) := (hp 14 rfl).1
  refine WL.loadF (z := x63.Server) F_api_Change_Server hs (Λx.length + 0) (getApp rfl) (Γx.length + 0) (getApp rfl) rfl TI3 (.inr rfl) e201 rfl (fun v171 hs => ?_) (hg := (wanted_of rfl rfl (bool_tr e202 hc102)).trans rfl)
  obtain rfl := hs.int 0 rfl
  exact WL.nil ⟨rfl, _, rfl, rfl, hs.cutG 0 1⟩ }
  {
  intro ρ w Γx Λx hs hu hp
  have e203 : ρ 50 = .bool (x63.Kind != x98.Kind) := (hp 14 rfl).1
  refine WL.fieldAddr (m := 2) (hu 7 rfl) FA54_2 rfl ?_ (hg := (wanted_of rfl rfl (bool_tr e203 hc102)).trans rfl)
  exact WL.nil ⟨rfl, _, rfl, rfl, hs.cutG 0 0⟩ }
  {
  intro ρ w Γx Λx hs hu hp
  have e204 : ρ 53 = .pointer (some ⟨g59, 2, none⟩) := (hp 17 rfl).1
  have e205 : ρ 50 = .bool (x63.Kind != x98.Kind) := (hp 14 rfl).1
  refine WL.load1 (v := .slice (some ⟨g58, 0, none⟩) ([x55]).length 1) hs (Λx.length + 1) (getApp rfl) TI38 e204 rfl ?_ (hg := (wanted_of rfl rfl (bool_tr e205 hc102)).trans rfl)
  exact WL.nil ⟨rfl, _, rfl, rfl, hs.cutG 0 0⟩ }
  {
  intro ρ w Γx Λx hs hu hp
  have e206 : ρ 54 = .slice (some ⟨g58, 0, none⟩) ([x55]).length 1 := (hp 18 rfl).1
  have e207 : ρ 50 = .bool (x63.Kind != x98.Kind) := (hp 14 rfl).1
  refine WL.indexAddrO hs (Λx.length + 2) (getApp rfl) UN38 TI26 e206 rfl hxx172 (fun ad173 hatad173 => ?_) (hg := (wanted_of rfl rfl (bool_tr e207 hc102)).trans rfl)
  exact WL.nil ⟨rfl, _, rfl, ⟨ad173, rfl, hatad173⟩, hs.cutG 0 0⟩ }
  {
  intro ρ w Γx Λx hs hu hp
  obtain ⟨ad209, e208, hatad209⟩ := (hp 19 rfl).1
  have e208 : ρ 55 = .pointer (some ad209) := e208
  have e210 : ρ 50 = .bool (x63.Kind != x98.Kind) := (hp 14 rfl).1
  refine WL.fieldAddrO (OwnAt.f hatad209) e208 FA26_1 rfl (fun ad174 hatad174 => ?_) (hg := (wanted_of rfl rfl (bool_tr e210 hc102)).trans rfl)
  exact WL.nil ⟨rfl, _, rfl, ⟨ad174, rfl, hatad174⟩, hs.cutG 0 0⟩ }
  {
  intro ρ w Γx Λx hs hu hp
  obtain ⟨ad212, e211, hatad212⟩ := (hp 20 rfl).1
  have e211 : ρ 56 = .pointer (some ad212) := e211
  have e213 : ρ 50 = .bool (x63.Kind != x98.Kind) := (hp 14 rfl).1
  refine WL.loadOF (z := x172.Server) F_api_Change_Server hs (Λx.length + 2) (getApp rfl) TI3 (.inr rfl) hatad212 hxx172 e211 rfl (fun v175 hs => ?_) (hg := (wanted_of rfl rfl (bool_tr e213 hc102)).trans rfl)
  obtain rfl := hs.int 0 rfl
  exact WL.nil ⟨rfl, _, rfl, rfl, hs.cutG 0 1⟩ }
  {
  intro ρ w Γx Λx hs hu hp
  have e214 : ρ 52 = .int .i64 x63.Server := (hp 16 rfl).1
  have e215 : ρ 57 = .int .i64 x172.Server := (hp 21 rfl).1
  have e216 : ρ 50 = .bool (x63.Kind != x98.Kind) := (hp 14 rfl).1
  refine WL.bin (v := .bool (x63.Server != x172.Server)) e214 e215 (ib_neq _ _ _) ?_ (hg := (wanted_of rfl rfl (bool_tr e216 hc102)).trans rfl)
  exact WL.nil ⟨rfl, _, rfl, rfl, hs.cutG 0 0⟩ }
  {
  intro ρ w Γx Λx hs hu hp
  have e217 : ρ 50 = .bool (x63.Kind != x98.Kind) := (hp 14 rfl).1
  have e218 : ρ 58 = .bool (x63.Server != x172.Server) := (hp 22 rfl).1
  have e219 : ρ 41 = .bool (x95 == 1) := (hp 5 rfl).1
  refine WL.pickF (v := .bool (x63.Server != x172.Server)) (bool_tr e217 hc102) e218 ?_ (hg := (wanted_of rfl rfl (bool_tr e219 hc96)).trans rfl)
  exact WL.nil ⟨rfl, _, rfl, rfl, hs.cutG 0 0⟩ }
  {
  intro ρ w Γx Λx hs hu hp
  have e220 : ρ 41 = .bool (x95 == 1) := (hp 5 rfl).1
  have e221 : ρ 59 = .bool (x63.Server != x172.Server) := (hp 23 rfl).1
  refine WL.pickT (v := .bool (x63.Server != x172.Server)) (bool_tr e220 hc96) e221 ?_
  exact WL.nil ⟨rfl, _, rfl, rfl, hs.cutG 0 0⟩ }
  {
  intro ρ w hs hu222 hp
  obtain ⟨⟨⟨⟨⟨⟨⟨⟨⟨⟨⟨⟨⟨⟨⟨⟨⟨⟨⟨⟨⟨⟨⟨⟨⟨_, hp0_⟩, hp1_⟩, hp2_⟩, hp3_⟩, hp4_⟩, hp5_⟩, hp6_⟩, hp7_⟩, hp8_⟩, hp9_⟩, hp10_⟩, hp11_⟩, hp12_⟩, hp13_⟩, hp14_⟩, hp15_⟩, hp16_⟩, hp17_⟩, hp18_⟩, hp19_⟩, hp20_⟩, hp21_⟩, hp22_⟩, hp23_⟩, hp24_⟩ := hp
  have hs : St ok (bz w0) w [vl t_api_Change x63 (.agg cs64.toArray), vl t_api_Change x55 (.agg cs56.toArray), vl (tSlice (tInt .i64)) x1 (.slice a2 x1.length c3)] [blk g66 26 cs64, blk g59 54 ([.int .i64 x52, .int .i64 x53, .slice (some ⟨g58, 0, none⟩) ([x55]).length 1]), own t_api_Change 26 (.slice (some ⟨g58, 0, none⟩) ([x55]).length 1) [x55], own t_api_Proposal 54 (.slice a39 n41 c40) x38] := hs
  have e223 : ρ 60 = .bool (x63.Server != x172.Server) := hp24_
  have e224 : ρ 59 = .bool (x63.Server != x172.Server) := hp23_
  have e225 : ρ 58 = .bool (x63.Server != x172.Server) := hp22_
  have e226 : ρ 57 = .int .i64 x172.Server := hp21_
  have e227 : ρ 54 = .slice (some ⟨g58, 0, none⟩) ([x55]).length 1 := hp18_
  have e228 : ρ 53 = .pointer (some ⟨g59, 2, none⟩) := hp17_
  have e229 : ρ 52 = .int .i64 x63.Server := hp16_
  have e230 : ρ 51 = .pointer (some ⟨g66, 1, none⟩) := hp15_
  have e231 : ρ 50 = .bool (x63.Kind != x98.Kind) := hp14_
  have e232 : ρ 49 = .bool (x63.Kind != x98.Kind) := hp13_
  have e233 : ρ 48 = .int .i64 x98.Kind := hp12_
  have e234 : ρ 45 = .slice (some ⟨g58, 0, none⟩) ([x55]).length 1 := hp9_
  have e235 : ρ 44 = .pointer (some ⟨g59, 2, none⟩) := hp8_
  have e236 : ρ 43 = .int .i64 x63.Kind := hp7_
  have e237 : ρ 42 = .pointer (some ⟨g66, 0, none⟩) := hp6_
  have e238 : ρ 41 = .bool (x95 == 1) := hp5_
  have e239 : ρ 40 = .bool (x95 == 1) := hp4_
  have e240 : ρ 39 = .int .i64 x95 := hp3_
  have e241 : ρ 38 = .int .i64 x94 := hp2_
  have e242 : ρ 37 = .int .i64 x42 := hp1_
  have e243 : ρ 36 = .slice a2 x1.length c3 := hp0_
  refine WA.done (by kernel_rfl) ?_
  exact Jk86 (x63.Server != x172.Server) _ _ ((hu222 0 rfl).trans h37_0) ((hu222 3 rfl).trans h37_3) ((hu222 4 rfl).trans h37_4) ((hu222 5 rfl).trans h37_5) ((hu222 6 rfl).trans h37_6) (hu222 7 rfl) (hu222 8 rfl) e223 ((hs.mask [true, true, true, true]).pick [2, 0]) hf } } }
  {
  refine W.any (by kernel_rfl) 25 0 [true, true, true, true, true, true, true, true, true, true, true, true, true, true, true, true, true, true, true, true, true, true, true, true, true] rfl rfl (poAt [pv (.slice a2 x1.length c3), pv (.int .i64 x42), pv (.int .i64 x94), pv (.int .i64 x95), pv (.bool (x95 == 1)), pv (.bool (x95 == 1)), pv (undef), pv (undef), pv (undef), pv (undef), pv (undef), pv (undef), pv (undef), pv (undef), pv (undef), pv (undef), pv (undef), pv (undef), pv (undef), pv (undef), pv (undef), pv (undef), pv (undef), pv (undef), pv (.bool false)]) (Λ := [blk g66 26 cs64, blk g59 54 ([.int .i64 x52, .int .i64 x53, .slice (some ⟨g58, 0, none⟩) ([x55]).length 1]), own t_api_Change 26 (.slice (some ⟨g58, 0, none⟩) ([x55]).length 1) [x55], own t_api_Proposal 54 (.slice a39 n41 c40) x38]) hs (by kernel_rfl) (by kernel_rfl) (by kernel_rfl) ⟨⟨⟨⟨⟨⟨⟨⟨⟨⟨⟨⟨⟨⟨⟨⟨⟨⟨⟨⟨⟨⟨⟨⟨⟨trivial, ?_⟩, ?_⟩, ?_⟩, ?_⟩, ?_⟩, ?_⟩, ?_⟩, ?_⟩, ?_⟩, ?_⟩, ?_⟩, ?_⟩, ?_⟩, ?_⟩, ?_⟩, ?_⟩, ?_⟩, ?_⟩, ?_⟩, ?_⟩, ?_⟩, ?_⟩, ?_⟩, ?_⟩, ?_⟩ ?_
  {
  intro ρ w Γx Λx hs hu hp
  refine WL.move (v := .slice a2 x1.length c3) ((hu 0 rfl).trans h37_0) ?_
  exact WL.nil ⟨rfl, _, rfl, rfl, hs.cutG 0 0⟩ }
  {
  intro ρ w Γx Λx hs hu hp
  refine WL.move (v := .int .i64 x42) ((hu 4 rfl).trans h37_4) ?_
  exact WL.nil ⟨rfl, _, rfl, rfl, hs.cutG 0 0⟩ }
  {
  intro ρ w Γx Λx hs hu hp
  have e244 : ρ 36 = .slice a2 x1.length c3 := (hp 0 rfl).1
  have e245 : ρ 37 = .int .i64 x42 := (hp 1 rfl).1
  refine WL.call (vs := [.slice a2 x1.length c3, .int .i64 x42]) hs FN41 ⟨e244, ⟨e245, trivial⟩⟩ (fun ok hA => eslaw00_At.calls (x1 := x1) (x4 := x42) hxx94 (hA.get (Γx.length + 2) (getApp rfl))) ?_
  rintro _ w hs
  exact WL.nil ⟨rfl, _, rfl, rfl, hs.cutG 0 0⟩ }
  {
  intro ρ w Γx Λx hs hu hp
  have e246 : ρ 38 = .int .i64 x94 := (hp 2 rfl).1
  refine WL.call (vs := [.int .i64 x94, .int .i64 2, .int .i64 12]) hs FN40 ⟨e246, ⟨rfl, ⟨rfl, trivial⟩⟩⟩ (fun ok hA => eslaw00_Digit.calls (x1 := x94) (x2 := 2) (x3 := 12) hxx95) ?_
  rintro _ w hs
  exact WL.nil ⟨rfl, _, rfl, rfl, hs.cutG 0 0⟩ }
  {
  intro ρ w Γx Λx hs hu hp
  have e247 : ρ 39 = .int .i64 x95 := (hp 3 rfl).1
  refine WL.bin (v := .bool (x95 == 1)) e247 rfl (ib_eql _ _ _) ?_
  exact WL.nil ⟨rfl, _, rfl, rfl, hs.cutG 0 0⟩ }
  {
  intro ρ w Γx Λx hs hu hp
  have e248 : ρ 40 = .bool (x95 == 1) := (hp 4 rfl).1
  refine WL.move (v := .bool (x95 == 1)) e248 ?_
  exact WL.nil ⟨rfl, _, rfl, rfl, hs.cutG 0 0⟩ }
  {
  intro ρ w Γx Λx hs hu hp
  have e249 : ρ 41 = .bool (x95 == 1) := (hp 5 rfl).1
  refine WL.pass ((wanted_of rfl rfl (bool_tr e249 hc96)).trans rfl) rfl ?_
  exact WL.nil ⟨rfl, _, rfl, rfl, hs.cutG 0 0⟩ }
  {
  intro ρ w Γx Λx hs hu hp
  have e250 : ρ 42 = undef := (hp 6 rfl).1
  have e251 : ρ 41 = .bool (x95 == 1) := (hp 5 rfl).1
  refine WL.pass ((wanted_of rfl rfl (bool_tr e251 hc96)).trans rfl) rfl ?_
  exact WL.nil ⟨rfl, _, rfl, rfl, hs.cutG 0 0⟩ }
  {
  intro ρ w Γx Λx hs hu hp
  have e252 : ρ 41 = .bool (x95 == 1) := (hp 5 rfl).1
  refine WL.pass ((wanted_of rfl rfl (bool_tr e252 hc96)).trans rfl) rfl ?_
  exact WL.nil ⟨rfl, _, rfl, rfl, hs.cutG 0 0⟩ }
  {
  intro ρ w Γx Λx hs hu hp
  have e253 : ρ 44 = undef := (hp 8 rfl).1
  have e254 : ρ 41 = .bool (x95 == 1) := (hp 5 rfl).1
  refine WL.pass ((wanted_of rfl rfl (bool_tr e254 hc96)).trans rfl) rfl ?_
  exact WL.nil ⟨rfl, _, rfl, rfl, hs.cutG 0 0⟩ }
  {
  intro ρ w Γx Λx hs hu hp
  have e255 : ρ 45 = undef := (hp 9 rfl).1
  have e256 : ρ 41 = .bool (x95 == 1) := (hp 5 rfl).1
  refine WL.pass ((wanted_of rfl rfl (bool_tr e256 hc96)).trans rfl) rfl ?_
  exact WL.nil ⟨rfl, _, rfl, rfl, hs.cutG 0 0⟩ }
  {
  intro ρ w Γx Λx hs hu hp
  have e257 : ρ 46 = undef := (hp 10 rfl).1
  have e258 : ρ 41 = .bool (x95 == 1) := (hp 5 rfl).1
  refine WL.pass ((wanted_of rfl rfl (bool_tr e258 hc96)).trans rfl) rfl ?_
  exact WL.nil ⟨rfl, _, rfl, rfl, hs.cutG 0 0⟩ }
  {
  intro ρ w Γx Λx hs hu hp
  have e259 : ρ 47 = undef := (hp 11 rfl).1
  have e260 : ρ 41 = .bool (x95 == 1) := (hp 5 rfl).1
  refine WL.pass ((wanted_of rfl rfl (bool_tr e260 hc96)).trans rfl) rfl ?_
  exact WL.nil ⟨rfl, _, rfl, rfl, hs.cutG 0 0⟩ }
  {
  intro ρ w Γx Λx hs hu hp
  have e261 : ρ 43 = undef := (hp 7 rfl).1
  have e262 : ρ 48 = undef := (hp 12 rfl).1
  have e263 : ρ 41 = .bool (x95 == 1) := (hp 5 rfl).1
  refine WL.pass ((wanted_of rfl rfl (bool_tr e263 hc96)).trans rfl) rfl ?_
  exact WL.nil ⟨rfl, _, rfl, rfl, hs.cutG 0 0⟩ }
  {
  intro ρ w Γx Λx hs hu hp
  have e264 : ρ 49 = undef := (hp 13 rfl).1
  have e265 : ρ 41 = .bool (x95 == 1) := (hp 5 rfl).1
  refine WL.pass ((wanted_of rfl rfl (bool_tr e265 hc96)).trans rfl) rfl ?_
  exact WL.nil ⟨rfl, _, rfl, rfl, hs.cutG 0 0⟩ }
  {
  intro ρ w Γx Λx hs hu hp
  have e266 : ρ 50 = undef := (hp 14 rfl).1
  refine WL.pass (wanted_undef rfl rfl e266) rfl ?_
  exact WL.nil ⟨rfl, _, rfl, rfl, hs.cutG 0 0⟩ }
  {
  intro ρ w Γx Λx hs hu hp
  have e267 : ρ 51 = undef := (hp 15 rfl).1
  have e268 : ρ 50 = undef := (hp 14 rfl).1
  refine WL.pass (wanted_undef rfl rfl e268) rfl ?_
  exact WL.nil ⟨rfl, _, rfl, rfl, hs.cutG 0 0⟩ }
  {
  intro ρ w Γx Λx hs hu hp
  have e269 : ρ 50 = undef := (hp 14 rfl).1
  refine WL.pass (wanted_undef rfl rfl e269) rfl ?_
  exact WL.nil ⟨rfl, _, rfl, rfl, hs.cutG 0 0⟩ }
  {
  intro ρ w Γx Λx hs hu hp
  have e270 : ρ 53 = undef := (hp 17 rfl).1
  have e271 : ρ 50 = undef := (hp 14 rfl).1
  refine WL.pass (wanted_undef rfl rfl e271) rfl ?_
  exact WL.nil ⟨rfl, _, rfl, rfl, hs.cutG 0 0⟩ }
  {
  intro ρ w Γx Λx hs hu hp
  have e272 : ρ 54 = undef := (hp 18 rfl).1
  have e273 : ρ 50 = undef := (hp 14 rfl).1
  refine WL.pass (wanted_undef rfl rfl e273) rfl ?_
  exact WL.nil ⟨rfl, _, rfl, rfl, hs.cutG 0 0⟩ }
  {
  intro ρ w Γx Λx hs hu hp
  have e274 : ρ 55 = undef := (hp 19 rfl).1
  have e275 : ρ 50 = undef := (hp 14 rfl).1
  refine WL.pass (wanted_undef rfl rfl e275) rfl ?_
  exact WL.nil ⟨rfl, _, rfl, rfl, hs.cutG 0 0⟩ }
  {
  intro ρ w Γx Λx hs hu hp
  have e276 : ρ 56 = undef := (hp 20 rfl).1
  have e277 : ρ 50 = undef := (hp 14 rfl).1
  refine WL.pass (wanted_undef rfl rfl e277) rfl ?_
  exact WL.nil ⟨rfl, _, rfl, rfl, hs.cutG 0 0⟩ }
  {
  intro ρ w Γx Λx hs hu hp
  have e278 : ρ 52 = undef := (hp 16 rfl).1
  have e279 : ρ 57 = undef := (hp 21 rfl).1
  have e280 : ρ 50 = undef := (hp 14 rfl).1
  refine WL.pass (wanted_undef rfl rfl e280) rfl ?_
  exact WL.nil ⟨rfl, _, rfl, rfl, hs.cutG 0 0⟩ }
  {
  intro ρ w Γx Λx hs hu hp
  have e281 : ρ 50 = undef := (hp 14 rfl).1
  have e282 : ρ 58 = undef := (hp 22 rfl).1
  have e283 : ρ 41 = .bool (x95 == 1) := (hp 5 rfl).1
  refine WL.pass ((wanted_of rfl rfl (bool_tr e283 hc96)).trans rfl) rfl ?_
  exact WL.nil ⟨rfl, _, rfl, rfl, hs.cutG 0 0⟩ }
  {
  intro ρ w Γx Λx hs hu hp
  have e284 : ρ 41 = .bool (x95 == 1) := (hp 5 rfl).1
  have e285 : ρ 59 = undef := (hp 23 rfl).1
  refine WL.pickF (v := .bool false) (bool_tr e284 hc96) rfl ?_
  exact WL.nil ⟨rfl, _, rfl, rfl, hs.cutG 0 0⟩ }
  {
  intro ρ w hs hu286 hp
  obtain ⟨⟨⟨⟨⟨⟨⟨⟨⟨⟨⟨⟨⟨⟨⟨⟨⟨⟨⟨⟨⟨⟨⟨⟨⟨_, hp0_⟩, hp1_⟩, hp2_⟩, hp3_⟩, hp4_⟩, hp5_⟩, hp6_⟩, hp7_⟩, hp8_⟩, hp9_⟩, hp10_⟩, hp11_⟩, hp12_⟩, hp13_⟩, hp14_⟩, hp15_⟩, hp16_⟩, hp17_⟩, hp18_⟩, hp19_⟩, hp20_⟩, hp21_⟩, hp22_⟩, hp23_⟩, hp24_⟩ := hp
  have hs : St ok (bz w0) w [vl t_api_Change x63 (.agg cs64.toArray), vl t_api_Change x55 (.agg cs56.toArray), vl (tSlice (tInt .i64)) x1 (.slice a2 x1.length c3)] [blk g66 26 cs64, blk g59 54 ([.int .i64 x52, .int .i64 x53, .slice (some ⟨g58, 0, none⟩) ([x55]).length 1]), own t_api_Change 26 (.slice (some ⟨g58, 0, none⟩) ([x55]).length 1) [x55], own t_api_Proposal 54 (.slice a39 n41 c40) x38] := hs
  have e287 : ρ 60 = .bool false := hp24_
  have e288 : ρ 59 = undef := hp23_
  have e289 : ρ 58 = undef := hp22_
  have e290 : ρ 57 = undef := hp21_
  have e291 : ρ 56 = undef := hp20_
  have e292 : ρ 55 = undef := hp19_
  have e293 : ρ 54 = undef := hp18_
  have e294 : ρ 53 = undef := hp17_
  have e295 : ρ 52 = undef := hp16_
  have e296 : ρ 51 = undef := hp15_
  have e297 : ρ 50 = undef := hp14_
  have e298 : ρ 49 = undef := hp13_
  have e299 : ρ 48 = undef := hp12_
  have e300 : ρ 47 = undef := hp11_
  have e301 : ρ 46 = undef := hp10_
  have e302 : ρ 45 = undef := hp9_
  have e303 : ρ 44 = undef := hp8_
  have e304 : ρ 43 = undef := hp7_
  have e305 : ρ 42 = undef := hp6_
  have e306 : ρ 41 = .bool (x95 == 1) := hp5_
  have e307 : ρ 40 = .bool (x95 == 1) := hp4_
  have e308 : ρ 39 = .int .i64 x95 := hp3_
  have e309 : ρ 38 = .int .i64 x94 := hp2_
  have e310 : ρ 37 = .int .i64 x42 := hp1_
  have e311 : ρ 36 = .slice a2 x1.length c3 := hp0_
  refine WA.done (by kernel_rfl) ?_
  exact Jk86 false _ _ ((hu286 0 rfl).trans h37_0) ((hu286 3 rfl).trans h37_3) ((hu286 4 rfl).trans h37_4) ((hu286 5 rfl).trans h37_5) ((hu286 6 rfl).trans h37_6) (hu286 7 rfl) (hu286 8 rfl) e287 ((hs.mask [true, true, true, true]).pick [2, 0]) hf } } }
  {
  refine W.cond_false (bool_tr rfl hc49) ?_
  refine W.exit ?_
  have hr := Option.some.inj hf; subst hr
  have hr := hbbs44 _ rfl; subst hr
  have hf := hfs44
  exact Jk34 x38 x42 a39 c40 n41 _ _ h37_0 h37_3 h37_4 h37_5 ((hs.mask [true]).pick [0]) hf } }
  {
  refine W.cond_false (bool_tr rfl hc26) ?_
  refine W.exit ?_
  have hr := Option.some.inj hf; subst hr
  have hr := hbbs23 _ rfl; subst hr
  have hf := hfs23
  exact Jk13 x17 a18 c19 n20 _ _ h16_3 ((hs.mask [true]).pick []) hf }
theorem eslaw00_Pool.callc {ok : Nat → Prop} {w0 : World} {x1 : List Int} {a2 : Option Addr} {c3 : Nat} {r : List api_Proposal} (hf : eslaw00_Pool x1 = some r) (i0 : (vl (tSlice (tInt .i64)) x1 (.slice a2 x1.length c3)).holds ok w0) :
    Calls Tryd.prog 18 #[.slice a2 x1.length c3] w0 fun e w' => ∃ v, e = .returned v ∧ ∃ y : (Option Addr × Nat), v = .slice y.1 r.length y.2 ∧ St ok (bz w0) w' [vl (tSlice t_api_Proposal) r (.slice y.1 r.length y.2)] [] := by
  refine (eslaw00_Pool.calls (ok := ok) (w0 := w0) (x1 := x1) hf i0).mono ?_
  rintro e w' ⟨v, rfl, ⟨a315, n316, c317⟩, rfl, hs⟩
  obtain rfl := hs.ownLen 0 rfl
  have hs := hs.freezeOwn 0 rfl
  exact ⟨_, rfl, (a315, c317), rfl, hs.pick [0]⟩
end Go.Proofs.YthfoljpjhegkmaaDoor
