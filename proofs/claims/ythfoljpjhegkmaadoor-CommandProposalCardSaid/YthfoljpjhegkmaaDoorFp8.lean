import Derived.Test.YthfoljpjhegkmaaDoorFh
set_option linter.unusedVariables false
set_option linter.unusedSimpArgs false
namespace Go.Proofs.YthfoljpjhegkmaaDoor
open Go Go.RowKit Go.Proofs.YthfoljpjhegkmaaDoorL
set_option maxRecDepth 100000
set_option maxHeartbeats 4000000
/-! elasticstore/elasticstoreref10.Insert: function 44 -/
theorem esref10_Insert.calls {ok : Nat → Prop} {w0 : World} {x1 : List Int} {x4 : Int} {a2 : Option Addr} {c3 : Nat} {r : List Int} (hf : esref10_Insert x1 x4 = some r) (i0 : (vl (tSlice (tInt .i64)) x1 (.slice a2 x1.length c3)).holds ok w0) :
    Calls Tryd.prog 44 #[.slice a2 x1.length c3, .int .i64 x4] w0 fun e w' => ∃ v, e = .returned v ∧ ∃ y : (Option Addr × Nat × Nat), v = .slice y.1 y.2.1 y.2.2 ∧ St ok (bz w0) w' [] [own (tInt .i64) 3 (.slice y.1 y.2.1 y.2.2) r] := by
  unfold esref10_Insert at hf
  refine calls_of_W (fn := Tryd.f44) (N := 48) Tryd.func44 rfl Tryd.ntmps44 rfl ?_
  have hs : St ok (bz w0) w0 [vl (tSlice (tInt .i64)) x1 (.slice a2 x1.length c3)] [] := St.init (All.cons i0 All.nil)
  clear i0
  refine W.seqK fun K5 hK5 => ?_
  refine W.region ?_
  refine WL.assign (v := .slice none 0 0) rfl ?_
  refine WL.nil ?_
  refine hK5 _ _ ?_
  refine W.seqK fun K6 hK6 => ?_
  refine W.region ?_
  refine WL.assign (v := .slice none 0 0) rfl ?_
  refine WL.nil ?_
  refine hK6 _ _ ?_
  refine W.seqK fun K7 hK7 => ?_
  refine W.region ?_
  refine WL.assign (v := .bool false) rfl ?_
  refine WL.nil ?_
  refine hK7 _ _ ?_
  refine W.seqK fun K8 hK8 => ?_
  have hs := hs.ownNil (tInt .i64) 3
  have Jk15 : ∀ (x10 : List Int) (x14 : Bool) (a11 : Option Addr) (c12 : Nat) (n13 : Nat) (ρ : Env) (w : World), ρ 1 = .int .i64 x4 → ρ 5 = .slice a11 n13 c12 → ρ 6 = .bool x14 → St ok (bz w0) w [] [own (tInt .i64) 3 (.slice a11 n13 c12) x10] → esref10_Insert.j2 x4 x10 x14 = some r → K8 ρ w := by
    intro x10 x14 a11 c12 n13 ρ w h9_1 h9_5 h9_6 hs hf
    refine hK8 _ _ ?_
    unfold esref10_Insert.j2 at hf
    refine W.seqK fun K16 hK16 => ?_
    have Jk22 : ∀ (x18 : List Int) (a19 : Option Addr) (c20 : Nat) (n21 : Nat) (ρ : Env) (w : World), ρ 5 = .slice a19 n21 c20 → St ok (bz w0) w [] [own (tInt .i64) 3 (.slice a19 n21 c20) x18] → esref10_Insert.j1 x18 = some r → K16 ρ w := by
      intro x18 a19 c20 n21 ρ w h17_5 hs hf
      refine hK16 _ _ ?_
      unfold esref10_Insert.j1 at hf
      refine W.seqK fun K23 hK23 => ?_
      refine W.region ?_
      refine WL.move (v := .slice a19 n21 c20) h17_5 ?_
      refine WL.assign (v := .slice a19 n21 c20) rfl ?_
      refine WL.nil ?_
      refine hK23 _ _ ?_
      refine W.ret ?_
      have hr := Option.some.inj hf; subst hr
      exact ⟨_, resOk_one rfl rfl, (a19, n21, c20), rfl, (hs.mask [true]).pick []⟩
    refine W.seqK fun K24 hK24 => ?_
    refine W.region ?_
    refine WL.move (v := .bool x14) h9_6 ?_
    refine WL.not rfl ?_
    refine WL.nil ?_
    refine hK24 _ _ ?_
    rcases iteE hf with ⟨hc25, hf⟩ | ⟨hc25, hf⟩
    {
    refine W.cond_true (bool_tr rfl hc25) ?_
    refine W.region ?_
    refine WL.move (v := .slice a11 n13 c12) h9_5 ?_
    refine WL.move (v := .int .i64 x4) h9_1 ?_
    refine WL.buildSlice (n := 1) (vs := [(0, .int .i64 x4)]) (cs := [.int .i64 x4]) hs ⟨⟨rfl, rfl⟩, trivial⟩ (bls PS33 (by decide) rfl) (fun g26 w hs => ?_)
    obtain ⟨x27, hxx27, hf⟩ := bindE hf
    obtain ⟨hbx27, hex27⟩ := appE hxx27
    refine WL.append (ys := [x4]) (zs := x27) hs 1 rfl 0 rfl UN33 EI3 rfl rfl (fun ok hA => (Cells.one (T := tInt .i64) rfl)) hbx27 (by omega) hex27 (fun v28 w hs => ?_)
    obtain ⟨a29, n31, c30, rfl⟩ := hs.ownv3 1 rfl
    refine WL.assign (v := .slice a29 n31 c30) rfl ?_
    refine WL.nil ?_
    exact Jk22 x27 a29 c30 n31 _ _ rfl ((hs.mask [false, true]).pick []) hf }
    {
    refine W.cond_false (bool_tr rfl hc25) ?_
    refine W.skip ?_
    exact Jk22 x10 a11 c12 n13 _ _ h9_5 ((hs.mask [true]).pick []) hf }
  refine W.seqK fun K32 hK32 => ?_
  refine W.region ?_
  refine WL.assign (v := .int .i64 0) rfl ?_
  refine WL.nil ?_
  refine hK32 _ _ ?_
  refine W.block ?_
  obtain ⟨bs40, hbs40, hfs40⟩ := bindE hf
  refine W.loop hbs40 (fun s ρ w => match s with | (x34, x38, x39) => ∃ (a35 : Option Addr), ∃ (c36 : Nat), ∃ (n37 : Nat), ρ 0 = .slice a2 x1.length c3 ∧ ρ 1 = .int .i64 x4 ∧ ρ 5 = .slice a35 n37 c36 ∧ ρ 6 = .bool x38 ∧ ρ 7 = .int .i64 x39 ∧ St ok (bz w0) w [vl (tSlice (tInt .i64)) x1 (.slice a2 x1.length c3)] [own (tInt .i64) 3 (.slice a35 n37 c36) x34]) ⟨none, 0, 0, rfl, rfl, rfl, rfl, rfl, (hs.mask [true]).pick [0]⟩ ?_
  intro s ρ w os40 hI hf hbbs40
  obtain ⟨x34, x38, x39⟩ := s
  obtain ⟨a35, c36, n37, h33_0, h33_1, h33_5, h33_6, h33_7, hs⟩ := hI
  unfold esref10_Insert.l1 at hf
  refine W.seqK fun K41 hK41 => ?_
  refine W.seqK fun K42 hK42 => ?_
  refine W.region ?_
  refine WL.move (v := .int .i64 x39) h33_7 ?_
  refine WL.move (v := .slice a2 x1.length c3) h33_0 ?_
  refine WL.len (v := .slice a2 x1.length c3) rfl (len_slice UN33) ?_
  refine WL.bin (v := .bool (decide (x39 < (x1.length : Int)))) rfl rfl (ib_lss _ _ _) ?_
  refine WL.nil ?_
  refine hK42 _ _ ?_
  rcases iteE hf with ⟨hc43, hf⟩ | ⟨hc43, hf⟩
  {
  refine W.cond_true (bool_tr rfl hc43) ?_
  refine W.skip ?_
  refine hK41 _ _ ?_
  refine W.seqK fun K44 hK44 => ?_
  have Jk51 : ∀ (x46 : List Int) (x50 : Bool) (a47 : Option Addr) (c48 : Nat) (n49 : Nat) (ρ : Env) (w : World), ρ 0 = .slice a2 x1.length c3 → ρ 1 = .int .i64 x4 → ρ 5 = .slice a47 n49 c48 → ρ 6 = .bool x50 → ρ 7 = .int .i64 x39 → St ok (bz w0) w [vl (tSlice (tInt .i64)) x1 (.slice a2 x1.length c3)] [own (tInt .i64) 3 (.slice a47 n49 c48) x46] → esref10_Insert.j3 x39 x46 x50 = some os40 → K44 ρ w := by
    intro x46 x50 a47 c48 n49 ρ w h45_0 h45_1 h45_5 h45_6 h45_7 hs hf
    refine hK44 _ _ ?_
    unfold esref10_Insert.j3 at hf
    refine W.region ?_
    refine WL.move (v := .int .i64 x39) h45_7 ?_
    obtain ⟨x52, ex52, hf⟩ := letE hf
    refine WL.bin (v := .int .i64 x52) rfl rfl (ib_as ex52 (ib_add _ _ _)) ?_
    refine WL.assign (v := .int .i64 x52) rfl ?_
    refine WL.nil ?_
    exact ⟨_, (Option.some.inj hf).symm, a47, c48, n49, h45_0, h45_1, h45_5, h45_6, rfl, (hs.mask [true]).pick [0]⟩
  refine W.block ?_
  refine W.seqK fun K53 hK53 => ?_
  have Jk60 : ∀ (x55 : List Int) (x59 : Bool) (a56 : Option Addr) (c57 : Nat) (n58 : Nat) (ρ : Env) (w : World), ρ 0 = .slice a2 x1.length c3 → ρ 1 = .int .i64 x4 → ρ 5 = .slice a56 n58 c57 → ρ 6 = .bool x59 → ρ 7 = .int .i64 x39 → St ok (bz w0) w [vl (tSlice (tInt .i64)) x1 (.slice a2 x1.length c3)] [own (tInt .i64) 3 (.slice a56 n58 c57) x55] → esref10_Insert.j4 x1 x4 x39 x55 x59 = some os40 → K53 ρ w := by
    intro x55 x59 a56 c57 n58 ρ w h54_0 h54_1 h54_5 h54_6 h54_7 hs hf
    refine hK53 _ _ ?_
    unfold esref10_Insert.j4 at hf
    refine W.seqK fun K61 hK61 => ?_
    refine W.region ?_
    refine WL.move (v := .slice a2 x1.length c3) h54_0 ?_
    refine WL.move (v := .int .i64 x39) h54_7 ?_
    obtain ⟨x62, hxx62, hf⟩ := bindE hf
    refine WL.indexAddr hs 0 rfl UN33 TI3 rfl rfl hxx62 (fun ad63 hs => ?_)
    refine WL.loadP hs 0 rfl TI3 (.inr rfl) rfl (fun v64 hs => ?_)
    obtain rfl := hs.int 0 rfl
    refine WL.move (v := .int .i64 x4) h54_1 ?_
    refine WL.bin (v := .bool (x62 != x4)) rfl rfl (ib_neq _ _ _) ?_
    refine WL.nil ?_
    refine hK61 _ _ ?_
    rcases iteE hf with ⟨hc65, hf⟩ | ⟨hc65, hf⟩
    {
    refine W.cond_true (bool_tr rfl hc65) ?_
    refine W.region ?_
    refine WL.move (v := .slice a56 n58 c57) h54_5 ?_
    refine WL.move (v := .slice a2 x1.length c3) h54_0 ?_
    refine WL.move (v := .int .i64 x39) h54_7 ?_
    obtain ⟨x66, hxx66, hf⟩ := bindE hf
    refine WL.indexAddr hs 2 rfl UN33 TI3 rfl rfl hxx66 (fun ad67 hs => ?_)
    refine WL.loadP hs 0 rfl TI3 (.inr rfl) rfl (fun v68 hs => ?_)
    obtain rfl := hs.int 0 rfl
    refine WL.buildSlice (n := 1) (vs := [(0, .int .i64 x66)]) (cs := [.int .i64 x66]) hs ⟨⟨rfl, rfl⟩, trivial⟩ (bls PS33 (by decide) rfl) (fun g69 w hs => ?_)
    obtain ⟨x70, hxx70, hf⟩ := bindE hf
    obtain ⟨hbx70, hex70⟩ := appE hxx70
    refine WL.append (ys := [x66]) (zs := x70) hs 1 rfl 0 rfl UN33 EI3 rfl rfl (fun ok hA => (Cells.one (T := tInt .i64) rfl)) hbx70 (by omega) hex70 (fun v71 w hs => ?_)
    obtain ⟨a72, n74, c73, rfl⟩ := hs.ownv3 1 rfl
    refine WL.assign (v := .slice a72 n74 c73) rfl ?_
    refine WL.nil ?_
    exact Jk51 x70 x59 a72 c73 n74 _ _ h54_0 h54_1 rfl h54_6 h54_7 ((hs.mask [false, true]).pick [4]) hf }
    {
    refine W.cond_false (bool_tr rfl hc65) ?_
    refine W.skip ?_
    exact Jk51 x55 x59 a56 c57 n58 _ _ h54_0 h54_1 h54_5 h54_6 h54_7 ((hs.mask [true]).pick [2]) hf }
  refine W.seqK fun K75 hK75 => ?_
  have Jk78 : ∀ (x77 : Bool) (ρ : Env) (w : World), ρ 0 = .slice a2 x1.length c3 → ρ 1 = .int .i64 x4 → ρ 5 = .slice a35 n37 c36 → ρ 6 = .bool x38 → ρ 7 = .int .i64 x39 → ρ 23 = .bool x77 → St ok (bz w0) w [vl (tSlice (tInt .i64)) x1 (.slice a2 x1.length c3)] [own (tInt .i64) 3 (.slice a35 n37 c36) x34] → esref10_Insert.j5 x1 x4 x34 x38 x39 x77 = some os40 → K75 ρ w := by
    intro x77 ρ w h76_0 h76_1 h76_5 h76_6 h76_7 h76_23 hs hf
    refine hK75 _ _ ?_
    unfold esref10_Insert.j5 at hf
    rcases iteE hf with ⟨hc79, hf⟩ | ⟨hc79, hf⟩
    {
    refine W.cond_true (bool_tr h76_23 hc79) ?_
    refine W.seqK fun K80 hK80 => ?_
    refine W.region ?_
    refine WL.move (v := .slice a35 n37 c36) h76_5 ?_
    refine WL.move (v := .int .i64 x4) h76_1 ?_
    refine WL.buildSlice (n := 1) (vs := [(0, .int .i64 x4)]) (cs := [.int .i64 x4]) hs ⟨⟨rfl, rfl⟩, trivial⟩ (bls PS33 (by decide) rfl) (fun g81 w hs => ?_)
    obtain ⟨x82, hxx82, hf⟩ := bindE hf
    obtain ⟨hbx82, hex82⟩ := appE hxx82
    refine WL.append (ys := [x4]) (zs := x82) hs 1 rfl 0 rfl UN33 EI3 rfl rfl (fun ok hA => (Cells.one (T := tInt .i64) rfl)) hbx82 (by omega) hex82 (fun v83 w hs => ?_)
    obtain ⟨a84, n86, c85, rfl⟩ := hs.ownv3 1 rfl
    refine WL.assign (v := .slice a84 n86 c85) rfl ?_
    refine WL.nil ?_
    refine hK80 _ _ ?_
    refine W.region ?_
    refine WL.assign (v := .bool true) rfl ?_
    refine WL.nil ?_
    exact Jk60 x82 true a84 c85 n86 _ _ h76_0 h76_1 rfl rfl h76_7 ((hs.mask [false, true]).pick [0]) hf }
    {
    refine W.cond_false (bool_tr h76_23 hc79) ?_
    refine W.skip ?_
    exact Jk60 x34 x38 a35 c36 n37 _ _ h76_0 h76_1 h76_5 h76_6 h76_7 ((hs.mask [true]).pick [0]) hf }
  refine W.region ?_
  refine WL.move (v := .bool x38) h33_6 ?_
  refine WL.not rfl ?_
  refine WL.move (v := .bool (!x38)) rfl ?_
  rcases iteE hf with ⟨hc87, hf⟩ | ⟨hc87, hf⟩
  {
  refine WL.move (v := .slice a2 x1.length c3) h33_0 ?_ (hg := (wanted_of rfl rfl (bool_tr rfl hc87)).trans rfl)
  refine WL.move (v := .int .i64 x39) h33_7 ?_ (hg := (wanted_of rfl rfl (bool_tr rfl hc87)).trans rfl)
  obtain ⟨x88, hxx88, hf⟩ := bindE hf
  refine WL.indexAddr hs 0 rfl UN33 TI3 rfl rfl hxx88 (fun ad89 hs => ?_) (hg := (wanted_of rfl rfl (bool_tr rfl hc87)).trans rfl)
  refine WL.loadP hs 0 rfl TI3 (.inr rfl) rfl (fun v90 hs => ?_) (hg := (wanted_of rfl rfl (bool_tr rfl hc87)).trans rfl)
  obtain rfl := hs.int 0 rfl
  refine WL.move (v := .int .i64 x4) h33_1 ?_ (hg := (wanted_of rfl rfl (bool_tr rfl hc87)).trans rfl)
  refine WL.bin (v := .bool (decide (x4 ≤ x88))) rfl rfl (ib_geq _ _ _) ?_ (hg := (wanted_of rfl rfl (bool_tr rfl hc87)).trans rfl)
  refine WL.pickT (v := .bool (decide (x4 ≤ x88))) (bool_tr rfl hc87) rfl ?_
  refine WL.nil ?_
  exact Jk78 (decide (x4 ≤ x88)) _ _ h33_0 h33_1 h33_5 h33_6 h33_7 rfl ((hs.mask [true]).pick [2]) hf }
  {
  refine WL.pass ((wanted_of rfl rfl (bool_tr rfl hc87)).trans rfl) rfl ?_
  refine WL.pass ((wanted_of rfl rfl (bool_tr rfl hc87)).trans rfl) rfl ?_
  refine WL.pass ((wanted_of rfl rfl (bool_tr rfl hc87)).trans rfl) rfl ?_
  refine WL.pass ((wanted_of rfl rfl (bool_tr rfl hc87)).trans rfl) rfl ?_
  refine WL.pass ((wanted_of rfl rfl (bool_tr rfl hc87)).trans rfl) rfl ?_
  refine WL.pass ((wanted_of rfl rfl (bool_tr rfl hc87)).trans rfl) rfl ?_
  refine WL.pickF (v := .bool false) (bool_tr rfl hc87) rfl ?_
  refine WL.nil ?_
  exact Jk78 false _ _ h33_0 h33_1 h33_5 h33_6 h33_7 rfl ((hs.mask [true]).pick [0]) hf } }
  {
  refine W.cond_false (bool_tr rfl hc43) ?_
  refine W.exit ?_
  have hr := Option.some.inj hf; subst hr
  have hr := hbbs40 _ rfl; subst hr
  have hf := hfs40
  exact Jk15 x34 x38 a35 c36 n37 _ _ h33_1 h33_5 h33_6 ((hs.mask [true]).pick []) hf }
theorem esref10_Insert.callc {ok : Nat → Prop} {w0 : World} {x1 : List Int} {x4 : Int} {a2 : Option Addr} {c3 : Nat} {r : List Int} (hf : esref10_Insert x1 x4 = some r) (i0 : (vl (tSlice (tInt .i64)) x1 (.slice a2 x1.length c3)).holds ok w0) :
    Calls Tryd.prog 44 #[.slice a2 x1.length c3, .int .i64 x4] w0 fun e w' => ∃ v, e = .returned v ∧ ∃ y : (Option Addr × Nat), v = .slice y.1 r.length y.2 ∧ St ok (bz w0) w' [vl (tSlice (tInt .i64)) r (.slice y.1 r.length y.2)] [] := by
  refine (esref10_Insert.calls (ok := ok) (w0 := w0) (x1 := x1) (x4 := x4) hf i0).mono ?_
  rintro e w' ⟨v, rfl, ⟨a93, n94, c95⟩, rfl, hs⟩
  obtain rfl := hs.ownLen 0 rfl
  have hs := hs.freezeOwn 0 rfl
  exact ⟨_, rfl, (a93, c95), rfl, hs.pick [0]⟩
/-! elasticstore/elasticstoreref10.later: function 46 -/
theorem esref10_later.calls {ok : Nat → Prop} {w0 : World} {x1 : api_WeightEntry} {x5 : api_WeightEntry} {v2 : Value} {v6 : Value} {r : Bool} (hf : esref10_later x1 x5 = some r) (i0 : (vl t_api_WeightEntry x1 v2).holds ok w0) (i1 : (vl t_api_WeightEntry x5 v6).holds ok w0) :
    Calls Tryd.prog 46 #[v2, v6] w0 fun e w' => ∃ v, e = .returned v ∧ ∃ y : Unit, v = .bool r ∧ St ok (bz w0) w' [] [] := by
  unfold esref10_later at hf
  refine calls_of_W (fn := Tryd.f46) (N := 30) Tryd.func46 rfl Tryd.ntmps46 rfl ?_
  have hs : St ok (bz w0) w0 [vl t_api_WeightEntry x1 v2, vl t_api_WeightEntry x5 v6] [] := St.init (All.cons i0 (All.cons i1 All.nil))
  clear i0 i1
  obtain ⟨cs3, hl4, rfl⟩ := hs.aggv (n := 5) 0 rfl rfl rfl
  obtain ⟨cs7, hl8, rfl⟩ := hs.aggv (n := 5) 1 rfl rfl rfl
  refine W.seqK fun K9 hK9 => ?_
  refine W.region ?_
  refine WL.box (vs := cs3) hs rfl rfl (fun g10 w hs => ?_)
  refine WL.box (vs := cs7) hs rfl rfl (fun g11 w hs => ?_)
  refine WL.assign (v := .bool false) rfl ?_
  refine WL.nil ?_
  refine hK9 _ _ ?_
  refine W.seqK fun K12 hK12 => ?_
  refine W.seqK fun K13 hK13 => ?_
  refine W.region ?_
  refine WL.fieldAddr (m := 2) rfl FA59_2 rfl ?_
  refine WL.loadF (z := x1.Version) F_api_WeightEntry_Version hs 1 rfl 0 rfl rfl TI3 (.inr rfl) rfl rfl (fun v14 hs => ?_)
  obtain rfl := hs.int 0 rfl
  refine WL.fieldAddr (m := 2) rfl FA59_2 rfl ?_
  refine WL.loadF (z := x5.Version) F_api_WeightEntry_Version hs 0 rfl 2 rfl rfl TI3 (.inr rfl) rfl rfl (fun v15 hs => ?_)
  obtain rfl := hs.int 0 rfl
  refine WL.bin (v := .bool (x1.Version != x5.Version)) rfl rfl (ib_neq _ _ _) ?_
  refine WL.nil ?_
  refine hK13 _ _ ?_
  rcases iteE hf with ⟨hc16, hf⟩ | ⟨hc16, hf⟩
  {
  refine W.cond_true (bool_tr rfl hc16) ?_
  refine W.seqK fun K17 hK17 => ?_
  refine W.region ?_
  refine WL.fieldAddr (m := 2) rfl FA59_2 rfl ?_
  refine WL.loadF (z := x1.Version) F_api_WeightEntry_Version hs 1 rfl 2 rfl rfl TI3 (.inr rfl) rfl rfl (fun v18 hs => ?_)
  obtain rfl := hs.int 0 rfl
  refine WL.fieldAddr (m := 2) rfl FA59_2 rfl ?_
  refine WL.loadF (z := x5.Version) F_api_WeightEntry_Version hs 0 rfl 4 rfl rfl TI3 (.inr rfl) rfl rfl (fun v19 hs => ?_)
  obtain rfl := hs.int 0 rfl
  refine WL.bin (v := .bool (decide (x5.Version < x1.Version))) rfl rfl (ib_gtr _ _ _) ?_
  refine WL.assign (v := .bool (decide (x5.Version < x1.Version))) rfl ?_
  refine WL.nil ?_
  refine hK17 _ _ ?_
  refine W.ret ?_
  have hr := Option.some.inj hf; subst hr
  exact ⟨_, resOk_one rfl rfl, (), rfl, (hs.mask []).pick []⟩ }
  {
  refine W.cond_false (bool_tr rfl hc16) ?_
  refine W.skip ?_
  refine hK12 _ _ ?_
  refine W.seqK fun K20 hK20 => ?_
  refine W.seqK fun K21 hK21 => ?_
  refine W.region ?_
  refine WL.fieldAddr (m := 3) rfl FA59_3 rfl ?_
  refine WL.loadF (z := x1.Admin) F_api_WeightEntry_Admin hs 1 rfl 2 rfl rfl TI3 (.inr rfl) rfl rfl (fun v22 hs => ?_)
  obtain rfl := hs.int 0 rfl
  refine WL.fieldAddr (m := 3) rfl FA59_3 rfl ?_
  refine WL.loadF (z := x5.Admin) F_api_WeightEntry_Admin hs 0 rfl 4 rfl rfl TI3 (.inr rfl) rfl rfl (fun v23 hs => ?_)
  obtain rfl := hs.int 0 rfl
  refine WL.bin (v := .bool (x1.Admin != x5.Admin)) rfl rfl (ib_neq _ _ _) ?_
  refine WL.nil ?_
  refine hK21 _ _ ?_
  rcases iteE hf with ⟨hc24, hf⟩ | ⟨hc24, hf⟩
  {
  refine W.cond_true (bool_tr rfl hc24) ?_
  refine W.seqK fun K25 hK25 => ?_
  refine W.region ?_
  refine WL.fieldAddr (m := 3) rfl FA59_3 rfl ?_
  refine WL.loadF (z := x1.Admin) F_api_WeightEntry_Admin hs 1 rfl 4 rfl rfl TI3 (.inr rfl) rfl rfl (fun v26 hs => ?_)
  obtain rfl := hs.int 0 rfl
  refine WL.fieldAddr (m := 3) rfl FA59_3 rfl ?_
  refine WL.loadF (z := x5.Admin) F_api_WeightEntry_Admin hs 0 rfl 6 rfl rfl TI3 (.inr rfl) rfl rfl (fun v27 hs => ?_)
  obtain rfl := hs.int 0 rfl
  refine WL.bin (v := .bool (decide (x5.Admin < x1.Admin))) rfl rfl (ib_gtr _ _ _) ?_
  refine WL.assign (v := .bool (decide (x5.Admin < x1.Admin))) rfl ?_
  refine WL.nil ?_
  refine hK25 _ _ ?_
  refine W.ret ?_
  have hr := Option.some.inj hf; subst hr
  exact ⟨_, resOk_one rfl rfl, (), rfl, (hs.mask []).pick []⟩ }
  {
  refine W.cond_false (bool_tr rfl hc24) ?_
  refine W.skip ?_
  refine hK20 _ _ ?_
  refine W.seqK fun K28 hK28 => ?_
  refine W.region ?_
  refine WL.fieldAddr (m := 4) rfl FA59_4 rfl ?_
  refine WL.loadF (z := x1.Number) F_api_WeightEntry_Number hs 1 rfl 4 rfl rfl TI3 (.inr rfl) rfl rfl (fun v29 hs => ?_)
  obtain rfl := hs.int 0 rfl
  refine WL.fieldAddr (m := 4) rfl FA59_4 rfl ?_
  refine WL.loadF (z := x5.Number) F_api_WeightEntry_Number hs 0 rfl 6 rfl rfl TI3 (.inr rfl) rfl rfl (fun v30 hs => ?_)
  obtain rfl := hs.int 0 rfl
  refine WL.bin (v := .bool (decide (x5.Number < x1.Number))) rfl rfl (ib_gtr _ _ _) ?_
  refine WL.assign (v := .bool (decide (x5.Number < x1.Number))) rfl ?_
  refine WL.nil ?_
  refine hK28 _ _ ?_
  refine W.ret ?_
  have hr := Option.some.inj hf; subst hr
  exact ⟨_, resOk_one rfl rfl, (), rfl, (hs.mask []).pick []⟩ } }
end Go.Proofs.YthfoljpjhegkmaaDoor
