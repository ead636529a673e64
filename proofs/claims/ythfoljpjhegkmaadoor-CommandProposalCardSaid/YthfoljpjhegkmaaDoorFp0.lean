import Derived.Test.YthfoljpjhegkmaaDoorFh
set_option linter.unusedVariables false
set_option linter.unusedSimpArgs false
namespace Go.Proofs.YthfoljpjhegkmaaDoor
open Go Go.RowKit Go.Proofs.YthfoljpjhegkmaaDoorL
set_option maxRecDepth 100000
set_option maxHeartbeats 4000000
/-! elasticstore/command.number: function 64 -/
theorem command_number.calls {ok : Nat → Prop} {w0 : World} {x1 : List UInt8}  {r : Int × Bool} (hf : command_number x1 = some r)  :
    Calls Tryd.prog 64 #[bstr x1] w0 fun e w' => ∃ v, e = .returned v ∧ ∃ y : Unit, v = .tuple #[.int .i64 r.1, .bool r.2] ∧ St ok (bz w0) w' [] [] := by
  unfold command_number at hf
  refine calls_of_W (fn := Tryd.f64) (N := 48) Tryd.func64 rfl Tryd.ntmps64 rfl ?_
  have hs : St ok (bz w0) w0 [] [] := St.init All.nil
  refine W.seqK fun K2 hK2 => ?_
  refine W.region ?_
  refine WL.assign (v := .int .i64 0) rfl ?_
  refine WL.assign (v := .bool false) rfl ?_
  refine WL.nil ?_
  refine hK2 _ _ ?_
  refine W.seqK fun K3 hK3 => ?_
  refine W.seqK fun K4 hK4 => ?_
  have Jk7 : ∀ (x6 : Bool) (ρ : Env) (w : World), ρ 0 = bstr x1 → ρ 22 = .bool x6 → St ok (bz w0) w [] [] → command_number.j3 x1 x6 = some r → K4 ρ w := by
    intro x6 ρ w h5_0 h5_22 hs hf
    refine hK4 _ _ ?_
    unfold command_number.j3 at hf
    rcases iteE hf with ⟨hc8, hf⟩ | ⟨hc8, hf⟩
    {
    refine W.cond_true (bool_tr h5_22 hc8) ?_
    refine W.seqK fun K9 hK9 => ?_
    refine W.region ?_
    refine WL.assign (v := .int .i64 0) rfl ?_
    refine WL.assign (v := .bool false) rfl ?_
    refine WL.nil ?_
    refine hK9 _ _ ?_
    refine W.ret ?_
    have hr := Option.some.inj hf; subst hr
    exact ⟨_, resOk_two rfl rfl rfl, (), rfl, (hs.mask []).pick []⟩ }
    {
    refine W.cond_false (bool_tr h5_22 hc8) ?_
    refine W.skip ?_
    refine hK3 _ _ ?_
    refine W.seqK fun K10 hK10 => ?_
    refine W.region ?_
    refine WL.assign (v := .int .i64 0) rfl ?_
    refine WL.nil ?_
    refine hK10 _ _ ?_
    refine W.seqK fun K11 hK11 => ?_
    have Jk14 : ∀ (x13 : Int) (ρ : Env) (w : World), ρ 4 = .int .i64 x13 → St ok (bz w0) w [] [] → command_number.j1 x13 = some r → K11 ρ w := by
      intro x13 ρ w h12_4 hs hf
      refine hK11 _ _ ?_
      unfold command_number.j1 at hf
      refine W.seqK fun K15 hK15 => ?_
      refine W.region ?_
      refine WL.move (v := .int .i64 x13) h12_4 ?_
      refine WL.assign (v := .int .i64 x13) rfl ?_
      refine WL.assign (v := .bool true) rfl ?_
      refine WL.nil ?_
      refine hK15 _ _ ?_
      refine W.ret ?_
      have hr := Option.some.inj hf; subst hr
      exact ⟨_, resOk_two rfl rfl rfl, (), rfl, (hs.mask []).pick []⟩
    refine W.seqK fun K16 hK16 => ?_
    refine W.region ?_
    refine WL.move (v := bstr x1) h5_0 ?_
    refine WL.len (v := bstr x1) rfl (len_string UN9) ?_
    refine WL.move (v := .int .i64 0) rfl ?_
    refine WL.nil ?_
    refine hK16 _ _ ?_
    refine W.block ?_
    obtain ⟨bs20, hbs20, hfs20⟩ := bindE hf
    refine W.loop hbs20 (fun s ρ w => match s with | (x18, x19) => ρ 0 = bstr x1 ∧ ρ 4 = .int .i64 x18 ∧ ρ 24 = .int .i64 (x1.length : Int) ∧ ρ 25 = .int .i64 x19 ∧ St ok (bz w0) w [] []) ⟨h5_0, rfl, rfl, rfl, (hs.mask []).pick []⟩ ?_
    intro s ρ w os20 hI hf hbbs20
    obtain ⟨x18, x19⟩ := s
    obtain ⟨h17_0, h17_4, h17_24, h17_25, hs⟩ := hI
    unfold command_number.l1 at hf
    refine W.seqK fun K21 hK21 => ?_
    refine W.region ?_
    refine WL.bin (v := .bool (decide (x19 < (x1.length : Int)))) h17_25 h17_24 (ib_lss _ _ _) ?_
    refine WL.nil ?_
    refine hK21 _ _ ?_
    refine W.seqK fun K22 hK22 => ?_
    rcases iteE hf with ⟨hc23, hf⟩ | ⟨hc23, hf⟩
    {
    refine W.cond_true (bool_tr rfl hc23) ?_
    refine W.skip ?_
    refine hK22 _ _ ?_
    refine W.seqK fun K24 hK24 => ?_
    refine W.block ?_
    refine W.seqK fun K25 hK25 => ?_
    refine W.region ?_
    refine WL.move (v := .int .i64 x19) h17_25 ?_
    refine WL.assign (v := .int .i64 x19) rfl ?_
    refine WL.nil ?_
    refine hK25 _ _ ?_
    refine W.seqK fun K26 hK26 => ?_
    refine W.seqK fun K27 hK27 => ?_
    have Jk30 : ∀ (x29 : Bool) (ρ : Env) (w : World), ρ 0 = bstr x1 → ρ 4 = .int .i64 x18 → ρ 5 = .int .i64 x19 → ρ 24 = .int .i64 (x1.length : Int) → ρ 25 = .int .i64 x19 → ρ 37 = .bool x29 → St ok (bz w0) w [] [] → command_number.j2 x1 x18 x19 x29 = some os20 → K27 ρ w := by
      intro x29 ρ w h28_0 h28_4 h28_5 h28_24 h28_25 h28_37 hs hf
      refine hK27 _ _ ?_
      unfold command_number.j2 at hf
      rcases iteE hf with ⟨hc31, hf⟩ | ⟨hc31, hf⟩
      {
      refine W.cond_true (bool_tr h28_37 hc31) ?_
      refine W.seqK fun K32 hK32 => ?_
      refine W.region ?_
      refine WL.assign (v := .int .i64 0) rfl ?_
      refine WL.assign (v := .bool false) rfl ?_
      refine WL.nil ?_
      refine hK32 _ _ ?_
      refine W.ret ?_
      have hr := Option.some.inj hf; subst hr
      have hr := hbbs20 _ rfl; subst hr
      have hf := hfs20
      have hr := Option.some.inj hf; subst hr
      exact ⟨_, resOk_two rfl rfl rfl, (), rfl, (hs.mask []).pick []⟩ }
      {
      refine W.cond_false (bool_tr h28_37 hc31) ?_
      refine W.skip ?_
      refine hK26 _ _ ?_
      refine W.region ?_
      refine WL.move (v := .int .i64 x18) h28_4 ?_
      obtain ⟨x33, ex33, hf⟩ := letE hf
      refine WL.bin (v := .int .i64 x33) rfl rfl (ib_as ex33 (ib_mul _ _ _)) ?_
      refine WL.move (v := bstr x1) h28_0 ?_
      refine WL.move (v := .int .i64 x19) h28_5 ?_
      obtain ⟨x34, hxx34, hf⟩ := bindE hf
      refine WL.indexS UN9 rfl rfl hxx34 ?_
      obtain ⟨x35, ex35, hf⟩ := letE hf
      refine WL.bin (v := .int .u8 x35) rfl rfl (ib_as ex35 (ib_sub _ _ _)) ?_
      refine WL.convI UN5 UN3 rfl ?_
      obtain ⟨x36, ex36, hf⟩ := letE hf
      refine WL.bin (v := .int .i64 x36) rfl rfl (ib_as ex36 (ib_add _ _ _)) ?_
      refine WL.assign (v := .int .i64 x36) rfl ?_
      refine WL.nil ?_
      refine hK24 _ _ ?_
      refine W.region ?_
      obtain ⟨x37, ex37, hf⟩ := letE hf
      refine WL.bin (v := .int .i64 x37) h28_25 rfl (ib_as ex37 (ib_add _ _ _)) ?_
      refine WL.move (v := .int .i64 x37) rfl ?_
      refine WL.nil ?_
      exact ⟨_, (Option.some.inj hf).symm, h28_0, rfl, h28_24, rfl, (hs.mask []).pick []⟩ }
    refine W.region ?_
    refine WL.move (v := bstr x1) h17_0 ?_
    refine WL.move (v := .int .i64 x19) rfl ?_
    obtain ⟨x38, hxx38, hf⟩ := bindE hf
    refine WL.indexS UN9 rfl rfl hxx38 ?_
    refine WL.bin (v := .bool (decide ((x38.toNat : Int) < 48))) rfl rfl (ib_lss _ _ _) ?_
    refine WL.move (v := .bool (decide ((x38.toNat : Int) < 48))) rfl ?_
    rcases iteE hf with ⟨hc39, hf⟩ | ⟨hc39, hf⟩
    {
    refine WL.pass ((wanted_of rfl rfl (bool_tr rfl hc39)).trans rfl) rfl ?_
    refine WL.pass ((wanted_of rfl rfl (bool_tr rfl hc39)).trans rfl) rfl ?_
    refine WL.pass ((wanted_of rfl rfl (bool_tr rfl hc39)).trans rfl) rfl ?_
    refine WL.pass ((wanted_of rfl rfl (bool_tr rfl hc39)).trans rfl) rfl ?_
    refine WL.pickT (v := .bool true) (bool_tr rfl hc39) rfl ?_
    refine WL.nil ?_
    exact Jk30 true _ _ h17_0 h17_4 rfl h17_24 h17_25 rfl ((hs.mask []).pick []) hf }
    {
    refine WL.move (v := bstr x1) h17_0 ?_ (hg := (wanted_of rfl rfl (bool_tr rfl hc39)).trans rfl)
    refine WL.move (v := .int .i64 x19) rfl ?_ (hg := (wanted_of rfl rfl (bool_tr rfl hc39)).trans rfl)
    obtain ⟨x40, hxx40, hf⟩ := bindE hf
    refine WL.indexS UN9 rfl rfl hxx40 ?_ (hg := (wanted_of rfl rfl (bool_tr rfl hc39)).trans rfl)
    refine WL.bin (v := .bool (decide (57 < (x40.toNat : Int)))) rfl rfl (ib_gtr _ _ _) ?_ (hg := (wanted_of rfl rfl (bool_tr rfl hc39)).trans rfl)
    refine WL.pickF (v := .bool (decide (57 < (x40.toNat : Int)))) (bool_tr rfl hc39) rfl ?_
    refine WL.nil ?_
    exact Jk30 (decide (57 < (x40.toNat : Int))) _ _ h17_0 h17_4 rfl h17_24 h17_25 rfl ((hs.mask []).pick []) hf } }
    {
    refine W.cond_false (bool_tr rfl hc23) ?_
    refine W.exit ?_
    have hr := Option.some.inj hf; subst hr
    have hr := hbbs20 _ rfl; subst hr
    have hf := hfs20
    exact Jk14 x18 _ _ h17_4 ((hs.mask []).pick []) hf } }
  refine W.region ?_
  refine WL.move (v := bstr x1) rfl ?_
  refine WL.binS (v := .bool (x1 == ([] : List UInt8))) rfl rfl (sb_eql _ _) ?_
  refine WL.move (v := .bool (x1 == ([] : List UInt8))) rfl ?_
  rcases iteE hf with ⟨hc44, hf⟩ | ⟨hc44, hf⟩
  {
  refine WL.pass ((wanted_of rfl rfl (bool_tr rfl hc44)).trans rfl) rfl ?_
  refine WL.pass ((wanted_of rfl rfl (bool_tr rfl hc44)).trans rfl) rfl ?_
  refine WL.pass ((wanted_of rfl rfl (bool_tr rfl hc44)).trans rfl) rfl ?_
  refine WL.pickT (v := .bool true) (bool_tr rfl hc44) rfl ?_
  refine WL.move (v := .bool true) rfl ?_
  refine WL.pass ((wanted_of rfl rfl rfl).trans rfl) rfl ?_
  refine WL.pass ((wanted_of rfl rfl rfl).trans rfl) rfl ?_
  refine WL.pass ((wanted_of rfl rfl rfl).trans rfl) rfl ?_
  refine WL.pass ((wanted_of rfl rfl rfl).trans rfl) rfl ?_
  refine WL.pass (wanted_undef rfl rfl rfl) rfl ?_
  refine WL.pass (wanted_undef rfl rfl rfl) rfl ?_
  refine WL.pass (wanted_undef rfl rfl rfl) rfl ?_
  refine WL.pass ((wanted_of rfl rfl rfl).trans rfl) rfl ?_
  refine WL.pickT (v := .bool true) rfl rfl ?_
  refine WL.nil ?_
  exact Jk7 true _ _ rfl rfl ((hs.mask []).pick []) hf }
  {
  refine WL.move (v := bstr x1) rfl ?_ (hg := (wanted_of rfl rfl (bool_tr rfl hc44)).trans rfl)
  refine WL.len (v := bstr x1) rfl (len_string UN9) ?_ (hg := (wanted_of rfl rfl (bool_tr rfl hc44)).trans rfl)
  refine WL.bin (v := .bool (decide (4 < (x1.length : Int)))) rfl rfl (ib_gtr _ _ _) ?_ (hg := (wanted_of rfl rfl (bool_tr rfl hc44)).trans rfl)
  refine WL.pickF (v := .bool (decide (4 < (x1.length : Int)))) (bool_tr rfl hc44) rfl ?_
  refine WL.move (v := .bool (decide (4 < (x1.length : Int)))) rfl ?_
  rcases iteE hf with ⟨hc45, hf⟩ | ⟨hc45, hf⟩
  {
  refine WL.pass ((wanted_of rfl rfl (bool_tr rfl hc45)).trans rfl) rfl ?_
  refine WL.pass ((wanted_of rfl rfl (bool_tr rfl hc45)).trans rfl) rfl ?_
  refine WL.pass ((wanted_of rfl rfl (bool_tr rfl hc45)).trans rfl) rfl ?_
  refine WL.pass ((wanted_of rfl rfl (bool_tr rfl hc45)).trans rfl) rfl ?_
  refine WL.pass (wanted_undef rfl rfl rfl) rfl ?_
  refine WL.pass (wanted_undef rfl rfl rfl) rfl ?_
  refine WL.pass (wanted_undef rfl rfl rfl) rfl ?_
  refine WL.pass ((wanted_of rfl rfl (bool_tr rfl hc45)).trans rfl) rfl ?_
  refine WL.pickT (v := .bool true) (bool_tr rfl hc45) rfl ?_
  refine WL.nil ?_
  exact Jk7 true _ _ rfl rfl ((hs.mask []).pick []) hf }
  {
  refine WL.move (v := bstr x1) rfl ?_ (hg := (wanted_of rfl rfl (bool_tr rfl hc45)).trans rfl)
  refine WL.len (v := bstr x1) rfl (len_string UN9) ?_ (hg := (wanted_of rfl rfl (bool_tr rfl hc45)).trans rfl)
  refine WL.bin (v := .bool (decide (1 < (x1.length : Int)))) rfl rfl (ib_gtr _ _ _) ?_ (hg := (wanted_of rfl rfl (bool_tr rfl hc45)).trans rfl)
  refine WL.move (v := .bool (decide (1 < (x1.length : Int)))) rfl ?_ (hg := (wanted_of rfl rfl (bool_tr rfl hc45)).trans rfl)
  rcases iteE hf with ⟨hc46, hf⟩ | ⟨hc46, hf⟩
  {
  refine WL.move (v := bstr x1) rfl ?_ (hg := (wanted_of rfl rfl (bool_tr rfl hc46)).trans rfl)
  obtain ⟨x47, hxx47, hf⟩ := bindE hf
  refine WL.indexS UN9 rfl rfl hxx47 ?_ (hg := (wanted_of rfl rfl (bool_tr rfl hc46)).trans rfl)
  refine WL.bin (v := .bool ((x47.toNat : Int) == 48)) rfl rfl (ib_eql _ _ _) ?_ (hg := (wanted_of rfl rfl (bool_tr rfl hc46)).trans rfl)
  refine WL.pickT (v := .bool ((x47.toNat : Int) == 48)) (bool_tr rfl hc46) rfl ?_ (hg := (wanted_of rfl rfl (bool_tr rfl hc45)).trans rfl)
  refine WL.pickF (v := .bool ((x47.toNat : Int) == 48)) (bool_tr rfl hc45) rfl ?_
  refine WL.nil ?_
  exact Jk7 ((x47.toNat : Int) == 48) _ _ rfl rfl ((hs.mask []).pick []) hf }
  {
  refine WL.pass ((wanted_of rfl rfl (bool_tr rfl hc46)).trans rfl) rfl ?_
  refine WL.pass ((wanted_of rfl rfl (bool_tr rfl hc46)).trans rfl) rfl ?_
  refine WL.pass ((wanted_of rfl rfl (bool_tr rfl hc46)).trans rfl) rfl ?_
  refine WL.pickF (v := .bool false) (bool_tr rfl hc46) rfl ?_ (hg := (wanted_of rfl rfl (bool_tr rfl hc45)).trans rfl)
  refine WL.pickF (v := .bool false) (bool_tr rfl hc45) rfl ?_
  refine WL.nil ?_
  exact Jk7 false _ _ rfl rfl ((hs.mask []).pick []) hf } } }
/-! elasticstore/command.numbers: function 63 -/
theorem command_numbers.calls {ok : Nat → Prop} {w0 : World} {x1 : List (List UInt8)} {x4 : List Int} {a2 : Option Addr} {c3 : Nat} {a5 : Option Addr} {c6 : Nat} {r : (List Int) × Bool} (hf : command_numbers x1 x4 = some r) (i0 : (vl (tSlice tStr) x1 (.slice a2 x1.length c3)).holds ok w0) (i1 : (vl (tSlice (tInt .i64)) x4 (.slice a5 x4.length c6)).holds ok w0) :
    Calls Tryd.prog 63 #[.slice a2 x1.length c3, .slice a5 x4.length c6] w0 fun e w' => ∃ v, e = .returned v ∧ ∃ y : (Option Addr × Nat × Nat), v = .tuple #[.slice y.1 y.2.1 y.2.2, .bool r.2] ∧ St ok (bz w0) w' [] [own (tInt .i64) 3 (.slice y.1 y.2.1 y.2.2) r.1] := by
  unfold command_numbers at hf
  refine calls_of_W (fn := Tryd.f63) (N := 33) Tryd.func63 rfl Tryd.ntmps63 rfl ?_
  have hs : St ok (bz w0) w0 [vl (tSlice tStr) x1 (.slice a2 x1.length c3), vl (tSlice (tInt .i64)) x4 (.slice a5 x4.length c6)] [] := St.init (All.cons i0 (All.cons i1 All.nil))
  clear i0 i1
  refine W.seqK fun K7 hK7 => ?_
  refine W.region ?_
  refine WL.assign (v := .slice none 0 0) rfl ?_
  refine WL.assign (v := .bool false) rfl ?_
  refine WL.nil ?_
  refine hK7 _ _ ?_
  refine W.seqK fun K8 hK8 => ?_
  refine W.region ?_
  refine WL.assign (v := .slice none 0 0) rfl ?_
  refine WL.nil ?_
  refine hK8 _ _ ?_
  refine W.seqK fun K9 hK9 => ?_
  have hs := hs.ownNil (tInt .i64) 3
  have Jk15 : ∀ (x11 : List Int) (a12 : Option Addr) (c13 : Nat) (n14 : Nat) (ρ : Env) (w : World), ρ 6 = .slice a12 n14 c13 → St ok (bz w0) w [] [own (tInt .i64) 3 (.slice a12 n14 c13) x11] → command_numbers.j1 x11 = some r → K9 ρ w := by
    intro x11 a12 c13 n14 ρ w h10_6 hs hf
    refine hK9 _ _ ?_
    unfold command_numbers.j1 at hf
    refine W.seqK fun K16 hK16 => ?_
    refine W.region ?_
    refine WL.move (v := .slice a12 n14 c13) h10_6 ?_
    refine WL.assign (v := .slice a12 n14 c13) rfl ?_
    refine WL.assign (v := .bool true) rfl ?_
    refine WL.nil ?_
    refine hK16 _ _ ?_
    refine W.ret ?_
    have hr := Option.some.inj hf; subst hr
    exact ⟨_, resOk_two rfl rfl rfl, (a12, n14, c13), rfl, (hs.mask [true]).pick []⟩
  refine W.seqK fun K17 hK17 => ?_
  refine W.region ?_
  refine WL.move (v := .slice a5 x4.length c6) rfl ?_
  refine WL.len (v := .slice a5 x4.length c6) rfl (len_slice UN33) ?_
  refine WL.move (v := .int .i64 0) rfl ?_
  refine WL.nil ?_
  refine hK17 _ _ ?_
  refine W.block ?_
  obtain ⟨bs24, hbs24, hfs24⟩ := bindE hf
  refine W.loop hbs24 (fun s ρ w => match s with | (x19, x23) => ∃ (a20 : Option Addr), ∃ (c21 : Nat), ∃ (n22 : Nat), ρ 0 = .slice a2 x1.length c3 ∧ ρ 6 = .slice a20 n22 c21 ∧ ρ 11 = .slice a5 x4.length c6 ∧ ρ 12 = .int .i64 (x4.length : Int) ∧ ρ 13 = .int .i64 x23 ∧ St ok (bz w0) w [vl (tSlice tStr) x1 (.slice a2 x1.length c3), vl (tSlice (tInt .i64)) x4 (.slice a5 x4.length c6)] [own (tInt .i64) 3 (.slice a20 n22 c21) x19]) ⟨none, 0, 0, rfl, rfl, rfl, rfl, rfl, (hs.mask [true]).pick [0, 1]⟩ ?_
  intro s ρ w os24 hI hf hbbs24
  obtain ⟨x19, x23⟩ := s
  obtain ⟨a20, c21, n22, h18_0, h18_6, h18_11, h18_12, h18_13, hs⟩ := hI
  unfold command_numbers.l1 at hf
  refine W.seqK fun K25 hK25 => ?_
  refine W.region ?_
  refine WL.bin (v := .bool (decide (x23 < (x4.length : Int)))) h18_13 h18_12 (ib_lss _ _ _) ?_
  refine WL.nil ?_
  refine hK25 _ _ ?_
  refine W.seqK fun K26 hK26 => ?_
  rcases iteE hf with ⟨hc27, hf⟩ | ⟨hc27, hf⟩
  {
  refine W.cond_true (bool_tr rfl hc27) ?_
  refine W.skip ?_
  refine hK26 _ _ ?_
  refine W.seqK fun K28 hK28 => ?_
  refine W.block ?_
  refine W.seqK fun K29 hK29 => ?_
  refine W.region ?_
  obtain ⟨x30, hxx30, hf⟩ := bindE hf
  refine WL.indexAddr hs 1 rfl UN33 TI3 h18_11 h18_13 hxx30 (fun ad31 hs => ?_)
  refine WL.loadP hs 0 rfl TI3 (.inr rfl) rfl (fun v32 hs => ?_)
  obtain rfl := hs.int 0 rfl
  refine WL.assign (v := .int .i64 x30) rfl ?_
  refine WL.nil ?_
  refine hK29 _ _ ?_
  refine W.seqK fun K33 hK33 => ?_
  refine W.region ?_
  refine WL.move (v := .slice a2 x1.length c3) h18_0 ?_
  refine WL.move (v := .int .i64 x30) rfl ?_
  obtain ⟨x34, hxx34, hf⟩ := bindE hf
  refine WL.indexAddr hs 2 rfl UN44 TI9 rfl rfl hxx34 (fun ad35 hs => ?_)
  refine WL.loadP hs 0 rfl TI9 (.inr rfl) rfl (fun v36 hs => ?_)
  obtain rfl := hs.str 0 rfl
  obtain ⟨⟨x37, x38⟩, hxx37, hf⟩ := bindE hf
  refine WL.call (vs := [bstr x34]) hs FN64 ⟨rfl, trivial⟩ (fun ok hA => command_number.calls (x1 := x34) hxx37) ?_
  rintro _ w hs
  refine WL.move (v := .tuple #[.int .i64 x37, .bool x38]) rfl ?_
  refine WL.extract (v := .int .i64 x37) rfl rfl ?_
  refine WL.extract (v := .bool x38) rfl rfl ?_
  refine WL.assign (v := .int .i64 x37) rfl ?_
  refine WL.assign (v := .bool x38) rfl ?_
  refine WL.nil ?_
  refine hK33 _ _ ?_
  refine W.seqK fun K39 hK39 => ?_
  refine W.seqK fun K40 hK40 => ?_
  refine W.region ?_
  refine WL.move (v := .bool x38) rfl ?_
  refine WL.not rfl ?_
  refine WL.nil ?_
  refine hK40 _ _ ?_
  rcases iteE hf with ⟨hc41, hf⟩ | ⟨hc41, hf⟩
  {
  refine W.cond_true (bool_tr rfl hc41) ?_
  refine W.seqK fun K42 hK42 => ?_
  refine W.region ?_
  refine WL.assign (v := .slice none 0 0) rfl ?_
  refine WL.assign (v := .bool false) rfl ?_
  refine WL.nil ?_
  refine hK42 _ _ ?_
  refine W.ret ?_
  have hr := Option.some.inj hf; subst hr
  have hr := hbbs24 _ rfl; subst hr
  have hf := hfs24
  have hr := Option.some.inj hf; subst hr
  have hs := hs.ownNil (tInt .i64) 3
  exact ⟨_, resOk_two rfl rfl rfl, (none, 0, 0), rfl, (hs.mask [true]).pick []⟩ }
  {
  refine W.cond_false (bool_tr rfl hc41) ?_
  refine W.skip ?_
  refine hK39 _ _ ?_
  refine W.region ?_
  refine WL.move (v := .slice a20 n22 c21) h18_6 ?_
  refine WL.move (v := .int .i64 x37) rfl ?_
  refine WL.buildSlice (n := 1) (vs := [(0, .int .i64 x37)]) (cs := [.int .i64 x37]) hs ⟨⟨rfl, rfl⟩, trivial⟩ (bls PS33 (by decide) rfl) (fun g43 w hs => ?_)
  obtain ⟨x44, hxx44, hf⟩ := bindE hf
  obtain ⟨hbx44, hex44⟩ := appE hxx44
  refine WL.append (ys := [x37]) (zs := x44) hs 1 rfl 0 rfl UN33 EI3 rfl rfl (fun ok hA => (Cells.one (T := tInt .i64) rfl)) hbx44 (by omega) hex44 (fun v45 w hs => ?_)
  obtain ⟨a46, n48, c47, rfl⟩ := hs.ownv3 1 rfl
  refine WL.assign (v := .slice a46 n48 c47) rfl ?_
  refine WL.nil ?_
  refine hK28 _ _ ?_
  refine W.region ?_
  obtain ⟨x49, ex49, hf⟩ := letE hf
  refine WL.bin (v := .int .i64 x49) h18_13 rfl (ib_as ex49 (ib_add _ _ _)) ?_
  refine WL.move (v := .int .i64 x49) rfl ?_
  refine WL.nil ?_
  exact ⟨_, (Option.some.inj hf).symm, a46, c47, n48, h18_0, rfl, h18_11, h18_12, rfl, (hs.mask [false, true]).pick [4, 5]⟩ } }
  {
  refine W.cond_false (bool_tr rfl hc27) ?_
  refine W.exit ?_
  have hr := Option.some.inj hf; subst hr
  have hr := hbbs24 _ rfl; subst hr
  have hf := hfs24
  exact Jk15 x19 a20 c21 n22 _ _ h18_6 ((hs.mask [true]).pick []) hf }
theorem command_numbers.callc {ok : Nat → Prop} {w0 : World} {x1 : List (List UInt8)} {x4 : List Int} {a2 : Option Addr} {c3 : Nat} {a5 : Option Addr} {c6 : Nat} {r : (List Int) × Bool} (hf : command_numbers x1 x4 = some r) (i0 : (vl (tSlice tStr) x1 (.slice a2 x1.length c3)).holds ok w0) (i1 : (vl (tSlice (tInt .i64)) x4 (.slice a5 x4.length c6)).holds ok w0) :
    Calls Tryd.prog 63 #[.slice a2 x1.length c3, .slice a5 x4.length c6] w0 fun e w' => ∃ v, e = .returned v ∧ ∃ y : (Option Addr × Nat), v = .tuple #[.slice y.1 (r.1).length y.2, .bool r.2] ∧ St ok (bz w0) w' [vl (tSlice (tInt .i64)) r.1 (.slice y.1 (r.1).length y.2)] [] := by
  refine (command_numbers.calls (ok := ok) (w0 := w0) (x1 := x1) (x4 := x4) hf i0 i1).mono ?_
  rintro e w' ⟨v, rfl, ⟨a53, n54, c55⟩, rfl, hs⟩
  obtain rfl := hs.ownLen 0 rfl
  have hs := hs.freezeOwn 0 rfl
  exact ⟨_, rfl, (a53, c55), rfl, hs.pick [0]⟩
/-! elasticstore/command.server: function 47 -/
theorem command_server.calls {ok : Nat → Prop} {w0 : World} {x1 : api_Change} {x5 : List (List UInt8)} {x8 : Int} {v2 : Value} {a6 : Option Addr} {c7 : Nat} {r : api_Change × Bool} (hf : command_server x1 x5 x8 = some r) (i0 : (vl t_api_Change x1 v2).holds ok w0) (i1 : (vl (tSlice tStr) x5 (.slice a6 x5.length c7)).holds ok w0) :
    Calls Tryd.prog 47 #[v2, .slice a6 x5.length c7, .int .i64 x8] w0 fun e w' => ∃ v, e = .returned v ∧ ∃ y : List Value, v = .tuple #[.agg y.toArray, .bool r.2] ∧ St ok (bz w0) w' [vl t_api_Change r.1 (.agg y.toArray)] [] := by
  unfold command_server at hf
  refine calls_of_W (fn := Tryd.f47) (N := 38) Tryd.func47 rfl Tryd.ntmps47 rfl ?_
  have hs : St ok (bz w0) w0 [vl t_api_Change x1 v2, vl (tSlice tStr) x5 (.slice a6 x5.length c7)] [] := St.init (All.cons i0 (All.cons i1 All.nil))
  clear i0 i1
  obtain ⟨cs3, hl4, rfl⟩ := hs.aggv (n := 7) 0 rfl rfl rfl
  refine W.seqK fun K9 hK9 => ?_
  refine W.region ?_
  obtain rfl := open_api_Change hs 0 rfl
  refine WL.box (vs := [.int .i64 x1.Kind, .int .i64 x1.Server, .int .i64 x1.Weight, .int .i64 x1.Version, .int .i64 x1.Rule.Kind, .int .i64 x1.Rule.Columns, .int .i64 x1.Rule.Faulty]) hs rfl rfl (fun g10 w hs => ?_)
  refine WL.alloc hs ZV26 (fun g11 w hs => ?_)
  refine WL.assign (v := .bool false) rfl ?_
  refine WL.nil ?_
  refine hK9 _ _ ?_
  refine W.seqK fun K12 hK12 => ?_
  refine W.region ?_
  refine WL.buildSlice (n := 1) (vs := [(0, .int .i64 1)]) (cs := [.int .i64 1]) hs ⟨⟨rfl, rfl⟩, trivial⟩ (bls PS33 (by decide) rfl) (fun g13 w hs => ?_)
  refine WL.assign (v := .slice (some ⟨g13, 0, none⟩) ([1]).length 1) rfl ?_
  refine WL.nil ?_
  refine hK12 _ _ ?_
  refine W.seqK fun K14 hK14 => ?_
  have hs := hs.ownLit (A := tInt .i64) (xs := [1]) 0 rfl (fun ok hA => (Cells.one (T := tInt .i64) rfl)) (Nat.le_of_ble_eq_true rfl)
  have Jk20 : ∀ (x16 : List Int) (a17 : Option Addr) (c18 : Nat) (n19 : Nat) (ρ : Env) (w : World), ρ 1 = .slice a6 x5.length c7 → ρ 2 = .int .i64 x8 → ρ 3 = .pointer (some ⟨g10, 0, none⟩) → ρ 6 = .pointer (some ⟨g11, 0, none⟩) → ρ 8 = .slice a17 n19 c18 → St ok (bz w0) w [vl (tSlice tStr) x5 (.slice a6 x5.length c7)] [own (tInt .i64) 3 (.slice a17 n19 c18) x16, blk g11 26 [.int .i64 0, .int .i64 0, .int .i64 0, .int .i64 0, .int .i64 0, .int .i64 0, .int .i64 0], blk g10 26 [.int .i64 x1.Kind, .int .i64 x1.Server, .int .i64 x1.Weight, .int .i64 x1.Version, .int .i64 x1.Rule.Kind, .int .i64 x1.Rule.Columns, .int .i64 x1.Rule.Faulty]] → command_server.j2 x1 x5 x8 x16 = some r → K14 ρ w := by
    intro x16 a17 c18 n19 ρ w h15_1 h15_2 h15_3 h15_6 h15_8 hs hf
    refine hK14 _ _ ?_
    unfold command_server.j2 at hf
    refine W.seqK fun K21 hK21 => ?_
    refine W.region ?_
    refine WL.move (v := .slice a6 x5.length c7) h15_1 ?_
    refine WL.move (v := .slice a17 n19 c18) h15_8 ?_
    obtain rfl := hs.ownLen 0 rfl
    have hs := hs.freezeOwn 0 rfl
    obtain ⟨⟨x22, x23⟩, hxx22, hf⟩ := bindE hf
    refine WL.call (vs := [.slice a6 x5.length c7, .slice a17 x16.length c18]) hs FN63 ⟨rfl, ⟨rfl, trivial⟩⟩ (fun ok hA => command_numbers.calls (x1 := x5) (x4 := x16) hxx22 (hA.get 1 rfl) (hA.get 0 rfl)) ?_
    rintro ⟨a24, n25, c26⟩ w hs
    refine WL.move (v := .tuple #[.slice a24 n25 c26, .bool x23]) rfl ?_
    refine WL.extract (v := .slice a24 n25 c26) rfl rfl ?_
    refine WL.extract (v := .bool x23) rfl rfl ?_
    refine WL.assign (v := .slice a24 n25 c26) rfl ?_
    refine WL.assign (v := .bool x23) rfl ?_
    refine WL.nil ?_
    refine hK21 _ _ ?_
    refine W.seqK fun K27 hK27 => ?_
    refine W.seqK fun K28 hK28 => ?_
    refine W.region ?_
    refine WL.move (v := .bool x23) rfl ?_
    refine WL.not rfl ?_
    refine WL.nil ?_
    refine hK28 _ _ ?_
    rcases iteE hf with ⟨hc29, hf⟩ | ⟨hc29, hf⟩
    {
    refine W.cond_true (bool_tr rfl hc29) ?_
    refine W.seqK fun K30 hK30 => ?_
    refine W.region ?_
    refine WL.build (vs := []) (cs := [.int .i64 0, .int .i64 0, .int .i64 0, .int .i64 0, .int .i64 0, .int .i64 0, .int .i64 0]) trivial (bld PL26 rfl) ?_
    refine WL.storeAll (vs := [.int .i64 0, .int .i64 0, .int .i64 0, .int .i64 0, .int .i64 0, .int .i64 0, .int .i64 0]) hs 1 rfl TI26 h15_6 rfl rfl rfl (ones_of rfl) rfl (fun w hs => ?_)
    refine WL.assign (v := .bool false) rfl ?_
    refine WL.nil ?_
    refine hK30 _ _ ?_
    refine W.ret ?_
    have hr := Option.some.inj hf; subst hr
    have hs := hs.add (it := vl t_api_Change (⟨0, 0, 0, 0, (⟨0, 0, 0⟩ : api_Rule)⟩ : api_Change) (.agg [.int .i64 0, .int .i64 0, .int .i64 0, .int .i64 0, .int .i64 0, .int .i64 0, .int .i64 0].toArray)) fun ok hA => V_agg (show t_api_Change.R ok _ _ _ from ⟨[.int .i64 0], [.int .i64 0, .int .i64 0, .int .i64 0, .int .i64 0, .int .i64 0, .int .i64 0], rfl, rfl, ⟨[.int .i64 0], [.int .i64 0, .int .i64 0, .int .i64 0, .int .i64 0, .int .i64 0], rfl, rfl, ⟨[.int .i64 0], [.int .i64 0, .int .i64 0, .int .i64 0, .int .i64 0], rfl, rfl, ⟨[.int .i64 0], [.int .i64 0, .int .i64 0, .int .i64 0], rfl, rfl, ⟨[.int .i64 0], [.int .i64 0, .int .i64 0], rfl, rfl, ⟨[.int .i64 0], [.int .i64 0], rfl, rfl, rfl⟩⟩⟩⟩⟩⟩) rfl
    exact ⟨_, resOk_two rfl (res_all hs 1 rfl TI26 h15_6 rfl) rfl, [.int .i64 0, .int .i64 0, .int .i64 0, .int .i64 0, .int .i64 0, .int .i64 0, .int .i64 0], rfl, (hs.mask []).pick [0]⟩ }
    {
    refine W.cond_false (bool_tr rfl hc29) ?_
    refine W.skip ?_
    refine hK27 _ _ ?_
    refine W.seqK fun K31 hK31 => ?_
    refine W.region ?_
    refine WL.move (v := .slice a24 n25 c26) rfl ?_
    obtain ⟨x32, hxx32, hf⟩ := bindE hf
    refine WL.indexAddrO hs 0 rfl UN33 TI3 rfl rfl hxx32 (fun ad33 hatad33 => ?_)
    refine WL.loadO hs 0 rfl TI3 (.inr rfl) hatad33 hxx32 rfl (fun v34 hs => ?_)
    obtain rfl := hs.int 0 rfl
    refine WL.fieldAddr (m := 1) h15_3 FA26_1 rfl ?_
    refine WL.store (vs := [.int .i64 x32]) (cs' := [.int .i64 x1.Kind, .int .i64 x32, .int .i64 x1.Weight, .int .i64 x1.Version, .int .i64 x1.Rule.Kind, .int .i64 x1.Rule.Columns, .int .i64 x1.Rule.Faulty]) hs 2 rfl TI3 rfl rfl rfl rfl (ones_of rfl) (Nat.le_of_ble_eq_true rfl) rfl (fun w hs => ?_)
    refine WL.nil ?_
    refine hK31 _ _ ?_
    refine W.seqK fun K35 hK35 => ?_
    have Jk38 : ∀ (x37 : Int) (ρ : Env) (w : World), ρ 3 = .pointer (some ⟨g10, 0, none⟩) → ρ 6 = .pointer (some ⟨g11, 0, none⟩) → St ok (bz w0) w [] [blk g11 26 [.int .i64 0, .int .i64 0, .int .i64 0, .int .i64 0, .int .i64 0, .int .i64 0, .int .i64 0], blk g10 26 [.int .i64 x1.Kind, .int .i64 x32, .int .i64 x37, .int .i64 x1.Version, .int .i64 x1.Rule.Kind, .int .i64 x1.Rule.Columns, .int .i64 x1.Rule.Faulty]] → command_server.j1 x1 x32 x37 = some r → K35 ρ w := by
      intro x37 ρ w h36_3 h36_6 hs hf
      refine hK35 _ _ ?_
      unfold command_server.j1 at hf
      refine W.seqK fun K39 hK39 => ?_
      refine W.region ?_
      refine WL.loadN (vs := [.int .i64 x1.Kind, .int .i64 x32, .int .i64 x37, .int .i64 x1.Version, .int .i64 x1.Rule.Kind, .int .i64 x1.Rule.Columns, .int .i64 x1.Rule.Faulty]) hs 1 rfl TI26 h36_3 rfl rfl ?_
      refine WL.storeAll (vs := [.int .i64 x1.Kind, .int .i64 x32, .int .i64 x37, .int .i64 x1.Version, .int .i64 x1.Rule.Kind, .int .i64 x1.Rule.Columns, .int .i64 x1.Rule.Faulty]) hs 0 rfl TI26 h36_6 rfl rfl rfl (ones_of rfl) rfl (fun w hs => ?_)
      refine WL.assign (v := .bool true) rfl ?_
      refine WL.nil ?_
      refine hK39 _ _ ?_
      refine W.ret ?_
      have hr := Option.some.inj hf; subst hr
      have hs := hs.add (it := vl t_api_Change (⟨x1.Kind, x32, x37, x1.Version, (⟨x1.Rule.Kind, x1.Rule.Columns, x1.Rule.Faulty⟩ : api_Rule)⟩ : api_Change) (.agg [.int .i64 x1.Kind, .int .i64 x32, .int .i64 x37, .int .i64 x1.Version, .int .i64 x1.Rule.Kind, .int .i64 x1.Rule.Columns, .int .i64 x1.Rule.Faulty].toArray)) fun ok hA => V_agg (show t_api_Change.R ok _ _ _ from ⟨[.int .i64 x1.Kind], [.int .i64 x32, .int .i64 x37, .int .i64 x1.Version, .int .i64 x1.Rule.Kind, .int .i64 x1.Rule.Columns, .int .i64 x1.Rule.Faulty], rfl, rfl, ⟨[.int .i64 x32], [.int .i64 x37, .int .i64 x1.Version, .int .i64 x1.Rule.Kind, .int .i64 x1.Rule.Columns, .int .i64 x1.Rule.Faulty], rfl, rfl, ⟨[.int .i64 x37], [.int .i64 x1.Version, .int .i64 x1.Rule.Kind, .int .i64 x1.Rule.Columns, .int .i64 x1.Rule.Faulty], rfl, rfl, ⟨[.int .i64 x1.Version], [.int .i64 x1.Rule.Kind, .int .i64 x1.Rule.Columns, .int .i64 x1.Rule.Faulty], rfl, rfl, ⟨[.int .i64 x1.Rule.Kind], [.int .i64 x1.Rule.Columns, .int .i64 x1.Rule.Faulty], rfl, rfl, ⟨[.int .i64 x1.Rule.Columns], [.int .i64 x1.Rule.Faulty], rfl, rfl, rfl⟩⟩⟩⟩⟩⟩) rfl
      exact ⟨_, resOk_two rfl (res_all hs 0 rfl TI26 h36_6 rfl) rfl, [.int .i64 x1.Kind, .int .i64 x32, .int .i64 x37, .int .i64 x1.Version, .int .i64 x1.Rule.Kind, .int .i64 x1.Rule.Columns, .int .i64 x1.Rule.Faulty], rfl, (hs.mask []).pick [0]⟩
    refine W.seqK fun K40 hK40 => ?_
    refine W.region ?_
    refine WL.move (v := .int .i64 x8) h15_2 ?_
    refine WL.bin (v := .bool (decide (0 < x8))) rfl rfl (ib_gtr _ _ _) ?_
    refine WL.nil ?_
    refine hK40 _ _ ?_
    rcases iteE hf with ⟨hc41, hf⟩ | ⟨hc41, hf⟩
    {
    refine W.cond_true (bool_tr rfl hc41) ?_
    refine W.region ?_
    refine WL.move (v := .slice a24 n25 c26) rfl ?_
    obtain ⟨x42, hxx42, hf⟩ := bindE hf
    refine WL.indexAddrO hs 0 rfl UN33 TI3 rfl rfl hxx42 (fun ad43 hatad43 => ?_)
    refine WL.loadO hs 0 rfl TI3 (.inr rfl) hatad43 hxx42 rfl (fun v44 hs => ?_)
    obtain rfl := hs.int 0 rfl
    refine WL.fieldAddr (m := 2) h15_3 FA26_2 rfl ?_
    refine WL.store (vs := [.int .i64 x42]) (cs' := [.int .i64 x1.Kind, .int .i64 x32, .int .i64 x42, .int .i64 x1.Version, .int .i64 x1.Rule.Kind, .int .i64 x1.Rule.Columns, .int .i64 x1.Rule.Faulty]) hs 2 rfl TI3 rfl rfl rfl rfl (ones_of rfl) (Nat.le_of_ble_eq_true rfl) rfl (fun w hs => ?_)
    refine WL.nil ?_
    exact Jk38 x42 _ _ h15_3 h15_6 ((hs.mask [false, true, true]).pick []) hf }
    {
    refine W.cond_false (bool_tr rfl hc41) ?_
    refine W.skip ?_
    exact Jk38 x1.Weight _ _ h15_3 h15_6 ((hs.mask [false, true, true]).pick []) hf } }
  refine W.seqK fun K45 hK45 => ?_
  refine W.region ?_
  refine WL.move (v := .int .i64 x8) rfl ?_
  refine WL.bin (v := .bool (decide (0 < x8))) rfl rfl (ib_gtr _ _ _) ?_
  refine WL.nil ?_
  refine hK45 _ _ ?_
  rcases iteE hf with ⟨hc46, hf⟩ | ⟨hc46, hf⟩
  {
  refine W.cond_true (bool_tr rfl hc46) ?_
  refine W.region ?_
  refine WL.move (v := .slice (some ⟨g13, 0, none⟩) ([1]).length 1) rfl ?_
  refine WL.move (v := .int .i64 x8) rfl ?_
  refine WL.buildSlice (n := 1) (vs := [(0, .int .i64 x8)]) (cs := [.int .i64 x8]) hs ⟨⟨rfl, rfl⟩, trivial⟩ (bls PS33 (by decide) rfl) (fun g47 w hs => ?_)
  obtain ⟨x48, hxx48, hf⟩ := bindE hf
  obtain ⟨hbx48, hex48⟩ := appE hxx48
  refine WL.append (ys := [x8]) (zs := x48) hs 1 rfl 0 rfl UN33 EI3 rfl rfl (fun ok hA => (Cells.one (T := tInt .i64) rfl)) hbx48 (by omega) hex48 (fun v49 w hs => ?_)
  obtain ⟨a50, n52, c51, rfl⟩ := hs.ownv3 1 rfl
  refine WL.assign (v := .slice a50 n52 c51) rfl ?_
  refine WL.nil ?_
  exact Jk20 x48 a50 c51 n52 _ _ rfl rfl rfl rfl rfl ((hs.mask [false, true, true, true]).pick [1]) hf }
  {
  refine W.cond_false (bool_tr rfl hc46) ?_
  refine W.skip ?_
  exact Jk20 [1] (some ⟨g13, 0, none⟩) 1 (([1]).length) _ _ rfl rfl rfl rfl rfl ((hs.mask [true, true, true]).pick [1]) hf }
/-! elasticstore/command.rule: function 48 -/
theorem command_rule.calls {ok : Nat → Prop} {w0 : World} {x1 : List (List UInt8)} {a2 : Option Addr} {c3 : Nat} {r : api_Rule × Bool} (hf : command_rule x1 = some r) (i0 : (vl (tSlice tStr) x1 (.slice a2 x1.length c3)).holds ok w0) :
    Calls Tryd.prog 48 #[.slice a2 x1.length c3] w0 fun e w' => ∃ v, e = .returned v ∧ ∃ y : List Value, v = .tuple #[.agg y.toArray, .bool r.2] ∧ St ok (bz w0) w' [vl t_api_Rule r.1 (.agg y.toArray)] [] := by
  unfold command_rule at hf
  refine calls_of_W (fn := Tryd.f48) (N := 61) Tryd.func48 rfl Tryd.ntmps48 rfl ?_
  have hs : St ok (bz w0) w0 [vl (tSlice tStr) x1 (.slice a2 x1.length c3)] [] := St.init (All.cons i0 All.nil)
  clear i0
  refine W.seqK fun K4 hK4 => ?_
  refine W.region ?_
  refine WL.alloc hs ZV24 (fun g5 w hs => ?_)
  refine WL.assign (v := .bool false) rfl ?_
  refine WL.nil ?_
  refine hK4 _ _ ?_
  refine W.seqK fun K6 hK6 => ?_
  refine W.seqK fun K7 hK7 => ?_
  refine W.region ?_
  refine WL.move (v := .slice a2 x1.length c3) rfl ?_
  refine WL.len (v := .slice a2 x1.length c3) rfl (len_slice UN44) ?_
  refine WL.bin (v := .bool ((x1.length : Int) == 0)) rfl rfl (ib_eql _ _ _) ?_
  refine WL.nil ?_
  refine hK7 _ _ ?_
  rcases iteE hf with ⟨hc8, hf⟩ | ⟨hc8, hf⟩
  {
  refine W.cond_true (bool_tr rfl hc8) ?_
  refine W.seqK fun K9 hK9 => ?_
  refine W.region ?_
  refine WL.build (vs := []) (cs := [.int .i64 0, .int .i64 0, .int .i64 0]) trivial (bld PL24 rfl) ?_
  refine WL.storeAll (vs := [.int .i64 0, .int .i64 0, .int .i64 0]) hs 0 rfl TI24 rfl rfl rfl rfl (ones_of rfl) rfl (fun w hs => ?_)
  refine WL.assign (v := .bool false) rfl ?_
  refine WL.nil ?_
  refine hK9 _ _ ?_
  refine W.ret ?_
  have hr := Option.some.inj hf; subst hr
  have hs := hs.add (it := vl t_api_Rule (⟨0, 0, 0⟩ : api_Rule) (.agg [.int .i64 0, .int .i64 0, .int .i64 0].toArray)) fun ok hA => V_agg (show t_api_Rule.R ok _ _ _ from ⟨[.int .i64 0], [.int .i64 0, .int .i64 0], rfl, rfl, ⟨[.int .i64 0], [.int .i64 0], rfl, rfl, rfl⟩⟩) rfl
  exact ⟨_, resOk_two rfl (res_all hs 0 rfl TI24 rfl rfl) rfl, [.int .i64 0, .int .i64 0, .int .i64 0], rfl, (hs.mask []).pick [0]⟩ }
  {
  refine W.cond_false (bool_tr rfl hc8) ?_
  refine W.skip ?_
  refine hK6 _ _ ?_
  refine W.seqK fun K10 hK10 => ?_
  refine W.region ?_
  refine WL.move (v := .slice a2 x1.length c3) rfl ?_
  obtain ⟨x11, hxx11, hf⟩ := bindE hf
  refine WL.indexAddr hs 0 rfl UN44 TI9 rfl rfl hxx11 (fun ad12 hs => ?_)
  refine WL.loadP hs 0 rfl TI9 (.inr rfl) rfl (fun v13 hs => ?_)
  obtain rfl := hs.str 0 rfl
  refine WL.assign (v := bstr x11) rfl ?_
  refine WL.nil ?_
  refine hK10 _ _ ?_
  refine W.seqK fun K14 hK14 => ?_
  refine W.block ?_
  refine W.seqK fun K15 hK15 => ?_
  have Jk18 : ∀ (x17 : Bool) (ρ : Env) (w : World), ρ 0 = .slice a2 x1.length c3 → ρ 2 = .pointer (some ⟨g5, 0, none⟩) → ρ 4 = bstr x11 → ρ 14 = .bool x17 → St ok (bz w0) w [vl (tSlice tStr) x1 (.slice a2 x1.length c3)] [blk g5 24 [.int .i64 0, .int .i64 0, .int .i64 0]] → command_rule.j4 x1 x11 x17 = some r → K15 ρ w := by
    intro x17 ρ w h16_0 h16_2 h16_4 h16_14 hs hf
    refine hK15 _ _ ?_
    unfold command_rule.j4 at hf
    rcases iteE hf with ⟨hc19, hf⟩ | ⟨hc19, hf⟩
    {
    refine W.cond_true (bool_tr h16_14 hc19) ?_
    refine W.seqK fun K20 hK20 => ?_
    refine W.region ?_
    refine WL.build (vs := [(0, .int .i64 1)]) (cs := [.int .i64 1, .int .i64 0, .int .i64 0]) ⟨⟨rfl, rfl⟩, trivial⟩ (bld PL24 rfl) ?_
    refine WL.storeAll (vs := [.int .i64 1, .int .i64 0, .int .i64 0]) hs 0 rfl TI24 h16_2 rfl rfl rfl (ones_of rfl) rfl (fun w hs => ?_)
    refine WL.assign (v := .bool true) rfl ?_
    refine WL.nil ?_
    refine hK20 _ _ ?_
    refine W.ret ?_
    have hr := Option.some.inj hf; subst hr
    have hs := hs.add (it := vl t_api_Rule (⟨1, 0, 0⟩ : api_Rule) (.agg [.int .i64 1, .int .i64 0, .int .i64 0].toArray)) fun ok hA => V_agg (show t_api_Rule.R ok _ _ _ from ⟨[.int .i64 1], [.int .i64 0, .int .i64 0], rfl, rfl, ⟨[.int .i64 0], [.int .i64 0], rfl, rfl, rfl⟩⟩) rfl
    exact ⟨_, resOk_two rfl (res_all hs 0 rfl TI24 h16_2 rfl) rfl, [.int .i64 1, .int .i64 0, .int .i64 0], rfl, (hs.mask []).pick [0]⟩ }
    {
    refine W.cond_false (bool_tr h16_14 hc19) ?_
    refine W.seqK fun K21 hK21 => ?_
    have Jk24 : ∀ (x23 : Bool) (ρ : Env) (w : World), ρ 0 = .slice a2 x1.length c3 → ρ 2 = .pointer (some ⟨g5, 0, none⟩) → ρ 4 = bstr x11 → ρ 23 = .bool x23 → St ok (bz w0) w [vl (tSlice tStr) x1 (.slice a2 x1.length c3)] [blk g5 24 [.int .i64 0, .int .i64 0, .int .i64 0]] → command_rule.j3 x1 x11 x23 = some r → K21 ρ w := by
      intro x23 ρ w h22_0 h22_2 h22_4 h22_23 hs hf
      refine hK21 _ _ ?_
      unfold command_rule.j3 at hf
      rcases iteE hf with ⟨hc25, hf⟩ | ⟨hc25, hf⟩
      {
      refine W.cond_true (bool_tr h22_23 hc25) ?_
      refine W.seqK fun K26 hK26 => ?_
      refine W.region ?_
      refine WL.build (vs := [(0, .int .i64 2)]) (cs := [.int .i64 2, .int .i64 0, .int .i64 0]) ⟨⟨rfl, rfl⟩, trivial⟩ (bld PL24 rfl) ?_
      refine WL.storeAll (vs := [.int .i64 2, .int .i64 0, .int .i64 0]) hs 0 rfl TI24 h22_2 rfl rfl rfl (ones_of rfl) rfl (fun w hs => ?_)
      refine WL.assign (v := .bool true) rfl ?_
      refine WL.nil ?_
      refine hK26 _ _ ?_
      refine W.ret ?_
      have hr := Option.some.inj hf; subst hr
      have hs := hs.add (it := vl t_api_Rule (⟨2, 0, 0⟩ : api_Rule) (.agg [.int .i64 2, .int .i64 0, .int .i64 0].toArray)) fun ok hA => V_agg (show t_api_Rule.R ok _ _ _ from ⟨[.int .i64 2], [.int .i64 0, .int .i64 0], rfl, rfl, ⟨[.int .i64 0], [.int .i64 0], rfl, rfl, rfl⟩⟩) rfl
      exact ⟨_, resOk_two rfl (res_all hs 0 rfl TI24 h22_2 rfl) rfl, [.int .i64 2, .int .i64 0, .int .i64 0], rfl, (hs.mask []).pick [0]⟩ }
      {
      refine W.cond_false (bool_tr h22_23 hc25) ?_
      refine W.seqK fun K27 hK27 => ?_
      refine W.region ?_
      refine WL.move (v := .slice a2 x1.length c3) h22_0 ?_
      refine WL.len (v := .slice a2 x1.length c3) rfl (len_slice UN44) ?_
      refine WL.bin (v := .bool ((x1.length : Int) != 2)) rfl rfl (ib_neq _ _ _) ?_
      refine WL.assign (v := .bool ((x1.length : Int) != 2)) rfl ?_
      refine WL.nil ?_
      refine hK27 _ _ ?_
      rcases iteE hf with ⟨hc28, hf⟩ | ⟨hc28, hf⟩
      {
      refine W.cond_true (bool_tr rfl hc28) ?_
      refine W.seqK fun K29 hK29 => ?_
      refine W.region ?_
      refine WL.build (vs := []) (cs := [.int .i64 0, .int .i64 0, .int .i64 0]) trivial (bld PL24 rfl) ?_
      refine WL.storeAll (vs := [.int .i64 0, .int .i64 0, .int .i64 0]) hs 0 rfl TI24 h22_2 rfl rfl rfl (ones_of rfl) rfl (fun w hs => ?_)
      refine WL.assign (v := .bool false) rfl ?_
      refine WL.nil ?_
      refine hK29 _ _ ?_
      refine W.ret ?_
      have hr := Option.some.inj hf; subst hr
      have hs := hs.add (it := vl t_api_Rule (⟨0, 0, 0⟩ : api_Rule) (.agg [.int .i64 0, .int .i64 0, .int .i64 0].toArray)) fun ok hA => V_agg (show t_api_Rule.R ok _ _ _ from ⟨[.int .i64 0], [.int .i64 0, .int .i64 0], rfl, rfl, ⟨[.int .i64 0], [.int .i64 0], rfl, rfl, rfl⟩⟩) rfl
      exact ⟨_, resOk_two rfl (res_all hs 0 rfl TI24 h22_2 rfl) rfl, [.int .i64 0, .int .i64 0, .int .i64 0], rfl, (hs.mask []).pick [0]⟩ }
      {
      refine W.cond_false (bool_tr rfl hc28) ?_
      refine W.skip ?_
      refine hK14 _ _ ?_
      refine W.seqK fun K30 hK30 => ?_
      refine W.region ?_
      refine WL.move (v := .slice a2 x1.length c3) h22_0 ?_
      obtain ⟨x31, hxx31, hf⟩ := bindE hf
      refine WL.indexAddr hs 0 rfl UN44 TI9 rfl rfl hxx31 (fun ad32 hs => ?_)
      refine WL.loadP hs 0 rfl TI9 (.inr rfl) rfl (fun v33 hs => ?_)
      obtain rfl := hs.str 0 rfl
      obtain ⟨⟨x34, x35⟩, hxx34, hf⟩ := bindE hf
      refine WL.call (vs := [bstr x31]) hs FN64 ⟨rfl, trivial⟩ (fun ok hA => command_number.calls (x1 := x31) hxx34) ?_
      rintro _ w hs
      refine WL.move (v := .tuple #[.int .i64 x34, .bool x35]) rfl ?_
      refine WL.extract (v := .int .i64 x34) rfl rfl ?_
      refine WL.extract (v := .bool x35) rfl rfl ?_
      refine WL.assign (v := .int .i64 x34) rfl ?_
      refine WL.assign (v := .bool x35) rfl ?_
      refine WL.nil ?_
      refine hK30 _ _ ?_
      refine W.seqK fun K36 hK36 => ?_
      refine W.block ?_
      refine W.seqK fun K37 hK37 => ?_
      have Jk40 : ∀ (x39 : Bool) (ρ : Env) (w : World), ρ 2 = .pointer (some ⟨g5, 0, none⟩) → ρ 4 = bstr x11 → ρ 5 = .int .i64 x34 → ρ 6 = .bool x35 → ρ 44 = .bool x39 → St ok (bz w0) w [] [blk g5 24 [.int .i64 0, .int .i64 0, .int .i64 0]] → command_rule.j2 x11 x34 x35 x39 = some r → K37 ρ w := by
        intro x39 ρ w h38_2 h38_4 h38_5 h38_6 h38_44 hs hf
        refine hK37 _ _ ?_
        unfold command_rule.j2 at hf
        rcases iteE hf with ⟨hc41, hf⟩ | ⟨hc41, hf⟩
        {
        refine W.cond_true (bool_tr h38_44 hc41) ?_
        refine W.seqK fun K42 hK42 => ?_
        refine W.region ?_
        refine WL.move (v := .int .i64 x34) h38_5 ?_
        refine WL.build (vs := [(0, .int .i64 3), (1, .int .i64 x34)]) (cs := [.int .i64 3, .int .i64 x34, .int .i64 0]) ⟨⟨rfl, rfl⟩, ⟨⟨rfl, rfl⟩, trivial⟩⟩ (bld PL24 rfl) ?_
        refine WL.storeAll (vs := [.int .i64 3, .int .i64 x34, .int .i64 0]) hs 0 rfl TI24 h38_2 rfl rfl rfl (ones_of rfl) rfl (fun w hs => ?_)
        refine WL.assign (v := .bool true) rfl ?_
        refine WL.nil ?_
        refine hK42 _ _ ?_
        refine W.ret ?_
        have hr := Option.some.inj hf; subst hr
        have hs := hs.add (it := vl t_api_Rule (⟨3, x34, 0⟩ : api_Rule) (.agg [.int .i64 3, .int .i64 x34, .int .i64 0].toArray)) fun ok hA => V_agg (show t_api_Rule.R ok _ _ _ from ⟨[.int .i64 3], [.int .i64 x34, .int .i64 0], rfl, rfl, ⟨[.int .i64 x34], [.int .i64 0], rfl, rfl, rfl⟩⟩) rfl
        exact ⟨_, resOk_two rfl (res_all hs 0 rfl TI24 h38_2 rfl) rfl, [.int .i64 3, .int .i64 x34, .int .i64 0], rfl, (hs.mask []).pick [0]⟩ }
        {
        refine W.cond_false (bool_tr h38_44 hc41) ?_
        refine W.seqK fun K43 hK43 => ?_
        have Jk46 : ∀ (x45 : Bool) (ρ : Env) (w : World), ρ 2 = .pointer (some ⟨g5, 0, none⟩) → ρ 5 = .int .i64 x34 → ρ 52 = .bool x45 → St ok (bz w0) w [] [blk g5 24 [.int .i64 0, .int .i64 0, .int .i64 0]] → command_rule.j1 x34 x45 = some r → K43 ρ w := by
          intro x45 ρ w h44_2 h44_5 h44_52 hs hf
          refine hK43 _ _ ?_
          unfold command_rule.j1 at hf
          rcases iteE hf with ⟨hc47, hf⟩ | ⟨hc47, hf⟩
          {
          refine W.cond_true (bool_tr h44_52 hc47) ?_
          refine W.seqK fun K48 hK48 => ?_
          refine W.region ?_
          refine WL.move (v := .int .i64 x34) h44_5 ?_
          refine WL.build (vs := [(0, .int .i64 4), (2, .int .i64 x34)]) (cs := [.int .i64 4, .int .i64 0, .int .i64 x34]) ⟨⟨rfl, rfl⟩, ⟨⟨rfl, rfl⟩, trivial⟩⟩ (bld PL24 rfl) ?_
          refine WL.storeAll (vs := [.int .i64 4, .int .i64 0, .int .i64 x34]) hs 0 rfl TI24 h44_2 rfl rfl rfl (ones_of rfl) rfl (fun w hs => ?_)
          refine WL.assign (v := .bool true) rfl ?_
          refine WL.nil ?_
          refine hK48 _ _ ?_
          refine W.ret ?_
          have hr := Option.some.inj hf; subst hr
          have hs := hs.add (it := vl t_api_Rule (⟨4, 0, x34⟩ : api_Rule) (.agg [.int .i64 4, .int .i64 0, .int .i64 x34].toArray)) fun ok hA => V_agg (show t_api_Rule.R ok _ _ _ from ⟨[.int .i64 4], [.int .i64 0, .int .i64 x34], rfl, rfl, ⟨[.int .i64 0], [.int .i64 x34], rfl, rfl, rfl⟩⟩) rfl
          exact ⟨_, resOk_two rfl (res_all hs 0 rfl TI24 h44_2 rfl) rfl, [.int .i64 4, .int .i64 0, .int .i64 x34], rfl, (hs.mask []).pick [0]⟩ }
          {
          refine W.cond_false (bool_tr h44_52 hc47) ?_
          refine W.skip ?_
          refine hK36 _ _ ?_
          refine W.seqK fun K49 hK49 => ?_
          refine W.region ?_
          refine WL.build (vs := []) (cs := [.int .i64 0, .int .i64 0, .int .i64 0]) trivial (bld PL24 rfl) ?_
          refine WL.storeAll (vs := [.int .i64 0, .int .i64 0, .int .i64 0]) hs 0 rfl TI24 h44_2 rfl rfl rfl (ones_of rfl) rfl (fun w hs => ?_)
          refine WL.assign (v := .bool false) rfl ?_
          refine WL.nil ?_
          refine hK49 _ _ ?_
          refine W.ret ?_
          have hr := Option.some.inj hf; subst hr
          have hs := hs.add (it := vl t_api_Rule (⟨0, 0, 0⟩ : api_Rule) (.agg [.int .i64 0, .int .i64 0, .int .i64 0].toArray)) fun ok hA => V_agg (show t_api_Rule.R ok _ _ _ from ⟨[.int .i64 0], [.int .i64 0, .int .i64 0], rfl, rfl, ⟨[.int .i64 0], [.int .i64 0], rfl, rfl, rfl⟩⟩) rfl
          exact ⟨_, resOk_two rfl (res_all hs 0 rfl TI24 h44_2 rfl) rfl, [.int .i64 0, .int .i64 0, .int .i64 0], rfl, (hs.mask []).pick [0]⟩ }
        refine W.region ?_
        refine WL.move (v := .bool x35) h38_6 ?_
        refine WL.move (v := .bool x35) rfl ?_
        rcases iteE hf with ⟨hc50, hf⟩ | ⟨hc50, hf⟩
        {
        refine WL.move (v := bstr x11) h38_4 ?_ (hg := (wanted_of rfl rfl (bool_tr rfl hc50)).trans rfl)
        refine WL.binS (v := .bool (x11 == ([109, 97, 115, 107, 105, 110, 103] : List UInt8))) rfl rfl (sb_eql _ _) ?_ (hg := (wanted_of rfl rfl (bool_tr rfl hc50)).trans rfl)
        refine WL.pickT (v := .bool (x11 == ([109, 97, 115, 107, 105, 110, 103] : List UInt8))) (bool_tr rfl hc50) rfl ?_
        refine WL.assign (v := .bool (x11 == ([109, 97, 115, 107, 105, 110, 103] : List UInt8))) rfl ?_
        refine WL.nil ?_
        exact Jk46 (x11 == ([109, 97, 115, 107, 105, 110, 103] : List UInt8)) _ _ h38_2 h38_5 rfl ((hs.mask [true]).pick []) hf }
        {
        refine WL.pass ((wanted_of rfl rfl (bool_tr rfl hc50)).trans rfl) rfl ?_
        refine WL.pass ((wanted_of rfl rfl (bool_tr rfl hc50)).trans rfl) rfl ?_
        refine WL.pickF (v := .bool false) (bool_tr rfl hc50) rfl ?_
        refine WL.assign (v := .bool false) rfl ?_
        refine WL.nil ?_
        exact Jk46 false _ _ h38_2 h38_5 rfl ((hs.mask [true]).pick []) hf } }
      refine W.region ?_
      refine WL.move (v := .bool x35) rfl ?_
      refine WL.move (v := .bool x35) rfl ?_
      rcases iteE hf with ⟨hc51, hf⟩ | ⟨hc51, hf⟩
      {
      refine WL.move (v := bstr x11) h22_4 ?_ (hg := (wanted_of rfl rfl (bool_tr rfl hc51)).trans rfl)
      refine WL.binS (v := .bool (x11 == ([103, 114, 105, 100] : List UInt8))) rfl rfl (sb_eql _ _) ?_ (hg := (wanted_of rfl rfl (bool_tr rfl hc51)).trans rfl)
      refine WL.pickT (v := .bool (x11 == ([103, 114, 105, 100] : List UInt8))) (bool_tr rfl hc51) rfl ?_
      refine WL.assign (v := .bool (x11 == ([103, 114, 105, 100] : List UInt8))) rfl ?_
      refine WL.nil ?_
      exact Jk40 (x11 == ([103, 114, 105, 100] : List UInt8)) _ _ h22_2 h22_4 rfl rfl rfl ((hs.mask [true]).pick []) hf }
      {
      refine WL.pass ((wanted_of rfl rfl (bool_tr rfl hc51)).trans rfl) rfl ?_
      refine WL.pass ((wanted_of rfl rfl (bool_tr rfl hc51)).trans rfl) rfl ?_
      refine WL.pickF (v := .bool false) (bool_tr rfl hc51) rfl ?_
      refine WL.assign (v := .bool false) rfl ?_
      refine WL.nil ?_
      exact Jk40 false _ _ h22_2 h22_4 rfl rfl rfl ((hs.mask [true]).pick []) hf } } }
    refine W.region ?_
    refine WL.move (v := .slice a2 x1.length c3) h16_0 ?_
    refine WL.len (v := .slice a2 x1.length c3) rfl (len_slice UN44) ?_
    refine WL.bin (v := .bool ((x1.length : Int) == 1)) rfl rfl (ib_eql _ _ _) ?_
    refine WL.move (v := .bool ((x1.length : Int) == 1)) rfl ?_
    rcases iteE hf with ⟨hc52, hf⟩ | ⟨hc52, hf⟩
    {
    refine WL.move (v := bstr x11) h16_4 ?_ (hg := (wanted_of rfl rfl (bool_tr rfl hc52)).trans rfl)
    refine WL.binS (v := .bool (x11 == ([119, 101, 105, 103, 104, 116, 101, 100] : List UInt8))) rfl rfl (sb_eql _ _) ?_ (hg := (wanted_of rfl rfl (bool_tr rfl hc52)).trans rfl)
    refine WL.pickT (v := .bool (x11 == ([119, 101, 105, 103, 104, 116, 101, 100] : List UInt8))) (bool_tr rfl hc52) rfl ?_
    refine WL.assign (v := .bool (x11 == ([119, 101, 105, 103, 104, 116, 101, 100] : List UInt8))) rfl ?_
    refine WL.nil ?_
    exact Jk24 (x11 == ([119, 101, 105, 103, 104, 116, 101, 100] : List UInt8)) _ _ h16_0 h16_2 h16_4 rfl ((hs.mask [true]).pick [0]) hf }
    {
    refine WL.pass ((wanted_of rfl rfl (bool_tr rfl hc52)).trans rfl) rfl ?_
    refine WL.pass ((wanted_of rfl rfl (bool_tr rfl hc52)).trans rfl) rfl ?_
    refine WL.pickF (v := .bool false) (bool_tr rfl hc52) rfl ?_
    refine WL.assign (v := .bool false) rfl ?_
    refine WL.nil ?_
    exact Jk24 false _ _ h16_0 h16_2 h16_4 rfl ((hs.mask [true]).pick [0]) hf } }
  refine W.region ?_
  refine WL.move (v := .slice a2 x1.length c3) rfl ?_
  refine WL.len (v := .slice a2 x1.length c3) rfl (len_slice UN44) ?_
  refine WL.bin (v := .bool ((x1.length : Int) == 1)) rfl rfl (ib_eql _ _ _) ?_
  refine WL.move (v := .bool ((x1.length : Int) == 1)) rfl ?_
  rcases iteE hf with ⟨hc53, hf⟩ | ⟨hc53, hf⟩
  {
  refine WL.move (v := bstr x11) rfl ?_ (hg := (wanted_of rfl rfl (bool_tr rfl hc53)).trans rfl)
  refine WL.binS (v := .bool (x11 == ([109, 97, 106, 111, 114, 105, 116, 121] : List UInt8))) rfl rfl (sb_eql _ _) ?_ (hg := (wanted_of rfl rfl (bool_tr rfl hc53)).trans rfl)
  refine WL.pickT (v := .bool (x11 == ([109, 97, 106, 111, 114, 105, 116, 121] : List UInt8))) (bool_tr rfl hc53) rfl ?_
  refine WL.assign (v := .bool (x11 == ([109, 97, 106, 111, 114, 105, 116, 121] : List UInt8))) rfl ?_
  refine WL.nil ?_
  exact Jk18 (x11 == ([109, 97, 106, 111, 114, 105, 116, 121] : List UInt8)) _ _ rfl rfl rfl rfl ((hs.mask [true]).pick [2]) hf }
  {
  refine WL.pass ((wanted_of rfl rfl (bool_tr rfl hc53)).trans rfl) rfl ?_
  refine WL.pass ((wanted_of rfl rfl (bool_tr rfl hc53)).trans rfl) rfl ?_
  refine WL.pickF (v := .bool false) (bool_tr rfl hc53) rfl ?_
  refine WL.assign (v := .bool false) rfl ?_
  refine WL.nil ?_
  exact Jk18 false _ _ rfl rfl rfl rfl ((hs.mask [true]).pick [2]) hf } }
end Go.Proofs.YthfoljpjhegkmaaDoor
