import Derived.Test.YthfoljpjhegkmaaDoorFh
set_option linter.unusedVariables false
set_option linter.unusedSimpArgs false
namespace Go.Proofs.YthfoljpjhegkmaaDoor
open Go Go.RowKit Go.Proofs.YthfoljpjhegkmaaDoorL
set_option maxRecDepth 100000
set_option maxHeartbeats 4000000
/-! elasticstore/elasticstoreref10.words: function 51 -/
theorem esref10_words.calls {ok : Nat → Prop} {w0 : World} {x1 : List UInt8}  {r : List (List UInt8)} (hf : esref10_words x1 = some r)  :
    Calls Tryd.prog 51 #[bstr x1] w0 fun e w' => ∃ v, e = .returned v ∧ ∃ y : (Option Addr × Nat × Nat), v = .slice y.1 y.2.1 y.2.2 ∧ St ok (bz w0) w' [] [own tStr 9 (.slice y.1 y.2.1 y.2.2) r] := by
  unfold esref10_words at hf
  refine calls_of_W (fn := Tryd.f51) (N := 32) Tryd.func51 rfl Tryd.ntmps51 rfl ?_
  have hs : St ok (bz w0) w0 [] [] := St.init All.nil
  refine W.seqK fun K2 hK2 => ?_
  refine W.region ?_
  refine WL.assign (v := .slice none 0 0) rfl ?_
  refine WL.nil ?_
  refine hK2 _ _ ?_
  refine W.seqK fun K3 hK3 => ?_
  refine W.region ?_
  refine WL.assign (v := .slice none 0 0) rfl ?_
  refine WL.nil ?_
  refine hK3 _ _ ?_
  refine W.seqK fun K4 hK4 => ?_
  refine W.region ?_
  refine WL.assign (v := .int .i64 0) rfl ?_
  refine WL.nil ?_
  refine hK4 _ _ ?_
  refine W.seqK fun K5 hK5 => ?_
  have hs := hs.ownNil tStr 9
  have Jk11 : ∀ (x7 : List (List UInt8)) (a8 : Option Addr) (c9 : Nat) (n10 : Nat) (ρ : Env) (w : World), ρ 3 = .slice a8 n10 c9 → St ok (bz w0) w [] [own tStr 9 (.slice a8 n10 c9) x7] → esref10_words.j1 x7 = some r → K5 ρ w := by
    intro x7 a8 c9 n10 ρ w h6_3 hs hf
    refine hK5 _ _ ?_
    unfold esref10_words.j1 at hf
    refine W.seqK fun K12 hK12 => ?_
    refine W.region ?_
    refine WL.move (v := .slice a8 n10 c9) h6_3 ?_
    refine WL.assign (v := .slice a8 n10 c9) rfl ?_
    refine WL.nil ?_
    refine hK12 _ _ ?_
    refine W.ret ?_
    have hr := Option.some.inj hf; subst hr
    exact ⟨_, resOk_one rfl rfl, (a8, n10, c9), rfl, (hs.mask [true]).pick []⟩
  refine W.seqK fun K13 hK13 => ?_
  refine W.region ?_
  refine WL.assign (v := .int .i64 0) rfl ?_
  refine WL.nil ?_
  refine hK13 _ _ ?_
  refine W.block ?_
  obtain ⟨bs21, hbs21, hfs21⟩ := bindE hf
  refine W.loop hbs21 (fun s ρ w => match s with | (x15, x19, x20) => ∃ (a16 : Option Addr), ∃ (c17 : Nat), ∃ (n18 : Nat), ρ 0 = bstr x1 ∧ ρ 3 = .slice a16 n18 c17 ∧ ρ 4 = .int .i64 x19 ∧ ρ 5 = .int .i64 x20 ∧ St ok (bz w0) w [] [own tStr 9 (.slice a16 n18 c17) x15]) ⟨none, 0, 0, rfl, rfl, rfl, rfl, (hs.mask [true]).pick []⟩ ?_
  intro s ρ w os21 hI hf hbbs21
  obtain ⟨x15, x19, x20⟩ := s
  obtain ⟨a16, c17, n18, h14_0, h14_3, h14_4, h14_5, hs⟩ := hI
  unfold esref10_words.l1 at hf
  refine W.seqK fun K22 hK22 => ?_
  refine W.seqK fun K23 hK23 => ?_
  refine W.region ?_
  refine WL.move (v := .int .i64 x20) h14_5 ?_
  refine WL.move (v := bstr x1) h14_0 ?_
  refine WL.len (v := bstr x1) rfl (len_string UN9) ?_
  refine WL.bin (v := .bool (decide (x20 ≤ (x1.length : Int)))) rfl rfl (ib_leq _ _ _) ?_
  refine WL.nil ?_
  refine hK23 _ _ ?_
  rcases iteE hf with ⟨hc24, hf⟩ | ⟨hc24, hf⟩
  · refine W.cond_true (bool_tr rfl hc24) ?_
    refine W.skip ?_
    refine hK22 _ _ ?_
    refine W.seqK fun K25 hK25 => ?_
    have Jk32 : ∀ (x27 : List (List UInt8)) (x31 : Int) (a28 : Option Addr) (c29 : Nat) (n30 : Nat) (ρ : Env) (w : World), ρ 0 = bstr x1 → ρ 3 = .slice a28 n30 c29 → ρ 4 = .int .i64 x31 → ρ 5 = .int .i64 x20 → St ok (bz w0) w [] [own tStr 9 (.slice a28 n30 c29) x27] → esref10_words.j2 x20 x27 x31 = some os21 → K25 ρ w := by
      intro x27 x31 a28 c29 n30 ρ w h26_0 h26_3 h26_4 h26_5 hs hf
      refine hK25 _ _ ?_
      unfold esref10_words.j2 at hf
      refine W.region ?_
      refine WL.move (v := .int .i64 x20) h26_5 ?_
      obtain ⟨x33, ex33, hf⟩ := letE hf
      refine WL.bin (v := .int .i64 x33) rfl rfl (ib_as ex33 (ib_add _ _ _)) ?_
      refine WL.assign (v := .int .i64 x33) rfl ?_
      refine WL.nil ?_
      exact ⟨_, (Option.some.inj hf).symm, a28, c29, n30, h26_0, h26_3, h26_4, rfl, (hs.mask [true]).pick []⟩
    refine W.block ?_
    refine W.seqK fun K34 hK34 => ?_
    have Jk37 : ∀ (x36 : Bool) (ρ : Env) (w : World), ρ 0 = bstr x1 → ρ 3 = .slice a16 n18 c17 → ρ 4 = .int .i64 x19 → ρ 5 = .int .i64 x20 → ρ 21 = .bool x36 → St ok (bz w0) w [] [own tStr 9 (.slice a16 n18 c17) x15] → esref10_words.j3 x1 x15 x19 x20 x36 = some os21 → K34 ρ w := by
      intro x36 ρ w h35_0 h35_3 h35_4 h35_5 h35_21 hs hf
      refine hK34 _ _ ?_
      unfold esref10_words.j3 at hf
      rcases iteE hf with ⟨hc38, hf⟩ | ⟨hc38, hf⟩
      · refine W.cond_true (bool_tr h35_21 hc38) ?_
        refine W.seqK fun K39 hK39 => ?_
        refine W.region ?_
        refine WL.move (v := .slice a16 n18 c17) h35_3 ?_
        refine WL.move (v := bstr x1) h35_0 ?_
        refine WL.move (v := .int .i64 x19) h35_4 ?_
        refine WL.move (v := .int .i64 x20) h35_5 ?_
        obtain ⟨x40, hxx40, hf⟩ := bindE hf
        refine WL.sliceS_lh UN9 rfl rfl rfl hxx40 ?_
        refine WL.buildSlice (n := 1) (vs := [(0, bstr x40)]) (cs := [bstr x40]) hs ⟨⟨rfl, rfl⟩, trivial⟩ (bls PS44 (by decide) rfl) (fun g41 w hs => ?_)
        obtain ⟨x42, hxx42, hf⟩ := bindE hf
        obtain ⟨hbx42, hex42⟩ := appE hxx42
        refine WL.append (ys := [x40]) (zs := x42) hs 1 rfl 0 rfl UN44 EI9 rfl rfl (fun ok hA => (Cells.one (T := tStr) rfl)) hbx42 (by omega) hex42 (fun v43 w hs => ?_)
        obtain ⟨a44, n46, c45, rfl⟩ := hs.ownv3 1 rfl
        refine WL.assign (v := .slice a44 n46 c45) rfl ?_
        refine WL.nil ?_
        refine hK39 _ _ ?_
        refine W.region ?_
        refine WL.move (v := .int .i64 x20) h35_5 ?_
        obtain ⟨x47, ex47, hf⟩ := letE hf
        refine WL.bin (v := .int .i64 x47) rfl rfl (ib_as ex47 (ib_add _ _ _)) ?_
        refine WL.assign (v := .int .i64 x47) rfl ?_
        refine WL.nil ?_
        exact Jk32 x42 x47 a44 c45 n46 _ _ h35_0 rfl rfl h35_5 ((hs.mask [false, true]).pick []) hf
      · refine W.cond_false (bool_tr h35_21 hc38) ?_
        refine W.skip ?_
        exact Jk32 x15 x19 a16 c17 n18 _ _ h35_0 h35_3 h35_4 h35_5 ((hs.mask [true]).pick []) hf
    refine W.region ?_
    refine WL.move (v := .int .i64 x20) h14_5 ?_
    refine WL.move (v := bstr x1) h14_0 ?_
    refine WL.len (v := bstr x1) rfl (len_string UN9) ?_
    refine WL.bin (v := .bool (x20 == (x1.length : Int))) rfl rfl (ib_eql _ _ _) ?_
    refine WL.move (v := .bool (x20 == (x1.length : Int))) rfl ?_
    rcases iteE hf with ⟨hc48, hf⟩ | ⟨hc48, hf⟩
    · refine WL.pass ((wanted_of rfl rfl (bool_tr rfl hc48)).trans rfl) rfl ?_
      refine WL.pass ((wanted_of rfl rfl (bool_tr rfl hc48)).trans rfl) rfl ?_
      refine WL.pass ((wanted_of rfl rfl (bool_tr rfl hc48)).trans rfl) rfl ?_
      refine WL.pass ((wanted_of rfl rfl (bool_tr rfl hc48)).trans rfl) rfl ?_
      refine WL.pickT (v := .bool true) (bool_tr rfl hc48) rfl ?_
      refine WL.nil ?_
      exact Jk37 true _ _ h14_0 h14_3 h14_4 h14_5 rfl ((hs.mask [true]).pick []) hf
    · refine WL.move (v := bstr x1) h14_0 ?_ (hg := (wanted_of rfl rfl (bool_tr rfl hc48)).trans rfl)
      refine WL.move (v := .int .i64 x20) h14_5 ?_ (hg := (wanted_of rfl rfl (bool_tr rfl hc48)).trans rfl)
      obtain ⟨x49, hxx49, hf⟩ := bindE hf
      refine WL.indexS UN9 rfl rfl hxx49 ?_ (hg := (wanted_of rfl rfl (bool_tr rfl hc48)).trans rfl)
      refine WL.bin (v := .bool ((x49.toNat : Int) == 32)) rfl rfl (ib_eql _ _ _) ?_ (hg := (wanted_of rfl rfl (bool_tr rfl hc48)).trans rfl)
      refine WL.pickF (v := .bool ((x49.toNat : Int) == 32)) (bool_tr rfl hc48) rfl ?_
      refine WL.nil ?_
      exact Jk37 ((x49.toNat : Int) == 32) _ _ h14_0 h14_3 h14_4 h14_5 rfl ((hs.mask [true]).pick []) hf
  · refine W.cond_false (bool_tr rfl hc24) ?_
    refine W.exit ?_
    have hr := Option.some.inj hf; subst hr
    have hr := hbbs21 _ rfl; subst hr
    have hf := hfs21
    exact Jk11 x15 a16 c17 n18 _ _ h14_3 ((hs.mask [true]).pick []) hf
theorem esref10_words.callc {ok : Nat → Prop} {w0 : World} {x1 : List UInt8}  {r : List (List UInt8)} (hf : esref10_words x1 = some r)  :
    Calls Tryd.prog 51 #[bstr x1] w0 fun e w' => ∃ v, e = .returned v ∧ ∃ y : (Option Addr × Nat), v = .slice y.1 r.length y.2 ∧ St ok (bz w0) w' [vl (tSlice tStr) r (.slice y.1 r.length y.2)] [] := by
  refine (esref10_words.calls (ok := ok) (w0 := w0) (x1 := x1) hf).mono ?_
  rintro e w' ⟨v, rfl, ⟨a51, n52, c53⟩, rfl, hs⟩
  obtain rfl := hs.ownLen 0 rfl
  have hs := hs.freezeOwn 0 rfl
  exact ⟨_, rfl, (a51, c53), rfl, hs.pick [0]⟩
/-! elasticstore/elasticstoreref10.number: function 53 -/
theorem esref10_number.calls {ok : Nat → Prop} {w0 : World} {x1 : List UInt8}  {r : Int} (hf : esref10_number x1 = some r)  :
    Calls Tryd.prog 53 #[bstr x1] w0 fun e w' => ∃ v, e = .returned v ∧ ∃ y : Unit, v = .int .i64 r ∧ St ok (bz w0) w' [] [] := by
  unfold esref10_number at hf
  refine calls_of_W (fn := Tryd.f53) (N := 48) Tryd.func53 rfl Tryd.ntmps53 rfl ?_
  have hs : St ok (bz w0) w0 [] [] := St.init All.nil
  refine W.seqK fun K2 hK2 => ?_
  refine W.region ?_
  refine WL.assign (v := .int .i64 0) rfl ?_
  refine WL.nil ?_
  refine hK2 _ _ ?_
  refine W.seqK fun K3 hK3 => ?_
  refine W.seqK fun K4 hK4 => ?_
  have Jk7 : ∀ (x6 : Bool) (ρ : Env) (w : World), ρ 0 = bstr x1 → ρ 22 = .bool x6 → St ok (bz w0) w [] [] → esref10_number.j3 x1 x6 = some r → K4 ρ w := by
    intro x6 ρ w h5_0 h5_22 hs hf
    refine hK4 _ _ ?_
    unfold esref10_number.j3 at hf
    rcases iteE hf with ⟨hc8, hf⟩ | ⟨hc8, hf⟩
    · refine W.cond_true (bool_tr h5_22 hc8) ?_
      refine W.seqK fun K9 hK9 => ?_
      refine W.region ?_
      refine WL.assign (v := .int .i64 (-1)) rfl ?_
      refine WL.nil ?_
      refine hK9 _ _ ?_
      refine W.ret ?_
      have hr := Option.some.inj hf; subst hr
      exact ⟨_, resOk_one rfl rfl, (), rfl, (hs.mask []).pick []⟩
    · refine W.cond_false (bool_tr h5_22 hc8) ?_
      refine W.skip ?_
      refine hK3 _ _ ?_
      refine W.seqK fun K10 hK10 => ?_
      refine W.region ?_
      refine WL.assign (v := .int .i64 0) rfl ?_
      refine WL.nil ?_
      refine hK10 _ _ ?_
      refine W.seqK fun K11 hK11 => ?_
      have Jk14 : ∀ (x13 : Int) (ρ : Env) (w : World), ρ 3 = .int .i64 x13 → St ok (bz w0) w [] [] → esref10_number.j1 x13 = some r → K11 ρ w := by
        intro x13 ρ w h12_3 hs hf
        refine hK11 _ _ ?_
        unfold esref10_number.j1 at hf
        refine W.seqK fun K15 hK15 => ?_
        refine W.region ?_
        refine WL.move (v := .int .i64 x13) h12_3 ?_
        refine WL.assign (v := .int .i64 x13) rfl ?_
        refine WL.nil ?_
        refine hK15 _ _ ?_
        refine W.ret ?_
        have hr := Option.some.inj hf; subst hr
        exact ⟨_, resOk_one rfl rfl, (), rfl, (hs.mask []).pick []⟩
      refine W.seqK fun K16 hK16 => ?_
      refine W.region ?_
      refine WL.assign (v := .int .i64 0) rfl ?_
      refine WL.nil ?_
      refine hK16 _ _ ?_
      refine W.block ?_
      obtain ⟨bs20, hbs20, hfs20⟩ := bindE hf
      refine W.loop hbs20 (fun s ρ w => match s with | (x18, x19) => ρ 0 = bstr x1 ∧ ρ 3 = .int .i64 x18 ∧ ρ 4 = .int .i64 x19 ∧ St ok (bz w0) w [] []) ⟨h5_0, rfl, rfl, (hs.mask []).pick []⟩ ?_
      intro s ρ w os20 hI hf hbbs20
      obtain ⟨x18, x19⟩ := s
      obtain ⟨h17_0, h17_3, h17_4, hs⟩ := hI
      unfold esref10_number.l1 at hf
      refine W.seqK fun K21 hK21 => ?_
      refine W.seqK fun K22 hK22 => ?_
      refine W.region ?_
      refine WL.move (v := .int .i64 x19) h17_4 ?_
      refine WL.move (v := bstr x1) h17_0 ?_
      refine WL.len (v := bstr x1) rfl (len_string UN9) ?_
      refine WL.bin (v := .bool (decide (x19 < (x1.length : Int)))) rfl rfl (ib_lss _ _ _) ?_
      refine WL.nil ?_
      refine hK22 _ _ ?_
      rcases iteE hf with ⟨hc23, hf⟩ | ⟨hc23, hf⟩
      · refine W.cond_true (bool_tr rfl hc23) ?_
        refine W.skip ?_
        refine hK21 _ _ ?_
        refine W.seqK fun K24 hK24 => ?_
        refine W.block ?_
        refine W.seqK fun K25 hK25 => ?_
        refine W.seqK fun K26 hK26 => ?_
        have Jk29 : ∀ (x28 : Bool) (ρ : Env) (w : World), ρ 0 = bstr x1 → ρ 3 = .int .i64 x18 → ρ 4 = .int .i64 x19 → ρ 38 = .bool x28 → St ok (bz w0) w [] [] → esref10_number.j2 x1 x18 x19 x28 = some os20 → K26 ρ w := by
          intro x28 ρ w h27_0 h27_3 h27_4 h27_38 hs hf
          refine hK26 _ _ ?_
          unfold esref10_number.j2 at hf
          rcases iteE hf with ⟨hc30, hf⟩ | ⟨hc30, hf⟩
          · refine W.cond_true (bool_tr h27_38 hc30) ?_
            refine W.seqK fun K31 hK31 => ?_
            refine W.region ?_
            refine WL.assign (v := .int .i64 (-1)) rfl ?_
            refine WL.nil ?_
            refine hK31 _ _ ?_
            refine W.ret ?_
            have hr := Option.some.inj hf; subst hr
            have hr := hbbs20 _ rfl; subst hr
            have hf := hfs20
            have hr := Option.some.inj hf; subst hr
            exact ⟨_, resOk_one rfl rfl, (), rfl, (hs.mask []).pick []⟩
          · refine W.cond_false (bool_tr h27_38 hc30) ?_
            refine W.skip ?_
            refine hK25 _ _ ?_
            refine W.region ?_
            refine WL.move (v := .int .i64 x18) h27_3 ?_
            obtain ⟨x32, ex32, hf⟩ := letE hf
            refine WL.bin (v := .int .i64 x32) rfl rfl (ib_as ex32 (ib_mul _ _ _)) ?_
            refine WL.move (v := bstr x1) h27_0 ?_
            refine WL.move (v := .int .i64 x19) h27_4 ?_
            obtain ⟨x33, hxx33, hf⟩ := bindE hf
            refine WL.indexS UN9 rfl rfl hxx33 ?_
            obtain ⟨x34, ex34, hf⟩ := letE hf
            refine WL.bin (v := .int .u8 x34) rfl rfl (ib_as ex34 (ib_sub _ _ _)) ?_
            refine WL.convI UN5 UN3 rfl ?_
            obtain ⟨x35, ex35, hf⟩ := letE hf
            refine WL.bin (v := .int .i64 x35) rfl rfl (ib_as ex35 (ib_add _ _ _)) ?_
            refine WL.assign (v := .int .i64 x35) rfl ?_
            refine WL.nil ?_
            refine hK24 _ _ ?_
            refine W.region ?_
            refine WL.move (v := .int .i64 x19) h27_4 ?_
            obtain ⟨x36, ex36, hf⟩ := letE hf
            refine WL.bin (v := .int .i64 x36) rfl rfl (ib_as ex36 (ib_add _ _ _)) ?_
            refine WL.assign (v := .int .i64 x36) rfl ?_
            refine WL.nil ?_
            exact ⟨_, (Option.some.inj hf).symm, h27_0, rfl, rfl, (hs.mask []).pick []⟩
        refine W.region ?_
        refine WL.move (v := bstr x1) h17_0 ?_
        refine WL.move (v := .int .i64 x19) h17_4 ?_
        obtain ⟨x37, hxx37, hf⟩ := bindE hf
        refine WL.indexS UN9 rfl rfl hxx37 ?_
        refine WL.bin (v := .bool (decide ((x37.toNat : Int) < 48))) rfl rfl (ib_lss _ _ _) ?_
        refine WL.move (v := .bool (decide ((x37.toNat : Int) < 48))) rfl ?_
        rcases iteE hf with ⟨hc38, hf⟩ | ⟨hc38, hf⟩
        · refine WL.pass ((wanted_of rfl rfl (bool_tr rfl hc38)).trans rfl) rfl ?_
          refine WL.pass ((wanted_of rfl rfl (bool_tr rfl hc38)).trans rfl) rfl ?_
          refine WL.pass ((wanted_of rfl rfl (bool_tr rfl hc38)).trans rfl) rfl ?_
          refine WL.pass ((wanted_of rfl rfl (bool_tr rfl hc38)).trans rfl) rfl ?_
          refine WL.pickT (v := .bool true) (bool_tr rfl hc38) rfl ?_
          refine WL.nil ?_
          exact Jk29 true _ _ h17_0 h17_3 h17_4 rfl ((hs.mask []).pick []) hf
        · refine WL.move (v := bstr x1) h17_0 ?_ (hg := (wanted_of rfl rfl (bool_tr rfl hc38)).trans rfl)
          refine WL.move (v := .int .i64 x19) h17_4 ?_ (hg := (wanted_of rfl rfl (bool_tr rfl hc38)).trans rfl)
          obtain ⟨x39, hxx39, hf⟩ := bindE hf
          refine WL.indexS UN9 rfl rfl hxx39 ?_ (hg := (wanted_of rfl rfl (bool_tr rfl hc38)).trans rfl)
          refine WL.bin (v := .bool (decide (57 < (x39.toNat : Int)))) rfl rfl (ib_gtr _ _ _) ?_ (hg := (wanted_of rfl rfl (bool_tr rfl hc38)).trans rfl)
          refine WL.pickF (v := .bool (decide (57 < (x39.toNat : Int)))) (bool_tr rfl hc38) rfl ?_
          refine WL.nil ?_
          exact Jk29 (decide (57 < (x39.toNat : Int))) _ _ h17_0 h17_3 h17_4 rfl ((hs.mask []).pick []) hf
      · refine W.cond_false (bool_tr rfl hc23) ?_
        refine W.exit ?_
        have hr := Option.some.inj hf; subst hr
        have hr := hbbs20 _ rfl; subst hr
        have hf := hfs20
        exact Jk14 x18 _ _ h17_3 ((hs.mask []).pick []) hf
  refine W.region ?_
  refine WL.move (v := bstr x1) rfl ?_
  refine WL.len (v := bstr x1) rfl (len_string UN9) ?_
  refine WL.bin (v := .bool ((x1.length : Int) == 0)) rfl rfl (ib_eql _ _ _) ?_
  refine WL.move (v := .bool ((x1.length : Int) == 0)) rfl ?_
  rcases iteE hf with ⟨hc42, hf⟩ | ⟨hc42, hf⟩
  · refine WL.pass ((wanted_of rfl rfl (bool_tr rfl hc42)).trans rfl) rfl ?_
    refine WL.pass ((wanted_of rfl rfl (bool_tr rfl hc42)).trans rfl) rfl ?_
    refine WL.pass ((wanted_of rfl rfl (bool_tr rfl hc42)).trans rfl) rfl ?_
    refine WL.pickT (v := .bool true) (bool_tr rfl hc42) rfl ?_
    refine WL.move (v := .bool true) rfl ?_
    refine WL.pass ((wanted_of rfl rfl rfl).trans rfl) rfl ?_
    refine WL.pass ((wanted_of rfl rfl rfl).trans rfl) rfl ?_
    refine WL.pass ((wanted_of rfl rfl rfl).trans rfl) rfl ?_
    refine WL.pass ((wanted_of rfl rfl rfl).trans rfl) rfl ?_
    refine WL.pass (wanted_undef rfl rfl rfl) rfl ?_
    refine WL.pass (wanted_undef rfl rfl rfl) rfl ?_
    refine WL.pass (wanted_undef rfl rfl rfl) rfl ?_
    refine WL.pass ((wanted_of rfl rfl rfl).trans rfl) rfl ?_
    refine WL.pickT (v := .bool true) rfl rfl ?_
    refine WL.nil ?_
    exact Jk7 true _ _ rfl rfl ((hs.mask []).pick []) hf
  · refine WL.move (v := bstr x1) rfl ?_ (hg := (wanted_of rfl rfl (bool_tr rfl hc42)).trans rfl)
    refine WL.len (v := bstr x1) rfl (len_string UN9) ?_ (hg := (wanted_of rfl rfl (bool_tr rfl hc42)).trans rfl)
    refine WL.bin (v := .bool (decide (4 < (x1.length : Int)))) rfl rfl (ib_gtr _ _ _) ?_ (hg := (wanted_of rfl rfl (bool_tr rfl hc42)).trans rfl)
    refine WL.pickF (v := .bool (decide (4 < (x1.length : Int)))) (bool_tr rfl hc42) rfl ?_
    refine WL.move (v := .bool (decide (4 < (x1.length : Int)))) rfl ?_
    rcases iteE hf with ⟨hc43, hf⟩ | ⟨hc43, hf⟩
    · refine WL.pass ((wanted_of rfl rfl (bool_tr rfl hc43)).trans rfl) rfl ?_
      refine WL.pass ((wanted_of rfl rfl (bool_tr rfl hc43)).trans rfl) rfl ?_
      refine WL.pass ((wanted_of rfl rfl (bool_tr rfl hc43)).trans rfl) rfl ?_
      refine WL.pass ((wanted_of rfl rfl (bool_tr rfl hc43)).trans rfl) rfl ?_
      refine WL.pass (wanted_undef rfl rfl rfl) rfl ?_
      refine WL.pass (wanted_undef rfl rfl rfl) rfl ?_
      refine WL.pass (wanted_undef rfl rfl rfl) rfl ?_
      refine WL.pass ((wanted_of rfl rfl (bool_tr rfl hc43)).trans rfl) rfl ?_
      refine WL.pickT (v := .bool true) (bool_tr rfl hc43) rfl ?_
      refine WL.nil ?_
      exact Jk7 true _ _ rfl rfl ((hs.mask []).pick []) hf
    · refine WL.move (v := bstr x1) rfl ?_ (hg := (wanted_of rfl rfl (bool_tr rfl hc43)).trans rfl)
      refine WL.len (v := bstr x1) rfl (len_string UN9) ?_ (hg := (wanted_of rfl rfl (bool_tr rfl hc43)).trans rfl)
      refine WL.bin (v := .bool (decide (1 < (x1.length : Int)))) rfl rfl (ib_gtr _ _ _) ?_ (hg := (wanted_of rfl rfl (bool_tr rfl hc43)).trans rfl)
      refine WL.move (v := .bool (decide (1 < (x1.length : Int)))) rfl ?_ (hg := (wanted_of rfl rfl (bool_tr rfl hc43)).trans rfl)
      rcases iteE hf with ⟨hc44, hf⟩ | ⟨hc44, hf⟩
      · refine WL.move (v := bstr x1) rfl ?_ (hg := (wanted_of rfl rfl (bool_tr rfl hc44)).trans rfl)
        obtain ⟨x45, hxx45, hf⟩ := bindE hf
        refine WL.indexS UN9 rfl rfl hxx45 ?_ (hg := (wanted_of rfl rfl (bool_tr rfl hc44)).trans rfl)
        refine WL.bin (v := .bool ((x45.toNat : Int) == 48)) rfl rfl (ib_eql _ _ _) ?_ (hg := (wanted_of rfl rfl (bool_tr rfl hc44)).trans rfl)
        refine WL.pickT (v := .bool ((x45.toNat : Int) == 48)) (bool_tr rfl hc44) rfl ?_ (hg := (wanted_of rfl rfl (bool_tr rfl hc43)).trans rfl)
        refine WL.pickF (v := .bool ((x45.toNat : Int) == 48)) (bool_tr rfl hc43) rfl ?_
        refine WL.nil ?_
        exact Jk7 ((x45.toNat : Int) == 48) _ _ rfl rfl ((hs.mask []).pick []) hf
      · refine WL.pass ((wanted_of rfl rfl (bool_tr rfl hc44)).trans rfl) rfl ?_
        refine WL.pass ((wanted_of rfl rfl (bool_tr rfl hc44)).trans rfl) rfl ?_
        refine WL.pass ((wanted_of rfl rfl (bool_tr rfl hc44)).trans rfl) rfl ?_
        refine WL.pickF (v := .bool false) (bool_tr rfl hc44) rfl ?_ (hg := (wanted_of rfl rfl (bool_tr rfl hc43)).trans rfl)
        refine WL.pickF (v := .bool false) (bool_tr rfl hc43) rfl ?_
        refine WL.nil ?_
        exact Jk7 false _ _ rfl rfl ((hs.mask []).pick []) hf
/-! elasticstore/elasticstoreref10.parseRule: function 52 -/
theorem esref10_parseRule.calls {ok : Nat → Prop} {w0 : World} {x1 : List (List UInt8)} {a2 : Option Addr} {c3 : Nat} {r : api_Rule × Bool} (hf : esref10_parseRule x1 = some r) (i0 : (vl (tSlice tStr) x1 (.slice a2 x1.length c3)).holds ok w0) :
    Calls Tryd.prog 52 #[.slice a2 x1.length c3] w0 fun e w' => ∃ v, e = .returned v ∧ ∃ y : List Value, v = .tuple #[.agg y.toArray, .bool r.2] ∧ St ok (bz w0) w' [vl t_api_Rule r.1 (.agg y.toArray)] [] := by
  unfold esref10_parseRule at hf
  refine calls_of_W (fn := Tryd.f52) (N := 71) Tryd.func52 rfl Tryd.ntmps52 rfl ?_
  have hs : St ok (bz w0) w0 [vl (tSlice tStr) x1 (.slice a2 x1.length c3)] [] := St.init (All.cons i0 All.nil)
  clear i0
  refine W.seqK fun K4 hK4 => ?_
  refine W.region ?_
  refine WL.alloc hs ZV24 (fun g5 w hs => ?_)
  refine WL.assign (v := .bool false) rfl ?_
  refine WL.nil ?_
  refine hK4 _ _ ?_
  refine W.seqK fun K6 hK6 => ?_
  refine W.block ?_
  refine W.seqK fun K7 hK7 => ?_
  have Jk10 : ∀ (x9 : Bool) (ρ : Env) (w : World), ρ 0 = .slice a2 x1.length c3 → ρ 2 = .pointer (some ⟨g5, 0, none⟩) → ρ 4 = .bool x9 → St ok (bz w0) w [vl (tSlice tStr) x1 (.slice a2 x1.length c3)] [blk g5 24 [.int .i64 0, .int .i64 0, .int .i64 0]] → esref10_parseRule.j4 x1 x9 = some r → K7 ρ w := by
    intro x9 ρ w h8_0 h8_2 h8_4 hs hf
    refine hK7 _ _ ?_
    unfold esref10_parseRule.j4 at hf
    rcases iteE hf with ⟨hc11, hf⟩ | ⟨hc11, hf⟩
    · refine W.cond_true (bool_tr h8_4 hc11) ?_
      refine W.seqK fun K12 hK12 => ?_
      refine W.region ?_
      refine WL.build (vs := [(0, .int .i64 1)]) (cs := [.int .i64 1, .int .i64 0, .int .i64 0]) ⟨⟨rfl, rfl⟩, trivial⟩ (bld PL24 rfl) ?_
      refine WL.storeAll (vs := [.int .i64 1, .int .i64 0, .int .i64 0]) hs 0 rfl TI24 h8_2 rfl rfl rfl (ones_of rfl) rfl (fun w hs => ?_)
      refine WL.assign (v := .bool true) rfl ?_
      refine WL.nil ?_
      refine hK12 _ _ ?_
      refine W.ret ?_
      have hr := Option.some.inj hf; subst hr
      have hs := hs.add (it := vl t_api_Rule (⟨1, 0, 0⟩ : api_Rule) (.agg [.int .i64 1, .int .i64 0, .int .i64 0].toArray)) fun ok hA => V_agg (show t_api_Rule.R ok _ _ _ from ⟨[.int .i64 1], [.int .i64 0, .int .i64 0], rfl, rfl, ⟨[.int .i64 0], [.int .i64 0], rfl, rfl, rfl⟩⟩) rfl
      exact ⟨_, resOk_two rfl (res_all hs 0 rfl TI24 h8_2 rfl) rfl, [.int .i64 1, .int .i64 0, .int .i64 0], rfl, (hs.mask []).pick [0]⟩
    · refine W.cond_false (bool_tr h8_4 hc11) ?_
      refine W.seqK fun K13 hK13 => ?_
      have Jk16 : ∀ (x15 : Bool) (ρ : Env) (w : World), ρ 0 = .slice a2 x1.length c3 → ρ 2 = .pointer (some ⟨g5, 0, none⟩) → ρ 15 = .bool x15 → St ok (bz w0) w [vl (tSlice tStr) x1 (.slice a2 x1.length c3)] [blk g5 24 [.int .i64 0, .int .i64 0, .int .i64 0]] → esref10_parseRule.j3 x1 x15 = some r → K13 ρ w := by
        intro x15 ρ w h14_0 h14_2 h14_15 hs hf
        refine hK13 _ _ ?_
        unfold esref10_parseRule.j3 at hf
        rcases iteE hf with ⟨hc17, hf⟩ | ⟨hc17, hf⟩
        · refine W.cond_true (bool_tr h14_15 hc17) ?_
          refine W.seqK fun K18 hK18 => ?_
          refine W.region ?_
          refine WL.build (vs := [(0, .int .i64 2)]) (cs := [.int .i64 2, .int .i64 0, .int .i64 0]) ⟨⟨rfl, rfl⟩, trivial⟩ (bld PL24 rfl) ?_
          refine WL.storeAll (vs := [.int .i64 2, .int .i64 0, .int .i64 0]) hs 0 rfl TI24 h14_2 rfl rfl rfl (ones_of rfl) rfl (fun w hs => ?_)
          refine WL.assign (v := .bool true) rfl ?_
          refine WL.nil ?_
          refine hK18 _ _ ?_
          refine W.ret ?_
          have hr := Option.some.inj hf; subst hr
          have hs := hs.add (it := vl t_api_Rule (⟨2, 0, 0⟩ : api_Rule) (.agg [.int .i64 2, .int .i64 0, .int .i64 0].toArray)) fun ok hA => V_agg (show t_api_Rule.R ok _ _ _ from ⟨[.int .i64 2], [.int .i64 0, .int .i64 0], rfl, rfl, ⟨[.int .i64 0], [.int .i64 0], rfl, rfl, rfl⟩⟩) rfl
          exact ⟨_, resOk_two rfl (res_all hs 0 rfl TI24 h14_2 rfl) rfl, [.int .i64 2, .int .i64 0, .int .i64 0], rfl, (hs.mask []).pick [0]⟩
        · refine W.cond_false (bool_tr h14_15 hc17) ?_
          refine W.seqK fun K19 hK19 => ?_
          have Jk22 : ∀ (x21 : Bool) (ρ : Env) (w : World), ρ 0 = .slice a2 x1.length c3 → ρ 2 = .pointer (some ⟨g5, 0, none⟩) → ρ 26 = .bool x21 → St ok (bz w0) w [vl (tSlice tStr) x1 (.slice a2 x1.length c3)] [blk g5 24 [.int .i64 0, .int .i64 0, .int .i64 0]] → esref10_parseRule.j2 x1 x21 = some r → K19 ρ w := by
            intro x21 ρ w h20_0 h20_2 h20_26 hs hf
            refine hK19 _ _ ?_
            unfold esref10_parseRule.j2 at hf
            rcases iteE hf with ⟨hc23, hf⟩ | ⟨hc23, hf⟩
            · refine W.cond_true (bool_tr h20_26 hc23) ?_
              refine W.seqK fun K24 hK24 => ?_
              refine W.region ?_
              refine WL.move (v := .slice a2 x1.length c3) h20_0 ?_
              obtain ⟨x25, hxx25, hf⟩ := bindE hf
              refine WL.indexAddr hs 0 rfl UN44 TI9 rfl rfl hxx25 (fun ad26 hs => ?_)
              refine WL.loadP hs 0 rfl TI9 (.inr rfl) rfl (fun v27 hs => ?_)
              obtain rfl := hs.str 0 rfl
              obtain ⟨x28, hxx28, hf⟩ := bindE hf
              refine WL.call (vs := [bstr x25]) hs FN53 ⟨rfl, trivial⟩ (fun ok hA => esref10_number.calls (x1 := x25) hxx28) ?_
              rintro _ w hs
              refine WL.build (vs := [(0, .int .i64 3), (1, .int .i64 x28)]) (cs := [.int .i64 3, .int .i64 x28, .int .i64 0]) ⟨⟨rfl, rfl⟩, ⟨⟨rfl, rfl⟩, trivial⟩⟩ (bld PL24 rfl) ?_
              refine WL.storeAll (vs := [.int .i64 3, .int .i64 x28, .int .i64 0]) hs 0 rfl TI24 h20_2 rfl rfl rfl (ones_of rfl) rfl (fun w hs => ?_)
              refine WL.assign (v := .bool true) rfl ?_
              refine WL.nil ?_
              refine hK24 _ _ ?_
              refine W.ret ?_
              have hr := Option.some.inj hf; subst hr
              have hs := hs.add (it := vl t_api_Rule (⟨3, x28, 0⟩ : api_Rule) (.agg [.int .i64 3, .int .i64 x28, .int .i64 0].toArray)) fun ok hA => V_agg (show t_api_Rule.R ok _ _ _ from ⟨[.int .i64 3], [.int .i64 x28, .int .i64 0], rfl, rfl, ⟨[.int .i64 x28], [.int .i64 0], rfl, rfl, rfl⟩⟩) rfl
              exact ⟨_, resOk_two rfl (res_all hs 0 rfl TI24 h20_2 rfl) rfl, [.int .i64 3, .int .i64 x28, .int .i64 0], rfl, (hs.mask []).pick [0]⟩
            · refine W.cond_false (bool_tr h20_26 hc23) ?_
              refine W.seqK fun K29 hK29 => ?_
              have Jk32 : ∀ (x31 : Bool) (ρ : Env) (w : World), ρ 0 = .slice a2 x1.length c3 → ρ 2 = .pointer (some ⟨g5, 0, none⟩) → ρ 48 = .bool x31 → St ok (bz w0) w [vl (tSlice tStr) x1 (.slice a2 x1.length c3)] [blk g5 24 [.int .i64 0, .int .i64 0, .int .i64 0]] → esref10_parseRule.j1 x1 x31 = some r → K29 ρ w := by
                intro x31 ρ w h30_0 h30_2 h30_48 hs hf
                refine hK29 _ _ ?_
                unfold esref10_parseRule.j1 at hf
                rcases iteE hf with ⟨hc33, hf⟩ | ⟨hc33, hf⟩
                · refine W.cond_true (bool_tr h30_48 hc33) ?_
                  refine W.seqK fun K34 hK34 => ?_
                  refine W.region ?_
                  refine WL.move (v := .slice a2 x1.length c3) h30_0 ?_
                  obtain ⟨x35, hxx35, hf⟩ := bindE hf
                  refine WL.indexAddr hs 0 rfl UN44 TI9 rfl rfl hxx35 (fun ad36 hs => ?_)
                  refine WL.loadP hs 0 rfl TI9 (.inr rfl) rfl (fun v37 hs => ?_)
                  obtain rfl := hs.str 0 rfl
                  obtain ⟨x38, hxx38, hf⟩ := bindE hf
                  refine WL.call (vs := [bstr x35]) hs FN53 ⟨rfl, trivial⟩ (fun ok hA => esref10_number.calls (x1 := x35) hxx38) ?_
                  rintro _ w hs
                  refine WL.build (vs := [(0, .int .i64 4), (2, .int .i64 x38)]) (cs := [.int .i64 4, .int .i64 0, .int .i64 x38]) ⟨⟨rfl, rfl⟩, ⟨⟨rfl, rfl⟩, trivial⟩⟩ (bld PL24 rfl) ?_
                  refine WL.storeAll (vs := [.int .i64 4, .int .i64 0, .int .i64 x38]) hs 0 rfl TI24 h30_2 rfl rfl rfl (ones_of rfl) rfl (fun w hs => ?_)
                  refine WL.assign (v := .bool true) rfl ?_
                  refine WL.nil ?_
                  refine hK34 _ _ ?_
                  refine W.ret ?_
                  have hr := Option.some.inj hf; subst hr
                  have hs := hs.add (it := vl t_api_Rule (⟨4, 0, x38⟩ : api_Rule) (.agg [.int .i64 4, .int .i64 0, .int .i64 x38].toArray)) fun ok hA => V_agg (show t_api_Rule.R ok _ _ _ from ⟨[.int .i64 4], [.int .i64 0, .int .i64 x38], rfl, rfl, ⟨[.int .i64 0], [.int .i64 x38], rfl, rfl, rfl⟩⟩) rfl
                  exact ⟨_, resOk_two rfl (res_all hs 0 rfl TI24 h30_2 rfl) rfl, [.int .i64 4, .int .i64 0, .int .i64 x38], rfl, (hs.mask []).pick [0]⟩
                · refine W.cond_false (bool_tr h30_48 hc33) ?_
                  refine W.skip ?_
                  refine hK6 _ _ ?_
                  refine W.seqK fun K39 hK39 => ?_
                  refine W.region ?_
                  refine WL.build (vs := []) (cs := [.int .i64 0, .int .i64 0, .int .i64 0]) trivial (bld PL24 rfl) ?_
                  refine WL.storeAll (vs := [.int .i64 0, .int .i64 0, .int .i64 0]) hs 0 rfl TI24 h30_2 rfl rfl rfl (ones_of rfl) rfl (fun w hs => ?_)
                  refine WL.assign (v := .bool false) rfl ?_
                  refine WL.nil ?_
                  refine hK39 _ _ ?_
                  refine W.ret ?_
                  have hr := Option.some.inj hf; subst hr
                  have hs := hs.add (it := vl t_api_Rule (⟨0, 0, 0⟩ : api_Rule) (.agg [.int .i64 0, .int .i64 0, .int .i64 0].toArray)) fun ok hA => V_agg (show t_api_Rule.R ok _ _ _ from ⟨[.int .i64 0], [.int .i64 0, .int .i64 0], rfl, rfl, ⟨[.int .i64 0], [.int .i64 0], rfl, rfl, rfl⟩⟩) rfl
                  exact ⟨_, resOk_two rfl (res_all hs 0 rfl TI24 h30_2 rfl) rfl, [.int .i64 0, .int .i64 0, .int .i64 0], rfl, (hs.mask []).pick [0]⟩
              refine W.region ?_
              refine WL.move (v := .slice a2 x1.length c3) h20_0 ?_
              refine WL.len (v := .slice a2 x1.length c3) rfl (len_slice UN44) ?_
              refine WL.bin (v := .bool ((x1.length : Int) == 2)) rfl rfl (ib_eql _ _ _) ?_
              refine WL.move (v := .bool ((x1.length : Int) == 2)) rfl ?_
              rcases iteE hf with ⟨hc40, hf⟩ | ⟨hc40, hf⟩
              · refine WL.move (v := .slice a2 x1.length c3) h20_0 ?_ (hg := (wanted_of rfl rfl (bool_tr rfl hc40)).trans rfl)
                obtain ⟨x41, hxx41, hf⟩ := bindE hf
                refine WL.indexAddr hs 0 rfl UN44 TI9 rfl rfl hxx41 (fun ad42 hs => ?_) (hg := (wanted_of rfl rfl (bool_tr rfl hc40)).trans rfl)
                refine WL.loadP hs 0 rfl TI9 (.inr rfl) rfl (fun v43 hs => ?_) (hg := (wanted_of rfl rfl (bool_tr rfl hc40)).trans rfl)
                obtain rfl := hs.str 0 rfl
                refine WL.binS (v := .bool (x41 == ([109, 97, 115, 107, 105, 110, 103] : List UInt8))) rfl rfl (sb_eql _ _) ?_ (hg := (wanted_of rfl rfl (bool_tr rfl hc40)).trans rfl)
                refine WL.pickT (v := .bool (x41 == ([109, 97, 115, 107, 105, 110, 103] : List UInt8))) (bool_tr rfl hc40) rfl ?_
                refine WL.move (v := .bool (x41 == ([109, 97, 115, 107, 105, 110, 103] : List UInt8))) rfl ?_
                rcases iteE hf with ⟨hc44, hf⟩ | ⟨hc44, hf⟩
                · refine WL.move (v := .slice a2 x1.length c3) h20_0 ?_ (hg := (wanted_of rfl rfl (bool_tr rfl hc44)).trans rfl)
                  obtain ⟨x45, hxx45, hf⟩ := bindE hf
                  refine WL.indexAddr hs 2 rfl UN44 TI9 rfl rfl hxx45 (fun ad46 hs => ?_) (hg := (wanted_of rfl rfl (bool_tr rfl hc44)).trans rfl)
                  refine WL.loadP hs 0 rfl TI9 (.inr rfl) rfl (fun v47 hs => ?_) (hg := (wanted_of rfl rfl (bool_tr rfl hc44)).trans rfl)
                  obtain rfl := hs.str 0 rfl
                  obtain ⟨x48, hxx48, hf⟩ := bindE hf
                  refine WL.call (vs := [bstr x45]) hs FN53 ⟨rfl, trivial⟩ (fun ok hA => esref10_number.calls (x1 := x45) hxx48) ?_ (hg := (wanted_of rfl rfl (bool_tr rfl hc44)).trans rfl)
                  rintro _ w hs
                  refine WL.bin (v := .bool (decide (0 ≤ x48))) rfl rfl (ib_geq _ _ _) ?_ (hg := (wanted_of rfl rfl (bool_tr rfl hc44)).trans rfl)
                  refine WL.pickT (v := .bool (decide (0 ≤ x48))) (bool_tr rfl hc44) rfl ?_
                  refine WL.assign (v := .bool (decide (0 ≤ x48))) rfl ?_
                  refine WL.nil ?_
                  exact Jk32 (decide (0 ≤ x48)) _ _ h20_0 h20_2 rfl ((hs.mask [true]).pick [4]) hf
                · refine WL.pass ((wanted_of rfl rfl (bool_tr rfl hc44)).trans rfl) rfl ?_
                  refine WL.pass ((wanted_of rfl rfl (bool_tr rfl hc44)).trans rfl) rfl ?_
                  refine WL.pass ((wanted_of rfl rfl (bool_tr rfl hc44)).trans rfl) rfl ?_
                  refine WL.pass ((wanted_of rfl rfl (bool_tr rfl hc44)).trans rfl) rfl ?_
                  refine WL.pass ((wanted_of rfl rfl (bool_tr rfl hc44)).trans rfl) rfl ?_
                  refine WL.pickF (v := .bool false) (bool_tr rfl hc44) rfl ?_
                  refine WL.assign (v := .bool false) rfl ?_
                  refine WL.nil ?_
                  exact Jk32 false _ _ h20_0 h20_2 rfl ((hs.mask [true]).pick [2]) hf
              · refine WL.pass ((wanted_of rfl rfl (bool_tr rfl hc40)).trans rfl) rfl ?_
                refine WL.pass ((wanted_of rfl rfl (bool_tr rfl hc40)).trans rfl) rfl ?_
                refine WL.pass ((wanted_of rfl rfl (bool_tr rfl hc40)).trans rfl) rfl ?_
                refine WL.pass ((wanted_of rfl rfl (bool_tr rfl hc40)).trans rfl) rfl ?_
                refine WL.pickF (v := .bool false) (bool_tr rfl hc40) rfl ?_
                refine WL.move (v := .bool false) rfl ?_
                refine WL.pass ((wanted_of rfl rfl rfl).trans rfl) rfl ?_
                refine WL.pass ((wanted_of rfl rfl rfl).trans rfl) rfl ?_
                refine WL.pass ((wanted_of rfl rfl rfl).trans rfl) rfl ?_
                refine WL.pass ((wanted_of rfl rfl rfl).trans rfl) rfl ?_
                refine WL.pass ((wanted_of rfl rfl rfl).trans rfl) rfl ?_
                refine WL.pickF (v := .bool false) rfl rfl ?_
                refine WL.assign (v := .bool false) rfl ?_
                refine WL.nil ?_
                exact Jk32 false _ _ h20_0 h20_2 rfl ((hs.mask [true]).pick [0]) hf
          refine W.region ?_
          refine WL.move (v := .slice a2 x1.length c3) h14_0 ?_
          refine WL.len (v := .slice a2 x1.length c3) rfl (len_slice UN44) ?_
          refine WL.bin (v := .bool ((x1.length : Int) == 2)) rfl rfl (ib_eql _ _ _) ?_
          refine WL.move (v := .bool ((x1.length : Int) == 2)) rfl ?_
          rcases iteE hf with ⟨hc49, hf⟩ | ⟨hc49, hf⟩
          · refine WL.move (v := .slice a2 x1.length c3) h14_0 ?_ (hg := (wanted_of rfl rfl (bool_tr rfl hc49)).trans rfl)
            obtain ⟨x50, hxx50, hf⟩ := bindE hf
            refine WL.indexAddr hs 0 rfl UN44 TI9 rfl rfl hxx50 (fun ad51 hs => ?_) (hg := (wanted_of rfl rfl (bool_tr rfl hc49)).trans rfl)
            refine WL.loadP hs 0 rfl TI9 (.inr rfl) rfl (fun v52 hs => ?_) (hg := (wanted_of rfl rfl (bool_tr rfl hc49)).trans rfl)
            obtain rfl := hs.str 0 rfl
            refine WL.binS (v := .bool (x50 == ([103, 114, 105, 100] : List UInt8))) rfl rfl (sb_eql _ _) ?_ (hg := (wanted_of rfl rfl (bool_tr rfl hc49)).trans rfl)
            refine WL.pickT (v := .bool (x50 == ([103, 114, 105, 100] : List UInt8))) (bool_tr rfl hc49) rfl ?_
            refine WL.move (v := .bool (x50 == ([103, 114, 105, 100] : List UInt8))) rfl ?_
            rcases iteE hf with ⟨hc53, hf⟩ | ⟨hc53, hf⟩
            · refine WL.move (v := .slice a2 x1.length c3) h14_0 ?_ (hg := (wanted_of rfl rfl (bool_tr rfl hc53)).trans rfl)
              obtain ⟨x54, hxx54, hf⟩ := bindE hf
              refine WL.indexAddr hs 2 rfl UN44 TI9 rfl rfl hxx54 (fun ad55 hs => ?_) (hg := (wanted_of rfl rfl (bool_tr rfl hc53)).trans rfl)
              refine WL.loadP hs 0 rfl TI9 (.inr rfl) rfl (fun v56 hs => ?_) (hg := (wanted_of rfl rfl (bool_tr rfl hc53)).trans rfl)
              obtain rfl := hs.str 0 rfl
              obtain ⟨x57, hxx57, hf⟩ := bindE hf
              refine WL.call (vs := [bstr x54]) hs FN53 ⟨rfl, trivial⟩ (fun ok hA => esref10_number.calls (x1 := x54) hxx57) ?_ (hg := (wanted_of rfl rfl (bool_tr rfl hc53)).trans rfl)
              rintro _ w hs
              refine WL.bin (v := .bool (decide (0 ≤ x57))) rfl rfl (ib_geq _ _ _) ?_ (hg := (wanted_of rfl rfl (bool_tr rfl hc53)).trans rfl)
              refine WL.pickT (v := .bool (decide (0 ≤ x57))) (bool_tr rfl hc53) rfl ?_
              refine WL.assign (v := .bool (decide (0 ≤ x57))) rfl ?_
              refine WL.nil ?_
              exact Jk22 (decide (0 ≤ x57)) _ _ h14_0 h14_2 rfl ((hs.mask [true]).pick [4]) hf
            · refine WL.pass ((wanted_of rfl rfl (bool_tr rfl hc53)).trans rfl) rfl ?_
              refine WL.pass ((wanted_of rfl rfl (bool_tr rfl hc53)).trans rfl) rfl ?_
              refine WL.pass ((wanted_of rfl rfl (bool_tr rfl hc53)).trans rfl) rfl ?_
              refine WL.pass ((wanted_of rfl rfl (bool_tr rfl hc53)).trans rfl) rfl ?_
              refine WL.pass ((wanted_of rfl rfl (bool_tr rfl hc53)).trans rfl) rfl ?_
              refine WL.pickF (v := .bool false) (bool_tr rfl hc53) rfl ?_
              refine WL.assign (v := .bool false) rfl ?_
              refine WL.nil ?_
              exact Jk22 false _ _ h14_0 h14_2 rfl ((hs.mask [true]).pick [2]) hf
          · refine WL.pass ((wanted_of rfl rfl (bool_tr rfl hc49)).trans rfl) rfl ?_
            refine WL.pass ((wanted_of rfl rfl (bool_tr rfl hc49)).trans rfl) rfl ?_
            refine WL.pass ((wanted_of rfl rfl (bool_tr rfl hc49)).trans rfl) rfl ?_
            refine WL.pass ((wanted_of rfl rfl (bool_tr rfl hc49)).trans rfl) rfl ?_
            refine WL.pickF (v := .bool false) (bool_tr rfl hc49) rfl ?_
            refine WL.move (v := .bool false) rfl ?_
            refine WL.pass ((wanted_of rfl rfl rfl).trans rfl) rfl ?_
            refine WL.pass ((wanted_of rfl rfl rfl).trans rfl) rfl ?_
            refine WL.pass ((wanted_of rfl rfl rfl).trans rfl) rfl ?_
            refine WL.pass ((wanted_of rfl rfl rfl).trans rfl) rfl ?_
            refine WL.pass ((wanted_of rfl rfl rfl).trans rfl) rfl ?_
            refine WL.pickF (v := .bool false) rfl rfl ?_
            refine WL.assign (v := .bool false) rfl ?_
            refine WL.nil ?_
            exact Jk22 false _ _ h14_0 h14_2 rfl ((hs.mask [true]).pick [0]) hf
      refine W.region ?_
      refine WL.move (v := .slice a2 x1.length c3) h8_0 ?_
      refine WL.len (v := .slice a2 x1.length c3) rfl (len_slice UN44) ?_
      refine WL.bin (v := .bool ((x1.length : Int) == 1)) rfl rfl (ib_eql _ _ _) ?_
      refine WL.move (v := .bool ((x1.length : Int) == 1)) rfl ?_
      rcases iteE hf with ⟨hc58, hf⟩ | ⟨hc58, hf⟩
      · refine WL.move (v := .slice a2 x1.length c3) h8_0 ?_ (hg := (wanted_of rfl rfl (bool_tr rfl hc58)).trans rfl)
        obtain ⟨x59, hxx59, hf⟩ := bindE hf
        refine WL.indexAddr hs 0 rfl UN44 TI9 rfl rfl hxx59 (fun ad60 hs => ?_) (hg := (wanted_of rfl rfl (bool_tr rfl hc58)).trans rfl)
        refine WL.loadP hs 0 rfl TI9 (.inr rfl) rfl (fun v61 hs => ?_) (hg := (wanted_of rfl rfl (bool_tr rfl hc58)).trans rfl)
        obtain rfl := hs.str 0 rfl
        refine WL.binS (v := .bool (x59 == ([119, 101, 105, 103, 104, 116, 101, 100] : List UInt8))) rfl rfl (sb_eql _ _) ?_ (hg := (wanted_of rfl rfl (bool_tr rfl hc58)).trans rfl)
        refine WL.pickT (v := .bool (x59 == ([119, 101, 105, 103, 104, 116, 101, 100] : List UInt8))) (bool_tr rfl hc58) rfl ?_
        refine WL.assign (v := .bool (x59 == ([119, 101, 105, 103, 104, 116, 101, 100] : List UInt8))) rfl ?_
        refine WL.nil ?_
        exact Jk16 (x59 == ([119, 101, 105, 103, 104, 116, 101, 100] : List UInt8)) _ _ h8_0 h8_2 rfl ((hs.mask [true]).pick [2]) hf
      · refine WL.pass ((wanted_of rfl rfl (bool_tr rfl hc58)).trans rfl) rfl ?_
        refine WL.pass ((wanted_of rfl rfl (bool_tr rfl hc58)).trans rfl) rfl ?_
        refine WL.pass ((wanted_of rfl rfl (bool_tr rfl hc58)).trans rfl) rfl ?_
        refine WL.pass ((wanted_of rfl rfl (bool_tr rfl hc58)).trans rfl) rfl ?_
        refine WL.pickF (v := .bool false) (bool_tr rfl hc58) rfl ?_
        refine WL.assign (v := .bool false) rfl ?_
        refine WL.nil ?_
        exact Jk16 false _ _ h8_0 h8_2 rfl ((hs.mask [true]).pick [0]) hf
  refine W.region ?_
  refine WL.move (v := .slice a2 x1.length c3) rfl ?_
  refine WL.len (v := .slice a2 x1.length c3) rfl (len_slice UN44) ?_
  refine WL.bin (v := .bool ((x1.length : Int) == 1)) rfl rfl (ib_eql _ _ _) ?_
  refine WL.move (v := .bool ((x1.length : Int) == 1)) rfl ?_
  rcases iteE hf with ⟨hc62, hf⟩ | ⟨hc62, hf⟩
  · refine WL.move (v := .slice a2 x1.length c3) rfl ?_ (hg := (wanted_of rfl rfl (bool_tr rfl hc62)).trans rfl)
    obtain ⟨x63, hxx63, hf⟩ := bindE hf
    refine WL.indexAddr hs 0 rfl UN44 TI9 rfl rfl hxx63 (fun ad64 hs => ?_) (hg := (wanted_of rfl rfl (bool_tr rfl hc62)).trans rfl)
    refine WL.loadP hs 0 rfl TI9 (.inr rfl) rfl (fun v65 hs => ?_) (hg := (wanted_of rfl rfl (bool_tr rfl hc62)).trans rfl)
    obtain rfl := hs.str 0 rfl
    refine WL.binS (v := .bool (x63 == ([109, 97, 106, 111, 114, 105, 116, 121] : List UInt8))) rfl rfl (sb_eql _ _) ?_ (hg := (wanted_of rfl rfl (bool_tr rfl hc62)).trans rfl)
    refine WL.pickT (v := .bool (x63 == ([109, 97, 106, 111, 114, 105, 116, 121] : List UInt8))) (bool_tr rfl hc62) rfl ?_
    refine WL.assign (v := .bool (x63 == ([109, 97, 106, 111, 114, 105, 116, 121] : List UInt8))) rfl ?_
    refine WL.nil ?_
    exact Jk10 (x63 == ([109, 97, 106, 111, 114, 105, 116, 121] : List UInt8)) _ _ rfl rfl rfl ((hs.mask [true]).pick [2]) hf
  · refine WL.pass ((wanted_of rfl rfl (bool_tr rfl hc62)).trans rfl) rfl ?_
    refine WL.pass ((wanted_of rfl rfl (bool_tr rfl hc62)).trans rfl) rfl ?_
    refine WL.pass ((wanted_of rfl rfl (bool_tr rfl hc62)).trans rfl) rfl ?_
    refine WL.pass ((wanted_of rfl rfl (bool_tr rfl hc62)).trans rfl) rfl ?_
    refine WL.pickF (v := .bool false) (bool_tr rfl hc62) rfl ?_
    refine WL.assign (v := .bool false) rfl ?_
    refine WL.nil ?_
    exact Jk10 false _ _ rfl rfl rfl ((hs.mask [true]).pick [0]) hf
end Go.Proofs.YthfoljpjhegkmaaDoor
