/- What the row leans on, as few texts. -/
import Derived.Test.YtpfgdjfiimknlaaQII2
import Derived.Test.YtpfgdjfiimknlaaQII3
import Derived.Test.YtpfgdjfiimknlaaQII1
set_option linter.unusedVariables false
set_option linter.unusedSimpArgs false
namespace Go.Proofs.Ytpfgdjfiimknlaa
open Go Go.RowKit Go.Proofs.YtpfgdjfiimknlaaL
set_option maxRecDepth 100000
set_option maxHeartbeats 4000000
theorem slices_Index_string.calls {ok : Nat → Prop} {w0 : World} {x1 : List (List UInt8)} {x4 : List UInt8} {a2 : Option Addr} {c3 : Nat} {r : Int} (hf : slices_Index_string x1 x4 = some r) (i0 : (vl (tSlice tStr) x1 (.slice a2 x1.length c3)).holds ok w0) :
    Calls Try.prog 35 #[.slice a2 x1.length c3, bstr x4] w0 fun e w' => ∃ v, e = .returned v ∧ ∃ y : Unit, v = .int .i64 r ∧ St ok (bz w0) w' [] [] := by
  unfold slices_Index_string at hf
  refine calls_of_W (fn := Try.f35) (N := 19) Try.func35 rfl Try.ntmps35 rfl ?_
  have hs : St ok (bz w0) w0 [vl (tSlice tStr) x1 (.slice a2 x1.length c3)] [] := St.init (All.cons i0 All.nil)
  clear i0
  refine W.seqK fun K5 hK5 => ?_
  refine W.region ?_
  refine WL.assign (v := .int .i64 0) rfl ?_
  refine WL.nil ?_
  refine hK5 _ _ ?_
  refine W.seqK fun K6 hK6 => ?_
  have Jk8 : ∀  (ρ : Env) (w : World), St ok (bz w0) w [] [] → slices_Index_string.j1 = some r → K6 ρ w := by
    intro  ρ w  hs hf
    refine hK6 _ _ ?_
    unfold slices_Index_string.j1 at hf
    refine W.seqK fun K9 hK9 => ?_
    refine W.region ?_
    refine WL.assign (v := .int .i64 (-1)) rfl ?_
    refine WL.nil ?_
    refine hK9 _ _ ?_
    refine W.ret ?_
    have hr := Option.some.inj hf; subst hr
    exact ⟨_, resOk_one rfl rfl, (), rfl, (hs.mask []).pick []⟩
  refine W.seqK fun K10 hK10 => ?_
  refine W.region ?_
  refine WL.move (v := .slice a2 x1.length c3) rfl ?_
  refine WL.len (v := .slice a2 x1.length c3) rfl (len_slice UN32) ?_
  refine WL.move (v := .int .i64 0) rfl ?_
  refine WL.nil ?_
  refine hK10 _ _ ?_
  refine W.block ?_
  obtain ⟨bs13, hbs13, hfs13⟩ := bindE hf
  refine W.loop hbs13 (fun s ρ w => match s with | x12 => ρ 0 = .slice a2 x1.length c3 ∧ ρ 1 = bstr x4 ∧ ρ 7 = .int .i64 (x1.length : Int) ∧ ρ 8 = .int .i64 x12 ∧ St ok (bz w0) w [vl (tSlice tStr) x1 (.slice a2 x1.length c3)] []) ⟨rfl, rfl, rfl, rfl, (hs.mask []).pick [0]⟩ ?_
  intro x12 ρ w os13 hI hf hbbs13
  obtain ⟨h11_0, h11_1, h11_7, h11_8, hs⟩ := hI
  unfold slices_Index_string.l1 at hf
  refine W.seqK fun K14 hK14 => ?_
  refine W.region ?_
  refine WL.bin (v := .bool (decide (x12 < (x1.length : Int)))) h11_8 h11_7 (ib_lss _ _ _) ?_
  refine WL.nil ?_
  refine hK14 _ _ ?_
  refine W.seqK fun K15 hK15 => ?_
  rcases iteE hf with ⟨hc16, hf⟩ | ⟨hc16, hf⟩
  {
  refine W.cond_true (bool_tr rfl hc16) ?_
  refine W.skip ?_
  refine hK15 _ _ ?_
  refine W.seqK fun K17 hK17 => ?_
  refine W.block ?_
  refine W.seqK fun K18 hK18 => ?_
  refine W.region ?_
  refine WL.move (v := .int .i64 x12) h11_8 ?_
  refine WL.assign (v := .int .i64 x12) rfl ?_
  refine WL.nil ?_
  refine hK18 _ _ ?_
  refine W.seqK fun K19 hK19 => ?_
  refine W.region ?_
  refine WL.move (v := bstr x4) h11_1 ?_
  refine WL.move (v := .slice a2 x1.length c3) h11_0 ?_
  refine WL.move (v := .int .i64 x12) rfl ?_
  obtain ⟨x20, hxx20, hf⟩ := bindE hf
  refine WL.indexAddr hs 0 rfl UN32 TI9 rfl rfl hxx20 (fun ad21 hs => ?_)
  refine WL.loadP hs 0 rfl TI9 (.inr rfl) rfl (fun v22 hs => ?_)
  obtain rfl := hs.str 0 rfl
  refine WL.binS (v := .bool (x4 == x20)) rfl rfl (sb_eql _ _) ?_
  refine WL.nil ?_
  refine hK19 _ _ ?_
  rcases iteE hf with ⟨hc23, hf⟩ | ⟨hc23, hf⟩
  {
  refine W.cond_true (bool_tr rfl hc23) ?_
  refine W.seqK fun K24 hK24 => ?_
  refine W.region ?_
  refine WL.move (v := .int .i64 x12) rfl ?_
  refine WL.assign (v := .int .i64 x12) rfl ?_
  refine WL.nil ?_
  refine hK24 _ _ ?_
  refine W.ret ?_
  have hr := Option.some.inj hf; subst hr
  have hr := hbbs13 _ rfl; subst hr
  have hf := hfs13
  have hr := Option.some.inj hf; subst hr
  exact ⟨_, resOk_one rfl rfl, (), rfl, (hs.mask []).pick []⟩ }
  {
  refine W.cond_false (bool_tr rfl hc23) ?_
  refine W.skip ?_
  refine hK17 _ _ ?_
  refine W.region ?_
  obtain ⟨x25, ex25, hf⟩ := letE hf
  refine WL.bin (v := .int .i64 x25) h11_8 rfl (ib_as ex25 (ib_add _ _ _)) ?_
  refine WL.move (v := .int .i64 x25) rfl ?_
  refine WL.nil ?_
  exact ⟨_, (Option.some.inj hf).symm, h11_0, h11_1, h11_7, rfl, (hs.mask []).pick [2]⟩ } }
  {
  refine W.cond_false (bool_tr rfl hc16) ?_
  refine W.exit ?_
  have hr := Option.some.inj hf; subst hr
  have hr := hbbs13 _ rfl; subst hr
  have hf := hfs13
  exact Jk8  _ _  ((hs.mask []).pick []) hf }
theorem slices_Contains_string.calls {ok : Nat → Prop} {w0 : World} {x1 : List (List UInt8)} {x4 : List UInt8} {a2 : Option Addr} {c3 : Nat} {r : Bool} (hf : slices_Contains_string x1 x4 = some r) (i0 : (vl (tSlice tStr) x1 (.slice a2 x1.length c3)).holds ok w0) :
    Calls Try.prog 21 #[.slice a2 x1.length c3, bstr x4] w0 fun e w' => ∃ v, e = .returned v ∧ ∃ y : Unit, v = .bool r ∧ St ok (bz w0) w' [] [] := by
  unfold slices_Contains_string at hf
  refine calls_of_W (fn := Try.f21) (N := 9) Try.func21 rfl Try.ntmps21 rfl ?_
  have hs : St ok (bz w0) w0 [vl (tSlice tStr) x1 (.slice a2 x1.length c3)] [] := St.init (All.cons i0 All.nil)
  clear i0
  refine W.seqK fun K5 hK5 => ?_
  refine W.region ?_
  refine WL.assign (v := .bool false) rfl ?_
  refine WL.nil ?_
  refine hK5 _ _ ?_
  refine W.seqK fun K6 hK6 => ?_
  refine W.region ?_
  refine WL.move (v := .slice a2 x1.length c3) rfl ?_
  refine WL.move (v := bstr x4) rfl ?_
  obtain ⟨x7, hxx7, hf⟩ := bindE hf
  refine WL.call (vs := [.slice a2 x1.length c3, bstr x4]) hs FN35 ⟨rfl, ⟨rfl, trivial⟩⟩ (fun ok hA => slices_Index_string.calls (x1 := x1) (x4 := x4) hxx7 (hA.get 0 rfl)) ?_
  rintro _ w hs
  refine WL.bin (v := .bool (decide (0 ≤ x7))) rfl rfl (ib_geq _ _ _) ?_
  refine WL.assign (v := .bool (decide (0 ≤ x7))) rfl ?_
  refine WL.nil ?_
  refine hK6 _ _ ?_
  refine W.ret ?_
  have hr := Option.some.inj hf; subst hr
  exact ⟨_, resOk_one rfl rfl, (), rfl, (hs.mask []).pick []⟩
theorem index_Intersect.calls {ok : Nat → Prop} {w0 : World} {x1 : List (List UInt8)} {x4 : List (List UInt8)} {a2 : Option Addr} {c3 : Nat} {a5 : Option Addr} {c6 : Nat} {r : List (List UInt8)} (hf : index_Intersect x1 x4 = some r) (i0 : (vl (tSlice tStr) x1 (.slice a2 x1.length c3)).holds ok w0) (i1 : (vl (tSlice tStr) x4 (.slice a5 x4.length c6)).holds ok w0) :
    Calls Try.prog 9 #[.slice a2 x1.length c3, .slice a5 x4.length c6] w0 fun e w' => ∃ v, e = .returned v ∧ ∃ y : (Option Addr × Nat × Nat), v = .slice y.1 y.2.1 y.2.2 ∧ St ok (bz w0) w' [] [own tStr 9 (.slice y.1 y.2.1 y.2.2) r] := by
  unfold index_Intersect at hf
  refine calls_of_W (fn := Try.f9) (N := 24) Try.func9 rfl Try.ntmps9 rfl ?_
  have hs : St ok (bz w0) w0 [vl (tSlice tStr) x1 (.slice a2 x1.length c3), vl (tSlice tStr) x4 (.slice a5 x4.length c6)] [] := St.init (All.cons i0 (All.cons i1 All.nil))
  clear i0 i1
  refine W.seqK fun K7 hK7 => ?_
  refine W.region ?_
  refine WL.assign (v := .slice none 0 0) rfl ?_
  refine WL.nil ?_
  refine hK7 _ _ ?_
  refine W.seqK fun K8 hK8 => ?_
  refine W.region ?_
  refine WL.assign (v := .slice none 0 0) rfl ?_
  refine WL.nil ?_
  refine hK8 _ _ ?_
  refine W.seqK fun K9 hK9 => ?_
  have hs := hs.ownNil tStr 9
  have Jk15 : ∀ (x11 : List (List UInt8)) (a12 : Option Addr) (c13 : Nat) (n14 : Nat) (ρ : Env) (w : World), ρ 5 = .slice a12 n14 c13 → St ok (bz w0) w [] [own tStr 9 (.slice a12 n14 c13) x11] → index_Intersect.j1 x11 = some r → K9 ρ w := by
    intro x11 a12 c13 n14 ρ w h10_5 hs hf
    refine hK9 _ _ ?_
    unfold index_Intersect.j1 at hf
    refine W.seqK fun K16 hK16 => ?_
    refine W.region ?_
    refine WL.move (v := .slice a12 n14 c13) h10_5 ?_
    refine WL.assign (v := .slice a12 n14 c13) rfl ?_
    refine WL.nil ?_
    refine hK16 _ _ ?_
    refine W.ret ?_
    have hr := Option.some.inj hf; subst hr
    exact ⟨_, resOk_one rfl rfl, (a12, n14, c13), rfl, (hs.mask [true]).pick []⟩
  refine W.seqK fun K17 hK17 => ?_
  refine W.region ?_
  refine WL.move (v := .slice a2 x1.length c3) rfl ?_
  obtain ⟨x18, hxx18, hf⟩ := bindE hf
  refine WL.call (vs := [.slice a2 x1.length c3]) hs FN20 ⟨rfl, trivial⟩ (fun ok hA => index_ascending.calls (x1 := x1) hxx18 (hA.get 0 rfl)) ?_
  rintro ⟨a19, n20, c21⟩ w hs
  refine WL.len (v := .slice a19 n20 c21) rfl (len_own hs 0 rfl UN32) ?_
  refine WL.move (v := .int .i64 0) rfl ?_
  refine WL.nil ?_
  refine hK17 _ _ ?_
  refine W.block ?_
  obtain ⟨bs28, hbs28, hfs28⟩ := bindE hf
  refine W.loop hbs28 (fun s ρ w => match s with | (x23, x27) => ∃ (a24 : Option Addr), ∃ (c25 : Nat), ∃ (n26 : Nat), ρ 1 = .slice a5 x4.length c6 ∧ ρ 5 = .slice a24 n26 c25 ∧ ρ 9 = .slice a19 n20 c21 ∧ ρ 10 = .int .i64 (x18.length : Int) ∧ ρ 11 = .int .i64 x27 ∧ St ok (bz w0) w [vl (tSlice tStr) x4 (.slice a5 x4.length c6)] [own tStr 9 (.slice a19 n20 c21) x18, own tStr 9 (.slice a24 n26 c25) x23]) ⟨none, 0, 0, rfl, rfl, rfl, rfl, rfl, (hs.mask [true, true]).pick [1]⟩ ?_
  intro s ρ w os28 hI hf hbbs28
  obtain ⟨x23, x27⟩ := s
  obtain ⟨a24, c25, n26, h22_1, h22_5, h22_9, h22_10, h22_11, hs⟩ := hI
  unfold index_Intersect.l1 at hf
  refine W.seqK fun K29 hK29 => ?_
  refine W.region ?_
  refine WL.bin (v := .bool (decide (x27 < (x18.length : Int)))) h22_11 h22_10 (ib_lss _ _ _) ?_
  refine WL.nil ?_
  refine hK29 _ _ ?_
  refine W.seqK fun K30 hK30 => ?_
  rcases iteE hf with ⟨hc31, hf⟩ | ⟨hc31, hf⟩
  {
  refine W.cond_true (bool_tr rfl hc31) ?_
  refine W.skip ?_
  refine hK30 _ _ ?_
  refine W.seqK fun K32 hK32 => ?_
  have Jk38 : ∀ (x34 : List (List UInt8)) (a35 : Option Addr) (c36 : Nat) (n37 : Nat) (ρ : Env) (w : World), ρ 1 = .slice a5 x4.length c6 → ρ 5 = .slice a35 n37 c36 → ρ 9 = .slice a19 n20 c21 → ρ 10 = .int .i64 (x18.length : Int) → ρ 11 = .int .i64 x27 → St ok (bz w0) w [vl (tSlice tStr) x4 (.slice a5 x4.length c6)] [own tStr 9 (.slice a19 n20 c21) x18, own tStr 9 (.slice a35 n37 c36) x34] → index_Intersect.j2 x27 x34 = some os28 → K32 ρ w := by
    intro x34 a35 c36 n37 ρ w h33_1 h33_5 h33_9 h33_10 h33_11 hs hf
    refine hK32 _ _ ?_
    unfold index_Intersect.j2 at hf
    refine W.region ?_
    obtain ⟨x39, ex39, hf⟩ := letE hf
    refine WL.bin (v := .int .i64 x39) h33_11 rfl (ib_as ex39 (ib_add _ _ _)) ?_
    refine WL.move (v := .int .i64 x39) rfl ?_
    refine WL.nil ?_
    exact ⟨_, (Option.some.inj hf).symm, a35, c36, n37, h33_1, h33_5, h33_9, h33_10, rfl, (hs.mask [true, true]).pick [0]⟩
  refine W.block ?_
  refine W.seqK fun K40 hK40 => ?_
  refine W.region ?_
  obtain ⟨x41, hxx41, hf⟩ := bindE hf
  refine WL.indexAddrO hs 0 rfl UN32 TI9 h22_9 h22_11 hxx41 (fun ad42 hatad42 => ?_)
  refine WL.loadO hs 0 rfl TI9 (.inr rfl) hatad42 hxx41 rfl (fun v43 hs => ?_)
  obtain rfl := hs.str 0 rfl
  refine WL.assign (v := bstr x41) rfl ?_
  refine WL.nil ?_
  refine hK40 _ _ ?_
  refine W.seqK fun K44 hK44 => ?_
  refine W.region ?_
  refine WL.move (v := .slice a5 x4.length c6) h22_1 ?_
  refine WL.move (v := bstr x41) rfl ?_
  obtain ⟨x45, hxx45, hf⟩ := bindE hf
  refine WL.call (vs := [.slice a5 x4.length c6, bstr x41]) hs FN21 ⟨rfl, ⟨rfl, trivial⟩⟩ (fun ok hA => slices_Contains_string.calls (x1 := x4) (x4 := x41) hxx45 (hA.get 1 rfl)) ?_
  rintro _ w hs
  refine WL.nil ?_
  refine hK44 _ _ ?_
  rcases iteE hf with ⟨hc46, hf⟩ | ⟨hc46, hf⟩
  {
  refine W.cond_true (bool_tr rfl hc46) ?_
  refine W.region ?_
  refine WL.move (v := .slice a24 n26 c25) h22_5 ?_
  refine WL.move (v := bstr x41) rfl ?_
  refine WL.buildSlice (n := 1) (vs := [(0, bstr x41)]) (cs := [bstr x41]) hs ⟨⟨rfl, rfl⟩, trivial⟩ (bls PS32 (by decide) rfl) (fun g47 w hs => ?_)
  obtain ⟨x48, hxx48, hf⟩ := bindE hf
  obtain ⟨hbx48, hex48⟩ := appE hxx48
  refine WL.append (ys := [x41]) (zs := x48) hs 2 rfl 0 rfl UN32 EI9 rfl rfl (fun ok hA => (Cells.one (T := tStr) rfl)) hbx48 (by omega) hex48 (fun v49 w hs => ?_)
  obtain ⟨a50, n52, c51, rfl⟩ := hs.ownv3 2 rfl
  refine WL.assign (v := .slice a50 n52 c51) rfl ?_
  refine WL.nil ?_
  exact Jk38 x48 a50 c51 n52 _ _ h22_1 rfl h22_9 h22_10 h22_11 ((hs.mask [false, true, true]).pick [1]) hf }
  {
  refine W.cond_false (bool_tr rfl hc46) ?_
  refine W.skip ?_
  exact Jk38 x23 a24 c25 n26 _ _ h22_1 h22_5 h22_9 h22_10 h22_11 ((hs.mask [true, true]).pick [1]) hf } }
  {
  refine W.cond_false (bool_tr rfl hc31) ?_
  refine W.exit ?_
  have hr := Option.some.inj hf; subst hr
  have hr := hbbs28 _ rfl; subst hr
  have hf := hfs28
  exact Jk15 x23 a24 c25 n26 _ _ h22_5 ((hs.mask [false, true]).pick []) hf }
theorem esref32_Has.calls {ok : Nat → Prop} {w0 : World} {x1 : List (List UInt8)} {x4 : List UInt8} {a2 : Option Addr} {c3 : Nat} {r : Bool} (hf : esref32_Has x1 x4 = some r) (i0 : (vl (tSlice tStr) x1 (.slice a2 x1.length c3)).holds ok w0) :
    Calls Try.prog 22 #[.slice a2 x1.length c3, bstr x4] w0 fun e w' => ∃ v, e = .returned v ∧ ∃ y : Unit, v = .bool r ∧ St ok (bz w0) w' [] [] := by
  unfold esref32_Has at hf
  refine calls_of_W (fn := Try.f22) (N := 18) Try.func22 rfl Try.ntmps22 rfl ?_
  have hs : St ok (bz w0) w0 [vl (tSlice tStr) x1 (.slice a2 x1.length c3)] [] := St.init (All.cons i0 All.nil)
  clear i0
  refine W.seqK fun K5 hK5 => ?_
  refine W.region ?_
  refine WL.assign (v := .bool false) rfl ?_
  refine WL.nil ?_
  refine hK5 _ _ ?_
  refine W.seqK fun K6 hK6 => ?_
  have Jk8 : ∀  (ρ : Env) (w : World), St ok (bz w0) w [] [] → esref32_Has.j1 = some r → K6 ρ w := by
    intro  ρ w  hs hf
    refine hK6 _ _ ?_
    unfold esref32_Has.j1 at hf
    refine W.seqK fun K9 hK9 => ?_
    refine W.region ?_
    refine WL.assign (v := .bool false) rfl ?_
    refine WL.nil ?_
    refine hK9 _ _ ?_
    refine W.ret ?_
    have hr := Option.some.inj hf; subst hr
    exact ⟨_, resOk_one rfl rfl, (), rfl, (hs.mask []).pick []⟩
  refine W.seqK fun K10 hK10 => ?_
  refine W.region ?_
  refine WL.assign (v := .int .i64 0) rfl ?_
  refine WL.nil ?_
  refine hK10 _ _ ?_
  refine W.block ?_
  obtain ⟨bs13, hbs13, hfs13⟩ := bindE hf
  refine W.loop hbs13 (fun s ρ w => match s with | x12 => ρ 0 = .slice a2 x1.length c3 ∧ ρ 1 = bstr x4 ∧ ρ 5 = .int .i64 x12 ∧ St ok (bz w0) w [vl (tSlice tStr) x1 (.slice a2 x1.length c3)] []) ⟨rfl, rfl, rfl, (hs.mask []).pick [0]⟩ ?_
  intro x12 ρ w os13 hI hf hbbs13
  obtain ⟨h11_0, h11_1, h11_5, hs⟩ := hI
  unfold esref32_Has.l1 at hf
  refine W.seqK fun K14 hK14 => ?_
  refine W.seqK fun K15 hK15 => ?_
  refine W.region ?_
  refine WL.move (v := .int .i64 x12) h11_5 ?_
  refine WL.move (v := .slice a2 x1.length c3) h11_0 ?_
  refine WL.len (v := .slice a2 x1.length c3) rfl (len_slice UN32) ?_
  refine WL.bin (v := .bool (decide (x12 < (x1.length : Int)))) rfl rfl (ib_lss _ _ _) ?_
  refine WL.nil ?_
  refine hK15 _ _ ?_
  rcases iteE hf with ⟨hc16, hf⟩ | ⟨hc16, hf⟩
  {
  refine W.cond_true (bool_tr rfl hc16) ?_
  refine W.skip ?_
  refine hK14 _ _ ?_
  refine W.seqK fun K17 hK17 => ?_
  refine W.block ?_
  refine W.seqK fun K18 hK18 => ?_
  refine W.region ?_
  refine WL.move (v := .slice a2 x1.length c3) h11_0 ?_
  refine WL.move (v := .int .i64 x12) h11_5 ?_
  obtain ⟨x19, hxx19, hf⟩ := bindE hf
  refine WL.indexAddr hs 0 rfl UN32 TI9 rfl rfl hxx19 (fun ad20 hs => ?_)
  refine WL.loadP hs 0 rfl TI9 (.inr rfl) rfl (fun v21 hs => ?_)
  obtain rfl := hs.str 0 rfl
  refine WL.move (v := bstr x4) h11_1 ?_
  refine WL.binS (v := .bool (x19 == x4)) rfl rfl (sb_eql _ _) ?_
  refine WL.nil ?_
  refine hK18 _ _ ?_
  rcases iteE hf with ⟨hc22, hf⟩ | ⟨hc22, hf⟩
  {
  refine W.cond_true (bool_tr rfl hc22) ?_
  refine W.seqK fun K23 hK23 => ?_
  refine W.region ?_
  refine WL.assign (v := .bool true) rfl ?_
  refine WL.nil ?_
  refine hK23 _ _ ?_
  refine W.ret ?_
  have hr := Option.some.inj hf; subst hr
  have hr := hbbs13 _ rfl; subst hr
  have hf := hfs13
  have hr := Option.some.inj hf; subst hr
  exact ⟨_, resOk_one rfl rfl, (), rfl, (hs.mask []).pick []⟩ }
  {
  refine W.cond_false (bool_tr rfl hc22) ?_
  refine W.skip ?_
  refine hK17 _ _ ?_
  refine W.region ?_
  refine WL.move (v := .int .i64 x12) h11_5 ?_
  obtain ⟨x24, ex24, hf⟩ := letE hf
  refine WL.bin (v := .int .i64 x24) rfl rfl (ib_as ex24 (ib_add _ _ _)) ?_
  refine WL.assign (v := .int .i64 x24) rfl ?_
  refine WL.nil ?_
  exact ⟨_, (Option.some.inj hf).symm, h11_0, h11_1, rfl, (hs.mask []).pick [2]⟩ } }
  {
  refine W.cond_false (bool_tr rfl hc16) ?_
  refine W.exit ?_
  have hr := Option.some.inj hf; subst hr
  have hr := hbbs13 _ rfl; subst hr
  have hf := hfs13
  exact Jk8  _ _  ((hs.mask []).pick []) hf }
theorem esref32_Insert.calls {ok : Nat → Prop} {w0 : World} {x1 : List (List UInt8)} {x4 : List UInt8} {a2 : Option Addr} {c3 : Nat} {r : List (List UInt8)} (hf : esref32_Insert x1 x4 = some r) (i0 : (vl (tSlice tStr) x1 (.slice a2 x1.length c3)).holds ok w0) :
    Calls Try.prog 23 #[.slice a2 x1.length c3, bstr x4] w0 fun e w' => ∃ v, e = .returned v ∧ ∃ y : (Option Addr × Nat), v = .slice y.1 r.length y.2 ∧ St ok (bz w0) w' [vl (tSlice tStr) r (.slice y.1 r.length y.2)] [] := by
  unfold esref32_Insert at hf
  refine calls_of_W (fn := Try.f23) (N := 49) Try.func23 rfl Try.ntmps23 rfl ?_
  have hs : St ok (bz w0) w0 [vl (tSlice tStr) x1 (.slice a2 x1.length c3)] [] := St.init (All.cons i0 All.nil)
  clear i0
  refine W.seqK fun K5 hK5 => ?_
  refine W.region ?_
  refine WL.assign (v := .slice none 0 0) rfl ?_
  refine WL.nil ?_
  refine hK5 _ _ ?_
  refine W.seqK fun K6 hK6 => ?_
  refine W.region ?_
  refine WL.assign (v := .int .i64 0) rfl ?_
  refine WL.nil ?_
  refine hK6 _ _ ?_
  refine W.seqK fun K7 hK7 => ?_
  have Jk10 : ∀ (x9 : Int) (ρ : Env) (w : World), ρ 0 = .slice a2 x1.length c3 → ρ 1 = bstr x4 → ρ 5 = .int .i64 x9 → St ok (bz w0) w [vl (tSlice tStr) x1 (.slice a2 x1.length c3)] [] → esref32_Insert.j3 x1 x4 x9 = some r → K7 ρ w := by
    intro x9 ρ w h8_0 h8_1 h8_5 hs hf
    refine hK7 _ _ ?_
    unfold esref32_Insert.j3 at hf
    refine W.seqK fun K11 hK11 => ?_
    refine W.seqK fun K12 hK12 => ?_
    have Jk15 : ∀ (x14 : Bool) (ρ : Env) (w : World), ρ 0 = .slice a2 x1.length c3 → ρ 1 = bstr x4 → ρ 5 = .int .i64 x9 → ρ 32 = .bool x14 → St ok (bz w0) w [vl (tSlice tStr) x1 (.slice a2 x1.length c3)] [] → esref32_Insert.j2 x1 x4 x9 x14 = some r → K12 ρ w := by
      intro x14 ρ w h13_0 h13_1 h13_5 h13_32 hs hf
      refine hK12 _ _ ?_
      unfold esref32_Insert.j2 at hf
      rcases iteE hf with ⟨hc16, hf⟩ | ⟨hc16, hf⟩
      {
      refine W.cond_true (bool_tr h13_32 hc16) ?_
      refine W.seqK fun K17 hK17 => ?_
      refine W.region ?_
      refine WL.buildSlice0 hs UN32 TI9 (fun a18 w hs => ?_)
      refine WL.move (v := .slice a2 x1.length c3) h13_0 ?_
      have hs := hs.ownEmpty tStr 9 a18
      obtain ⟨x19, hxx19, hf⟩ := bindE hf
      obtain ⟨hbx19, hex19⟩ := appE hxx19
      refine WL.appendS (zs := x19) hs 0 rfl 0 rfl UN32 UN32 EI9 rfl rfl hbx19 (by omega) hex19 (fun v20 w hs => ?_)
      obtain ⟨a21, n23, c22, rfl⟩ := hs.ownv3 0 rfl
      refine WL.assign (v := .slice a21 n23 c22) rfl ?_
      refine WL.nil ?_
      refine hK17 _ _ ?_
      refine W.ret ?_
      have hr := Option.some.inj hf; subst hr
      obtain rfl := hs.ownLen 0 rfl
      have hs := hs.freezeOwn 0 rfl
      exact ⟨_, resOk_one rfl rfl, (a21, c22), rfl, (hs.mask []).pick [0]⟩ }
      {
      refine W.cond_false (bool_tr h13_32 hc16) ?_
      refine W.skip ?_
      refine hK11 _ _ ?_
      refine W.seqK fun K24 hK24 => ?_
      refine W.region ?_
      refine WL.buildSlice0 hs UN32 TI9 (fun a25 w hs => ?_)
      refine WL.move (v := .slice a2 x1.length c3) h13_0 ?_
      refine WL.move (v := .int .i64 x9) h13_5 ?_
      obtain ⟨x26, hxx26, hf⟩ := bindE hf
      refine WL.slice_h hs 0 rfl UN32 TI9 rfl rfl hxx26 (fun a27 c28 hs => ?_)
      have hs := hs.ownEmpty tStr 9 a25
      obtain ⟨x29, hxx29, hf⟩ := bindE hf
      obtain ⟨hbx29, hex29⟩ := appE hxx29
      refine WL.appendS (zs := x29) hs 0 rfl 0 rfl UN32 UN32 EI9 rfl rfl hbx29 (by omega) hex29 (fun v30 w hs => ?_)
      obtain ⟨a31, n33, c32, rfl⟩ := hs.ownv3 0 rfl
      refine WL.assign (v := .slice a31 n33 c32) rfl ?_
      refine WL.nil ?_
      refine hK24 _ _ ?_
      refine W.seqK fun K34 hK34 => ?_
      have Jk39 : ∀ (x36 : List (List UInt8)) (a37 : Option Addr) (c38 : Nat) (ρ : Env) (w : World), ρ 4 = .slice a37 x36.length c38 → St ok (bz w0) w [vl (tSlice tStr) x36 (.slice a37 x36.length c38)] [] → esref32_Insert.j1 x36 = some r → K34 ρ w := by
        intro x36 a37 c38 ρ w h35_4 hs hf
        refine hK34 _ _ ?_
        unfold esref32_Insert.j1 at hf
        refine W.ret ?_
        have hr := Option.some.inj hf; subst hr
        exact ⟨_, resOk_one rfl h35_4, (a37, c38), rfl, (hs.mask []).pick [0]⟩
      obtain ⟨x42, hxx42, hf⟩ := bindE hf
      obtain ⟨hbx42, hex42⟩ := appE hxx42
      obtain ⟨x47, hxx47, hf⟩ := bindE hf
      obtain ⟨x50, hxx50, hf⟩ := bindE hf
      obtain ⟨hbx50, hex50⟩ := appE hxx50
      have hs := hs.front 0 rfl
      refine W.anyT (by kernel_rfl) 8 1 [true, true, true, true, true, true, true, true, false] rfl rfl (poAt [pv (.slice a31 n33 c32), pv (bstr x4), pq (fun y : (Option Addr × Nat) => .slice y.1 ([x4]).length y.2) (fun v => [vl (tSlice tStr) [x4] v]) (fun v => []), ⟨fun _ v => ∃ y : (Option Addr × Nat × Nat), v = .slice y.1 y.2.1 y.2.2, fun _ => [], fun v => [own tStr 9 v x42], [own tStr 9 (.slice a31 n33 c32) x29], []⟩, pv (.slice a2 x1.length c3), pv (.int .i64 x9), pq (fun y : (Option Addr × Nat) => .slice y.1 x47.length y.2) (fun v => [vl (tSlice tStr) x47 v]) (fun v => []), pq (fun y : (Option Addr × Nat × Nat) => .slice y.1 y.2.1 y.2.2) (fun v => []) (fun v => [own tStr 9 v x50])]) (tkAt [[], [], [], [], [], [], [], [3]]) (Λ := []) hs (by kernel_rfl) (by kernel_rfl) (by kernel_rfl) (by kernel_rfl) ⟨⟨⟨⟨⟨⟨⟨⟨trivial, ?_⟩, ?_⟩, ?_⟩, ?_⟩, ?_⟩, ?_⟩, ?_⟩, ?_⟩ ?_
      {
      intro ρ w Γx Λx hs hu hp
      refine WL.move (v := .slice a31 n33 c32) (hu 6 rfl) ?_
      exact WL.nil ⟨rfl, _, rfl, rfl, hs.cutG 0 0⟩ }
      {
      intro ρ w Γx Λx hs hu hp
      refine WL.move (v := bstr x4) ((hu 1 rfl).trans h13_1) ?_
      exact WL.nil ⟨rfl, _, rfl, rfl, hs.cutG 0 0⟩ }
      {
      intro ρ w Γx Λx hs hu hp
      have e55 : ρ 42 = bstr x4 := (hp 1 rfl).1
      refine WL.buildSliceB (ys := [x4]) (n := 1) (vs := [(0, bstr x4)]) (cs := [bstr x4]) hs ⟨⟨rfl, e55⟩, trivial⟩ (bls PS32 (by decide) rfl) (fun ok hA => (Cells.one (T := tStr) rfl)) rfl (by decide) (fun a41 w hBl hs => ?_)
      have hs := hs.add (it := vl (tSlice tStr) [x4] (.slice a41 ([x4]).length 1)) fun ok hA => hA.get 0 rfl
      exact WL.nil ⟨rfl, _, rfl, ⟨(a41, 1), rfl⟩, hs.cutG 1 1⟩ }
      {
      intro ρ w Γx Λx hs hu hp
      have hs : St ok (bz w0) w (Γx ++ [vl (tSlice tStr) x26 (.slice a27 x26.length c28), vl (tSlice tStr) x1 (.slice a2 x1.length c3)]) (Λx ++ ([own tStr 9 (.slice a31 n33 c32) x29] ++ [])) := hs
      have e56 : ρ 41 = .slice a31 n33 c32 := (hp 0 rfl).1
      obtain ⟨⟨⟨a57, c58⟩, e59r⟩, hm60⟩ := hp 2 rfl
      have e59 : ρ 43 = .slice a57 ([x4]).length c58 := e59r
      rw [e59r] at hm60
      have hs := hs.memo1 (it := vl (tSlice tStr) [x4] (.slice a57 ([x4]).length c58)) (List.mem_append.2 (.inl (hm60 _ (List.mem_of_getElem? (i := 0) rfl))))
      refine WL.appendS (zs := x42) hs (Λx.length + 0) (getApp rfl) 0 rfl UN32 UN32 EI9 e56 e59 hbx42 (by omega) hex42 (fun v43 w hs => ?_)
      have hs := hs.backP
      obtain ⟨a44, n46, c45, rfl⟩ := hs.ownv3 0 rfl
      exact WL.nil ⟨rfl, _, rfl, ⟨(a44, n46, c45), rfl⟩, hs.cutG 0 1⟩ }
      {
      intro ρ w Γx Λx hs hu hp
      refine WL.move (v := .slice a2 x1.length c3) ((hu 0 rfl).trans h13_0) ?_
      exact WL.nil ⟨rfl, _, rfl, rfl, hs.cutG 0 0⟩ }
      {
      intro ρ w Γx Λx hs hu hp
      refine WL.move (v := .int .i64 x9) ((hu 5 rfl).trans h13_5) ?_
      exact WL.nil ⟨rfl, _, rfl, rfl, hs.cutG 0 0⟩ }
      {
      intro ρ w Γx Λx hs hu hp
      have e61 : ρ 45 = .slice a2 x1.length c3 := (hp 4 rfl).1
      have e62 : ρ 46 = .int .i64 x9 := (hp 5 rfl).1
      refine WL.slice_l hs (Γx.length + 1) (getApp rfl) UN32 TI9 e61 e62 hxx47 (fun a48 c49 hs => ?_)
      have hs := hs.add (it := vl (tSlice tStr) x47 (.slice a48 x47.length c49)) fun ok hA => hA.get 0 rfl
      exact WL.nil ⟨rfl, _, rfl, ⟨(a48, c49), rfl⟩, hs.cutG 1 1⟩ }
      {
      intro ρ w Γx Λx hs hu hp
      have hs : St ok (bz w0) w (Γx ++ [vl (tSlice tStr) x26 (.slice a27 x26.length c28), vl (tSlice tStr) x1 (.slice a2 x1.length c3)]) (Λx ++ ([own tStr 9 ((ρ 44)) x42] ++ [])) := hs
      obtain ⟨⟨⟨a63, n65, c64⟩, e66r⟩, hm67⟩ := hp 3 rfl
      have e66 : ρ 44 = .slice a63 n65 c64 := e66r
      rw [e66] at hs
      obtain ⟨⟨⟨a68, c69⟩, e70r⟩, hm71⟩ := hp 6 rfl
      have e70 : ρ 47 = .slice a68 x47.length c69 := e70r
      rw [e70r] at hm71
      have hs := hs.memo1 (it := vl (tSlice tStr) x47 (.slice a68 x47.length c69)) (List.mem_append.2 (.inl (hm71 _ (List.mem_of_getElem? (i := 0) rfl))))
      refine WL.appendS (zs := x50) hs (Λx.length + 0) (getApp rfl) 0 rfl UN32 UN32 EI9 e66 e70 hbx50 (by omega) hex50 (fun v51 w hs => ?_)
      have hs := hs.backP
      obtain ⟨a52, n54, c53, rfl⟩ := hs.ownv3 0 rfl
      exact WL.nil ⟨rfl, _, rfl, ⟨(a52, n54, c53), rfl⟩, hs.cutG 0 1⟩ }
      {
      intro ρ w hs hu72 hp
      obtain ⟨⟨⟨⟨⟨⟨⟨⟨_, hp0_⟩, hp1_⟩, hp2_⟩, hp3_⟩, hp4_⟩, hp5_⟩, hp6_⟩, hp7_⟩ := hp
      have hs : St ok (bz w0) w [vl (tSlice tStr) x47 (ρ 47), vl (tSlice tStr) [x4] (ρ 43), vl (tSlice tStr) x26 (.slice a27 x26.length c28), vl (tSlice tStr) x1 (.slice a2 x1.length c3)] [own tStr 9 ((ρ 48)) x50] := hs
      obtain ⟨⟨a73, n75, c74⟩, e76⟩ := hp7_
      have e76 : ρ 48 = .slice a73 n75 c74 := e76
      try rw [e76] at hs
      obtain ⟨⟨a77, c78⟩, e79⟩ := hp6_
      have e79 : ρ 47 = .slice a77 x47.length c78 := e79
      try rw [e79] at hs
      have e80 : ρ 46 = .int .i64 x9 := hp5_
      have e81 : ρ 45 = .slice a2 x1.length c3 := hp4_
      obtain ⟨⟨a82, n84, c83⟩, e85⟩ := hp3_
      have e85 : ρ 44 = .slice a82 n84 c83 := e85
      try rw [e85] at hs
      obtain ⟨⟨a86, c87⟩, e88⟩ := hp2_
      have e88 : ρ 43 = .slice a86 ([x4]).length c87 := e88
      try rw [e88] at hs
      have e89 : ρ 42 = bstr x4 := hp1_
      have e90 : ρ 41 = .slice a31 n33 c32 := hp0_
      refine WA.step [8] (by kernel_rfl) (by simp) ⟨?_, trivial⟩
      refine WL.assign (v := .slice a73 n75 c74) e76 ?_
      refine WL.nil ⟨rfl, _, rfl, ?_⟩
      refine WA.done (by kernel_rfl) ?_
      obtain rfl := hs.ownLen 0 rfl
      have hs := hs.freezeOwn 0 rfl
      exact Jk39 x50 a73 c74 _ _ rfl ((hs.mask []).pick [0]) hf } }
    refine W.region ?_
    refine WL.move (v := .int .i64 x9) h8_5 ?_
    refine WL.move (v := .slice a2 x1.length c3) h8_0 ?_
    refine WL.len (v := .slice a2 x1.length c3) rfl (len_slice UN32) ?_
    refine WL.bin (v := .bool (decide (x9 < (x1.length : Int)))) rfl rfl (ib_lss _ _ _) ?_
    refine WL.move (v := .bool (decide (x9 < (x1.length : Int)))) rfl ?_
    rcases iteE hf with ⟨hc91, hf⟩ | ⟨hc91, hf⟩
    {
    refine WL.move (v := .slice a2 x1.length c3) h8_0 ?_ (hg := (wanted_of rfl rfl (bool_tr rfl hc91)).trans rfl)
    refine WL.move (v := .int .i64 x9) h8_5 ?_ (hg := (wanted_of rfl rfl (bool_tr rfl hc91)).trans rfl)
    obtain ⟨x92, hxx92, hf⟩ := bindE hf
    refine WL.indexAddr hs 0 rfl UN32 TI9 rfl rfl hxx92 (fun ad93 hs => ?_) (hg := (wanted_of rfl rfl (bool_tr rfl hc91)).trans rfl)
    refine WL.loadP hs 0 rfl TI9 (.inr rfl) rfl (fun v94 hs => ?_) (hg := (wanted_of rfl rfl (bool_tr rfl hc91)).trans rfl)
    obtain rfl := hs.str 0 rfl
    refine WL.move (v := bstr x4) h8_1 ?_ (hg := (wanted_of rfl rfl (bool_tr rfl hc91)).trans rfl)
    refine WL.binS (v := .bool (x92 == x4)) rfl rfl (sb_eql _ _) ?_ (hg := (wanted_of rfl rfl (bool_tr rfl hc91)).trans rfl)
    refine WL.pickT (v := .bool (x92 == x4)) (bool_tr rfl hc91) rfl ?_
    refine WL.nil ?_
    exact Jk15 (x92 == x4) _ _ h8_0 h8_1 h8_5 rfl ((hs.mask []).pick [2]) hf }
    {
    refine WL.pass ((wanted_of rfl rfl (bool_tr rfl hc91)).trans rfl) rfl ?_
    refine WL.pass ((wanted_of rfl rfl (bool_tr rfl hc91)).trans rfl) rfl ?_
    refine WL.pass ((wanted_of rfl rfl (bool_tr rfl hc91)).trans rfl) rfl ?_
    refine WL.pass ((wanted_of rfl rfl (bool_tr rfl hc91)).trans rfl) rfl ?_
    refine WL.pass ((wanted_of rfl rfl (bool_tr rfl hc91)).trans rfl) rfl ?_
    refine WL.pass ((wanted_of rfl rfl (bool_tr rfl hc91)).trans rfl) rfl ?_
    refine WL.pickF (v := .bool false) (bool_tr rfl hc91) rfl ?_
    refine WL.nil ?_
    exact Jk15 false _ _ h8_0 h8_1 h8_5 rfl ((hs.mask []).pick [0]) hf }
  refine W.block ?_
  obtain ⟨bs97, hbs97, hfs97⟩ := bindE hf
  refine W.loop hbs97 (fun s ρ w => match s with | x96 => ρ 0 = .slice a2 x1.length c3 ∧ ρ 1 = bstr x4 ∧ ρ 5 = .int .i64 x96 ∧ St ok (bz w0) w [vl (tSlice tStr) x1 (.slice a2 x1.length c3)] []) ⟨rfl, rfl, rfl, (hs.mask []).pick [0]⟩ ?_
  intro x96 ρ w os97 hI hf hbbs97
  obtain ⟨h95_0, h95_1, h95_5, hs⟩ := hI
  unfold esref32_Insert.l1 at hf
  refine W.seqK fun K98 hK98 => ?_
  refine W.seqK fun K99 hK99 => ?_
  have Jk102 : ∀ (x101 : Bool) (ρ : Env) (w : World), ρ 0 = .slice a2 x1.length c3 → ρ 1 = bstr x4 → ρ 5 = .int .i64 x96 → ρ 18 = .bool x101 → St ok (bz w0) w [vl (tSlice tStr) x1 (.slice a2 x1.length c3)] [] → esref32_Insert.j4 x96 x101 = some os97 → K99 ρ w := by
    intro x101 ρ w h100_0 h100_1 h100_5 h100_18 hs hf
    refine hK99 _ _ ?_
    unfold esref32_Insert.j4 at hf
    rcases iteE hf with ⟨hc103, hf⟩ | ⟨hc103, hf⟩
    {
    refine W.cond_true (bool_tr h100_18 hc103) ?_
    refine W.skip ?_
    refine hK98 _ _ ?_
    refine W.block ?_
    refine W.region ?_
    refine WL.move (v := .int .i64 x96) h100_5 ?_
    obtain ⟨x104, ex104, hf⟩ := letE hf
    refine WL.bin (v := .int .i64 x104) rfl rfl (ib_as ex104 (ib_add _ _ _)) ?_
    refine WL.assign (v := .int .i64 x104) rfl ?_
    refine WL.nil ?_
    exact ⟨_, (Option.some.inj hf).symm, h100_0, h100_1, rfl, (hs.mask []).pick [0]⟩ }
    {
    refine W.cond_false (bool_tr h100_18 hc103) ?_
    refine W.exit ?_
    have hr := Option.some.inj hf; subst hr
    have hr := hbbs97 _ rfl; subst hr
    have hf := hfs97
    exact Jk10 x96 _ _ h100_0 h100_1 h100_5 ((hs.mask []).pick [0]) hf }
  refine W.region ?_
  refine WL.move (v := .int .i64 x96) h95_5 ?_
  refine WL.move (v := .slice a2 x1.length c3) h95_0 ?_
  refine WL.len (v := .slice a2 x1.length c3) rfl (len_slice UN32) ?_
  refine WL.bin (v := .bool (decide (x96 < (x1.length : Int)))) rfl rfl (ib_lss _ _ _) ?_
  refine WL.move (v := .bool (decide (x96 < (x1.length : Int)))) rfl ?_
  rcases iteE hf with ⟨hc105, hf⟩ | ⟨hc105, hf⟩
  {
  refine WL.move (v := .slice a2 x1.length c3) h95_0 ?_ (hg := (wanted_of rfl rfl (bool_tr rfl hc105)).trans rfl)
  refine WL.move (v := .int .i64 x96) h95_5 ?_ (hg := (wanted_of rfl rfl (bool_tr rfl hc105)).trans rfl)
  obtain ⟨x106, hxx106, hf⟩ := bindE hf
  refine WL.indexAddr hs 0 rfl UN32 TI9 rfl rfl hxx106 (fun ad107 hs => ?_) (hg := (wanted_of rfl rfl (bool_tr rfl hc105)).trans rfl)
  refine WL.loadP hs 0 rfl TI9 (.inr rfl) rfl (fun v108 hs => ?_) (hg := (wanted_of rfl rfl (bool_tr rfl hc105)).trans rfl)
  obtain rfl := hs.str 0 rfl
  refine WL.move (v := bstr x4) h95_1 ?_ (hg := (wanted_of rfl rfl (bool_tr rfl hc105)).trans rfl)
  refine WL.binS (v := .bool (Op.bytesLess x106 x4)) rfl rfl (sb_lss _ _) ?_ (hg := (wanted_of rfl rfl (bool_tr rfl hc105)).trans rfl)
  refine WL.pickT (v := .bool (Op.bytesLess x106 x4)) (bool_tr rfl hc105) rfl ?_
  refine WL.nil ?_
  exact Jk102 (Op.bytesLess x106 x4) _ _ h95_0 h95_1 h95_5 rfl ((hs.mask []).pick [2]) hf }
  {
  refine WL.pass ((wanted_of rfl rfl (bool_tr rfl hc105)).trans rfl) rfl ?_
  refine WL.pass ((wanted_of rfl rfl (bool_tr rfl hc105)).trans rfl) rfl ?_
  refine WL.pass ((wanted_of rfl rfl (bool_tr rfl hc105)).trans rfl) rfl ?_
  refine WL.pass ((wanted_of rfl rfl (bool_tr rfl hc105)).trans rfl) rfl ?_
  refine WL.pass ((wanted_of rfl rfl (bool_tr rfl hc105)).trans rfl) rfl ?_
  refine WL.pass ((wanted_of rfl rfl (bool_tr rfl hc105)).trans rfl) rfl ?_
  refine WL.pickF (v := .bool false) (bool_tr rfl hc105) rfl ?_
  refine WL.nil ?_
  exact Jk102 false _ _ h95_0 h95_1 h95_5 rfl ((hs.mask []).pick [0]) hf }
theorem esref32_Intersect.calls {ok : Nat → Prop} {w0 : World} {x1 : List (List UInt8)} {x4 : List (List UInt8)} {a2 : Option Addr} {c3 : Nat} {a5 : Option Addr} {c6 : Nat} {r : List (List UInt8)} (hf : esref32_Intersect x1 x4 = some r) (i0 : (vl (tSlice tStr) x1 (.slice a2 x1.length c3)).holds ok w0) (i1 : (vl (tSlice tStr) x4 (.slice a5 x4.length c6)).holds ok w0) :
    Calls Try.prog 11 #[.slice a2 x1.length c3, .slice a5 x4.length c6] w0 fun e w' => ∃ v, e = .returned v ∧ ∃ y : (Option Addr × Nat), v = .slice y.1 r.length y.2 ∧ St ok (bz w0) w' [vl (tSlice tStr) r (.slice y.1 r.length y.2)] [] := by
  unfold esref32_Intersect at hf
  refine calls_of_W (fn := Try.f11) (N := 26) Try.func11 rfl Try.ntmps11 rfl ?_
  have hs : St ok (bz w0) w0 [vl (tSlice tStr) x1 (.slice a2 x1.length c3), vl (tSlice tStr) x4 (.slice a5 x4.length c6)] [] := St.init (All.cons i0 (All.cons i1 All.nil))
  clear i0 i1
  refine W.seqK fun K7 hK7 => ?_
  refine W.region ?_
  refine WL.assign (v := .slice none 0 0) rfl ?_
  refine WL.nil ?_
  refine hK7 _ _ ?_
  refine W.seqK fun K8 hK8 => ?_
  refine W.region ?_
  refine WL.assign (v := .slice none 0 0) rfl ?_
  refine WL.nil ?_
  refine hK8 _ _ ?_
  refine W.seqK fun K9 hK9 => ?_
  have Jk14 : ∀ (x11 : List (List UInt8)) (a12 : Option Addr) (c13 : Nat) (ρ : Env) (w : World), ρ 5 = .slice a12 x11.length c13 → St ok (bz w0) w [vl (tSlice tStr) x11 (.slice a12 x11.length c13)] [] → esref32_Intersect.j1 x11 = some r → K9 ρ w := by
    intro x11 a12 c13 ρ w h10_5 hs hf
    refine hK9 _ _ ?_
    unfold esref32_Intersect.j1 at hf
    refine W.seqK fun K15 hK15 => ?_
    refine W.region ?_
    refine WL.move (v := .slice a12 x11.length c13) h10_5 ?_
    refine WL.assign (v := .slice a12 x11.length c13) rfl ?_
    refine WL.nil ?_
    refine hK15 _ _ ?_
    refine W.ret ?_
    have hr := Option.some.inj hf; subst hr
    exact ⟨_, resOk_one rfl rfl, (a12, c13), rfl, (hs.mask []).pick [0]⟩
  refine W.seqK fun K16 hK16 => ?_
  refine W.region ?_
  refine WL.assign (v := .int .i64 0) rfl ?_
  refine WL.nil ?_
  refine hK16 _ _ ?_
  refine W.block ?_
  obtain ⟨bs22, hbs22, hfs22⟩ := bindE hf
  have hs := hs.add (it := vl (tSlice tStr) [] (.slice none 0 0)) fun ok hA => V_nil
  refine W.loop hbs22 (fun s ρ w => match s with | (x18, x21) => ∃ (a19 : Option Addr), ∃ (c20 : Nat), ρ 0 = .slice a2 x1.length c3 ∧ ρ 1 = .slice a5 x4.length c6 ∧ ρ 5 = .slice a19 x18.length c20 ∧ ρ 6 = .int .i64 x21 ∧ St ok (bz w0) w [vl (tSlice tStr) x1 (.slice a2 x1.length c3), vl (tSlice tStr) x4 (.slice a5 x4.length c6), vl (tSlice tStr) x18 (.slice a19 x18.length c20)] []) ⟨none, 0, rfl, rfl, rfl, rfl, (hs.mask []).pick [1, 2, 0]⟩ ?_
  intro s ρ w os22 hI hf hbbs22
  obtain ⟨x18, x21⟩ := s
  obtain ⟨a19, c20, h17_0, h17_1, h17_5, h17_6, hs⟩ := hI
  unfold esref32_Intersect.l1 at hf
  refine W.seqK fun K23 hK23 => ?_
  refine W.seqK fun K24 hK24 => ?_
  refine W.region ?_
  refine WL.move (v := .int .i64 x21) h17_6 ?_
  refine WL.move (v := .slice a2 x1.length c3) h17_0 ?_
  refine WL.len (v := .slice a2 x1.length c3) rfl (len_slice UN32) ?_
  refine WL.bin (v := .bool (decide (x21 < (x1.length : Int)))) rfl rfl (ib_lss _ _ _) ?_
  refine WL.nil ?_
  refine hK24 _ _ ?_
  rcases iteE hf with ⟨hc25, hf⟩ | ⟨hc25, hf⟩
  {
  refine W.cond_true (bool_tr rfl hc25) ?_
  refine W.skip ?_
  refine hK23 _ _ ?_
  refine W.seqK fun K26 hK26 => ?_
  have Jk31 : ∀ (x28 : List (List UInt8)) (a29 : Option Addr) (c30 : Nat) (ρ : Env) (w : World), ρ 0 = .slice a2 x1.length c3 → ρ 1 = .slice a5 x4.length c6 → ρ 5 = .slice a29 x28.length c30 → ρ 6 = .int .i64 x21 → St ok (bz w0) w [vl (tSlice tStr) x1 (.slice a2 x1.length c3), vl (tSlice tStr) x4 (.slice a5 x4.length c6), vl (tSlice tStr) x28 (.slice a29 x28.length c30)] [] → esref32_Intersect.j2 x21 x28 = some os22 → K26 ρ w := by
    intro x28 a29 c30 ρ w h27_0 h27_1 h27_5 h27_6 hs hf
    refine hK26 _ _ ?_
    unfold esref32_Intersect.j2 at hf
    refine W.region ?_
    refine WL.move (v := .int .i64 x21) h27_6 ?_
    obtain ⟨x32, ex32, hf⟩ := letE hf
    refine WL.bin (v := .int .i64 x32) rfl rfl (ib_as ex32 (ib_add _ _ _)) ?_
    refine WL.assign (v := .int .i64 x32) rfl ?_
    refine WL.nil ?_
    exact ⟨_, (Option.some.inj hf).symm, a29, c30, h27_0, h27_1, h27_5, rfl, (hs.mask []).pick [0, 1, 2]⟩
  refine W.block ?_
  refine W.seqK fun K33 hK33 => ?_
  refine W.region ?_
  refine WL.move (v := .slice a5 x4.length c6) h17_1 ?_
  refine WL.move (v := .slice a2 x1.length c3) h17_0 ?_
  refine WL.move (v := .int .i64 x21) h17_6 ?_
  obtain ⟨x34, hxx34, hf⟩ := bindE hf
  refine WL.indexAddr hs 0 rfl UN32 TI9 rfl rfl hxx34 (fun ad35 hs => ?_)
  refine WL.loadP hs 0 rfl TI9 (.inr rfl) rfl (fun v36 hs => ?_)
  obtain rfl := hs.str 0 rfl
  obtain ⟨x37, hxx37, hf⟩ := bindE hf
  refine WL.call (vs := [.slice a5 x4.length c6, bstr x34]) hs FN22 ⟨rfl, ⟨rfl, trivial⟩⟩ (fun ok hA => esref32_Has.calls (x1 := x4) (x4 := x34) hxx37 (hA.get 3 rfl)) ?_
  rintro _ w hs
  refine WL.nil ?_
  refine hK33 _ _ ?_
  rcases iteE hf with ⟨hc38, hf⟩ | ⟨hc38, hf⟩
  {
  refine W.cond_true (bool_tr rfl hc38) ?_
  refine W.region ?_
  refine WL.move (v := .slice a19 x18.length c20) h17_5 ?_
  refine WL.move (v := .slice a2 x1.length c3) h17_0 ?_
  refine WL.move (v := .int .i64 x21) h17_6 ?_
  obtain ⟨x39, hxx39, hf⟩ := bindE hf
  refine WL.indexAddr hs 2 rfl UN32 TI9 rfl rfl hxx39 (fun ad40 hs => ?_)
  refine WL.loadP hs 0 rfl TI9 (.inr rfl) rfl (fun v41 hs => ?_)
  obtain rfl := hs.str 0 rfl
  obtain ⟨x42, hxx42, hf⟩ := bindE hf
  refine WL.call (vs := [.slice a19 x18.length c20, bstr x39]) hs FN23 ⟨rfl, ⟨rfl, trivial⟩⟩ (fun ok hA => esref32_Insert.calls (x1 := x18) (x4 := x39) hxx42 (hA.get 6 rfl)) ?_
  rintro ⟨a43, c44⟩ w hs
  refine WL.assign (v := .slice a43 x42.length c44) rfl ?_
  refine WL.nil ?_
  exact Jk31 x42 a43 c44 _ _ h17_0 h17_1 rfl h17_6 ((hs.mask []).pick [5, 6, 0]) hf }
  {
  refine W.cond_false (bool_tr rfl hc38) ?_
  refine W.skip ?_
  exact Jk31 x18 a19 c20 _ _ h17_0 h17_1 h17_5 h17_6 ((hs.mask []).pick [2, 3, 4]) hf } }
  {
  refine W.cond_false (bool_tr rfl hc25) ?_
  refine W.exit ?_
  have hr := Option.some.inj hf; subst hr
  have hr := hbbs22 _ rfl; subst hr
  have hf := hfs22
  exact Jk14 x18 a19 c20 _ _ h17_5 ((hs.mask []).pick [2]) hf }
theorem esref32_EqualStrings.calls {ok : Nat → Prop} {w0 : World} {x1 : List (List UInt8)} {x4 : List (List UInt8)} {a2 : Option Addr} {c3 : Nat} {a5 : Option Addr} {c6 : Nat} {r : Bool} (hf : esref32_EqualStrings x1 x4 = some r) (i0 : (vl (tSlice tStr) x1 (.slice a2 x1.length c3)).holds ok w0) (i1 : (vl (tSlice tStr) x4 (.slice a5 x4.length c6)).holds ok w0) :
    Calls Try.prog 10 #[.slice a2 x1.length c3, .slice a5 x4.length c6] w0 fun e w' => ∃ v, e = .returned v ∧ ∃ y : Unit, v = .bool r ∧ St ok (bz w0) w' [] [] := by
  unfold esref32_EqualStrings at hf
  refine calls_of_W (fn := Try.f10) (N := 26) Try.func10 rfl Try.ntmps10 rfl ?_
  have hs : St ok (bz w0) w0 [vl (tSlice tStr) x1 (.slice a2 x1.length c3), vl (tSlice tStr) x4 (.slice a5 x4.length c6)] [] := St.init (All.cons i0 (All.cons i1 All.nil))
  clear i0 i1
  refine W.seqK fun K7 hK7 => ?_
  refine W.region ?_
  refine WL.assign (v := .bool false) rfl ?_
  refine WL.nil ?_
  refine hK7 _ _ ?_
  refine W.seqK fun K8 hK8 => ?_
  refine W.seqK fun K9 hK9 => ?_
  refine W.region ?_
  refine WL.move (v := .slice a2 x1.length c3) rfl ?_
  refine WL.len (v := .slice a2 x1.length c3) rfl (len_slice UN32) ?_
  refine WL.move (v := .slice a5 x4.length c6) rfl ?_
  refine WL.len (v := .slice a5 x4.length c6) rfl (len_slice UN32) ?_
  refine WL.bin (v := .bool ((x1.length : Int) != (x4.length : Int))) rfl rfl (ib_neq _ _ _) ?_
  refine WL.nil ?_
  refine hK9 _ _ ?_
  rcases iteE hf with ⟨hc10, hf⟩ | ⟨hc10, hf⟩
  {
  refine W.cond_true (bool_tr rfl hc10) ?_
  refine W.seqK fun K11 hK11 => ?_
  refine W.region ?_
  refine WL.assign (v := .bool false) rfl ?_
  refine WL.nil ?_
  refine hK11 _ _ ?_
  refine W.ret ?_
  have hr := Option.some.inj hf; subst hr
  exact ⟨_, resOk_one rfl rfl, (), rfl, (hs.mask []).pick []⟩ }
  {
  refine W.cond_false (bool_tr rfl hc10) ?_
  refine W.skip ?_
  refine hK8 _ _ ?_
  refine W.seqK fun K12 hK12 => ?_
  have Jk14 : ∀  (ρ : Env) (w : World), St ok (bz w0) w [] [] → esref32_EqualStrings.j1 = some r → K12 ρ w := by
    intro  ρ w  hs hf
    refine hK12 _ _ ?_
    unfold esref32_EqualStrings.j1 at hf
    refine W.seqK fun K15 hK15 => ?_
    refine W.region ?_
    refine WL.assign (v := .bool true) rfl ?_
    refine WL.nil ?_
    refine hK15 _ _ ?_
    refine W.ret ?_
    have hr := Option.some.inj hf; subst hr
    exact ⟨_, resOk_one rfl rfl, (), rfl, (hs.mask []).pick []⟩
  refine W.seqK fun K16 hK16 => ?_
  refine W.region ?_
  refine WL.assign (v := .int .i64 0) rfl ?_
  refine WL.nil ?_
  refine hK16 _ _ ?_
  refine W.block ?_
  obtain ⟨bs19, hbs19, hfs19⟩ := bindE hf
  refine W.loop hbs19 (fun s ρ w => match s with | x18 => ρ 0 = .slice a2 x1.length c3 ∧ ρ 1 = .slice a5 x4.length c6 ∧ ρ 5 = .int .i64 x18 ∧ St ok (bz w0) w [vl (tSlice tStr) x1 (.slice a2 x1.length c3), vl (tSlice tStr) x4 (.slice a5 x4.length c6)] []) ⟨rfl, rfl, rfl, (hs.mask []).pick [0, 1]⟩ ?_
  intro x18 ρ w os19 hI hf hbbs19
  obtain ⟨h17_0, h17_1, h17_5, hs⟩ := hI
  unfold esref32_EqualStrings.l1 at hf
  refine W.seqK fun K20 hK20 => ?_
  refine W.seqK fun K21 hK21 => ?_
  refine W.region ?_
  refine WL.move (v := .int .i64 x18) h17_5 ?_
  refine WL.move (v := .slice a2 x1.length c3) h17_0 ?_
  refine WL.len (v := .slice a2 x1.length c3) rfl (len_slice UN32) ?_
  refine WL.bin (v := .bool (decide (x18 < (x1.length : Int)))) rfl rfl (ib_lss _ _ _) ?_
  refine WL.nil ?_
  refine hK21 _ _ ?_
  rcases iteE hf with ⟨hc22, hf⟩ | ⟨hc22, hf⟩
  {
  refine W.cond_true (bool_tr rfl hc22) ?_
  refine W.skip ?_
  refine hK20 _ _ ?_
  refine W.seqK fun K23 hK23 => ?_
  refine W.block ?_
  refine W.seqK fun K24 hK24 => ?_
  obtain ⟨x25, hxx25, hf⟩ := bindE hf
  obtain ⟨x28, hxx28, hf⟩ := bindE hf
  refine W.any (by kernel_rfl) 9 0 [true, true, true, true, true, true, true, true, true] rfl rfl (poAt [pv (.slice a2 x1.length c3), pv (.int .i64 x18), pq (fun y : Addr => .pointer (some y)) (fun v => [pl tStr x25 (adOf v)]) (fun v => []), pv (bstr x25), pv (.slice a5 x4.length c6), pv (.int .i64 x18), pq (fun y : Addr => .pointer (some y)) (fun v => [pl tStr x28 (adOf v)]) (fun v => []), pv (bstr x28), pv (.bool (x25 != x28))]) (Λ := []) hs (by kernel_rfl) (by kernel_rfl) (by kernel_rfl) ⟨⟨⟨⟨⟨⟨⟨⟨⟨trivial, ?_⟩, ?_⟩, ?_⟩, ?_⟩, ?_⟩, ?_⟩, ?_⟩, ?_⟩, ?_⟩ ?_
  {
  intro ρ w Γx Λx hs hu hp
  refine WL.move (v := .slice a2 x1.length c3) ((hu 0 rfl).trans h17_0) ?_
  exact WL.nil ⟨rfl, _, rfl, rfl, hs.cutG 0 0⟩ }
  {
  intro ρ w Γx Λx hs hu hp
  refine WL.move (v := .int .i64 x18) ((hu 5 rfl).trans h17_5) ?_
  exact WL.nil ⟨rfl, _, rfl, rfl, hs.cutG 0 0⟩ }
  {
  intro ρ w Γx Λx hs hu hp
  have e31 : ρ 17 = .slice a2 x1.length c3 := (hp 0 rfl).1
  have e32 : ρ 18 = .int .i64 x18 := (hp 1 rfl).1
  refine WL.indexAddr hs (Γx.length + 0) (getApp rfl) UN32 TI9 e31 e32 hxx25 (fun ad26 hs => ?_)
  have hs := hs.add (it := pl tStr x25 ad26) fun ok hA => hA.get 0 rfl
  exact WL.nil ⟨rfl, _, rfl, ⟨ad26, rfl⟩, hs.cutG 1 1⟩ }
  {
  intro ρ w Γx Λx hs hu hp
  obtain ⟨⟨ad33, e34r⟩, hm35⟩ := hp 2 rfl
  have e34 : ρ 19 = .pointer (some ad33) := e34r
  rw [e34r] at hm35
  have hs := hs.memo1 (it := pl tStr x25 ad33) (List.mem_append.2 (.inl (hm35 _ (List.mem_of_getElem? (i := 0) rfl))))
  refine WL.loadP hs 0 rfl TI9 (.inr rfl) e34 (fun v27 hs => ?_)
  obtain rfl := hs.str 0 rfl
  exact WL.nil ⟨rfl, _, rfl, rfl, hs.cutG 0 2⟩ }
  {
  intro ρ w Γx Λx hs hu hp
  refine WL.move (v := .slice a5 x4.length c6) ((hu 1 rfl).trans h17_1) ?_
  exact WL.nil ⟨rfl, _, rfl, rfl, hs.cutG 0 0⟩ }
  {
  intro ρ w Γx Λx hs hu hp
  refine WL.move (v := .int .i64 x18) ((hu 5 rfl).trans h17_5) ?_
  exact WL.nil ⟨rfl, _, rfl, rfl, hs.cutG 0 0⟩ }
  {
  intro ρ w Γx Λx hs hu hp
  have e36 : ρ 21 = .slice a5 x4.length c6 := (hp 4 rfl).1
  have e37 : ρ 22 = .int .i64 x18 := (hp 5 rfl).1
  refine WL.indexAddr hs (Γx.length + 1) (getApp rfl) UN32 TI9 e36 e37 hxx28 (fun ad29 hs => ?_)
  have hs := hs.add (it := pl tStr x28 ad29) fun ok hA => hA.get 0 rfl
  exact WL.nil ⟨rfl, _, rfl, ⟨ad29, rfl⟩, hs.cutG 1 1⟩ }
  {
  intro ρ w Γx Λx hs hu hp
  obtain ⟨⟨ad38, e39r⟩, hm40⟩ := hp 6 rfl
  have e39 : ρ 23 = .pointer (some ad38) := e39r
  rw [e39r] at hm40
  have hs := hs.memo1 (it := pl tStr x28 ad38) (List.mem_append.2 (.inl (hm40 _ (List.mem_of_getElem? (i := 0) rfl))))
  refine WL.loadP hs 0 rfl TI9 (.inr rfl) e39 (fun v30 hs => ?_)
  obtain rfl := hs.str 0 rfl
  exact WL.nil ⟨rfl, _, rfl, rfl, hs.cutG 0 2⟩ }
  {
  intro ρ w Γx Λx hs hu hp
  have e41 : ρ 20 = bstr x25 := (hp 3 rfl).1
  have e42 : ρ 24 = bstr x28 := (hp 7 rfl).1
  refine WL.binS (v := .bool (x25 != x28)) e41 e42 (sb_neq _ _) ?_
  exact WL.nil ⟨rfl, _, rfl, rfl, hs.cutG 0 0⟩ }
  {
  intro ρ w hs hu43 hp
  obtain ⟨⟨⟨⟨⟨⟨⟨⟨⟨_, hp0_⟩, hp1_⟩, hp2_⟩, hp3_⟩, hp4_⟩, hp5_⟩, hp6_⟩, hp7_⟩, hp8_⟩ := hp
  have hs : St ok (bz w0) w [pl tStr x28 (adOf (ρ 23)), pl tStr x25 (adOf (ρ 19)), vl (tSlice tStr) x1 (.slice a2 x1.length c3), vl (tSlice tStr) x4 (.slice a5 x4.length c6)] [] := hs
  have e44 : ρ 25 = .bool (x25 != x28) := hp8_
  have e45 : ρ 24 = bstr x28 := hp7_
  obtain ⟨ad46, e47⟩ := hp6_
  have e47 : ρ 23 = .pointer (some ad46) := e47
  try rw [e47] at hs
  have e48 : ρ 22 = .int .i64 x18 := hp5_
  have e49 : ρ 21 = .slice a5 x4.length c6 := hp4_
  have e50 : ρ 20 = bstr x25 := hp3_
  obtain ⟨ad51, e52⟩ := hp2_
  have e52 : ρ 19 = .pointer (some ad51) := e52
  try rw [e52] at hs
  have e53 : ρ 18 = .int .i64 x18 := hp1_
  have e54 : ρ 17 = .slice a2 x1.length c3 := hp0_
  refine WA.done (by kernel_rfl) ?_
  refine hK24 _ _ ?_
  rcases iteE hf with ⟨hc55, hf⟩ | ⟨hc55, hf⟩
  {
  refine W.cond_true (bool_tr e44 hc55) ?_
  refine W.seqK fun K56 hK56 => ?_
  refine W.region ?_
  refine WL.assign (v := .bool false) rfl ?_
  refine WL.nil ?_
  refine hK56 _ _ ?_
  refine W.ret ?_
  have hr := Option.some.inj hf; subst hr
  have hr := hbbs19 _ rfl; subst hr
  have hf := hfs19
  have hr := Option.some.inj hf; subst hr
  exact ⟨_, resOk_one rfl rfl, (), rfl, (hs.mask []).pick []⟩ }
  {
  refine W.cond_false (bool_tr e44 hc55) ?_
  refine W.skip ?_
  refine hK23 _ _ ?_
  refine W.region ?_
  refine WL.move (v := .int .i64 x18) ((hu43 5 rfl).trans h17_5) ?_
  obtain ⟨x57, ex57, hf⟩ := letE hf
  refine WL.bin (v := .int .i64 x57) rfl rfl (ib_as ex57 (ib_add _ _ _)) ?_
  refine WL.assign (v := .int .i64 x57) rfl ?_
  refine WL.nil ?_
  exact ⟨_, (Option.some.inj hf).symm, ((hu43 0 rfl).trans h17_0), ((hu43 1 rfl).trans h17_1), rfl, (hs.mask []).pick [2, 3]⟩ } } }
  {
  refine W.cond_false (bool_tr rfl hc22) ?_
  refine W.exit ?_
  have hr := Option.some.inj hf; subst hr
  have hr := hbbs19 _ rfl; subst hr
  have hf := hfs19
  exact Jk14  _ _  ((hs.mask []).pick []) hf } }
theorem eslaw32_IndexIntersect.calls {ok : Nat → Prop} {w0 : World} {x1 : List (List UInt8)} {x4 : List (List UInt8)} {a2 : Option Addr} {c3 : Nat} {a5 : Option Addr} {c6 : Nat} {r : Bool} (hf : eslaw32_IndexIntersect x1 x4 = some r) (i0 : (vl (tSlice tStr) x1 (.slice a2 x1.length c3)).holds ok w0) (i1 : (vl (tSlice tStr) x4 (.slice a5 x4.length c6)).holds ok w0) :
    Calls Try.prog 4 #[.slice a2 x1.length c3, .slice a5 x4.length c6] w0 fun e w' => ∃ v, e = .returned v ∧ ∃ y : Unit, v = .bool r ∧ St ok (bz w0) w' [] [] := by
  unfold eslaw32_IndexIntersect at hf
  refine calls_of_W (fn := Try.f4) (N := 40) Try.func4 rfl Try.ntmps4 rfl ?_
  have hs : St ok (bz w0) w0 [vl (tSlice tStr) x1 (.slice a2 x1.length c3), vl (tSlice tStr) x4 (.slice a5 x4.length c6)] [] := St.init (All.cons i0 (All.cons i1 All.nil))
  clear i0 i1
  refine W.seqK fun K7 hK7 => ?_
  refine W.region ?_
  refine WL.assign (v := .bool false) rfl ?_
  refine WL.nil ?_
  refine hK7 _ _ ?_
  refine W.seqK fun K8 hK8 => ?_
  refine W.seqK fun K9 hK9 => ?_
  have Jk12 : ∀ (x11 : Bool) (ρ : Env) (w : World), ρ 0 = .slice a2 x1.length c3 → ρ 1 = .slice a5 x4.length c6 → ρ 13 = .bool x11 → St ok (bz w0) w [vl (tSlice tStr) x1 (.slice a2 x1.length c3), vl (tSlice tStr) x4 (.slice a5 x4.length c6)] [] → eslaw32_IndexIntersect.j2 x1 x4 x11 = some r → K9 ρ w := by
    intro x11 ρ w h10_0 h10_1 h10_13 hs hf
    refine hK9 _ _ ?_
    unfold eslaw32_IndexIntersect.j2 at hf
    rcases iteE hf with ⟨hc13, hf⟩ | ⟨hc13, hf⟩
    {
    refine W.cond_true (bool_tr h10_13 hc13) ?_
    refine W.seqK fun K14 hK14 => ?_
    refine W.region ?_
    obtain ⟨x15, hxx15, hf⟩ := bindE hf
    refine WL.call (vs := []) hs FN8 trivial (fun ok hA => eslaw32_awake.calls hxx15) ?_
    rintro _ w hs
    refine WL.assign (v := .bool x15) rfl ?_
    refine WL.nil ?_
    refine hK14 _ _ ?_
    refine W.ret ?_
    have hr := Option.some.inj hf; subst hr
    exact ⟨_, resOk_one rfl rfl, (), rfl, (hs.mask []).pick []⟩ }
    {
    refine W.cond_false (bool_tr h10_13 hc13) ?_
    refine W.skip ?_
    refine hK8 _ _ ?_
    refine W.seqK fun K16 hK16 => ?_
    refine W.region ?_
    refine WL.move (v := .slice a2 x1.length c3) h10_0 ?_
    refine WL.move (v := .slice a5 x4.length c6) h10_1 ?_
    obtain ⟨x17, hxx17, hf⟩ := bindE hf
    refine WL.call (vs := [.slice a2 x1.length c3, .slice a5 x4.length c6]) hs FN9 ⟨rfl, ⟨rfl, trivial⟩⟩ (fun ok hA => index_Intersect.calls (x1 := x1) (x4 := x4) hxx17 (hA.get 0 rfl) (hA.get 1 rfl)) ?_
    rintro ⟨a18, n19, c20⟩ w hs
    refine WL.assign (v := .slice a18 n19 c20) rfl ?_
    refine WL.nil ?_
    refine hK16 _ _ ?_
    refine W.seqK fun K21 hK21 => ?_
    have Jk24 : ∀ (x23 : Bool) (ρ : Env) (w : World), ρ 4 = .bool x23 → St ok (bz w0) w [] [] → eslaw32_IndexIntersect.j1 x23 = some r → K21 ρ w := by
      intro x23 ρ w h22_4 hs hf
      refine hK21 _ _ ?_
      unfold eslaw32_IndexIntersect.j1 at hf
      refine W.ret ?_
      have hr := Option.some.inj hf; subst hr
      exact ⟨_, resOk_one rfl h22_4, (), rfl, (hs.mask []).pick []⟩
    refine W.region ?_
    refine WL.move (v := .slice a18 n19 c20) rfl ?_
    refine WL.move (v := .slice a2 x1.length c3) h10_0 ?_
    refine WL.move (v := .slice a5 x4.length c6) h10_1 ?_
    obtain ⟨x25, hxx25, hf⟩ := bindE hf
    refine WL.call (vs := [.slice a2 x1.length c3, .slice a5 x4.length c6]) hs FN11 ⟨rfl, ⟨rfl, trivial⟩⟩ (fun ok hA => esref32_Intersect.calls (x1 := x1) (x4 := x4) hxx25 (hA.get 0 rfl) (hA.get 1 rfl)) ?_
    rintro ⟨a26, c27⟩ w hs
    obtain ⟨x28, hxx28, hf⟩ := bindE hf
    refine WL.callL (vs := [.slice a18 x17.length c20, .slice a26 x25.length c27]) hs FN10 ⟨(Eq.trans rfl (sl_len (hs.ownLen 0 rfl))), ⟨rfl, trivial⟩⟩ (esref32_EqualStrings.calls (x1 := x17) (x4 := x25) hxx28 (hs.ownN 0 rfl) (hs.allT.get 0 rfl)) ?_
    rintro _ w hs
    refine WL.move (v := .bool x28) rfl ?_
    rcases iteE hf with ⟨hc29, hf⟩ | ⟨hc29, hf⟩
    {
    refine WL.move (v := .slice a18 n19 c20) rfl ?_ (hg := (wanted_of rfl rfl (bool_tr rfl hc29)).trans rfl)
    refine WL.move (v := .slice a5 x4.length c6) h10_1 ?_ (hg := (wanted_of rfl rfl (bool_tr rfl hc29)).trans rfl)
    refine WL.move (v := .slice a2 x1.length c3) h10_0 ?_ (hg := (wanted_of rfl rfl (bool_tr rfl hc29)).trans rfl)
    obtain ⟨x30, hxx30, hf⟩ := bindE hf
    refine WL.call (vs := [.slice a5 x4.length c6, .slice a2 x1.length c3]) hs FN9 ⟨rfl, ⟨rfl, trivial⟩⟩ (fun ok hA => index_Intersect.calls (x1 := x4) (x4 := x1) hxx30 (hA.get 2 rfl) (hA.get 1 rfl)) ?_ (hg := (wanted_of rfl rfl (bool_tr rfl hc29)).trans rfl)
    rintro ⟨a31, n32, c33⟩ w hs
    obtain ⟨x34, hxx34, hf⟩ := bindE hf
    refine WL.callL (vs := [.slice a18 x17.length c20, .slice a31 x30.length c33]) hs FN10 ⟨(Eq.trans rfl (sl_len (hs.ownLen 1 rfl))), ⟨(Eq.trans rfl (sl_len (hs.ownLen 0 rfl))), trivial⟩⟩ (esref32_EqualStrings.calls (x1 := x17) (x4 := x30) hxx34 (hs.ownN 1 rfl) (hs.ownN 0 rfl)) ?_ (hg := (wanted_of rfl rfl (bool_tr rfl hc29)).trans rfl)
    rintro _ w hs
    refine WL.pickT (v := .bool x34) (bool_tr rfl hc29) rfl ?_
    refine WL.move (v := .bool x34) rfl ?_
    rcases iteE hf with ⟨hc35, hf⟩ | ⟨hc35, hf⟩
    {
    refine WL.move (v := .slice a18 n19 c20) rfl ?_ (hg := (wanted_of rfl rfl (bool_tr rfl hc35)).trans rfl)
    refine WL.move (v := .slice a2 x1.length c3) h10_0 ?_ (hg := (wanted_of rfl rfl (bool_tr rfl hc35)).trans rfl)
    obtain rfl := hs.ownLen 1 rfl
    have hs := hs.freezeOwn 1 rfl
    obtain ⟨x36, hxx36, hf⟩ := bindE hf
    refine WL.call (vs := [.slice a18 x17.length c20, .slice a2 x1.length c3]) hs FN9 ⟨rfl, ⟨rfl, trivial⟩⟩ (fun ok hA => index_Intersect.calls (x1 := x17) (x4 := x1) hxx36 (hA.get 0 rfl) (hA.get 2 rfl)) ?_ (hg := (wanted_of rfl rfl (bool_tr rfl hc35)).trans rfl)
    rintro ⟨a37, n38, c39⟩ w hs
    refine WL.move (v := .slice a18 x17.length c20) rfl ?_ (hg := (wanted_of rfl rfl (bool_tr rfl hc35)).trans rfl)
    obtain ⟨x40, hxx40, hf⟩ := bindE hf
    refine WL.callL (vs := [.slice a37 x36.length c39, .slice a18 x17.length c20]) hs FN10 ⟨(Eq.trans rfl (sl_len (hs.ownLen 0 rfl))), ⟨rfl, trivial⟩⟩ (esref32_EqualStrings.calls (x1 := x36) (x4 := x17) hxx40 (hs.ownN 0 rfl) (hs.allT.get 0 rfl)) ?_ (hg := (wanted_of rfl rfl (bool_tr rfl hc35)).trans rfl)
    rintro _ w hs
    refine WL.pickT (v := .bool x40) (bool_tr rfl hc35) rfl ?_
    refine WL.move (v := .bool x40) rfl ?_
    rcases iteE hf with ⟨hc41, hf⟩ | ⟨hc41, hf⟩
    {
    obtain ⟨x42, hxx42, hf⟩ := bindE hf
    refine WL.call (vs := []) hs FN8 trivial (fun ok hA => eslaw32_awake.calls hxx42) ?_ (hg := (wanted_of rfl rfl (bool_tr rfl hc41)).trans rfl)
    rintro _ w hs
    refine WL.pickT (v := .bool x42) (bool_tr rfl hc41) rfl ?_
    refine WL.assign (v := .bool x42) rfl ?_
    refine WL.nil ?_
    exact Jk24 x42 _ _ rfl ((hs.mask []).pick []) hf }
    {
    refine WL.pass ((wanted_of rfl rfl (bool_tr rfl hc41)).trans rfl) rfl ?_
    refine WL.pickF (v := .bool false) (bool_tr rfl hc41) rfl ?_
    refine WL.assign (v := .bool false) rfl ?_
    refine WL.nil ?_
    exact Jk24 false _ _ rfl ((hs.mask []).pick []) hf } }
    {
    refine WL.pass ((wanted_of rfl rfl (bool_tr rfl hc35)).trans rfl) rfl ?_
    refine WL.pass ((wanted_of rfl rfl (bool_tr rfl hc35)).trans rfl) rfl ?_
    refine WL.pass ((wanted_of rfl rfl (bool_tr rfl hc35)).trans rfl) rfl ?_
    refine WL.pass ((wanted_of rfl rfl (bool_tr rfl hc35)).trans rfl) rfl ?_
    refine WL.pass ((wanted_of rfl rfl (bool_tr rfl hc35)).trans rfl) rfl ?_
    refine WL.pickF (v := .bool false) (bool_tr rfl hc35) rfl ?_
    refine WL.move (v := .bool false) rfl ?_
    refine WL.pass ((wanted_of rfl rfl rfl).trans rfl) rfl ?_
    refine WL.pickF (v := .bool false) rfl rfl ?_
    refine WL.assign (v := .bool false) rfl ?_
    refine WL.nil ?_
    exact Jk24 false _ _ rfl ((hs.mask []).pick []) hf } }
    {
    refine WL.pass ((wanted_of rfl rfl (bool_tr rfl hc29)).trans rfl) rfl ?_
    refine WL.pass ((wanted_of rfl rfl (bool_tr rfl hc29)).trans rfl) rfl ?_
    refine WL.pass ((wanted_of rfl rfl (bool_tr rfl hc29)).trans rfl) rfl ?_
    refine WL.pass ((wanted_of rfl rfl (bool_tr rfl hc29)).trans rfl) rfl ?_
    refine WL.pass ((wanted_of rfl rfl (bool_tr rfl hc29)).trans rfl) rfl ?_
    refine WL.pickF (v := .bool false) (bool_tr rfl hc29) rfl ?_
    refine WL.move (v := .bool false) rfl ?_
    refine WL.pass ((wanted_of rfl rfl rfl).trans rfl) rfl ?_
    refine WL.pass ((wanted_of rfl rfl rfl).trans rfl) rfl ?_
    refine WL.pass ((wanted_of rfl rfl rfl).trans rfl) rfl ?_
    refine WL.pass ((wanted_of rfl rfl rfl).trans rfl) rfl ?_
    refine WL.pass ((wanted_of rfl rfl rfl).trans rfl) rfl ?_
    refine WL.pickF (v := .bool false) rfl rfl ?_
    refine WL.move (v := .bool false) rfl ?_
    refine WL.pass ((wanted_of rfl rfl rfl).trans rfl) rfl ?_
    refine WL.pickF (v := .bool false) rfl rfl ?_
    refine WL.assign (v := .bool false) rfl ?_
    refine WL.nil ?_
    exact Jk24 false _ _ rfl ((hs.mask []).pick []) hf } }
  refine W.region ?_
  refine WL.move (v := .slice a2 x1.length c3) rfl ?_
  refine WL.len (v := .slice a2 x1.length c3) rfl (len_slice UN32) ?_
  refine WL.bin (v := .bool (decide (20 < (x1.length : Int)))) rfl rfl (ib_gtr _ _ _) ?_
  refine WL.move (v := .bool (decide (20 < (x1.length : Int)))) rfl ?_
  rcases iteE hf with ⟨hc43, hf⟩ | ⟨hc43, hf⟩
  {
  refine WL.pass ((wanted_of rfl rfl (bool_tr rfl hc43)).trans rfl) rfl ?_
  refine WL.pass ((wanted_of rfl rfl (bool_tr rfl hc43)).trans rfl) rfl ?_
  refine WL.pass ((wanted_of rfl rfl (bool_tr rfl hc43)).trans rfl) rfl ?_
  refine WL.pickT (v := .bool true) (bool_tr rfl hc43) rfl ?_
  refine WL.nil ?_
  exact Jk12 true _ _ rfl rfl rfl ((hs.mask []).pick [0, 1]) hf }
  {
  refine WL.move (v := .slice a5 x4.length c6) rfl ?_ (hg := (wanted_of rfl rfl (bool_tr rfl hc43)).trans rfl)
  refine WL.len (v := .slice a5 x4.length c6) rfl (len_slice UN32) ?_ (hg := (wanted_of rfl rfl (bool_tr rfl hc43)).trans rfl)
  refine WL.bin (v := .bool (decide (20 < (x4.length : Int)))) rfl rfl (ib_gtr _ _ _) ?_ (hg := (wanted_of rfl rfl (bool_tr rfl hc43)).trans rfl)
  refine WL.pickF (v := .bool (decide (20 < (x4.length : Int)))) (bool_tr rfl hc43) rfl ?_
  refine WL.nil ?_
  exact Jk12 (decide (20 < (x4.length : Int))) _ _ rfl rfl rfl ((hs.mask []).pick [0, 1]) hf }
end Go.Proofs.Ytpfgdjfiimknlaa
set_option linter.unusedVariables false
set_option linter.unusedSimpArgs false
namespace Go.Proofs.Ytpfgdjfiimknlaa
open Go Go.Proofs.YtpfgdjfiimknlaaL
structure GD (n : Nat) (objs : List fold_Object) : Prop where
  asc : SA ON_ objs
  len : objs.length ≤ n
  name : ∀ o ∈ objs, o.Name.length ≤ 1000
  ne : ∀ o ∈ objs, o.Fields ≠ []
  fasc : ∀ o ∈ objs, SA FN_ o.Fields
  flen : ∀ o ∈ objs, o.Fields.length ≤ n
  good : ∀ o ∈ objs, ∀ y ∈ o.Fields, GF n y
theorem GD.mono {n m : Nat} {objs : List fold_Object} (h : GD n objs) (hm : n ≤ m) : GD m objs :=
  ⟨h.asc, Nat.le_trans h.len hm, h.name, h.ne, h.fasc, fun o ho => Nat.le_trans (h.flen o ho) hm, fun o ho y hy => (h.good o ho y hy).mono hm⟩
theorem GD_nil (n : Nat) : GD n [] := ⟨List.Pairwise.nil, Nat.zero_le _, by simp, by simp, by simp, by simp, by simp⟩
def appT (u : api_Update) (objs : List fold_Object) : List fold_Object := u.Effects.foldl (effT u) objs
theorem apply_ex {u : api_Update} {n : Nat} {x : fold_B} (h : BI n x) (he : ∀ e ∈ u.Effects, EF e) (hn : n + u.Effects.length ≤ 1000000) :
    ∃ x', fold_apply u x = some x' ∧ BI (n + u.Effects.length) x' ∧ canonB x' = appT u (canonB x) := by
  unfold fold_apply
  refine loopO_inv (I := fun k s => s.1 = (k : Int) ∧ BI (n + k) s.2 ∧ canonB s.2 = (u.Effects.take k).foldl (effT u) (canonB x)) u.Effects.length ⟨rfl, h, rfl⟩ ?_ ?_
  · rintro k ⟨i, y⟩ hk ⟨hi, h1, h2⟩
    simp only at hi h1 h2
    subst hi
    obtain ⟨x', e1, e2, e3⟩ := eff_eq (u := u) h1 (he _ (List.getElem_mem hk)) (by omega)
    refine ⟨(((k + 1 : Nat) : Int), x'), ?_, rfl, e2, ?_⟩
    · unfold fold_apply.l1
      simp only [lt_of_len hk, if_true, idx_nat hk, Option.bind_some, e1, letV, wcast hk (by omega)]
    · rw [take_snoc hk, List.foldl_append, ← h2, e3]
      rfl
  · rintro ⟨i, y⟩ ⟨hi, h1, h2⟩
    simp only at hi h1 h2
    subst hi
    rw [List.take_length] at h2
    refine ⟨y, ?_, h1, h2⟩
    unfold fold_apply.l1
    simp only [not_lt_len, Bool.false_eq_true, if_false]
theorem clone_eq {l : List (List UInt8)} (h : l.length ≤ 1000000) : slices_Clone_string l = some l := by
  unfold slices_Clone_string
  rw [app_of (by simp; omega)]
  rfl
theorem names_ne {α : Type} {key : α → List UInt8} {l : List α} (h : SA key l) : (l.map key).Nodup := by
  refine List.pairwise_map.2 (h.imp fun {a b} hab e => ?_)
  rw [e, bl_irrefl] at hab
  cases hab
def loaded (objs : List fold_Object) : fold_B := objs.map fun o => (o.Name, o.Fields)
theorem load_fields {n : Nat} {o : fold_Object} (h1 : SA FN_ o.Fields) (h2 : o.Fields.length ≤ n) (h3 : ∀ y ∈ o.Fields, GF n y) (hn : n ≤ 1000000) : loopO (fold_load.l1 o) (0, []) = some o.Fields := by
  have := loopO_up (step := fold_load.l1 o) (fun k => ((k : Int), o.Fields.take k)) o.Fields.length (b := o.Fields) (fun k hk => ?_) ?_
  · exact this
  · have hg := h3 _ (List.getElem_mem hk)
    unfold fold_load.l1
    simp only [lt_of_len hk, if_true, idx_nat hk, Option.bind_some]
    rw [clone_eq (by have := hg.len; omega), Option.bind_some, letV, wcast hk (by omega)]
    have e : fput fold_Field.Name o.Fields[k] (o.Fields.take k) = o.Fields.take (k + 1) := by
      rw [take_snoc hk, fput_none]
      rw [List.find?_eq_none]
      intro y hy
      obtain ⟨j, hj, rfl⟩ := List.getElem_of_mem hy
      rw [List.length_take] at hj
      have := List.pairwise_iff_getElem.1 h1 j k (by omega) hk (by omega)
      rw [List.getElem_take]
      intro he
      have he : o.Fields[k].Name = (o.Fields[j]'(by omega)).Name := by simpa using he
      have this : Op.bytesLess (o.Fields[j]'(by omega)).Name o.Fields[k].Name = true := this
      rw [he, bl_irrefl] at this
      cases this
    rw [show ({ o.Fields[k] with Elems := o.Fields[k].Elems } : fold_Field) = o.Fields[k] from rfl, e]
  · unfold fold_load.l1
    simp only [not_lt_len, Bool.false_eq_true, if_false, List.take_length]
theorem load_eq {n : Nat} {t : fold_Store} (h : GD n t.Objects) (hn : n ≤ 1000000) : fold_load t = some (loaded t.Objects) := by
  unfold fold_load
  have hlen := h.len
  have := loopO_up (step := fold_load.l2 t) (fun k => ((k : Int), loaded (t.Objects.take k))) t.Objects.length (b := loaded t.Objects) (fun k hk => ?_) ?_
  · exact this
  · have hm := List.getElem_mem hk
    unfold fold_load.l2
    simp only [lt_of_len hk, if_true, idx_nat hk, Option.bind_some]
    rw [load_fields (h.fasc _ hm) (h.flen _ hm) (h.good _ hm) hn, Option.bind_some, letV, wcast hk (by omega)]
    have e : mset (loaded (t.Objects.take k)) t.Objects[k].Name t.Objects[k].Fields = loaded (t.Objects.take (k + 1)) := by
      unfold loaded
      rw [take_snoc hk, List.map_append, mset_none]
      · rfl
      · cases hl : (List.map (fun o : fold_Object => (o.Name, o.Fields)) (List.take k t.Objects)).lookup t.Objects[k].Name with
        | none => rfl
        | some fs =>
          exfalso
          obtain ⟨o, ho, he⟩ := List.mem_map.1 (lookup_mem hl)
          have he : o.Name = t.Objects[k].Name := congrArg Prod.fst he
          obtain ⟨j, hj, rfl⟩ := List.getElem_of_mem ho
          rw [List.length_take] at hj
          have := List.pairwise_iff_getElem.1 h.asc j k (by omega) hk (by omega)
          rw [List.getElem_take] at he
          have this : Op.bytesLess (t.Objects[j]'(by omega)).Name t.Objects[k].Name = true := this
          rw [he, bl_irrefl] at this
          cases this
    rw [e]
  · unfold fold_load.l2
    simp only [not_lt_len, Bool.false_eq_true, if_false, List.take_length]
theorem BI_loaded {n : Nat} {objs : List fold_Object} (h : GD n objs) : BI n (loaded objs) := by
  have hm : ∀ o ∈ loaded objs, ∃ p ∈ objs, o = (p.Name, p.Fields) := fun o ho => by
    obtain ⟨p, hp, rfl⟩ := List.mem_map.1 ho
    exact ⟨p, hp, rfl⟩
  refine ⟨?_, by unfold loaded; rw [List.length_map]; exact h.len, fun o ho => ?_, fun o ho => ?_, fun o ho => ?_, fun o ho => ?_, fun o ho => ?_⟩
  · unfold loaded
    rw [List.map_map]
    exact names_ne h.asc
  all_goals obtain ⟨p, hp, rfl⟩ := hm o ho
  · exact h.name p hp
  · exact h.ne p hp
  · exact names_ne (h.fasc p hp)
  · exact h.flen p hp
  · exact h.good p hp
theorem canonF_self {fs : List fold_Field} (h : SA FN_ fs) : canonF fs = fs := SA_ext (SA_canonF (names_ne h)) h fun k => get_canonF fs k
theorem loaded_lookup (objs : List fold_Object) (k : List UInt8) : (loaded objs).lookup k = (get ON_ objs k).map (·.Fields) := by
  induction objs with
  | nil => rfl
  | cons a objs ih =>
    unfold loaded at ih ⊢
    rw [List.map_cons, List.lookup_cons, get_cons]
    by_cases h : ON_ a = k
    · rw [if_pos h, show (k == a.Name) = true by rw [← h]; simp]
      rfl
    · rw [if_neg h, show (k == a.Name) = false by rw [beq_eq_false_iff_ne]; exact fun e => h e.symm]
      exact ih
theorem canon_loaded {n : Nat} {objs : List fold_Object} (h : GD n objs) : canonB (loaded objs) = objs := by
  refine SA_ext (SA_canonB (BI_loaded h).keys) h.asc fun k => ?_
  rw [get_canonB, loaded_lookup]
  cases hg : get ON_ objs k with
  | none => rfl
  | some o =>
    show some (⟨k, canonF o.Fields⟩ : fold_Object) = some o
    rw [canonF_self (h.fasc o (get_mem hg)), ← get_key hg]
theorem canonF_mem {fs : List fold_Field} {y : fold_Field} (h : y ∈ canonF fs) : y ∈ fs := by
  unfold canonF at h
  obtain ⟨n, hn, rfl⟩ := List.mem_map.1 h
  rw [mem_srt, get_names] at hn
  cases hg : get FN_ fs n with
  | none => rw [hg] at hn; cases hn
  | some y => exact get_mem hg
theorem GD_canon {n : Nat} {x : fold_B} (h : BI n x) : GD n (canonB x) := by
  have hm : ∀ o ∈ canonB x, ∃ fs, (o.Name, fs) ∈ x ∧ o.Fields = canonF fs := by
    intro o ho
    have hg := get_mem_self (SA_canonB h.keys) ho
    rw [get_canonB] at hg
    cases hl : x.lookup (ON_ o) with
    | none => rw [hl] at hg; cases hg
    | some fs =>
      rw [hl] at hg
      have := Option.some.inj hg
      exact ⟨fs, lookup_mem hl, by rw [← this]⟩
  refine ⟨SA_canonB h.keys, ?_, fun o ho => ?_, fun o ho => ?_, fun o ho => ?_, fun o ho => ?_, fun o ho y hy => ?_⟩
  · unfold canonB
    rw [List.length_map, List.length_mergeSort, List.length_map]
    exact h.len
  all_goals obtain ⟨fs, h1, h2⟩ := hm o ho
  · exact h.name _ h1
  · rw [h2]
    intro he
    have := congrArg List.length he
    unfold canonF at this
    rw [List.length_map, List.length_mergeSort, List.length_map] at this
    exact h.ne _ h1 (List.length_eq_zero_iff.1 this)
  · rw [h2]; exact SA_canonF (h.names _ h1)
  · rw [h2]
    unfold canonF
    rw [List.length_map, List.length_mergeSort, List.length_map]
    exact h.flen _ h1
  · rw [h2] at hy
    exact h.good _ h1 y (canonF_mem hy)
theorem Apply_eq {n : Nat} {t : fold_Store} {u : api_Update} (h : GD n t.Objects) (he : ∀ e ∈ u.Effects, EF e) (hn : n + u.Effects.length ≤ 1000000) :
    fold_Apply t u = some ⟨appT u t.Objects⟩ ∧ GD (n + u.Effects.length) (appT u t.Objects) := by
  unfold fold_Apply
  obtain ⟨x', e1, e2, e3⟩ := apply_ex (u := u) (BI_loaded h) he hn
  rw [canon_loaded h] at e3
  rw [load_eq h (by omega), Option.bind_some, e1, Option.bind_some, fold_store_eq e2 hn, e3]
  exact ⟨rfl, e3 ▸ GD_canon e2⟩
end Go.Proofs.Ytpfgdjfiimknlaa
set_option linter.unusedVariables false
set_option linter.unusedSimpArgs false
namespace Go.Proofs.Ytpfgdjfiimknlaa
open Go Go.Proofs.YtpfgdjfiimknlaaL
theorem snoc_ind {α : Type} {P : List α → Prop} (h0 : P []) (hs : ∀ l a, P l → P (l ++ [a])) (l : List α) : P l := by
  rw [← l.reverse_reverse]
  induction l.reverse with
  | nil => exact h0
  | cons a m ih => rw [List.reverse_cons]; exact hs _ _ ih
section
variable {α : Type} {lt : α → α → Prop}
theorem srt_ext (irr : ∀ a, ¬ lt a a) (tr : ∀ a b c, lt a b → lt b c → lt a c) : ∀ {l l' : List α}, l.Pairwise lt → l'.Pairwise lt → (∀ x, x ∈ l ↔ x ∈ l') → l = l'
  | [], [], _, _, _ => rfl
  | [], b :: l', _, _, h => by have := (h b).2 (by simp); simp at this
  | a :: l, [], _, _, h => by have := (h a).1 (by simp); simp at this
  | a :: l, b :: l', h1, h2, h => by
    have a1 := (List.pairwise_cons.1 h1).1
    have b1 := (List.pairwise_cons.1 h2).1
    have e : a = b := by
      rcases List.mem_cons.1 ((h a).1 (by simp)) with e | e
      · exact e
      · rcases List.mem_cons.1 ((h b).2 (by simp)) with e' | e'
        · exact e'.symm
        · exact absurd (tr _ _ _ (a1 b e') (b1 a e)) (irr a)
    subst e
    have : l = l' := by
      refine srt_ext irr tr (List.pairwise_cons.1 h1).2 (List.pairwise_cons.1 h2).2 fun x => ?_
      have hx := h x
      rw [List.mem_cons, List.mem_cons] at hx
      constructor
      · intro hm
        rcases hx.1 (.inr hm) with e | e
        · rw [e] at hm; exact absurd (a1 a hm) (irr a)
        · exact e
      · intro hm
        rcases hx.2 (.inr hm) with e | e
        · rw [e] at hm; exact absurd (b1 a hm) (irr a)
        · exact e
    rw [this]
end
section
variable {α : Type} [DecidableEq α]
def dd (l : List α) : List α := l.foldl (fun r a => if r.getLast? = some a then r else r ++ [a]) []
theorem dd_snoc (l : List α) (a : α) : dd (l ++ [a]) = if (dd l).getLast? = some a then dd l else dd l ++ [a] := by
  unfold dd
  rw [List.foldl_append]
  rfl
theorem dd_last (l : List α) : (dd l).getLast? = l.getLast? := by
  refine snoc_ind (P := fun l => (dd l).getLast? = l.getLast?) ?_ (fun l a ih => ?_) l
  · rfl
  · rw [dd_snoc, List.getLast?_concat]
    split
    · rename_i h; exact h
    · rw [List.getLast?_concat]
theorem dd_mem (l : List α) : ∀ x, x ∈ dd l ↔ x ∈ l := by
  refine snoc_ind (P := fun l => ∀ x, x ∈ dd l ↔ x ∈ l) ?_ (fun l a ih => ?_) l
  · intro x; rfl
  · intro x
    rw [dd_snoc, List.mem_append, List.mem_singleton]
    split
    · rename_i h
      rw [ih]
      have : a ∈ l := (ih a).1 (List.mem_of_getLast? h)
      constructor
      · exact .inl
      · rintro (h | rfl)
        · exact h
        · exact this
    · rw [List.mem_append, List.mem_singleton, ih]
theorem dd_length (l : List α) : (dd l).length ≤ l.length := by
  refine snoc_ind (P := fun l => (dd l).length ≤ l.length) (Nat.le_refl _) (fun l a ih => ?_) l
  rw [dd_snoc, List.length_append, List.length_singleton]
  split
  · omega
  · rw [List.length_append, List.length_singleton]; omega
theorem dd_self {l : List α} : l.Pairwise (· ≠ ·) → dd l = l := by
  refine snoc_ind (P := fun l => l.Pairwise (· ≠ ·) → dd l = l) (fun _ => rfl) (fun l a ih h => ?_) l
  rw [List.pairwise_append] at h
  rw [dd_snoc, ih h.1, if_neg]
  intro e
  exact h.2.2 a (List.mem_of_getLast? e) a (by simp) rfl
omit [DecidableEq α] in
theorem last_max {lt : α → α → Prop} {m : List α} {z x : α} (h : m.Pairwise lt) (hz : m.getLast? = some z) (hx : x ∈ m) : x = z ∨ lt x z := by
  obtain ⟨m', rfl⟩ : ∃ m', m = m' ++ [z] := by
    rw [List.getLast?_eq_some_iff] at hz
    exact hz
  rcases List.mem_append.1 hx with hx | hx
  · exact .inr ((List.pairwise_append.1 h).2.2 x hx z (by simp))
  · exact .inl (by simpa using hx)
theorem dd_srt {lt : α → α → Prop} (tri : ∀ a b, ¬ lt a b → ¬ lt b a → a = b) {l : List α} : l.Pairwise (fun a b => ¬ lt b a) → (dd l).Pairwise lt := by
  refine snoc_ind (P := fun l => l.Pairwise (fun a b => ¬ lt b a) → (dd l).Pairwise lt) (fun _ => .nil) (fun l a ih h => ?_) l
  rw [List.pairwise_append] at h
  have h1 := ih h.1
  rw [dd_snoc]
  split
  · exact h1
  · rename_i hn
    rw [List.pairwise_append]
    refine ⟨h1, List.pairwise_singleton _ _, fun x hx b hb => ?_⟩
    have hb : b = a := by simpa using hb
    subst hb
    refine Classical.byContradiction fun hc => ?_
    have ha := h.2.2
    have e := tri _ _ hc (ha x ((dd_mem l x).1 hx) b (by simp))
    subst e
    cases hz : (dd l).getLast? with
    | none =>
      rw [List.getLast?_eq_none_iff] at hz
      rw [hz] at hx
      simp at hx
    | some z =>
      rcases last_max h1 hz hx with e | e
      · exact hn (by rw [hz, e])
      · exact ha z ((dd_mem l z).1 (List.mem_of_getLast? hz)) x (by simp) e
end
section
variable {α : Type} (eq : α → α → Bool) (z : α)
noncomputable def gj2 (x24 : List α) (x26 : Int) : Option ((List α × Int) ⊕ (List α ⊕ List α)) :=
  (letV (IntKind.i64.wrap (x26 + 1)) fun x28 => some (.inl (x24, x28)))
noncomputable def gj3 (x61 : List α) (x63 : Int) : Option ((List α × Int) ⊕ (List α ⊕ List α)) :=
  (if 0 ≤ x63 ∧ x63 ≤ (x61.length : Int) then ((clr x61 x63 z).bind fun x67 => ((cut x67 0 x63).bind fun x69 => some (.inr (.inr x69)))) else none)
noncomputable def gj4 (x74 : Int) (x80 : List α) (x82 : Int) : Option ((List α × Int × Int) ⊕ (List α × Int)) :=
  (letV (IntKind.i64.wrap (x74 + 1)) fun x84 => some (.inl (x80, x82, x84)))
noncomputable def gl1 (x18 : Int) : (List α × Int × Int) → Option ((List α × Int × Int) ⊕ (List α × Int)) := fun (x71, x73, x74) =>
  (if (decide (x74 < ((x71.length - (x18).toNat : Nat) : Int))) then ((idx (List.drop ((x18).toNat) x71) x74).bind fun x86 =>
  (letV (IntKind.i64.wrap (x74 - 1)) fun x89 =>
  ((idx (List.drop ((x18).toNat) x71) x89).bind fun x90 =>
  (if (!eq x86 x90) then ((idx (List.drop ((x18).toNat) x71) x74).bind fun x115 =>
  ((idx x71 x73).bind fun x118 =>
  (letV (x71.set (x73).toNat x115) fun x120 =>
  (letV (IntKind.i64.wrap (x73 + 1)) fun x121 =>
  gj4 x74 x120 x121)))) else gj4 x74 x71 x73)))) else some (.inr (x71, x73)))
noncomputable def gl2 : (List α × Int) → Option ((List α × Int) ⊕ (List α ⊕ List α)) := fun (x16, x18) =>
  (if (decide (x18 < (x16.length : Int))) then ((idx x16 x18).bind fun x30 =>
  (letV (IntKind.i64.wrap (x18 - 1)) fun x33 =>
  ((idx x16 x33).bind fun x34 =>
  (if (eq x30 x34) then (if 0 ≤ x18 ∧ x18 ≤ (x16.length : Int) then ((loopO (gl1 eq x18) (x16, x18, 1)).bind fun (x122, x123) => gj3 z x122 x123) else none) else gj2 x16 x18)))) else some (.inr (.inl x16)))
noncomputable def gC (x1 : List α) : Option (List α) :=
  (if (decide ((x1.length : Int) < 2)) then some x1 else ((loopO (gl2 eq z) (x1, 1)).bind fun b => match b with | .inl x124 => some x124 | .inr x125 => some x125))
end
theorem w64s {k : Nat} (h : k ≤ 4611686018427387904) : IntKind.i64.wrap (((k + 1 : Nat) : Int) - 1) = (k : Int) := by
  rw [w64 (by omega) (by omega)]; omega
theorem take_last {α : Type} {l : List α} {k : Nat} (h : k < l.length) : (l.take (k + 1)).getLast? = some l[k] := by
  rw [take_snoc h, List.getLast?_concat]
theorem drop1 {α : Type} {x y : List α} {k : Nat} (h : y.drop k = x.drop k) : y.drop (k + 1) = x.drop (k + 1) := by
  have : ∀ l : List α, l.drop (k + 1) = (l.drop k).drop 1 := fun l => by rw [List.drop_drop]
  rw [this, this, h]
theorem gC1_eq {α : Type} [DecidableEq α] {eq : α → α → Bool} (heq : ∀ a b, eq a b = true ↔ a = b) {x : List α} (hl : x.length ≤ 4611686018427387903) {k0 : Nat} (h1 : 1 ≤ k0) (h2 : k0 < x.length)
    (hd : dd (x.take (k0 + 1)) = x.take k0) :
    ∃ b : List α × Int, loopO (gl1 eq (k0 : Int)) (x, (k0 : Int), 1) = some b ∧ b.1.length = x.length ∧ b.2 = ((dd x).length : Int) ∧ b.1.take (dd x).length = dd x := by
  refine loopO_inv (fun n s => ∃ (y : List α) (i : Nat), s = (y, (i : Int), ((n + 1 : Nat) : Int)) ∧ y.length = x.length ∧ i ≤ k0 + n ∧ i = (dd (x.take (k0 + n + 1))).length ∧ y.take i = dd (x.take (k0 + n + 1)) ∧ y.drop (k0 + n) = x.drop (k0 + n)) (x.length - k0 - 1) ?_ ?_ ?_
  · refine ⟨x, k0, rfl, rfl, Nat.le_refl _, ?_, ?_, rfl⟩
    · show k0 = (dd (x.take (k0 + 1))).length
      rw [hd, List.length_take]
      omega
    · show x.take k0 = dd (x.take (k0 + 1))
      rw [hd]
  · rintro n s hn ⟨y, i, rfl, e1, e2, e3, e4, e5⟩
    have hi : i < y.length := by omega
    have hb : k0 + n + 1 < x.length := by omega
    have ey : ∀ j, k0 + n ≤ j → (hj : j < x.length) → y[j]'(by omega) = x[j] := by
      intro j hj1 hj
      have := congrArg (fun l => l[j - (k0 + n)]?) e5
      simp only [List.getElem?_drop] at this
      rw [show k0 + n + (j - (k0 + n)) = j by omega, List.getElem?_eq_getElem (by omega), List.getElem?_eq_getElem hj] at this
      exact Option.some.inj this
    have d1 : idx (List.drop ((k0 : Int).toNat) y) ((n + 1 : Nat) : Int) = some (x[k0 + n + 1]'hb) := by
      rw [Int.toNat_natCast, idx_nat (by rw [List.length_drop]; omega), List.getElem_drop]
      congr 1
      have := ey (k0 + (n + 1)) (by omega) (by omega)
      rw [this]
      congr 1
    have d0 : idx (List.drop ((k0 : Int).toNat) y) (n : Int) = some (x[k0 + n]'(by omega)) := by
      rw [Int.toNat_natCast, idx_nat (by rw [List.length_drop]; omega), List.getElem_drop]
      congr 1
      exact ey (k0 + n) (by omega) (by omega)
    have snoc : dd (x.take (k0 + n + 1 + 1)) = if x[k0 + n]'(by omega) = x[k0 + n + 1]'hb then dd (x.take (k0 + n + 1)) else dd (x.take (k0 + n + 1)) ++ [x[k0 + n + 1]'hb] := by
      rw [take_snoc hb, dd_snoc, dd_last, take_last (by omega)]
      simp only [Option.some.injEq]
    unfold gl1
    simp only
    rw [if_pos (by rw [Int.toNat_natCast, e1]; simp; omega), d1, Option.bind_some, letV_of, w64s (by omega), d0, Option.bind_some]
    have nx : IntKind.i64.wrap (((n + 1 : Nat) : Int) + 1) = ((n + 1 + 1 : Nat) : Int) := w64n (by omega)
    by_cases hc : x[k0 + n + 1]'hb = x[k0 + n]'(by omega)
    · rw [if_neg (by rw [(heq _ _).2 hc]; simp)]
      unfold gj4
      rw [letV_of, nx]
      refine ⟨_, rfl, y, i, rfl, e1, by omega, ?_, ?_, ?_⟩
      · rw [show k0 + (n + 1) + 1 = k0 + n + 1 + 1 by omega, snoc, if_pos hc.symm]; exact e3
      · rw [show k0 + (n + 1) + 1 = k0 + n + 1 + 1 by omega, snoc, if_pos hc.symm]; exact e4
      · exact drop1 e5
    · rw [if_pos (by
        cases h : eq (x[k0 + n + 1]'hb) (x[k0 + n]'(by omega)) with
        | true => exact absurd ((heq _ _).1 h) hc
        | false => rfl), Option.bind_some, idx_nat hi, Option.bind_some, letV_of, letV_of]
      unfold gj4
      rw [letV_of, nx, w64n (by omega)]
      have e6 : dd (x.take (k0 + n + 1 + 1)) = dd (x.take (k0 + n + 1)) ++ [x[k0 + n + 1]'hb] := by
        rw [snoc, if_neg (fun e => hc e.symm)]
      refine ⟨_, rfl, y.set i (x[k0 + n + 1]'hb), i + 1, rfl, by rw [List.length_set]; exact e1, by omega, ?_, ?_, ?_⟩
      · rw [show k0 + (n + 1) + 1 = k0 + n + 1 + 1 by omega, e6, List.length_append, ← e3]; rfl
      · rw [show k0 + (n + 1) + 1 = k0 + n + 1 + 1 by omega, e6, ← e4, take_snoc (by rw [List.length_set]; exact hi), List.getElem_set_self, List.take_set_of_le (Nat.le_refl _)]
      · rw [List.drop_set_of_lt (by omega)]; exact drop1 e5
  · rintro s ⟨y, i, rfl, e1, e2, e3, e4, e5⟩
    have e7 : x.take (k0 + (x.length - k0 - 1) + 1) = x := List.take_of_length_le (by omega)
    rw [e7] at e3 e4
    unfold gl1
    simp only
    rw [if_neg (by rw [Int.toNat_natCast, e1]; simp; omega)]
    exact ⟨_, rfl, e1, by rw [e3], by rw [← e3]; exact e4⟩
theorem gC_eq {α : Type} [DecidableEq α] {eq : α → α → Bool} {z : α} (heq : ∀ a b, eq a b = true ↔ a = b) {x : List α} (hl : x.length ≤ 4611686018427387903) : gC eq z x = some (dd x) := by
  unfold gC
  by_cases h0 : x.length < 2
  · rw [if_pos (by simp; omega)]
    have : dd x = x := by
      match x, h0 with
      | [], _ => rfl
      | [a], _ => rfl
    rw [this]
  · rw [if_neg (by simp; omega)]
    have key : ∃ b : List α ⊕ List α, loopO (gl2 eq z) (x, 1) = some b ∧ (match b with | .inl y => y = dd x | .inr y => y = dd x) := by
      refine loopO_ex (fun n s => s = (x, ((n + 1 : Nat) : Int)) ∧ dd (x.take (n + 1)) = x.take (n + 1)) (x.length - 1) ⟨rfl, ?_⟩ ?_ ?_
      · cases x with
        | nil => simp at h0
        | cons a l => rfl
      · rintro n s hn ⟨rfl, hd⟩
        unfold gl2
        simp only
        rw [if_pos (by simp; omega), idx_nat (show n + 1 < x.length by omega), Option.bind_some, letV_of, w64s (by omega), idx_nat (show n < x.length by omega), Option.bind_some]
        by_cases hc : x[n + 1]'(by omega) = x[n]'(by omega)
        · rw [if_pos ((heq _ _).2 hc), if_pos (by omega)]
          refine .inr ?_
          obtain ⟨b, b1, b2, b3, b4⟩ := gC1_eq heq hl (k0 := n + 1) (by omega) (by omega) (by
            rw [take_snoc (by omega), dd_snoc, hd, take_last (by omega), if_pos (by rw [hc])])
          rw [b1, Option.bind_some]
          obtain ⟨y, i⟩ := b
          simp only at b2 b3 b4
          subst b3
          unfold gj3
          have hle : (dd x).length ≤ y.length := by rw [b2]; exact dd_length x
          simp only
          rw [if_pos (by omega)]
          unfold clr
          rw [if_pos (by omega), Option.bind_some, Int.toNat_natCast, cut_of (by omega) (by omega) (by rw [List.length_append, List.length_take, List.length_replicate]; omega), Option.bind_some]
          refine ⟨_, rfl, ?_⟩
          simp only [Int.toNat_zero, List.drop_zero, Int.toNat_natCast]
          rw [List.take_append_of_le_length (by rw [List.length_take]; omega), b4, List.take_of_length_le (by omega)]
        · rw [if_neg (by rw [heq]; exact hc)]
          unfold gj2
          rw [letV_of]
          refine .inl ⟨_, rfl, by rw [w64n (by omega)], ?_⟩
          rw [take_snoc (show n + 1 < x.length by omega), dd_snoc, hd, take_last (show n < x.length by omega), if_neg (fun e => hc (Option.some.inj e).symm)]
      · rintro s ⟨rfl, hd⟩
        unfold gl2
        simp only
        rw [if_neg (by simp; omega)]
        refine ⟨_, rfl, ?_⟩
        rw [show x.length - 1 + 1 = x.length by omega, List.take_length] at hd
        exact hd.symm
    obtain ⟨b, b1, b2⟩ := key
    rw [b1, Option.bind_some]
    cases b with
    | inl y => simp only at b2; rw [b2]
    | inr y => simp only at b2; rw [b2]
theorem compactS_eq {x : List (List UInt8)} (hl : x.length ≤ 4611686018427387903) : slices_Compact_string x = some (dd x) := by
  rw [← gC_eq (eq := fun a b => a == b) (z := ([] : List UInt8)) (fun a b => by simp) hl]
  have e1 : ∀ k, slices_Compact_string.l1 k = gl1 (fun a b : List UInt8 => a == b) k := fun k => rfl
  have e2 : slices_Compact_string.l2 = gl2 (fun a b : List UInt8 => a == b) [] := by
    funext s
    unfold slices_Compact_string.l2 gl2
    simp only [e1]
    rfl
  unfold slices_Compact_string gC
  rw [e2]
  congr 1
  cases loopO (gl2 (fun a b : List UInt8 => a == b) []) (x, 1) with
  | none => rfl
  | some b => cases b <;> rfl
theorem compactK_eq {x : List index_Key} (hl : x.length ≤ 4611686018427387903) : slices_Compact_Key x = some (dd x) := by
  have heq : ∀ a b : index_Key, decide ((⟨a.f_Type, a.N, a.S⟩ : index_Key) = (⟨b.f_Type, b.N, b.S⟩ : index_Key)) = true ↔ a = b := fun a b => by rw [decide_eq_true_eq]
  rw [← gC_eq (eq := fun a b : index_Key => decide ((⟨a.f_Type, a.N, a.S⟩ : index_Key) = (⟨b.f_Type, b.N, b.S⟩ : index_Key))) (z := (⟨0, 0, []⟩ : index_Key)) heq hl]
  have e1 : ∀ k, slices_Compact_Key.l1 k = gl1 (fun a b : index_Key => decide ((⟨a.f_Type, a.N, a.S⟩ : index_Key) = (⟨b.f_Type, b.N, b.S⟩ : index_Key))) k := fun k => rfl
  have e2 : slices_Compact_Key.l2 = gl2 (fun a b : index_Key => decide ((⟨a.f_Type, a.N, a.S⟩ : index_Key) = (⟨b.f_Type, b.N, b.S⟩ : index_Key))) (⟨0, 0, []⟩ : index_Key) := by
    funext s
    unfold slices_Compact_Key.l2 gl2
    simp only [e1]
    rfl
  unfold slices_Compact_Key gC
  rw [e2]
  congr 1
  cases loopO (gl2 (fun a b : index_Key => decide ((⟨a.f_Type, a.N, a.S⟩ : index_Key) = (⟨b.f_Type, b.N, b.S⟩ : index_Key))) (⟨0, 0, []⟩ : index_Key)) (x, 1) with
  | none => rfl
  | some b => cases b <;> rfl
def ascL (l : List (List UInt8)) : List (List UInt8) := dd (l.mergeSort fun a b => decide (a ≤ b))
theorem ascL_mem (l : List (List UInt8)) (x : List UInt8) : x ∈ ascL l ↔ x ∈ l := by
  unfold ascL
  rw [dd_mem, (List.mergeSort_perm l _).mem_iff]
theorem ascL_length (l : List (List UInt8)) : (ascL l).length ≤ l.length := by
  unfold ascL
  refine Nat.le_trans (dd_length _) ?_
  rw [(List.mergeSort_perm l _).length_eq]
  exact Nat.le_refl _
theorem ascL_asc (l : List (List UInt8)) : Asc (ascL l) := by
  have tr : ∀ a b c : List UInt8, (decide (a ≤ b)) = true → (decide (b ≤ c)) = true → (decide (a ≤ c)) = true := fun a b c h1 h2 => by simp only [decide_eq_true_eq] at *; exact List.le_trans h1 h2
  have to : ∀ a b : List UInt8, ((decide (a ≤ b)) || (decide (b ≤ a))) = true := fun a b => by simp only [Bool.or_eq_true, decide_eq_true_eq]; exact List.le_total a b
  refine dd_srt (lt := fun a b => Op.bytesLess a b = true) (fun a b h1 h2 => bl_tri (by simpa using h1) (by simpa using h2)) ?_
  refine (List.pairwise_mergeSort tr to l).imp fun {a b} h => ?_
  rw [Go.Proofs.bytesLess_eq, decide_eq_true_eq]
  rw [decide_eq_true_eq] at h
  exact fun h' => absurd h (by simpa using h')
theorem ascending_eq {l : List (List UInt8)} (h : l.length * 16 ≤ 140737488355328) : index_ascending l = some (ascL l) := by
  unfold index_ascending
  rw [if_pos h]
  exact compactS_eq (by rw [(List.mergeSort_perm l _).length_eq]; omega)
theorem ascS_ext {l l' : List (List UInt8)} (h : Asc l) (h' : Asc l') (hm : ∀ x, x ∈ l ↔ x ∈ l') : l = l' :=
  srt_ext (lt := fun a b => Op.bytesLess a b = true) (fun a => by rw [bl_irrefl]; simp) (fun a b c h1 h2 => bl_trans h1 h2) h h' hm
end Go.Proofs.Ytpfgdjfiimknlaa
set_option linter.unusedVariables false
set_option linter.unusedSimpArgs false
set_option linter.unusedSectionVars false
namespace Go.Proofs.Ytpfgdjfiimknlaa
open Go Go.Proofs.YtpfgdjfiimknlaaL
theorem FieldOf_eq {n : Nat} {o : fold_Object} (h1 : o.Fields.length ≤ n) (h2 : ∀ y ∈ o.Fields, GF n y) (hn : n ≤ 1000000) (k : List UInt8) :
    fold_FieldOf o k = some ((get FN_ o.Fields k).getD { fold_zero with Name := k }) := by
  unfold fold_FieldOf
  have key : loopO (fold_FieldOf.l1 o k) (0, (⟨[], (⟨false, 0, 0, 0, 0, []⟩ : fold_Register), false, 0, 0, [], false⟩ : fold_Field)) = some (match get FN_ o.Fields k with | some y => .inr y | none => .inl ⟨[], ⟨false, 0, 0, 0, 0, []⟩, false, 0, 0, [], false⟩) := by
    have h1 := loopO_runL (step := fold_FieldOf.l1 o k) (fun i (z : fold_Field) => ((i : Int), z)) (fun _ y (z : fold_Field) => if y.Name = k then some (.inr (.inr y)) else some (.inl z)) (fun z => some (.inl z)) o.Fields (fun i hi z => ?_) (fun z => ?_) ⟨[], ⟨false, 0, 0, 0, 0, []⟩, false, 0, 0, [], false⟩
    · have h2 : ∀ (l : List fold_Field) (i : Nat) (z : fold_Field), runL (fun _ (y : fold_Field) (z : fold_Field) => if y.Name = k then some (.inr (.inr y : fold_Field ⊕ fold_Field)) else some (.inl z)) (fun z => some (.inl z)) i l z = some (match get FN_ l k with | some y => .inr y | none => .inl z) := by
        intro l
        induction l with
        | nil => intro i z; rfl
        | cons o l ih =>
          intro i z
          rw [runL, get_cons]
          by_cases he : o.Name = k
          · rw [if_pos he, if_pos he]
          · rw [if_neg he, if_neg he]
            exact ih _ z
      rw [← h2 o.Fields 0]
      exact h1
    · have hm := List.getElem_mem hi
      unfold fold_FieldOf.l1
      simp only [lt_of_len hi, if_true, idx_nat hi, Option.bind_some]
      by_cases he : o.Fields[i].Name = k
      · rw [if_pos (by simp [he]), if_pos he, clone_eq (by have := (h2 _ hm).len; omega)]
        rfl
      · rw [if_neg (by simpa using he), if_neg he, letV, wcast hi (by omega)]
    · unfold fold_FieldOf.l1
      simp only [not_lt_len, Bool.false_eq_true, if_false]
      rfl
  rw [key, Option.bind_some]
  cases get FN_ o.Fields k with
  | none => rfl
  | some o => rfl
structure GO (o : fold_Object) : Prop where
  len : o.Fields.length ≤ 100
  good : ∀ y ∈ o.Fields, GF 100 y
theorem GD.go {objs : List fold_Object} (h : GD 100 objs) : ∀ o ∈ objs, GO o := fun o ho => ⟨h.flen o ho, h.good o ho⟩
def fieldN (o : fold_Object) (k : List UInt8) : fold_Field := (get FN_ o.Fields k).getD { fold_zero with Name := k }
theorem fieldN_good {o : fold_Object} (g : GO o) (k : List UInt8) : Asc (fieldN o k).Elems ∧ (fieldN o k).Elems.length ≤ 100 := by
  unfold fieldN
  cases h : get FN_ o.Fields k with
  | none => exact ⟨List.Pairwise.nil, Nat.zero_le _⟩
  | some y =>
    have := g.good y (get_mem h)
    exact ⟨this.asc, this.len⟩
def keysF (f : schema_Field) (y : fold_Field) : List index_Key :=
  if f.Kind = 1 ∧ y.Register.Set = true ∧ f.f_Type = 1 then [⟨1, y.Register.N, []⟩]
  else if f.Kind = 1 ∧ y.Register.Set = true ∧ f.f_Type = 2 then [⟨2, 0, y.Register.S⟩]
  else if f.Kind = 4 then y.Elems.map fun s => ⟨2, 0, s⟩ else []
def keysOf (f : schema_Field) (o : fold_Object) : List index_Key := keysF f (fieldN o f.Name)
theorem keysF_srt {f : schema_Field} {y : fold_Field} (h : Asc y.Elems) : (keysF f y).Pairwise keyLt := by
  unfold keysF
  split
  · exact List.pairwise_singleton _ _
  · split
    · exact List.pairwise_singleton _ _
    · split
      · refine List.pairwise_map.2 (h.imp fun {a b} hab => ?_)
        exact .inr ⟨rfl, .inr ⟨rfl, hab⟩⟩
      · exact List.Pairwise.nil
theorem keysF_length {f : schema_Field} {y : fold_Field} (h : y.Elems.length ≤ 100) : (keysF f y).length ≤ 100 := by
  unfold keysF
  split
  · simp
  · split
    · simp
    · split
      · rw [List.length_map]; exact h
      · simp
theorem keysOf_srt {f : schema_Field} {o : fold_Object} (g : GO o) : (keysOf f o).Pairwise keyLt := keysF_srt (fieldN_good g f.Name).1
theorem keysOf_length {f : schema_Field} {o : fold_Object} (g : GO o) : (keysOf f o).length ≤ 100 := keysF_length (fieldN_good g f.Name).2
theorem keyLt_ne {a b : index_Key} (h : keyLt a b) : a ≠ b := fun e => keyLt_irrefl a (by rw [← e] at h; exact h)
theorem keyLt_asymm {a b : index_Key} (h : keyLt a b) : ¬ keyLt b a := fun k => keyLt_irrefl a (keyLt_trans h k)
theorem sortKeys_self {l : List index_Key} (h : l.Pairwise keyLt) (hl : l.length ≤ 1000000) : slices_SortFunc_Key l = some l := by
  unfold slices_SortFunc_Key sortU
  rw [if_pos ⟨h.imp fun {a b} hab => .inl (by rw [decide_eq_true_eq, keyCmp_lt]; exact hab), by omega⟩]
  congr 1
  refine List.mergeSort_of_pairwise (h.imp fun {a b} hab => ?_)
  have : ¬ keyCmp b a < 0 := by rw [keyCmp_lt]; exact keyLt_asymm hab
  simpa using this
theorem keys_j1 {l : List index_Key} (h : l.Pairwise keyLt) (hl : l.length ≤ 1000000) : index_Keys.j1 l = some l := by
  unfold index_Keys.j1
  rw [sortKeys_self h hl, Option.bind_some, compactK_eq (by omega), Option.bind_some, dd_self (h.imp fun {a b} hab => keyLt_ne hab)]
theorem index_Keys_eq {f : schema_Field} {o : fold_Object} (g : GO o) : index_Keys f o = some (keysOf f o) := by
  unfold index_Keys
  rw [FieldOf_eq g.len g.good (by decide), Option.bind_some]
  obtain ⟨h1, h2⟩ := fieldN_good g f.Name
  have hs : (keysOf f o).Pairwise keyLt := keysOf_srt g
  have hlen : (keysOf f o).length ≤ 100 := keysOf_length g
  unfold keysOf at hs hlen ⊢
  change (let y := fieldN o f.Name; _) = _
  obtain ⟨y, hy⟩ : ∃ y, y = fieldN o f.Name := ⟨_, rfl⟩
  have hy' : (get FN_ o.Fields f.Name).getD { fold_zero with Name := f.Name } = y := hy.symm
  rw [← hy] at h1 h2 hs hlen ⊢
  simp only [hy']
  have fin : ∀ l, l = keysF f y → index_Keys.j1 l = some (keysF f y) := fun l hl => by
    rw [hl]; exact keys_j1 hs (by omega)
  have loop : loopO (index_Keys.l1 y) ([], 0) = some (y.Elems.map fun s => (⟨2, 0, s⟩ : index_Key)) := by
    have := loopO_up (step := index_Keys.l1 y) (fun k => ((y.Elems.take k).map fun s => (⟨2, 0, s⟩ : index_Key), (k : Int))) y.Elems.length (b := y.Elems.map fun s => (⟨2, 0, s⟩ : index_Key)) (fun k hk => ?_) ?_
    · exact this
    · unfold index_Keys.l1
      simp only [lt_of_len hk, if_true, idx_nat hk, Option.bind_some]
      rw [app_of (by simp; omega), Option.bind_some, letV_of, wcast hk (by omega), take_snoc hk, List.map_append]
      rfl
    · unfold index_Keys.l1
      simp only [not_lt_len, Bool.false_eq_true, if_false, List.take_length]
  have hf2 : index_Keys.j2 f y false = some (if f.Kind = 4 then y.Elems.map fun s => (⟨2, 0, s⟩ : index_Key) else []) := by
    unfold index_Keys.j2
    rw [if_neg (by simp)]
    by_cases hk : f.Kind = 4
    · rw [if_pos (by simpa using hk), if_pos hk, loop, Option.bind_some]
      refine keys_j1 ?_ (by rw [List.length_map]; omega)
      exact List.pairwise_map.2 (h1.imp fun {a b} hab => .inr ⟨rfl, .inr ⟨rfl, hab⟩⟩)
    · rw [if_neg (by simpa using hk), if_neg hk]
      exact keys_j1 .nil (by simp)
  have hf3 : index_Keys.j3 f y false = some (if f.Kind = 1 ∧ y.Register.Set = true ∧ f.f_Type = 2 then [⟨2, 0, y.Register.S⟩] else if f.Kind = 4 then y.Elems.map fun s => (⟨2, 0, s⟩ : index_Key) else []) := by
    unfold index_Keys.j3
    rw [if_neg (by simp)]
    by_cases hk : f.Kind = 1
    · rw [if_pos (by simpa using hk)]
      cases hS : y.Register.Set with
      | false => rw [if_neg (by simp), hf2]; simp
      | true =>
        rw [if_pos rfl]
        by_cases ht : f.f_Type = 2
        · rw [if_pos ⟨hk, rfl, ht⟩]
          unfold index_Keys.j2
          rw [if_pos (by simpa using ht), app_of (by simp), Option.bind_some, ht]
          exact keys_j1 (List.pairwise_singleton _ _) (by simp)
        · rw [if_neg (fun h => ht h.2.2), show (f.f_Type == 2) = false by simpa using ht, hf2]
    · rw [if_neg (by simpa using hk), hf2]; simp [hk]
  unfold keysF
  by_cases hk : f.Kind = 1
  · rw [if_pos (by simpa using hk)]
    cases hS : y.Register.Set with
    | false => rw [if_neg (by simp), hf3]; simp [hS]
    | true =>
      rw [if_pos rfl]
      by_cases ht : f.f_Type = 1
      · rw [if_pos ⟨hk, rfl, ht⟩]
        unfold index_Keys.j3
        rw [if_pos (by simpa using ht), app_of (by simp), Option.bind_some, ht]
        exact keys_j1 (List.pairwise_singleton _ _) (by simp)
      · rw [if_neg (fun h => ht h.2.2), show (f.f_Type == 1) = false by simpa using ht, hf3, hS]
  · rw [if_neg (by simpa using hk), hf3]; simp [hk]
def pairsOf (f : schema_Field) (objs : List fold_Object) : List index_pair := objs.flatMap fun o => (keysOf f o).map fun k => ⟨k, o.Name⟩
theorem pairsOf_mem {f : schema_Field} {objs : List fold_Object} {p : index_pair} : p ∈ pairsOf f objs ↔ ∃ o ∈ objs, o.Name = p.f_object ∧ p.f_key ∈ keysOf f o := by
  unfold pairsOf
  rw [List.mem_flatMap]
  constructor
  · rintro ⟨o, ho, hp⟩
    obtain ⟨k, hk, rfl⟩ := List.mem_map.1 hp
    exact ⟨o, ho, rfl, hk⟩
  · rintro ⟨o, ho, hn, hk⟩
    refine ⟨o, ho, List.mem_map.2 ⟨p.f_key, hk, ?_⟩⟩
    rw [hn]
theorem pairsOf_length {f : schema_Field} : ∀ {objs : List fold_Object}, (∀ o ∈ objs, GO o) → (pairsOf f objs).length ≤ 100 * objs.length
  | [], _ => Nat.zero_le _
  | o :: objs, h => by
    have h1 := keysOf_length (f := f) (h o (by simp))
    have h2 := pairsOf_length (f := f) (objs := objs) fun q hq => h q (by simp [hq])
    unfold pairsOf at h2 ⊢
    rw [List.flatMap_cons, List.length_append, List.length_map, List.length_cons]
    omega
theorem pairsOf_snoc (f : schema_Field) (objs : List fold_Object) (o : fold_Object) : pairsOf f (objs ++ [o]) = pairsOf f objs ++ (keysOf f o).map fun k => ⟨k, o.Name⟩ := by
  unfold pairsOf
  rw [List.flatMap_append, List.flatMap_cons, List.flatMap_nil, List.append_nil]
theorem pairs_eq {f : schema_Field} {objs : List fold_Object} (h : ∀ o ∈ objs, GO o) (hl : objs.length ≤ 1000) : index_pairs f objs = some (pairsOf f objs) := by
  unfold index_pairs
  have := loopO_up (step := index_pairs.l2 f objs) (fun k => (pairsOf f (objs.take k), (k : Int))) objs.length (b := pairsOf f objs) (fun k hk => ?_) ?_
  · have this : loopO (index_pairs.l2 f objs) ([], 0) = some (pairsOf f objs) := this
    rw [this]
    rfl
  · have hg := h _ (List.getElem_mem hk)
    have hkl := keysOf_length (f := f) hg
    have hpl : (pairsOf f (objs.take k)).length ≤ 100 * 1000 := by
      have := pairsOf_length (f := f) (objs := objs.take k) fun q hq => h q (List.mem_of_mem_take hq)
      rw [List.length_take] at this
      omega
    unfold index_pairs.l2
    simp only [lt_of_len hk, if_true, idx_nat hk, Option.bind_some]
    rw [index_Keys_eq hg, Option.bind_some]
    have inner := loopO_up (step := index_pairs.l1 objs[k] (keysOf f objs[k])) (fun j => (pairsOf f (objs.take k) ++ ((keysOf f objs[k]).take j).map fun q => ⟨q, objs[k].Name⟩, (j : Int))) (keysOf f objs[k]).length (b := pairsOf f (objs.take k) ++ (keysOf f objs[k]).map fun q => ⟨q, objs[k].Name⟩) (fun j hj => ?_) ?_
    · have inner : loopO (index_pairs.l1 objs[k] (keysOf f objs[k])) (pairsOf f (objs.take k) ++ [], 0) = _ := inner
      rw [List.append_nil] at inner
      rw [inner, Option.bind_some]
      unfold index_pairs.j2
      rw [letV_of, wcast hk (by omega), take_snoc hk, pairsOf_snoc]
    · unfold index_pairs.l1
      simp only [lt_of_len hj, if_true, idx_nat hj, Option.bind_some]
      rw [app_of (by simp only [List.length_append, List.length_map, List.length_take, List.length_singleton]; omega), Option.bind_some, letV_of, wcast hj (by omega), take_snoc hj, List.map_append, List.append_assoc]
      rfl
    · unfold index_pairs.l1
      simp only [not_lt_len, Bool.false_eq_true, if_false, List.take_length]
  · unfold index_pairs.l2
    simp only [not_lt_len, Bool.false_eq_true, if_false, List.take_length]
structure IsIx (P : index_Key → List UInt8 → Prop) (es : List index_Entry) : Prop where
  srt : es.Pairwise fun a b => keyLt a.Key b.Key
  asc : ∀ e ∈ es, Asc e.Objects
  ne : ∀ e ∈ es, e.Objects ≠ []
  mem : ∀ k s, (∃ e ∈ es, e.Key = k ∧ s ∈ e.Objects) ↔ P k s
theorem ix_key {es : List index_Entry} (h : es.Pairwise fun a b => keyLt a.Key b.Key) {a b : index_Entry} (ha : a ∈ es) (hb : b ∈ es) (e : a.Key = b.Key) : a = b := by
  induction es with
  | nil => simp at ha
  | cons c es ih =>
    have h1 := (List.pairwise_cons.1 h).1
    have h2 := (List.pairwise_cons.1 h).2
    rcases List.mem_cons.1 ha with p | p <;> rcases List.mem_cons.1 hb with q | q
    · rw [p, q]
    · rw [p] at e; exact absurd e (keyLt_ne (h1 b q))
    · rw [q] at e; exact absurd e.symm (keyLt_ne (h1 a p))
    · exact ih h2 p q
theorem IsIx.obj {P : index_Key → List UInt8 → Prop} {es : List index_Entry} (h : IsIx P es) {e : index_Entry} (he : e ∈ es) (s : List UInt8) : s ∈ e.Objects ↔ P e.Key s := by
  rw [← h.mem]
  constructor
  · exact fun hs => ⟨e, he, rfl, hs⟩
  · rintro ⟨e', he', hk, hs⟩
    rw [← ix_key h.srt he' he hk]
    exact hs
theorem IsIx.sub {P : index_Key → List UInt8 → Prop} {es es' : List index_Entry} (h : IsIx P es) (h' : IsIx P es') {e : index_Entry} (he : e ∈ es) : e ∈ es' := by
  obtain ⟨s, hs⟩ : ∃ s, s ∈ e.Objects := by
    cases ho : e.Objects with
    | nil => exact absurd ho (h.ne e he)
    | cons s l => exact ⟨s, by simp⟩
  obtain ⟨e', he', hk, _⟩ := (h'.mem e.Key s).2 ((h.obj he s).1 hs)
  have : e.Objects = e'.Objects := ascS_ext (h.asc e he) (h'.asc e' he') fun x => by rw [h.obj he, h'.obj he', hk]
  have e2 : e = e' := by
    obtain ⟨k, o⟩ := e
    obtain ⟨k', o'⟩ := e'
    simp only at this hk
    rw [this, hk]
  rw [e2]
  exact he'
theorem IsIx.uniq {P : index_Key → List UInt8 → Prop} {es es' : List index_Entry} (h : IsIx P es) (h' : IsIx P es') : es = es' :=
  srt_ext (lt := fun a b => keyLt a.Key b.Key) (fun _ => keyLt_irrefl _) (fun _ _ _ => keyLt_trans) h.srt h'.srt fun x => ⟨fun hx => h.sub h' hx, fun hx => h'.sub h hx⟩
theorem IsIx.congr {P Q : index_Key → List UInt8 → Prop} {es : List index_Entry} (h : IsIx P es) (hpq : ∀ k s, P k s ↔ Q k s) : IsIx Q es := ⟨h.srt, h.asc, h.ne, fun k s => by rw [h.mem, hpq]⟩
section
variable {κ β : Type} [BEq κ] [LawfulBEq κ]
theorem nodup_lookupK : ∀ {x : List (κ × β)}, (x.map (·.1)).Nodup → ∀ o ∈ x, x.lookup o.1 = some o.2
  | [], _, o, h => by simp at h
  | a :: x, hn, o, h => by
    rw [List.map_cons, List.nodup_cons] at hn
    rw [List.lookup_cons]
    rcases List.mem_cons.1 h with rfl | h
    · simp
    · have : (o.1 == a.1) = false := by
        rw [beq_eq_false_iff_ne]
        exact fun e => hn.1 (List.mem_map.2 ⟨o, h, e⟩)
      rw [this]
      exact nodup_lookupK hn.2 o h
theorem lookup_memK {x : List (κ × β)} {k : κ} {b : β} (h : x.lookup k = some b) : (k, b) ∈ x := by
  induction x with
  | nil => cases h
  | cons a x ih =>
    rw [List.lookup_cons] at h
    cases hk : k == a.1 with
    | true =>
      rw [hk] at h
      have e : k = a.1 := by simpa using hk
      have : a = (k, b) := by rw [e]; exact Prod.ext rfl (Option.some.inj h)
      rw [this]; simp
    | false => rw [hk] at h; exact List.mem_cons_of_mem _ (ih h)
end
structure Grp (l : List index_pair) (gs : List (index_Key × List index_pair)) : Prop where
  nd : (gs.map (·.1)).Nodup
  len : gs.length ≤ l.length
  at_ : ∀ k, gs.lookup k = if l.filter (fun p => decide (p.f_key = k)) = [] then none else some (l.filter fun p => decide (p.f_key = k))
theorem groupBy_ex {l : List index_pair} (hl : l.length ≤ 1000000000) : ∃ gs, index_groupBy l = some gs ∧ Grp l gs := by
  unfold index_groupBy
  refine loopO_inv (fun n s => s.1 = (n : Int) ∧ Grp (l.take n) s.2) l.length ⟨rfl, ⟨by simp, by simp, fun k => by simp⟩⟩ ?_ ?_
  · rintro n ⟨i, gs⟩ hn ⟨hi, g⟩
    simp only at hi g
    subst hi
    have glen := g.len
    rw [List.length_take] at glen
    unfold index_groupBy.l1
    simp only [lt_of_len hn, if_true, idx_nat hn, Option.bind_some]
    have e1 : index_pair_group l[n] = some l[n].f_key := rfl
    have hfl : ((gs.lookup l[n].f_key).getD []) = (l.take n).filter fun p => decide (p.f_key = l[n].f_key) := by
      rw [g.at_]
      split
      · rename_i h; rw [h]; rfl
      · rfl
    have hfl2 := List.length_filter_le (fun p => decide (p.f_key = l[n].f_key)) (l.take n)
    rw [List.length_take] at hfl2
    rw [e1, Option.bind_some, hfl, app_of (by rw [List.length_singleton]; omega), Option.bind_some, letV_of, wcast hn (by omega)]
    refine ⟨_, rfl, rfl, ?_⟩
    simp only
    refine ⟨(mset_keys _ _ _ g.nd).1, ?_, fun k => ?_⟩
    · have := mset_length l[n].f_key ((l.take n).filter (fun p => decide (p.f_key = l[n].f_key)) ++ [l[n]]) gs
      rw [List.length_take]
      omega
    · rw [mset_lookup, take_snoc hn, List.filter_append]
      by_cases hk : k = l[n].f_key
      · rw [if_pos (by simp [hk]), ← hk, if_neg]
        · congr 2
          rw [List.filter_cons, if_pos (by simp [hk])]
          rfl
        · rw [List.filter_cons, if_pos (by simp [hk])]
          simp
      · have e2 : [l[n]].filter (fun p => decide (p.f_key = k)) = [] := by
          rw [List.filter_cons, if_neg (by simpa using fun e => hk e.symm)]
          rfl
        rw [if_neg (by simpa using hk), g.at_, e2, List.append_nil]
  · rintro ⟨i, gs⟩ ⟨hi, g⟩
    simp only at hi g
    subst hi
    unfold index_groupBy.l1
    simp only [not_lt_len, Bool.false_eq_true, if_false]
    rw [List.take_length] at g
    exact ⟨gs, rfl, g⟩
def ent (p : index_Key × List index_pair) : index_Entry := ⟨p.1, ascL (p.2.map fun q => q.f_object)⟩
def srtE (es : List index_Entry) : List index_Entry := es.mergeSort fun a b => !decide (keyCmp b.Key a.Key < 0)
theorem objs_loop {g : List index_pair} (hl : g.length ≤ 1000000000) : loopO (index_collect.l1 g) (0, []) = some (g.map fun q => q.f_object) := by
  have := loopO_up (step := index_collect.l1 g) (fun k => ((k : Int), (g.take k).map fun q => q.f_object)) g.length (b := g.map fun q => q.f_object) (fun k hk => ?_) ?_
  · exact this
  · unfold index_collect.l1
    simp only [lt_of_len hk, if_true, idx_nat hk, Option.bind_some]
    rw [app_of (by simp only [List.length_map, List.length_take, List.length_singleton]; omega), Option.bind_some, letV_of, wcast hk (by omega), take_snoc hk, List.map_append]
    rfl
  · unfold index_collect.l1
    simp only [not_lt_len, Bool.false_eq_true, if_false, List.take_length]
theorem ents_fold : ∀ (t : List (index_Key × List index_pair)) (es : List index_Entry), (∀ p ∈ t, p.2.length ≤ 1000000000) → es.length + t.length ≤ 1000000000 →
    foldO (fun p : index_Key × (List index_pair) => index_collect.l2 p.1 p.2) t es = some (.inl (es ++ t.map ent))
  | [], es, _, _ => by rw [foldO, List.map_nil, List.append_nil]
  | p :: t, es, h, hl => by
    have hp := h p (by simp)
    rw [List.length_cons] at hl
    have step : index_collect.l2 p.1 p.2 es = some (.inl (es ++ [ent p])) := by
      unfold index_collect.l2 index_collect.j2
      rw [objs_loop hp, Option.bind_some, ascending_eq (by rw [List.length_map]; omega), Option.bind_some, app_of (by rw [List.length_singleton]; omega), Option.bind_some]
      rfl
    rw [foldO, step]
    have := ents_fold t (es ++ [ent p]) (fun q hq => h q (by simp [hq])) (by rw [List.length_append, List.length_singleton]; omega)
    simp only
    rw [this, List.map_cons, List.append_assoc]
    rfl
theorem srtE_perm (es : List index_Entry) : (srtE es).Perm es := List.mergeSort_perm _ _
theorem sortE_eq {es : List index_Entry} (h : (es.map (·.Key)).Nodup) (hl : es.length ≤ 1000000000) : slices_SortFunc_Entry es = some (srtE es) ∧ (srtE es).Pairwise fun a b => keyLt a.Key b.Key := by
  have hp : es.Pairwise fun a b => decide (keyCmp a.Key b.Key < 0) = true ∨ decide (keyCmp b.Key a.Key < 0) = true := by
    refine (List.pairwise_map.1 h).imp fun {a b} hab => ?_
    simp only [decide_eq_true_eq, keyCmp_lt]
    refine Classical.byContradiction fun hc => ?_
    rw [not_or] at hc
    exact hab (key_tri hc.1 hc.2)
  have e1 : slices_SortFunc_Entry es = some (srtE es) := by
    unfold slices_SortFunc_Entry sortU
    rw [if_pos ⟨hp, by omega⟩]
    rfl
  refine ⟨e1, ?_⟩
  have h1 := sortU_sorted (swo_keys fun e : index_Entry => e.Key) (xs := es) (ys := srtE es) e1
  have h2 := pairwise_perm (fun a b h => h.symm) (srtE_perm es).symm hp
  refine (h1.and h2).imp fun {a b} hab => ?_
  obtain ⟨a1, a2⟩ := hab
  simp only [decide_eq_true_eq, decide_eq_false_iff_not, keyCmp_lt] at a1 a2
  exact a2.resolve_right a1
theorem collect_eq {f : schema_Field} {l : List index_pair} (hl : l.length ≤ 1000000000) :
    ∃ es, index_collect f l = some ⟨f, es⟩ ∧ IsIx (fun k s => (⟨k, s⟩ : index_pair) ∈ l) es ∧ es.length ≤ l.length ∧ ∀ e ∈ es, e.Objects.length ≤ l.length := by
  obtain ⟨gs, e1, g⟩ := groupBy_ex hl
  have glen := g.len
  have gmem : ∀ p : index_Key × List index_pair, p ∈ gs → p.2 = (l.filter fun q => decide (q.f_key = p.1)) ∧ p.2 ≠ [] := by
    intro p hp
    have h1 := nodup_lookupK g.nd p hp
    rw [g.at_] at h1
    split at h1
    · cases h1
    · rename_i hne
      have := Option.some.inj h1
      exact ⟨this.symm, by rw [← this]; exact hne⟩
  have facts : ∀ t : List (index_Key × List index_pair), t.Perm gs → (foldO (fun p : index_Key × (List index_pair) => index_collect.l2 p.1 p.2) t []) = some (.inl (t.map ent)) ∧ slices_SortFunc_Entry (t.map ent) = some (srtE (t.map ent)) ∧ IsIx (fun k s => (⟨k, s⟩ : index_pair) ∈ l) (srtE (t.map ent)) := by
    intro t ht
    have tl : t.length ≤ 1000000000 := by rw [ht.length_eq]; omega
    have tm : ∀ p ∈ t, p.2.length ≤ l.length := fun p hp => by
      rw [(gmem p (ht.mem_iff.1 hp)).1]
      exact List.length_filter_le _ _
    have f1 := ents_fold t [] (fun p hp => Nat.le_trans (tm p hp) hl) (by simpa using tl)
    rw [List.nil_append] at f1
    have nd : ((t.map ent).map (·.Key)).Nodup := by
      rw [List.map_map]
      exact ((ht.map (·.1)).nodup_iff).2 g.nd
    obtain ⟨s1, s2⟩ := sortE_eq nd (by rw [List.length_map]; exact tl)
    refine ⟨f1, s1, s2, fun e he => ?_, fun e he => ?_, fun k s => ?_⟩
    · obtain ⟨p, _, rfl⟩ := List.mem_map.1 ((srtE_perm _).mem_iff.1 he)
      exact ascL_asc _
    · obtain ⟨p, hp, rfl⟩ := List.mem_map.1 ((srtE_perm _).mem_iff.1 he)
      obtain ⟨q, hq⟩ : ∃ q, q ∈ p.2 := by
        cases h2 : p.2 with
        | nil => exact absurd h2 (gmem p (ht.mem_iff.1 hp)).2
        | cons q _ => exact ⟨q, by simp⟩
      intro h0
      have : q.f_object ∈ (ent p).Objects := (ascL_mem _ _).2 (List.mem_map.2 ⟨q, hq, rfl⟩)
      rw [h0] at this
      simp at this
    · constructor
      · rintro ⟨e, he, hk, hs⟩
        obtain ⟨p, hp, rfl⟩ := List.mem_map.1 ((srtE_perm _).mem_iff.1 he)
        obtain ⟨q, hq, rfl⟩ := List.mem_map.1 ((ascL_mem _ _).1 hs)
        rw [(gmem p (ht.mem_iff.1 hp)).1, List.mem_filter] at hq
        have hk2 : q.f_key = p.1 := by simpa using hq.2
        have hk : p.1 = k := hk
        rw [← hk, ← hk2]
        exact hq.1
      · intro hm
        have hf : (⟨k, s⟩ : index_pair) ∈ l.filter fun q => decide (q.f_key = k) := List.mem_filter.2 ⟨hm, by simp⟩
        have hlk : gs.lookup k = some (l.filter fun q => decide (q.f_key = k)) := by
          rw [g.at_, if_neg]
          intro h0
          rw [h0] at hf
          simp at hf
        have hg := lookup_memK hlk
        refine ⟨ent (k, l.filter fun q => decide (q.f_key = k)), (srtE_perm _).mem_iff.2 (List.mem_map.2 ⟨_, ht.mem_iff.2 hg, rfl⟩), rfl, ?_⟩
        exact (ascL_mem _ _).2 (List.mem_map.2 ⟨_, hf, rfl⟩)
  obtain ⟨_, _, ix0⟩ := facts gs (.refl _)
  refine ⟨srtE (gs.map ent), ?_, ix0, ?_, fun e he => ?_⟩
  · unfold index_collect
    rw [e1, Option.bind_some]
    refine permI fun t ht => ?_
    obtain ⟨f1, f2, f3⟩ := facts t ht
    rw [f1, Option.bind_some]
    simp only
    unfold index_collect.j1
    rw [f2, Option.bind_some, f3.uniq ix0]
  · rw [(srtE_perm _).length_eq, List.length_map]
    exact glen
  · obtain ⟨p, hp, rfl⟩ := List.mem_map.1 ((srtE_perm _).mem_iff.1 he)
    refine Nat.le_trans (ascL_length _) ?_
    rw [List.length_map, (gmem p hp).1]
    exact List.length_filter_le _ _
def PB (f : schema_Field) (objs : List fold_Object) (k : index_Key) (s : List UInt8) : Prop := ∃ o ∈ objs, o.Name = s ∧ k ∈ keysOf f o
structure GX (P : index_Key → List UInt8 → Prop) (es : List index_Entry) : Prop where
  ix : IsIx P es
  len : es.length ≤ 10000
  olen : ∀ e ∈ es, e.Objects.length ≤ 10000
theorem Build_eq (f : schema_Field) {objs : List fold_Object} (h : ∀ o ∈ objs, GO o) (hl : objs.length ≤ 100) : ∃ es, index_Build f ⟨objs⟩ = some ⟨f, es⟩ ∧ GX (PB f objs) es := by
  have hpl := pairsOf_length (f := f) h
  obtain ⟨es, e1, e2, e3, e4⟩ := collect_eq (f := f) (l := pairsOf f objs) (by omega)
  refine ⟨es, ?_, e2.congr fun k s => pairsOf_mem, by omega, fun e he => by have := e4 e he; omega⟩
  unfold index_Build
  rw [pairs_eq h (by omega), Option.bind_some, e1, Option.bind_some]
theorem GX.uniq {P : index_Key → List UInt8 → Prop} {es es' : List index_Entry} (h : GX P es) (h' : GX P es') : es = es' := h.ix.uniq h'.ix
theorem Compare_eq (a b : index_Key) : index_Compare a b = some (keyCmp a b) := by
  unfold index_Compare
  rw [compare_eq, Option.bind_some, compare64_eq, Option.bind_some, compareS_eq, Option.bind_some, or_eq, Option.bind_some]
  rfl
theorem cmpI_swap (x y : Int) : cmpI y x = - cmpI x y := by
  unfold cmpI
  split <;> split <;> omega
theorem cmpS_swap (x y : List UInt8) : cmpS y x = - cmpS x y := by
  unfold cmpS
  cases h1 : Op.bytesLess x y with
  | true => rw [bl_asymm h1]; rfl
  | false => cases h2 : Op.bytesLess y x <;> rfl
theorem keyCmp_swap (a b : index_Key) : keyCmp b a = - keyCmp a b := by
  unfold keyCmp
  rw [cmpI_swap a.f_Type, cmpI_swap a.N, cmpS_swap a.S]
  by_cases h1 : cmpI a.f_Type b.f_Type = 0
  · by_cases h2 : cmpI a.N b.N = 0
    · simp [h1, h2]
    · simp [h1, h2]
  · simp [h1]
theorem keyCmp_gt (a b : index_Key) : 0 < keyCmp a b ↔ keyLt b a := by
  rw [← keyCmp_lt, keyCmp_swap b a]
  omega
theorem keyCmp_le (a b : index_Key) : keyCmp a b ≤ 0 ↔ ¬ keyLt b a := by
  rw [← keyCmp_gt]
  omega
theorem eqloop {α β : Type} [DecidableEq β] {step : Int → Option (Int ⊕ (Unit ⊕ Bool))} (c : α → β) (xs : List α) (ys : List β) (hl : xs.length = ys.length)
    (hs : ∀ (k : Nat) (h : k < xs.length), step (k : Int) = if c xs[k] = ys[k]'(by omega) then some (.inl ((k + 1 : Nat) : Int)) else some (.inr (.inr false))) (he : step (xs.length : Int) = some (.inr (.inl ()))) :
    loopO step 0 = some (if xs.map c = ys then .inl () else .inr false) := by
  have : ∀ m k, k + m = xs.length → loopO step (k : Int) = some (if (xs.drop k).map c = ys.drop k then .inl () else .inr false) := by
    intro m
    induction m with
    | zero =>
      intro k hk
      have hk : k = xs.length := by omega
      subst hk
      rw [loopO_done he, List.drop_length, hl, List.drop_length]
      rfl
    | succ m ih =>
      intro k hk
      have hk' : k < xs.length := by omega
      rw [List.drop_eq_getElem_cons hk', List.drop_eq_getElem_cons (show k < ys.length by omega), List.map_cons]
      have h1 := hs k hk'
      by_cases hc : c xs[k] = ys[k]'(by omega)
      · rw [if_pos hc] at h1
        rw [loopO_next h1, ih (k + 1) (by omega), hc]
        simp only [List.cons.injEq, true_and]
      · rw [if_neg hc] at h1
        rw [loopO_done h1, if_neg (fun h => hc (List.cons.inj h).1)]
  have h := this xs.length 0 (by omega)
  rw [List.drop_zero, List.drop_zero] at h
  exact h
theorem rstrings_eq {a b : List (List UInt8)} (hl : a.length ≤ 4611686018427387904) : esref32_EqualStrings a b = some (decide (a = b)) := by
  unfold esref32_EqualStrings
  by_cases h : a.length = b.length
  · rw [if_neg (by simp [h])]
    have key : loopO (esref32_EqualStrings.l1 a b) 0 = some (if a.map (fun x => x) = b then .inl () else .inr false) := by
      refine eqloop (fun x => x) a b h (fun k hk => ?_) ?_
      · unfold esref32_EqualStrings.l1
        simp only [lt_of_len hk, if_true, idx_nat hk, idx_nat (show k < b.length by omega), Option.bind_some]
        by_cases he : a[k] = b[k]'(by omega)
        · rw [if_neg (by simpa using he), if_pos he, letV_of, wcast hk (by omega)]
        · rw [if_pos (by simpa using he), if_neg he]
      · unfold esref32_EqualStrings.l1
        simp only [not_lt_len, Bool.false_eq_true, if_false]
    rw [key, Option.bind_some, List.map_id']
    by_cases he : a = b
    · rw [if_pos he]; simp [he, esref32_EqualStrings.j1]
    · rw [if_neg he]; simp [he]
  · rw [if_pos (by simp; omega)]
    have : a ≠ b := fun e => h (by rw [e])
    simp [this]
theorem mem_insS : ∀ {l : List (List UInt8)} {s x : List UInt8}, x ∈ insS l s ↔ x = s ∨ x ∈ l
  | [], s, x => by simp [insS]
  | a :: l, s, x => by
    unfold insS
    split
    · rw [List.mem_cons, mem_insS, List.mem_cons]
      constructor
      · rintro (h | h | h)
        · exact .inr (.inl h)
        · exact .inl h
        · exact .inr (.inr h)
      · rintro (h | h | h)
        · exact .inr (.inl h)
        · exact .inl h
        · exact .inr (.inr h)
    · split
      · rename_i he
        have he : a = s := by simpa using he
        constructor
        · exact .inr
        · rintro (h | h)
          · rw [h, he]; simp
          · exact h
      · rw [List.mem_cons]
theorem rInsert_eq {x : List (List UInt8)} {s : List UInt8} (ha : Asc x) (hl : x.length ≤ 1000000000) : esref32_Insert x s = some (insS x s) := by
  unfold esref32_Insert
  have hp := posS_le x s
  obtain ⟨p, hpe⟩ : ∃ p, p = posS x s := ⟨_, rfl⟩
  have gD : ∀ k (h : k < x.length), x.getD k s = x[k] := fun k h => by simp [h]
  have key : loopO (esref32_Insert.l1 x s) 0 = some (p : Int) := by
    have := loopO_up (step := esref32_Insert.l1 x s) (fun k => (k : Int)) p (b := (p : Int)) (fun k hk => ?_) ?_
    · exact this
    · have hkx : k < x.length := by omega
      have h1 := posS_lt x s k (by omega)
      rw [gD k hkx] at h1
      unfold esref32_Insert.l1
      simp only [lt_of_len hkx, if_true, idx_nat hkx, Option.bind_some, h1]
      unfold esref32_Insert.j4
      rw [if_pos rfl, letV_of, wcast hkx (by omega)]
    · unfold esref32_Insert.l1
      by_cases hpx : p < x.length
      · have h1 := posS_ge x s ha p (by omega)
        rw [gD p hpx] at h1
        simp only [lt_of_len hpx, if_true, idx_nat hpx, Option.bind_some, h1]
        unfold esref32_Insert.j4
        rw [if_neg (by simp)]
      · rw [if_neg (by simp; omega)]
        unfold esref32_Insert.j4
        rw [if_neg (by simp)]
  rw [key, Option.bind_some, insS_pos, ← hpe]
  have no : esref32_Insert.j2 x s (p : Int) false = some (x.take p ++ s :: x.drop p) := by
    unfold esref32_Insert.j2
    rw [if_neg (by simp), cut_of (by omega) (by omega) (by omega), Option.bind_some]
    simp only [Int.toNat_zero, List.drop_zero, Int.toNat_natCast]
    have hlt : (x.take p).length ≤ x.length := by rw [List.length_take]; omega
    rw [app_of (by rw [List.length_nil]; omega), Option.bind_some, List.nil_append, app_of (by rw [List.length_singleton]; omega), Option.bind_some, cut_of (by omega) (by omega) (by omega), Option.bind_some]
    simp only [Int.toNat_natCast, List.take_length]
    rw [app_of (by simp only [List.length_append, List.length_singleton, List.length_drop]; omega), Option.bind_some]
    unfold esref32_Insert.j1
    rw [List.append_assoc]
    rfl
  unfold esref32_Insert.j3
  by_cases hpx : p < x.length
  · rw [if_pos (by simpa using hpx), idx_nat hpx, Option.bind_some]
    by_cases he : x[p] = s
    · rw [if_pos ⟨hpx, by rw [gD p hpx]; exact he⟩, show (x[p] == s) = true by simp [he]]
      unfold esref32_Insert.j2
      rw [if_pos rfl, app_of (by rw [List.length_nil]; omega), Option.bind_some, List.nil_append]
    · rw [if_neg (fun h => he (by rw [← gD p hpx]; exact h.2)), show (x[p] == s) = false by simpa using he, no]
  · rw [if_neg (by simpa using hpx), if_neg (fun h => hpx h.1), no]
structure RG (es : List index_Entry) (lo hi : index_Key) (r : List (List UInt8)) : Prop where
  asc : Asc r
  len : r.length ≤ 100000000
  mem : ∀ x, x ∈ r ↔ ∃ e ∈ es, ¬ keyLt e.Key lo ∧ ¬ keyLt hi e.Key ∧ x ∈ e.Objects
theorem RG.uniq {es : List index_Entry} {lo hi : index_Key} {r r' : List (List UInt8)} (h : RG es lo hi r) (h' : RG es lo hi r') : r = r' := ascS_ext h.asc h'.asc fun x => by rw [h.mem, h'.mem]
structure EB (es : List index_Entry) : Prop where
  len : es.length ≤ 10000
  olen : ∀ e ∈ es, e.Objects.length ≤ 10000
theorem GX.eb {P : index_Key → List UInt8 → Prop} {es : List index_Entry} (h : GX P es) : EB es := ⟨h.len, h.olen⟩
theorem Range_eq {f : schema_Field} {es : List index_Entry} (hb : EB es) (lo hi : index_Key) : ∃ r, index_Range ⟨f, es⟩ lo hi = some r ∧ RG es lo hi r := by
  unfold index_Range
  have hlen := hb.len
  have key : ∃ b : List (List UInt8), loopO (index_Range.l1 ⟨f, es⟩ lo hi) ([], 0) = some b ∧ b.length ≤ 100000000 ∧ ∀ x, x ∈ b ↔ ∃ e ∈ es, ¬ keyLt e.Key lo ∧ ¬ keyLt hi e.Key ∧ x ∈ e.Objects := by
    refine loopO_inv (fun n s => s.2 = (n : Int) ∧ s.1.length ≤ 10000 * n ∧ ∀ x, x ∈ s.1 ↔ ∃ e ∈ es.take n, ¬ keyLt e.Key lo ∧ ¬ keyLt hi e.Key ∧ x ∈ e.Objects) es.length ⟨rfl, Nat.le_refl _, by simp⟩ ?_ ?_
    · rintro n ⟨r, i⟩ hn ⟨hi', h1, h2⟩
      simp only at hi' h1 h2
      subst hi'
      have ho := hb.olen _ (List.getElem_mem hn)
      unfold index_Range.l1
      simp only [lt_of_len hn, if_true, idx_nat hn, Option.bind_some, Compare_eq]
      have tk : ∀ x, (∃ e ∈ es.take (n + 1), ¬ keyLt e.Key lo ∧ ¬ keyLt hi e.Key ∧ x ∈ e.Objects) ↔ (x ∈ r ∨ (¬ keyLt es[n].Key lo ∧ ¬ keyLt hi es[n].Key ∧ x ∈ es[n].Objects)) := by
        intro x
        rw [take_snoc hn, h2]
        constructor
        · rintro ⟨e, he, h⟩
          rcases List.mem_append.1 he with he | he
          · exact .inl ⟨e, he, h⟩
          · have : e = es[n] := by simpa using he
            rw [this] at h
            exact .inr h
        · rintro (⟨e, he, h⟩ | h)
          · exact ⟨e, List.mem_append.2 (.inl he), h⟩
          · exact ⟨es[n], List.mem_append.2 (.inr (by simp)), h⟩
      have skip : (¬ (¬ keyLt es[n].Key lo ∧ ¬ keyLt hi es[n].Key)) → ∃ s', index_Range.j3 r (n : Int) es[n] false = some (.inl s') ∧ s'.2 = ((n + 1 : Nat) : Int) ∧ s'.1.length ≤ 10000 * (n + 1) ∧ ∀ x, x ∈ s'.1 ↔ ∃ e ∈ es.take (n + 1), ¬ keyLt e.Key lo ∧ ¬ keyLt hi e.Key ∧ x ∈ e.Objects := by
        intro hc
        unfold index_Range.j3 index_Range.j2
        rw [if_neg (by simp), letV_of, wcast hn (by omega)]
        refine ⟨_, rfl, rfl, by simp only; omega, fun x => ?_⟩
        rw [tk]
        constructor
        · exact .inl
        · rintro (h | h)
          · exact h
          · exact absurd ⟨h.1, h.2.1⟩ hc
      by_cases c1 : keyLt es[n].Key lo
      · rw [if_neg (by rw [decide_eq_true_eq, keyCmp_le]; exact fun h => h c1)]
        exact skip fun h => h.1 c1
      · rw [if_pos (by rw [decide_eq_true_eq, keyCmp_le]; exact c1)]
        by_cases c2 : keyLt hi es[n].Key
        · rw [decide_eq_false (by rw [keyCmp_le]; exact fun h => h c2)]
          exact skip fun h => h.2 c2
        · rw [decide_eq_true (by rw [keyCmp_le]; exact c2)]
          unfold index_Range.j3 index_Range.j2
          rw [if_pos rfl, app_of (by omega), Option.bind_some, letV_of, wcast hn (by omega)]
          refine ⟨_, rfl, rfl, by simp only [List.length_append]; omega, fun x => ?_⟩
          rw [tk, List.mem_append]
          constructor
          · rintro (h | h)
            · exact .inl h
            · exact .inr ⟨c1, c2, h⟩
          · rintro (h | h)
            · exact .inl h
            · exact .inr h.2.2
    · rintro ⟨r, i⟩ ⟨hi', h1, h2⟩
      simp only at hi' h1 h2
      subst hi'
      unfold index_Range.l1
      simp only [not_lt_len, Bool.false_eq_true, if_false]
      rw [List.take_length] at h2
      exact ⟨r, rfl, by omega, h2⟩
  obtain ⟨b, b1, b2, b3⟩ := key
  rw [b1, Option.bind_some]
  unfold index_Range.j1
  rw [ascending_eq (by omega), Option.bind_some]
  exact ⟨_, rfl, ascL_asc b, by have := ascL_length b; omega, fun x => by rw [ascL_mem, b3]⟩
theorem Lookup_eq {f : schema_Field} {es : List index_Entry} (hb : EB es) (k : index_Key) : ∃ r, index_Lookup ⟨f, es⟩ k = some r ∧ RG es k k r := by
  unfold index_Lookup
  obtain ⟨r, h1, h2⟩ := Range_eq (f := f) hb k k
  rw [h1, Option.bind_some]
  exact ⟨r, rfl, h2⟩
theorem RG.look {es : List index_Entry} {k : index_Key} {r : List (List UInt8)} (h : RG es k k r) (x : List UInt8) : x ∈ r ↔ ∃ e ∈ es, e.Key = k ∧ x ∈ e.Objects := by
  rw [h.mem]
  constructor
  · rintro ⟨e, he, h1, h2, h3⟩
    exact ⟨e, he, key_tri h1 h2, h3⟩
  · rintro ⟨e, he, rfl, h3⟩
    exact ⟨e, he, keyLt_irrefl _, keyLt_irrefl _, h3⟩
abbrev wOwn : List UInt8 := [111, 119, 110, 101, 114]
abbrev wAnn : List UInt8 := [97, 110, 110]
abbrev wBob : List UInt8 := [98, 111, 98]
def wE (o s : List UInt8) : api_Effect := ⟨1, o, wOwn, 0, s⟩
def wFl (c : Int) (s : List UInt8) : fold_Field := ⟨wOwn, ⟨true, 0, c, 1, 0, s⟩, false, 0, 0, [], false⟩
def wT3 : List fold_Object := [⟨[97], [wFl 102 wAnn]⟩, ⟨[98], [wFl 101 wAnn]⟩, ⟨[99], [wFl 103 wBob]⟩]
def wX : List index_Entry := [⟨⟨2, 0, wAnn⟩, [[97], [98]]⟩, ⟨⟨2, 0, wBob⟩, [[99]]⟩]
def wF : schema_Field := ⟨wOwn, 1, 2, 0⟩
theorem wE_ef (c : Int) {o s : List UInt8} (h1 : o.length ≤ 1000) (h2 : s.length ≤ 1000) : ∀ e ∈ (⟨c, 1, 0, [wE o s]⟩ : api_Update).Effects, EF e := by
  intro e he
  have : e = wE o s := by simpa using he
  subst this
  exact ⟨h1, by show wOwn.length ≤ 1000; decide, h2⟩
theorem w_store : loopO eslaw32_awake.l1 (0, []) = some wT3 ∧ GD 100 wT3 := by
  obtain ⟨a1, g1⟩ := Apply_eq (n := 0) (t := ⟨[]⟩) (u := ⟨101, 1, 0, [wE [98] wAnn]⟩) (GD_nil 0) (wE_ef 101 (by decide) (by decide)) (by decide)
  obtain ⟨a2, g2⟩ := Apply_eq (t := ⟨appT ⟨101, 1, 0, [wE [98] wAnn]⟩ []⟩) (u := ⟨102, 1, 0, [wE [97] wAnn]⟩) g1 (wE_ef 102 (by decide) (by decide)) (by decide)
  obtain ⟨a3, g3⟩ := Apply_eq (t := ⟨appT ⟨102, 1, 0, [wE [97] wAnn]⟩ (appT ⟨101, 1, 0, [wE [98] wAnn]⟩ [])⟩) (u := ⟨103, 1, 0, [wE [99] wBob]⟩) g2 (wE_ef 103 (by decide) (by decide)) (by decide)
  have ew : appT ⟨103, 1, 0, [wE [99] wBob]⟩ (appT ⟨102, 1, 0, [wE [97] wAnn]⟩ (appT ⟨101, 1, 0, [wE [98] wAnn]⟩ [])) = wT3 := by decide
  have ew' : appT ⟨103, 1, 0, [wE [99] wBob]⟩ (⟨appT ⟨102, 1, 0, [wE [97] wAnn]⟩ (appT ⟨101, 1, 0, [wE [98] wAnn]⟩ [])⟩ : fold_Store).Objects = wT3 := ew
  rw [ew'] at a3 g3
  refine ⟨?_, g3.mono (by decide)⟩
  rw [loopO_next (s' := (1, appT ⟨101, 1, 0, [wE [98] wAnn]⟩ [])), loopO_next (s' := (2, appT ⟨102, 1, 0, [wE [97] wAnn]⟩ (appT ⟨101, 1, 0, [wE [98] wAnn]⟩ []))), loopO_next (s' := (3, wT3)), loopO_done (b := wT3)]
  · rfl
  · unfold eslaw32_awake.l1
    simp only
    rw [if_pos (by decide), show idx [([98] : List UInt8), ([97] : List UInt8), ([99] : List UInt8)] 2 = some [99] from rfl, Option.bind_some, letV_of, show IntKind.i64.wrap (101 + 2) = 103 from rfl, show idx [([97, 110, 110] : List UInt8), ([97, 110, 110] : List UInt8), ([98, 111, 98] : List UInt8)] 2 = some wBob from rfl, Option.bind_some]
    show (fold_Apply ⟨appT ⟨102, 1, 0, [wE [97] wAnn]⟩ (appT ⟨101, 1, 0, [wE [98] wAnn]⟩ [])⟩ ⟨103, 1, 0, [wE [99] wBob]⟩).bind _ = _
    rw [a3]
    rfl
  · unfold eslaw32_awake.l1
    simp only
    rw [if_pos (by decide), show idx [([98] : List UInt8), ([97] : List UInt8), ([99] : List UInt8)] 1 = some [97] from rfl, Option.bind_some, letV_of, show IntKind.i64.wrap (101 + 1) = 102 from rfl, show idx [([97, 110, 110] : List UInt8), ([97, 110, 110] : List UInt8), ([98, 111, 98] : List UInt8)] 1 = some wAnn from rfl, Option.bind_some]
    show (fold_Apply ⟨appT ⟨101, 1, 0, [wE [98] wAnn]⟩ []⟩ ⟨102, 1, 0, [wE [97] wAnn]⟩).bind _ = _
    rw [a2]
    rfl
  · unfold eslaw32_awake.l1
    simp only
    rw [if_pos (by decide), show idx [([98] : List UInt8), ([97] : List UInt8), ([99] : List UInt8)] 0 = some [98] from rfl, Option.bind_some, letV_of, show IntKind.i64.wrap (101 + 0) = 101 from rfl, show idx [([97, 110, 110] : List UInt8), ([97, 110, 110] : List UInt8), ([98, 111, 98] : List UInt8)] 0 = some wAnn from rfl, Option.bind_some]
    show (fold_Apply ⟨[]⟩ ⟨101, 1, 0, [wE [98] wAnn]⟩).bind _ = _
    rw [a1]
    rfl
theorem wk1 : keysOf wF ⟨[97], [wFl 102 wAnn]⟩ = [⟨2, 0, wAnn⟩] := by decide
theorem wk2 : keysOf wF ⟨[98], [wFl 101 wAnn]⟩ = [⟨2, 0, wAnn⟩] := by decide
theorem wk3 : keysOf wF ⟨[99], [wFl 103 wBob]⟩ = [⟨2, 0, wBob⟩] := by decide
theorem wX_ix : IsIx (PB wF wT3) wX := by
  refine ⟨?_, ?_, ?_, fun k s => ?_⟩
  · unfold wX
    refine List.pairwise_cons.2 ⟨fun b hb => ?_, List.pairwise_singleton _ _⟩
    have : b = ⟨⟨2, 0, wBob⟩, [[99]]⟩ := by simpa using hb
    subst this
    exact .inr ⟨rfl, .inr ⟨rfl, by decide⟩⟩
  · intro e he
    have : e = ⟨⟨2, 0, wAnn⟩, [[97], [98]]⟩ ∨ e = ⟨⟨2, 0, wBob⟩, [[99]]⟩ := by simpa [wX] using he
    rcases this with rfl | rfl
    · show List.Pairwise _ _
      refine List.pairwise_cons.2 ⟨fun b hb => ?_, List.pairwise_singleton _ _⟩
      have : b = [98] := by simpa using hb
      subst this
      decide
    · exact List.pairwise_singleton _ _
  · intro e he
    have : e = ⟨⟨2, 0, wAnn⟩, [[97], [98]]⟩ ∨ e = ⟨⟨2, 0, wBob⟩, [[99]]⟩ := by simpa [wX] using he
    rcases this with rfl | rfl <;> simp
  · constructor
    · rintro ⟨e, he, rfl, hs⟩
      have : e = ⟨⟨2, 0, wAnn⟩, [[97], [98]]⟩ ∨ e = ⟨⟨2, 0, wBob⟩, [[99]]⟩ := by simpa [wX] using he
      rcases this with rfl | rfl
      · have : s = [97] ∨ s = [98] := by simpa using hs
        rcases this with rfl | rfl
        · exact ⟨⟨[97], [wFl 102 wAnn]⟩, by simp [wT3], rfl, by rw [wk1]; simp⟩
        · exact ⟨⟨[98], [wFl 101 wAnn]⟩, by simp [wT3], rfl, by rw [wk2]; simp⟩
      · have : s = [99] := by simpa using hs
        subst this
        exact ⟨⟨[99], [wFl 103 wBob]⟩, by simp [wT3], rfl, by rw [wk3]; simp⟩
    · rintro ⟨o, ho, rfl, hk⟩
      have : o = ⟨[97], [wFl 102 wAnn]⟩ ∨ o = ⟨[98], [wFl 101 wAnn]⟩ ∨ o = ⟨[99], [wFl 103 wBob]⟩ := by simpa [wT3] using ho
      rcases this with rfl | rfl | rfl
      · rw [wk1] at hk
        have : k = ⟨2, 0, wAnn⟩ := by simpa using hk
        subst this
        exact ⟨⟨⟨2, 0, wAnn⟩, [[97], [98]]⟩, by simp [wX], rfl, by simp⟩
      · rw [wk2] at hk
        have : k = ⟨2, 0, wAnn⟩ := by simpa using hk
        subst this
        exact ⟨⟨⟨2, 0, wAnn⟩, [[97], [98]]⟩, by simp [wX], rfl, by simp⟩
      · rw [wk3] at hk
        have : k = ⟨2, 0, wBob⟩ := by simpa using hk
        subst this
        exact ⟨⟨⟨2, 0, wBob⟩, [[99]]⟩, by simp [wX], rfl, by simp⟩
theorem wX_mem {e : index_Entry} : e ∈ wX ↔ e = ⟨⟨2, 0, wAnn⟩, [[97], [98]]⟩ ∨ e = ⟨⟨2, 0, wBob⟩, [[99]]⟩ := by simp [wX]
theorem awake_true : eslaw32_awake = some true := by
  unfold eslaw32_awake
  obtain ⟨e1, g⟩ := w_store
  obtain ⟨es, e2, x2⟩ := Build_eq wF (objs := wT3) g.go (by decide)
  have : es = wX := x2.ix.uniq wX_ix
  subst this
  have e2 : index_Build (⟨([111, 119, 110, 101, 114] : List UInt8), 1, 2, 0⟩ : schema_Field) (⟨wT3⟩ : fold_Store) = some ⟨wF, wX⟩ := e2
  rw [e1, Option.bind_some]
  unfold eslaw32_awake.j2
  rw [e2, Option.bind_some]
  obtain ⟨r1, e3, x3⟩ := Lookup_eq (f := wF) x2.eb ⟨2, 0, wAnn⟩
  have h1 : r1 = [[97], [98]] := by
    refine ascS_ext x3.asc (List.pairwise_cons.2 ⟨fun b hb => ?_, List.pairwise_singleton _ _⟩) fun x => ?_
    · have : b = [98] := by simpa using hb
      subst this
      decide
    · rw [x3.look]
      constructor
      · rintro ⟨e, he, hk, hx⟩
        rcases wX_mem.1 he with rfl | rfl
        · exact hx
        · exact absurd hk (by decide)
      · exact fun hx => ⟨_, wX_mem.2 (.inl rfl), rfl, hx⟩
  subst h1
  have e3 : index_Lookup ⟨wF, wX⟩ (⟨2, 0, ([97, 110, 110] : List UInt8)⟩ : index_Key) = some [[97], [98]] := e3
  rw [e3, Option.bind_some]
  obtain ⟨r2, e4, x4⟩ := Range_eq (f := wF) x2.eb ⟨2, 0, [98]⟩ ⟨2, 0, [99]⟩
  have kl : ∀ a b : List UInt8, keyLt ⟨2, 0, a⟩ ⟨2, 0, b⟩ ↔ Op.bytesLess a b = true := fun a b => by simp [keyLt]
  have h2 : r2 = [[99]] := by
    refine ascS_ext x4.asc (List.pairwise_singleton _ _) fun x => ?_
    rw [x4.mem]
    constructor
    · rintro ⟨e, he, h1, h2, hx⟩
      rcases wX_mem.1 he with rfl | rfl
      · exact absurd ((kl wAnn [98]).2 (by decide)) h1
      · exact hx
    · exact fun hx => ⟨_, wX_mem.2 (.inr rfl), fun h => absurd ((kl wBob [98]).1 h) (by decide), fun h => absurd ((kl [99] wBob).1 h) (by decide), hx⟩
  subst h2
  rw [e4, Option.bind_some]
  obtain ⟨r3, e5, x5⟩ := Lookup_eq (f := wF) x2.eb ⟨0, 0, []⟩
  have h3 : r3 = [] := by
    refine ascS_ext x5.asc .nil fun x => ?_
    rw [x5.look]
    constructor
    · rintro ⟨e, he, hk, hx⟩
      rcases wX_mem.1 he with rfl | rfl
      · exact absurd hk (by decide)
      · exact absurd hk (by decide)
    · intro hx
      simp at hx
  subst h3
  rw [if_pos (by decide), if_pos (by decide), show idx [([97] : List UInt8), [98]] 0 = some [97] from rfl, Option.bind_some, if_pos (by decide), show idx [([97] : List UInt8), [98]] 1 = some [98] from rfl, Option.bind_some, if_pos (by decide), if_pos (by decide), show idx [([99] : List UInt8)] 0 = some [99] from rfl, Option.bind_some, if_pos (by decide), e5, Option.bind_some]
  rfl
theorem rHas_eq {l : List (List UInt8)} (hl : l.length ≤ 1000000000) (s : List UInt8) : esref32_Has l s = some (decide (s ∈ l)) := by
  unfold esref32_Has
  have key : ∃ b : Unit ⊕ Bool, loopO (esref32_Has.l1 l s) 0 = some b ∧ b = if s ∈ l then .inr true else .inl () := by
    refine loopO_ex (fun n t => t = (n : Int) ∧ s ∉ l.take n) l.length ⟨rfl, by simp⟩ ?_ ?_
    · rintro n t hn ⟨rfl, h⟩
      unfold esref32_Has.l1
      simp only [lt_of_len hn, if_true, idx_nat hn, Option.bind_some]
      by_cases hc : l[n] = s
      · rw [if_pos (by simpa using hc)]
        exact .inr ⟨_, rfl, by rw [if_pos (by rw [← hc]; exact List.getElem_mem hn)]⟩
      · rw [if_neg (by simpa using hc), letV_of, wcast hn (by omega)]
        refine .inl ⟨_, rfl, rfl, fun hm => ?_⟩
        rw [take_snoc hn] at hm
        rcases List.mem_append.1 hm with hm | hm
        · exact h hm
        · exact hc (List.mem_singleton.1 hm).symm
    · rintro t ⟨rfl, h⟩
      unfold esref32_Has.l1
      simp only [not_lt_len, Bool.false_eq_true, if_false]
      rw [List.take_length] at h
      exact ⟨_, rfl, by rw [if_neg h]⟩
  obtain ⟨b, b1, b2⟩ := key
  rw [b1, Option.bind_some, b2]
  by_cases h : s ∈ l
  · rw [if_pos h]; simp [h]
  · rw [if_neg h]; simp [h, esref32_Has.j1]
end Go.Proofs.Ytpfgdjfiimknlaa
set_option linter.unusedVariables false
set_option linter.unusedSimpArgs false
namespace Go.Proofs.Ytpfgdjfiimknlaa
open Go Go.Proofs.YtpfgdjfiimknlaaL
theorem Contains_eq {l : List (List UInt8)} (hl : l.length ≤ 1000000000) (s : List UInt8) : slices_Contains_string l s = some (decide (s ∈ l)) := by
  unfold slices_Contains_string slices_Index_string
  have key : ∃ b : Unit ⊕ Int, loopO (slices_Index_string.l1 l s) 0 = some b ∧ ((s ∈ l ∧ ∃ n : Nat, b = .inr (n : Int)) ∨ (s ∉ l ∧ b = .inl ())) := by
    refine loopO_ex (fun n t => t = (n : Int) ∧ s ∉ l.take n) l.length ⟨rfl, by simp⟩ ?_ ?_
    · rintro n t hn ⟨rfl, h⟩
      unfold slices_Index_string.l1
      simp only [lt_of_len hn, if_true, idx_nat hn, Option.bind_some]
      by_cases hc : s = l[n]
      · rw [if_pos (by simpa using hc)]
        exact .inr ⟨_, rfl, .inl ⟨by rw [hc]; exact List.getElem_mem hn, n, rfl⟩⟩
      · rw [if_neg (by simpa using hc), letV_of, wcast hn (by omega)]
        refine .inl ⟨_, rfl, rfl, fun hm => ?_⟩
        rw [take_snoc hn] at hm
        rcases List.mem_append.1 hm with hm | hm
        · exact h hm
        · exact hc (List.mem_singleton.1 hm)
    · rintro t ⟨rfl, h⟩
      unfold slices_Index_string.l1
      simp only [not_lt_len, Bool.false_eq_true, if_false]
      rw [List.take_length] at h
      exact ⟨_, rfl, .inr ⟨h, rfl⟩⟩
  obtain ⟨b, b1, b2⟩ := key
  rw [b1, Option.bind_some]
  rcases b2 with ⟨h, n, rfl⟩ | ⟨h, rfl⟩
  · show (some ((n : Int))).bind _ = _
    rw [Option.bind_some]
    congr 1
    rw [decide_eq_true h, decide_eq_true (by omega)]
  · show (some (-1 : Int)).bind _ = _
    rw [Option.bind_some, decide_eq_false h]
    rfl
structure IS (a b r : List (List UInt8)) : Prop where
  asc : Asc r
  len : r.length ≤ 20
  mem : ∀ x, x ∈ r ↔ x ∈ a ∧ x ∈ b
theorem IS.uniq {a b r r' : List (List UInt8)} (h : IS a b r) (h' : IS a b r') : r = r' := ascS_ext h.asc h'.asc fun x => by rw [h.mem, h'.mem]
theorem Intersect_eq {a b : List (List UInt8)} (ha : a.length ≤ 20) (hb : b.length ≤ 20) : ∃ r, index_Intersect a b = some r ∧ IS a b r := by
  unfold index_Intersect
  rw [ascending_eq (by omega), Option.bind_some]
  have hal := ascL_length a
  have hasc := ascL_asc a
  have := loopO_up (step := index_Intersect.l1 b (ascL a)) (fun k => (((ascL a).take k).filter (fun x => decide (x ∈ b)), (k : Int))) (ascL a).length (b := (ascL a).filter fun x => decide (x ∈ b)) (fun k hk => ?_) ?_
  · have this : loopO (index_Intersect.l1 b (ascL a)) ([], 0) = some ((ascL a).filter fun x => decide (x ∈ b)) := this
    rw [this, Option.bind_some]
    refine ⟨_, rfl, hasc.filter _, Nat.le_trans (List.length_filter_le _ _) (by omega), fun x => ?_⟩
    rw [List.mem_filter, ascL_mem, decide_eq_true_eq]
  · have hfl := List.length_filter_le (fun x => decide (x ∈ b)) ((ascL a).take k)
    rw [List.length_take] at hfl
    unfold index_Intersect.l1
    simp only [lt_of_len hk, if_true, idx_nat hk, Option.bind_some]
    rw [Contains_eq (by omega), Option.bind_some]
    unfold index_Intersect.j2
    rw [take_snoc hk, List.filter_append, List.filter_cons]
    by_cases hc : (ascL a)[k] ∈ b
    · rw [if_pos (by simpa using hc), app_of (by rw [List.length_singleton]; omega), Option.bind_some, letV_of, wcast hk (by omega), if_pos (by simpa using hc)]
      rfl
    · rw [if_neg (by simpa using hc), letV_of, wcast hk (by omega), if_neg (by simpa using hc)]
      simp
  · unfold index_Intersect.l1
    simp only [not_lt_len, Bool.false_eq_true, if_false, List.take_length]
theorem rIntersect_eq {a b : List (List UInt8)} (ha : a.length ≤ 20) (hb : b.length ≤ 20) : ∃ r, esref32_Intersect a b = some r ∧ IS a b r := by
  unfold esref32_Intersect
  have key : ∃ r, loopO (esref32_Intersect.l1 a b) ([], 0) = some r ∧ IS a b r := by
    refine loopO_inv (fun n t => t.2 = (n : Int) ∧ t.1.length ≤ n ∧ Asc t.1 ∧ ∀ x, x ∈ t.1 ↔ x ∈ a.take n ∧ x ∈ b) a.length ⟨rfl, Nat.le_refl _, .nil, by simp⟩ ?_ ?_
    · rintro n ⟨r, i⟩ hn ⟨hi, h1, h2, h3⟩
      simp only at hi h1 h2 h3
      subst hi
      unfold esref32_Intersect.l1
      simp only [lt_of_len hn, if_true, idx_nat hn, Option.bind_some]
      rw [rHas_eq (by omega), Option.bind_some]
      have tk : ∀ x, (x ∈ a.take (n + 1) ∧ x ∈ b) ↔ ((x ∈ a.take n ∧ x ∈ b) ∨ (x = a[n] ∧ x ∈ b)) := by
        intro x
        rw [take_snoc hn, List.mem_append, List.mem_singleton]
        constructor
        · rintro ⟨h | h, hb⟩
          · exact .inl ⟨h, hb⟩
          · exact .inr ⟨h, hb⟩
        · rintro (⟨h, hb⟩ | ⟨h, hb⟩)
          · exact ⟨.inl h, hb⟩
          · exact ⟨.inr h, hb⟩
      unfold esref32_Intersect.j2
      by_cases hc : a[n] ∈ b
      · rw [if_pos (by simpa using hc), rInsert_eq h2 (by omega), Option.bind_some, letV_of, wcast hn (by omega)]
        refine ⟨_, rfl, rfl, ?_, insS_asc h2, fun x => ?_⟩
        · have := insS_length r a[n]
          simp only
          omega
        · simp only
          rw [tk, mem_insS, h3]
          constructor
          · rintro (h | h)
            · exact .inr ⟨h, by rw [h]; exact hc⟩
            · exact .inl h
          · rintro (h | h)
            · exact .inr h
            · exact .inl h.1
      · rw [if_neg (by simpa using hc), letV_of, wcast hn (by omega)]
        refine ⟨_, rfl, rfl, by simp only; omega, h2, fun x => ?_⟩
        simp only
        rw [tk, h3]
        constructor
        · exact .inl
        · rintro (h | h)
          · exact h
          · rw [h.1] at h; exact absurd h.2 hc
    · rintro ⟨r, i⟩ ⟨hi, h1, h2, h3⟩
      simp only at hi h1 h2 h3
      subst hi
      unfold esref32_Intersect.l1
      simp only [not_lt_len, Bool.false_eq_true, if_false]
      rw [List.take_length] at h3
      exact ⟨r, rfl, h2, by omega, h3⟩
  obtain ⟨r, e1, e2⟩ := key
  rw [e1, Option.bind_some]
  exact ⟨r, rfl, e2⟩
theorem indexIntersect_true (x1 x4 : List (List UInt8)) : eslaw32_IndexIntersect x1 x4 = some true := by
  have j2t : eslaw32_IndexIntersect.j2 x1 x4 true = some true := by
    unfold eslaw32_IndexIntersect.j2
    rw [if_pos rfl, awake_true]
    rfl
  unfold eslaw32_IndexIntersect
  by_cases h1 : 20 < x1.length
  · rw [if_pos (by simp; omega), j2t]
  rw [if_neg (by simp; omega)]
  by_cases h2 : 20 < x4.length
  · rw [decide_eq_true (by omega), j2t]
  rw [decide_eq_false (by omega)]
  unfold eslaw32_IndexIntersect.j2 eslaw32_IndexIntersect.j1
  obtain ⟨r, a1, a2⟩ := Intersect_eq (a := x1) (b := x4) (by omega) (by omega)
  obtain ⟨r2, b1, b2⟩ := rIntersect_eq (a := x1) (b := x4) (by omega) (by omega)
  have : r2 = r := b2.uniq a2
  subst this
  obtain ⟨r3, c1, c2⟩ := Intersect_eq (a := x4) (b := x1) (by omega) (by omega)
  have : r3 = r2 := ascS_ext c2.asc a2.asc fun x => by rw [c2.mem, a2.mem]; exact And.comm
  subst this
  have hl := a2.len
  obtain ⟨r4, d1, d2⟩ := Intersect_eq (a := r3) (b := x1) (by omega) (by omega)
  have : r4 = r3 := ascS_ext d2.asc a2.asc fun x => by
    rw [d2.mem, a2.mem]
    exact ⟨fun h => h.1, fun h => ⟨h, h.1⟩⟩
  subst this
  have se : esref32_EqualStrings r4 r4 = some true := by
    rw [rstrings_eq (by omega)]
    simp
  rw [if_neg (by simp), a1, Option.bind_some, b1, Option.bind_some, se, Option.bind_some, if_pos rfl, c1, Option.bind_some, se, Option.bind_some, if_pos rfl, d1, Option.bind_some, se, Option.bind_some, if_pos rfl, awake_true]
  rfl
end Go.Proofs.Ytpfgdjfiimknlaa
