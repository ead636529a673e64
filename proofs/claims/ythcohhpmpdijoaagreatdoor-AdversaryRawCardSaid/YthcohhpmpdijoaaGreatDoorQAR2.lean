/- What the row leans on, as few texts. -/
import Derived.Test.YthcohhpmpdijoaaGreatDoorQAR1
set_option linter.unusedVariables false
set_option linter.unusedSimpArgs false
namespace Go.Proofs.YthcohhpmpdijoaaGreatDoor
open Go Go.RowKit Go.Proofs.YthcohhpmpdijoaaGreatDoorL
set_option maxRecDepth 100000
set_option maxHeartbeats 4000000
theorem adversary_Format.calls {ok : Nat → Prop} {w0 : World} {x1 : List adversary_Rule} {a2 : Option Addr} {c3 : Nat} {r : List UInt8} (hf : adversary_Format x1 = some r) (i0 : (vl (tSlice t_adversary_Rule) x1 (.slice a2 x1.length c3)).holds ok w0) (i1 : (pl (tSlice tStr) words_ (⟨0, 0, none⟩)).holds ok w0) (i2 : (vl (tTab Tryz.prog "internal/strconv.uint64pow10" 1 GN1 Go.Lib.pow10Tab) () (.int .i64 0)).holds ok w0) :
    Calls Tryz.prog 11 #[.slice a2 x1.length c3] w0 fun e w' => ∃ v, e = .returned v ∧ ∃ y : Unit, v = bstr r ∧ St ok (bz w0) w' [] [] := by
  unfold adversary_Format at hf
  refine calls_of_W (fn := Tryz.f11) (N := 37) Tryz.func11 rfl Tryz.ntmps11 rfl ?_
  have hs : St ok (bz w0) w0 [vl (tSlice t_adversary_Rule) x1 (.slice a2 x1.length c3), pl (tSlice tStr) words_ (⟨0, 0, none⟩), vl (tTab Tryz.prog "internal/strconv.uint64pow10" 1 GN1 Go.Lib.pow10Tab) () (.int .i64 0)] [] := St.init (All.cons i0 (All.cons i1 (All.cons i2 All.nil)))
  clear i0 i1 i2
  refine W.seqK fun K4 hK4 => ?_
  refine W.region ?_
  refine WL.assign (v := bstr ([] : List UInt8)) rfl ?_
  refine WL.nil ?_
  refine hK4 _ _ ?_
  refine W.seqK fun K5 hK5 => ?_
  refine W.seqK fun K6 hK6 => ?_
  refine W.region ?_
  refine WL.move (v := .slice a2 x1.length c3) rfl ?_
  obtain ⟨x7, hxx7, hf⟩ := bindE hf
  refine WL.call (vs := [.slice a2 x1.length c3]) hs FN9 ⟨rfl, trivial⟩ (fun ok hA => adversary_Validate.calls (x1 := x1) hxx7 (hA.get 0 rfl)) ?_
  rintro _ w hs
  refine WL.bin (v := .bool (x7 != 0)) rfl rfl (ib_neq _ _ _) ?_
  refine WL.nil ?_
  refine hK6 _ _ ?_
  rcases iteE hf with ⟨hc8, hf⟩ | ⟨hc8, hf⟩
  {
  refine W.cond_true (bool_tr rfl hc8) ?_
  refine W.seqK fun K9 hK9 => ?_
  refine W.region ?_
  refine WL.assign (v := bstr ([] : List UInt8)) rfl ?_
  refine WL.nil ?_
  refine hK9 _ _ ?_
  refine W.ret ?_
  have hr := Option.some.inj hf; subst hr
  exact ⟨_, resOk_one rfl rfl, (), rfl, (hs.mask []).pick []⟩ }
  {
  refine W.cond_false (bool_tr rfl hc8) ?_
  refine W.skip ?_
  refine hK5 _ _ ?_
  refine W.seqK fun K10 hK10 => ?_
  refine W.region ?_
  refine WL.assign (v := .slice none 0 0) rfl ?_
  refine WL.nil ?_
  refine hK10 _ _ ?_
  refine W.seqK fun K11 hK11 => ?_
  have hs := hs.ownNil tStr 9
  have Jk17 : ∀ (x13 : List (List UInt8)) (a14 : Option Addr) (c15 : Nat) (n16 : Nat) (ρ : Env) (w : World), ρ 3 = .slice a14 n16 c15 → St ok (bz w0) w [pl (tSlice tStr) words_ (⟨0, 0, none⟩), vl (tTab Tryz.prog "internal/strconv.uint64pow10" 1 GN1 Go.Lib.pow10Tab) () (.int .i64 0)] [own tStr 9 (.slice a14 n16 c15) x13] → adversary_Format.j1 x13 = some r → K11 ρ w := by
    intro x13 a14 c15 n16 ρ w h12_3 hs hf
    refine hK11 _ _ ?_
    unfold adversary_Format.j1 at hf
    refine W.seqK fun K18 hK18 => ?_
    refine W.region ?_
    refine WL.move (v := .slice a14 n16 c15) h12_3 ?_
    obtain ⟨x19, hxx19, hf⟩ := bindE hf
    refine WL.callL (vs := [.slice a14 x13.length c15, bstr ([59, 32] : List UInt8)]) hs FN27 ⟨(Eq.trans rfl (sl_len (hs.ownLen 0 rfl))), ⟨rfl, trivial⟩⟩ (strings_Join.calls (x1 := x13) (x2 := ([59, 32] : List UInt8)) hxx19 (hs.ownN 0 rfl)) ?_
    rintro _ w hs
    refine WL.assign (v := bstr x19) rfl ?_
    refine WL.nil ?_
    refine hK18 _ _ ?_
    refine W.ret ?_
    have hr := Option.some.inj hf; subst hr
    exact ⟨_, resOk_one rfl rfl, (), rfl, (hs.mask []).pick []⟩
  refine W.seqK fun K20 hK20 => ?_
  refine W.region ?_
  refine WL.move (v := .slice a2 x1.length c3) rfl ?_
  refine WL.len (v := .slice a2 x1.length c3) rfl (len_slice UN22) ?_
  refine WL.move (v := .int .i64 0) rfl ?_
  refine WL.nil ?_
  refine hK20 _ _ ?_
  refine W.block ?_
  obtain ⟨bs27, hbs27, hfs27⟩ := bindE hf
  refine W.loop hbs27 (fun s ρ w => match s with | (x22, x26) => ∃ (a23 : Option Addr), ∃ (c24 : Nat), ∃ (n25 : Nat), ρ 3 = .slice a23 n25 c24 ∧ ρ 10 = .slice a2 x1.length c3 ∧ ρ 11 = .int .i64 (x1.length : Int) ∧ ρ 12 = .int .i64 x26 ∧ St ok (bz w0) w [vl (tSlice t_adversary_Rule) x1 (.slice a2 x1.length c3), pl (tSlice tStr) words_ (⟨0, 0, none⟩), vl (tTab Tryz.prog "internal/strconv.uint64pow10" 1 GN1 Go.Lib.pow10Tab) () (.int .i64 0)] [own tStr 9 (.slice a23 n25 c24) x22]) ⟨none, 0, 0, rfl, rfl, rfl, rfl, (hs.mask [true]).pick [0, 1, 2]⟩ ?_
  intro s ρ w os27 hI hf hbbs27
  obtain ⟨x22, x26⟩ := s
  obtain ⟨a23, c24, n25, h21_3, h21_10, h21_11, h21_12, hs⟩ := hI
  unfold adversary_Format.l1 at hf
  refine W.seqK fun K28 hK28 => ?_
  refine W.region ?_
  refine WL.bin (v := .bool (decide (x26 < (x1.length : Int)))) h21_12 h21_11 (ib_lss _ _ _) ?_
  refine WL.nil ?_
  refine hK28 _ _ ?_
  refine W.seqK fun K29 hK29 => ?_
  rcases iteE hf with ⟨hc30, hf⟩ | ⟨hc30, hf⟩
  {
  refine W.cond_true (bool_tr rfl hc30) ?_
  refine W.skip ?_
  refine hK29 _ _ ?_
  refine W.seqK fun K31 hK31 => ?_
  refine W.block ?_
  refine W.seqK fun K32 hK32 => ?_
  refine W.region ?_
  obtain ⟨x33, hxx33, hf⟩ := bindE hf
  refine WL.indexAddr hs 0 rfl UN22 TI38 h21_10 h21_12 hxx33 (fun ad34 hs => ?_)
  refine WL.loadP hs 0 rfl TI38 (.inl rfl) rfl (fun v35 hs => ?_)
  obtain ⟨cs36, hl37, rfl⟩ := hs.aggv (n := 2) 0 rfl rfl rfl
  refine WL.alloc hs ZV38 (fun g38 w hs => ?_)
  refine WL.storeAll (vs := cs36) hs 0 rfl TI38 rfl rfl rfl hl37 (hs.ones 0 rfl rfl) rfl (fun w hs => ?_)
  refine WL.nil ?_
  refine hK32 _ _ ?_
  refine W.seqK fun K39 hK39 => ?_
  refine W.region ?_
  refine WL.loadP hs 3 rfl TI74 (.inr rfl) rfl (fun v40 hs => ?_)
  obtain ⟨a41, c42, rfl⟩ := hs.slice 0 rfl
  refine WL.fieldAddr (m := 0) rfl FA38_0 rfl ?_
  refine WL.loadF (z := x33.Kind) F_adversary_Rule_Kind hs 0 rfl 1 rfl rfl TI3 (.inr rfl) rfl rfl (fun v43 hs => ?_)
  obtain rfl := hs.int 0 rfl
  obtain ⟨x44, hxx44, hf⟩ := bindE hf
  refine WL.indexAddr hs 1 rfl UN74 TI9 rfl rfl hxx44 (fun ad45 hs => ?_)
  refine WL.loadP hs 0 rfl TI9 (.inr rfl) rfl (fun v46 hs => ?_)
  obtain rfl := hs.str 0 rfl
  refine WL.assign (v := bstr x44) rfl ?_
  refine WL.nil ?_
  refine hK39 _ _ ?_
  refine W.seqK fun K47 hK47 => ?_
  have Jk50 : ∀ (x49 : List UInt8) (ρ : Env) (w : World), ρ 3 = .slice a23 n25 c24 → ρ 6 = bstr x49 → ρ 10 = .slice a2 x1.length c3 → ρ 11 = .int .i64 (x1.length : Int) → ρ 12 = .int .i64 x26 → St ok (bz w0) w [vl (tSlice t_adversary_Rule) x1 (.slice a2 x1.length c3), pl (tSlice tStr) words_ (⟨0, 0, none⟩), vl (tTab Tryz.prog "internal/strconv.uint64pow10" 1 GN1 Go.Lib.pow10Tab) () (.int .i64 0)] [own tStr 9 (.slice a23 n25 c24) x22] → adversary_Format.j2 x22 x26 x49 = some os27 → K47 ρ w := by
    intro x49 ρ w h48_3 h48_6 h48_10 h48_11 h48_12 hs hf
    refine hK47 _ _ ?_
    unfold adversary_Format.j2 at hf
    refine W.region ?_
    refine WL.move (v := .slice a23 n25 c24) h48_3 ?_
    refine WL.move (v := bstr x49) h48_6 ?_
    refine WL.buildSlice (n := 1) (vs := [(0, bstr x49)]) (cs := [bstr x49]) hs ⟨⟨rfl, rfl⟩, trivial⟩ (bls PS74 (by decide) rfl) (fun g51 w hs => ?_)
    obtain ⟨x52, hxx52, hf⟩ := bindE hf
    obtain ⟨hbx52, hex52⟩ := appE hxx52
    refine WL.append (ys := [x49]) (zs := x52) hs 1 rfl 0 rfl UN74 EI9 rfl rfl (fun ok hA => (Cells.one (T := tStr) rfl)) hbx52 (by omega) hex52 (fun v53 w hs => ?_)
    obtain ⟨a54, n56, c55, rfl⟩ := hs.ownv3 1 rfl
    refine WL.assign (v := .slice a54 n56 c55) rfl ?_
    refine WL.nil ?_
    refine hK31 _ _ ?_
    refine W.region ?_
    obtain ⟨x57, ex57, hf⟩ := letE hf
    refine WL.bin (v := .int .i64 x57) h48_12 rfl (ib_as ex57 (ib_add _ _ _)) ?_
    refine WL.move (v := .int .i64 x57) rfl ?_
    refine WL.nil ?_
    exact ⟨_, (Option.some.inj hf).symm, a54, c55, n56, rfl, h48_10, h48_11, rfl, (hs.mask [false, true]).pick [0, 1, 2]⟩
  refine W.seqK fun K58 hK58 => ?_
  refine W.region ?_
  refine WL.fieldAddr (m := 0) rfl FA38_0 rfl ?_
  refine WL.loadF (z := x33.Kind) F_adversary_Rule_Kind hs 0 rfl 4 rfl rfl TI3 (.inr rfl) rfl rfl (fun v59 hs => ?_)
  obtain rfl := hs.int 0 rfl
  refine WL.bin (v := .bool (decide (x33.Kind ≤ 6))) rfl rfl (ib_leq _ _ _) ?_
  refine WL.nil ?_
  refine hK58 _ _ ?_
  rcases iteE hf with ⟨hc60, hf⟩ | ⟨hc60, hf⟩
  {
  refine W.cond_true (bool_tr rfl hc60) ?_
  refine W.region ?_
  refine WL.move (v := bstr x44) rfl ?_
  refine WL.fieldAddr (m := 1) rfl FA38_1 rfl ?_
  refine WL.loadF (z := x33.Arg) F_adversary_Rule_Arg hs 0 rfl 5 rfl rfl TI3 (.inr rfl) rfl rfl (fun v61 hs => ?_)
  obtain rfl := hs.int 0 rfl
  obtain ⟨x62, hxx62, hf⟩ := bindE hf
  refine WL.call (vs := [.int .i64 x33.Arg]) hs FN26 ⟨rfl, trivial⟩ (fun ok hA => strconv_Itoa.calls (x1 := x33.Arg) hxx62 (hA.get 10 rfl)) ?_
  rintro _ w hs
  obtain ⟨x63, hxx63, hf⟩ := bindE hf
  refine WL.binS (v := bstr x63) rfl rfl (sb_cat hxx63) ?_
  obtain ⟨x64, hxx64, hf⟩ := bindE hf
  refine WL.binS (v := bstr x64) rfl rfl (sb_cat hxx64) ?_
  refine WL.assign (v := bstr x64) rfl ?_
  refine WL.nil ?_
  exact Jk50 x64 _ _ h21_3 rfl h21_10 h21_11 h21_12 ((hs.mask [false, true]).pick [8, 9, 10]) hf }
  {
  refine W.cond_false (bool_tr rfl hc60) ?_
  refine W.skip ?_
  exact Jk50 x44 _ _ h21_3 rfl h21_10 h21_11 h21_12 ((hs.mask [false, true]).pick [7, 8, 9]) hf } }
  {
  refine W.cond_false (bool_tr rfl hc30) ?_
  refine W.exit ?_
  have hr := Option.some.inj hf; subst hr
  have hr := hbbs27 _ rfl; subst hr
  have hf := hfs27
  exact Jk17 x22 a23 c24 n25 _ _ h21_3 ((hs.mask [true]).pick [1, 2]) hf } }
theorem adversary_Parse.calls {ok : Nat → Prop} {w0 : World} {x1 : List UInt8} {mxl : Int} {r : (List adversary_Rule) × Int} (hf : adversary_Parse x1 = some r) (i0 : (pl (tSlice tStr) words_ (⟨0, 0, none⟩)).holds ok w0) (i1 : (vl (tTab Tryz.prog "internal/strconv.uint64pow10" 1 GN1 Go.Lib.pow10Tab) () (.int .i64 0)).holds ok w0) (i2 : (pl (tInt .i64) mxl (⟨2, 0, none⟩)).holds ok w0) (i3 : (pl tErr true (⟨3, 0, none⟩)).holds ok w0) (i4 : (pl tErr true (⟨4, 0, none⟩)).holds ok w0) :
    Calls Tryz.prog 18 #[bstr x1] w0 fun e w' => ∃ v, e = .returned v ∧ ∃ y : (Option Addr × Nat × Nat), v = .tuple #[.slice y.1 y.2.1 y.2.2, .int .i64 r.2] ∧ St ok (bz w0) w' [] [own t_adversary_Rule 38 (.slice y.1 y.2.1 y.2.2) r.1] := by
  unfold adversary_Parse at hf
  refine calls_of_W (fn := Tryz.f18) (N := 27) Tryz.func18 rfl Tryz.ntmps18 rfl ?_
  have hs : St ok (bz w0) w0 [pl (tSlice tStr) words_ (⟨0, 0, none⟩), vl (tTab Tryz.prog "internal/strconv.uint64pow10" 1 GN1 Go.Lib.pow10Tab) () (.int .i64 0), pl (tInt .i64) mxl (⟨2, 0, none⟩), pl tErr true (⟨3, 0, none⟩), pl tErr true (⟨4, 0, none⟩)] [] := St.init (All.cons i0 (All.cons i1 (All.cons i2 (All.cons i3 (All.cons i4 All.nil)))))
  clear i0 i1 i2 i3 i4
  refine W.seqK fun K2 hK2 => ?_
  refine W.region ?_
  refine WL.assign (v := .slice none 0 0) rfl ?_
  refine WL.assign (v := .int .i64 0) rfl ?_
  refine WL.nil ?_
  refine hK2 _ _ ?_
  refine W.seqK fun K3 hK3 => ?_
  refine W.seqK fun K4 hK4 => ?_
  refine W.region ?_
  refine WL.move (v := bstr x1) rfl ?_
  refine WL.binS (v := .bool (x1 == ([] : List UInt8))) rfl rfl (sb_eql _ _) ?_
  refine WL.nil ?_
  refine hK4 _ _ ?_
  rcases iteE hf with ⟨hc5, hf⟩ | ⟨hc5, hf⟩
  {
  refine W.cond_true (bool_tr rfl hc5) ?_
  refine W.seqK fun K6 hK6 => ?_
  refine W.region ?_
  refine WL.assign (v := .slice none 0 0) rfl ?_
  refine WL.assign (v := .int .i64 0) rfl ?_
  refine WL.nil ?_
  refine hK6 _ _ ?_
  refine W.ret ?_
  have hr := Option.some.inj hf; subst hr
  have hs := hs.ownNil t_adversary_Rule 38
  exact ⟨_, resOk_two rfl rfl rfl, (none, 0, 0), rfl, (hs.mask [true]).pick []⟩ }
  {
  refine W.cond_false (bool_tr rfl hc5) ?_
  refine W.skip ?_
  refine hK3 _ _ ?_
  refine W.seqK fun K7 hK7 => ?_
  refine W.region ?_
  refine WL.assign (v := .slice none 0 0) rfl ?_
  refine WL.nil ?_
  refine hK7 _ _ ?_
  refine W.seqK fun K8 hK8 => ?_
  have hs := hs.ownNil t_adversary_Rule 38
  have Jk14 : ∀ (x10 : List adversary_Rule) (a11 : Option Addr) (c12 : Nat) (n13 : Nat) (ρ : Env) (w : World), ρ 0 = bstr x1 → ρ 4 = .slice a11 n13 c12 → St ok (bz w0) w [pl (tSlice tStr) words_ (⟨0, 0, none⟩), vl (tTab Tryz.prog "internal/strconv.uint64pow10" 1 GN1 Go.Lib.pow10Tab) () (.int .i64 0), pl (tInt .i64) mxl (⟨2, 0, none⟩), pl tErr true (⟨3, 0, none⟩), pl tErr true (⟨4, 0, none⟩)] [own t_adversary_Rule 38 (.slice a11 n13 c12) x10] → adversary_Parse.j1 x1 x10 = some r → K8 ρ w := by
    intro x10 a11 c12 n13 ρ w h9_0 h9_4 hs hf
    refine hK8 _ _ ?_
    unfold adversary_Parse.j1 at hf
    refine W.seqK fun K15 hK15 => ?_
    refine W.seqK fun K16 hK16 => ?_
    refine W.region ?_
    refine WL.move (v := .slice a11 n13 c12) h9_4 ?_
    obtain ⟨x17, hxx17, hf⟩ := bindE hf
    refine WL.callL (vs := [.slice a11 x10.length c12]) hs FN11 ⟨(Eq.trans rfl (sl_len (hs.ownLen 0 rfl))), trivial⟩ (adversary_Format.calls (x1 := x10) hxx17 (hs.ownN 0 rfl) (hs.allT.get 0 rfl) (hs.allT.get 1 rfl)) ?_
    rintro _ w hs
    refine WL.move (v := bstr x1) h9_0 ?_
    refine WL.binS (v := .bool (x17 != x1)) rfl rfl (sb_neq _ _) ?_
    refine WL.nil ?_
    refine hK16 _ _ ?_
    rcases iteE hf with ⟨hc18, hf⟩ | ⟨hc18, hf⟩
    {
    refine W.cond_true (bool_tr rfl hc18) ?_
    refine W.seqK fun K19 hK19 => ?_
    refine W.region ?_
    refine WL.assign (v := .slice none 0 0) rfl ?_
    refine WL.assign (v := .int .i64 11) rfl ?_
    refine WL.nil ?_
    refine hK19 _ _ ?_
    refine W.ret ?_
    have hr := Option.some.inj hf; subst hr
    have hs := hs.ownNil t_adversary_Rule 38
    exact ⟨_, resOk_two rfl rfl rfl, (none, 0, 0), rfl, (hs.mask [true]).pick []⟩ }
    {
    refine W.cond_false (bool_tr rfl hc18) ?_
    refine W.skip ?_
    refine hK15 _ _ ?_
    refine W.seqK fun K20 hK20 => ?_
    refine W.region ?_
    refine WL.move (v := .slice a11 n13 c12) h9_4 ?_
    refine WL.assign (v := .slice a11 n13 c12) rfl ?_
    refine WL.assign (v := .int .i64 0) rfl ?_
    refine WL.nil ?_
    refine hK20 _ _ ?_
    refine W.ret ?_
    have hr := Option.some.inj hf; subst hr
    exact ⟨_, resOk_two rfl rfl rfl, (a11, n13, c12), rfl, (hs.mask [true]).pick []⟩ }
  refine W.seqK fun K21 hK21 => ?_
  refine W.region ?_
  refine WL.move (v := bstr x1) rfl ?_
  obtain ⟨x22, hxx22, hf⟩ := bindE hf
  refine WL.call (vs := [bstr x1, bstr ([59, 32] : List UInt8)]) hs FN32 ⟨rfl, ⟨rfl, trivial⟩⟩ (fun ok hA => strings_Split.calls (x1 := x1) (x2 := ([59, 32] : List UInt8)) hxx22 (hA.get 2 rfl)) ?_
  rintro ⟨a23, c24⟩ w hs
  refine WL.len (v := .slice a23 x22.length c24) rfl (len_slice UN74) ?_
  refine WL.move (v := .int .i64 0) rfl ?_
  refine WL.nil ?_
  refine hK21 _ _ ?_
  refine W.block ?_
  obtain ⟨bs31, hbs31, hfs31⟩ := bindE hf
  refine W.loop hbs31 (fun s ρ w => match s with | (x26, x30) => ∃ (a27 : Option Addr), ∃ (c28 : Nat), ∃ (n29 : Nat), ρ 0 = bstr x1 ∧ ρ 4 = .slice a27 n29 c28 ∧ ρ 10 = .slice a23 x22.length c24 ∧ ρ 11 = .int .i64 (x22.length : Int) ∧ ρ 12 = .int .i64 x30 ∧ St ok (bz w0) w [vl (tSlice tStr) x22 (.slice a23 x22.length c24), pl (tSlice tStr) words_ (⟨0, 0, none⟩), vl (tTab Tryz.prog "internal/strconv.uint64pow10" 1 GN1 Go.Lib.pow10Tab) () (.int .i64 0), pl (tInt .i64) mxl (⟨2, 0, none⟩), pl tErr true (⟨3, 0, none⟩), pl tErr true (⟨4, 0, none⟩)] [own t_adversary_Rule 38 (.slice a27 n29 c28) x26]) ⟨none, 0, 0, rfl, rfl, rfl, rfl, rfl, (hs.mask [true]).pick [0, 1, 2, 3, 4, 5]⟩ ?_
  intro s ρ w os31 hI hf hbbs31
  obtain ⟨x26, x30⟩ := s
  obtain ⟨a27, c28, n29, h25_0, h25_4, h25_10, h25_11, h25_12, hs⟩ := hI
  unfold adversary_Parse.l1 at hf
  refine W.seqK fun K32 hK32 => ?_
  refine W.region ?_
  refine WL.bin (v := .bool (decide (x30 < (x22.length : Int)))) h25_12 h25_11 (ib_lss _ _ _) ?_
  refine WL.nil ?_
  refine hK32 _ _ ?_
  refine W.seqK fun K33 hK33 => ?_
  rcases iteE hf with ⟨hc34, hf⟩ | ⟨hc34, hf⟩
  {
  refine W.cond_true (bool_tr rfl hc34) ?_
  refine W.skip ?_
  refine hK33 _ _ ?_
  refine W.seqK fun K35 hK35 => ?_
  refine W.block ?_
  refine W.seqK fun K36 hK36 => ?_
  refine W.region ?_
  obtain ⟨x37, hxx37, hf⟩ := bindE hf
  refine WL.indexAddr hs 0 rfl UN74 TI9 h25_10 h25_12 hxx37 (fun ad38 hs => ?_)
  refine WL.loadP hs 0 rfl TI9 (.inr rfl) rfl (fun v39 hs => ?_)
  obtain rfl := hs.str 0 rfl
  refine WL.assign (v := bstr x37) rfl ?_
  refine WL.nil ?_
  refine hK36 _ _ ?_
  refine W.region ?_
  refine WL.move (v := .slice a27 n29 c28) h25_4 ?_
  refine WL.move (v := bstr x37) rfl ?_
  obtain ⟨x40, hxx40, hf⟩ := bindE hf
  refine WL.call (vs := [bstr x37]) hs FN33 ⟨rfl, trivial⟩ (fun ok hA => adversary_parseRule.calls (x1 := x37) hxx40 (hA.get 3 rfl) (hA.get 6 rfl) (hA.get 7 rfl)) ?_
  rintro cs41 w hs
  have hl42 := hs.agglen (n := 2) 0 rfl rfl rfl
  refine WL.buildSlice (n := 1) (vs := [(0, .agg cs41.toArray)]) (cs := cs41) hs ⟨⟨rfl, rfl⟩, trivial⟩ (bls PS22 (by decide) (by simp [fillS, fillL, Value.cells, hl42])) (fun g43 w hs => ?_)
  obtain ⟨x44, hxx44, hf⟩ := bindE hf
  obtain ⟨hbx44, hex44⟩ := appE hxx44
  refine WL.append (ys := [x40]) (zs := x44) hs 1 rfl 0 rfl UN22 EI38 rfl rfl (fun ok hA => (Cells.one (T := t_adversary_Rule) (R_agg (hA.get 0 rfl) rfl))) hbx44 (by omega) hex44 (fun v45 w hs => ?_)
  obtain ⟨a46, n48, c47, rfl⟩ := hs.ownv3 1 rfl
  refine WL.assign (v := .slice a46 n48 c47) rfl ?_
  refine WL.nil ?_
  refine hK35 _ _ ?_
  refine W.region ?_
  obtain ⟨x49, ex49, hf⟩ := letE hf
  refine WL.bin (v := .int .i64 x49) h25_12 rfl (ib_as ex49 (ib_add _ _ _)) ?_
  refine WL.move (v := .int .i64 x49) rfl ?_
  refine WL.nil ?_
  exact ⟨_, (Option.some.inj hf).symm, a46, c47, n48, h25_0, rfl, h25_10, h25_11, rfl, (hs.mask [false, true]).pick [3, 4, 5, 6, 7, 8]⟩ }
  {
  refine W.cond_false (bool_tr rfl hc34) ?_
  refine W.exit ?_
  have hr := Option.some.inj hf; subst hr
  have hr := hbbs31 _ rfl; subst hr
  have hf := hfs31
  exact Jk14 x26 a27 c28 n29 _ _ h25_0 h25_4 ((hs.mask [true]).pick [1, 2, 3, 4, 5]) hf } }
theorem adversary_Parse.callc {ok : Nat → Prop} {w0 : World} {x1 : List UInt8} {mxl : Int} {r : (List adversary_Rule) × Int} (hf : adversary_Parse x1 = some r) (i0 : (pl (tSlice tStr) words_ (⟨0, 0, none⟩)).holds ok w0) (i1 : (vl (tTab Tryz.prog "internal/strconv.uint64pow10" 1 GN1 Go.Lib.pow10Tab) () (.int .i64 0)).holds ok w0) (i2 : (pl (tInt .i64) mxl (⟨2, 0, none⟩)).holds ok w0) (i3 : (pl tErr true (⟨3, 0, none⟩)).holds ok w0) (i4 : (pl tErr true (⟨4, 0, none⟩)).holds ok w0) :
    Calls Tryz.prog 18 #[bstr x1] w0 fun e w' => ∃ v, e = .returned v ∧ ∃ y : (Option Addr × Nat), v = .tuple #[.slice y.1 (r.1).length y.2, .int .i64 r.2] ∧ St ok (bz w0) w' [vl (tSlice t_adversary_Rule) r.1 (.slice y.1 (r.1).length y.2)] [] := by
  refine (adversary_Parse.calls (ok := ok) (w0 := w0) (x1 := x1) hf i0 i1 i2 i3 i4).mono ?_
  rintro e w' ⟨v, rfl, ⟨a51, n52, c53⟩, rfl, hs⟩
  obtain rfl := hs.ownLen 0 rfl
  have hs := hs.freezeOwn 0 rfl
  exact ⟨_, rfl, (a51, c53), rfl, hs.pick [0]⟩
theorem network_side.calls {ok : Nat → Prop} {w0 : World} {x1 : network_Network} {x5 : Int} {v2 : Value} {r : Int} (hf : network_side x1 x5 = some r) (i0 : (vl t_network_Network x1 v2).holds ok w0) :
    Calls Tryz.prog 57 #[v2, .int .i64 x5] w0 fun e w' => ∃ v, e = .returned v ∧ ∃ y : Unit, v = .int .i64 r ∧ St ok (bz w0) w' [] [] := by
  unfold network_side at hf
  refine calls_of_W (fn := Tryz.f57) (N := 21) Tryz.func57 rfl Tryz.ntmps57 rfl ?_
  have hs : St ok (bz w0) w0 [vl t_network_Network x1 v2] [] := St.init (All.cons i0 All.nil)
  clear i0
  obtain ⟨cs3, hl4, rfl⟩ := hs.aggv (n := 3) 0 rfl rfl rfl
  refine W.seqK fun K6 hK6 => ?_
  refine W.region ?_
  refine WL.box (vs := cs3) hs rfl rfl (fun g7 w hs => ?_)
  refine WL.assign (v := .int .i64 0) rfl ?_
  refine WL.nil ?_
  refine hK6 _ _ ?_
  refine W.seqK fun K8 hK8 => ?_
  have Jk10 : ∀  (ρ : Env) (w : World), St ok (bz w0) w [] [] → network_side.j1 = some r → K8 ρ w := by
    intro  ρ w  hs hf
    refine hK8 _ _ ?_
    unfold network_side.j1 at hf
    refine W.seqK fun K11 hK11 => ?_
    refine W.region ?_
    refine WL.assign (v := .int .i64 0) rfl ?_
    refine WL.nil ?_
    refine hK11 _ _ ?_
    refine W.ret ?_
    have hr := Option.some.inj hf; subst hr
    exact ⟨_, resOk_one rfl rfl, (), rfl, (hs.mask []).pick []⟩
  refine W.seqK fun K12 hK12 => ?_
  refine W.region ?_
  refine WL.fieldAddr (m := 2) rfl FA28_2 rfl ?_
  refine WL.loadF (z := x1.Sides) F_network_Network_Sides hs 0 rfl 0 rfl rfl TI26 (.inr rfl) rfl rfl (fun v13 hs => ?_)
  obtain ⟨a14, c15, rfl⟩ := hs.slice 0 rfl
  refine WL.len (v := .slice a14 (x1.Sides).length c15) rfl (len_slice UN26) ?_
  refine WL.move (v := .int .i64 0) rfl ?_
  refine WL.nil ?_
  refine hK12 _ _ ?_
  refine W.block ?_
  obtain ⟨bs18, hbs18, hfs18⟩ := bindE hf
  refine W.loop hbs18 (fun s ρ w => match s with | x17 => ρ 1 = .int .i64 x5 ∧ ρ 8 = .slice a14 (x1.Sides).length c15 ∧ ρ 9 = .int .i64 ((x1.Sides).length : Int) ∧ ρ 10 = .int .i64 x17 ∧ St ok (bz w0) w [vl (tSlice t_network_Side) x1.Sides (.slice a14 (x1.Sides).length c15)] []) ⟨rfl, rfl, rfl, rfl, (hs.mask []).pick [0]⟩ ?_
  intro x17 ρ w os18 hI hf hbbs18
  obtain ⟨h16_1, h16_8, h16_9, h16_10, hs⟩ := hI
  unfold network_side.l1 at hf
  refine W.seqK fun K19 hK19 => ?_
  refine W.region ?_
  refine WL.bin (v := .bool (decide (x17 < ((x1.Sides).length : Int)))) h16_10 h16_9 (ib_lss _ _ _) ?_
  refine WL.nil ?_
  refine hK19 _ _ ?_
  refine W.seqK fun K20 hK20 => ?_
  rcases iteE hf with ⟨hc21, hf⟩ | ⟨hc21, hf⟩
  {
  refine W.cond_true (bool_tr rfl hc21) ?_
  refine W.skip ?_
  refine hK20 _ _ ?_
  refine W.seqK fun K22 hK22 => ?_
  refine W.block ?_
  refine W.seqK fun K23 hK23 => ?_
  refine W.region ?_
  obtain ⟨x24, hxx24, hf⟩ := bindE hf
  refine WL.indexAddr hs 0 rfl UN26 TI63 h16_8 h16_10 hxx24 (fun ad25 hs => ?_)
  refine WL.loadP hs 0 rfl TI63 (.inl rfl) rfl (fun v26 hs => ?_)
  obtain ⟨cs27, hl28, rfl⟩ := hs.aggv (n := 2) 0 rfl rfl rfl
  refine WL.alloc hs ZV63 (fun g29 w hs => ?_)
  refine WL.storeAll (vs := cs27) hs 0 rfl TI63 rfl rfl rfl hl28 (hs.ones 0 rfl rfl) rfl (fun w hs => ?_)
  refine WL.nil ?_
  refine hK23 _ _ ?_
  refine W.seqK fun K30 hK30 => ?_
  refine W.region ?_
  refine WL.fieldAddr (m := 0) rfl FA63_0 rfl ?_
  refine WL.loadF (z := x24.Process) F_network_Side_Process hs 0 rfl 0 rfl rfl TI3 (.inr rfl) rfl rfl (fun v31 hs => ?_)
  obtain rfl := hs.int 0 rfl
  refine WL.move (v := .int .i64 x5) h16_1 ?_
  refine WL.bin (v := .bool (x24.Process == x5)) rfl rfl (ib_eql _ _ _) ?_
  refine WL.nil ?_
  refine hK30 _ _ ?_
  rcases iteE hf with ⟨hc32, hf⟩ | ⟨hc32, hf⟩
  {
  refine W.cond_true (bool_tr rfl hc32) ?_
  refine W.seqK fun K33 hK33 => ?_
  refine W.region ?_
  refine WL.fieldAddr (m := 1) rfl FA63_1 rfl ?_
  refine WL.loadF (z := x24.Side) F_network_Side_Side hs 0 rfl 1 rfl rfl TI3 (.inr rfl) rfl rfl (fun v34 hs => ?_)
  obtain rfl := hs.int 0 rfl
  refine WL.assign (v := .int .i64 x24.Side) rfl ?_
  refine WL.nil ?_
  refine hK33 _ _ ?_
  refine W.ret ?_
  have hr := Option.some.inj hf; subst hr
  have hr := hbbs18 _ rfl; subst hr
  have hf := hfs18
  have hr := Option.some.inj hf; subst hr
  exact ⟨_, resOk_one rfl rfl, (), rfl, (hs.mask []).pick []⟩ }
  {
  refine W.cond_false (bool_tr rfl hc32) ?_
  refine W.skip ?_
  refine hK22 _ _ ?_
  refine W.region ?_
  obtain ⟨x35, ex35, hf⟩ := letE hf
  refine WL.bin (v := .int .i64 x35) h16_10 rfl (ib_as ex35 (ib_add _ _ _)) ?_
  refine WL.move (v := .int .i64 x35) rfl ?_
  refine WL.nil ?_
  exact ⟨_, (Option.some.inj hf).symm, h16_1, h16_8, h16_9, rfl, (hs.mask []).pick [3]⟩ } }
  {
  refine W.cond_false (bool_tr rfl hc21) ?_
  refine W.exit ?_
  have hr := Option.some.inj hf; subst hr
  have hr := hbbs18 _ rfl; subst hr
  have hf := hfs18
  exact Jk10  _ _  ((hs.mask []).pick []) hf }
theorem network_Blocked.calls {ok : Nat → Prop} {w0 : World} {x1 : network_Network} {x5 : Int} {x6 : Int} {v2 : Value} {r : Bool} (hf : network_Blocked x1 x5 x6 = some r) (i0 : (vl t_network_Network x1 v2).holds ok w0) :
    Calls Tryz.prog 37 #[v2, .int .i64 x5, .int .i64 x6] w0 fun e w' => ∃ v, e = .returned v ∧ ∃ y : Unit, v = .bool r ∧ St ok (bz w0) w' [] [] := by
  unfold network_Blocked at hf
  refine calls_of_W (fn := Tryz.f37) (N := 14) Tryz.func37 rfl Tryz.ntmps37 rfl ?_
  have hs : St ok (bz w0) w0 [vl t_network_Network x1 v2] [] := St.init (All.cons i0 All.nil)
  clear i0
  obtain ⟨cs3, hl4, rfl⟩ := hs.aggv (n := 3) 0 rfl rfl rfl
  refine W.seqK fun K7 hK7 => ?_
  refine W.region ?_
  refine WL.box (vs := cs3) hs rfl rfl (fun g8 w hs => ?_)
  refine WL.assign (v := .bool false) rfl ?_
  refine WL.nil ?_
  refine hK7 _ _ ?_
  refine W.seqK fun K9 hK9 => ?_
  obtain ⟨x10, hxx10, hf⟩ := bindE hf
  obtain ⟨x11, hxx11, hf⟩ := bindE hf
  refine W.any (by kernel_rfl) 7 1 [true, true, true, true, true, true, true, false] rfl rfl (poAt [pv (.agg cs3.toArray), pv (.int .i64 x5), pv (.int .i64 x10), pv (.agg cs3.toArray), pv (.int .i64 x6), pv (.int .i64 x11), pv (.bool (x10 != x11))]) (Λ := [blk g8 28 cs3]) hs (by kernel_rfl) (by kernel_rfl) (by kernel_rfl) ⟨⟨⟨⟨⟨⟨⟨trivial, ?_⟩, ?_⟩, ?_⟩, ?_⟩, ?_⟩, ?_⟩, ?_⟩ ?_
  {
  intro ρ w Γx Λx hs hu hp
  refine WL.loadAll hs (Λx.length + 0) (getApp rfl) TI28 (hu 3 rfl) hl4 ?_
  exact WL.nil ⟨rfl, _, rfl, rfl, hs.cutG 0 0⟩ }
  {
  intro ρ w Γx Λx hs hu hp
  refine WL.move (v := .int .i64 x5) (hu 1 rfl) ?_
  exact WL.nil ⟨rfl, _, rfl, rfl, hs.cutG 0 0⟩ }
  {
  intro ρ w Γx Λx hs hu hp
  have e12 : ρ 7 = .agg cs3.toArray := (hp 0 rfl).1
  have e13 : ρ 8 = .int .i64 x5 := (hp 1 rfl).1
  refine WL.call (vs := [.agg cs3.toArray, .int .i64 x5]) hs FN57 ⟨e12, ⟨e13, trivial⟩⟩ (fun ok hA => network_side.calls (x1 := x1) (x5 := x5) hxx10 (hA.get (Γx.length + 0) (getApp rfl))) ?_
  rintro _ w hs
  exact WL.nil ⟨rfl, _, rfl, rfl, hs.cutG 0 0⟩ }
  {
  intro ρ w Γx Λx hs hu hp
  refine WL.loadAll hs (Λx.length + 0) (getApp rfl) TI28 (hu 3 rfl) hl4 ?_
  exact WL.nil ⟨rfl, _, rfl, rfl, hs.cutG 0 0⟩ }
  {
  intro ρ w Γx Λx hs hu hp
  refine WL.move (v := .int .i64 x6) (hu 2 rfl) ?_
  exact WL.nil ⟨rfl, _, rfl, rfl, hs.cutG 0 0⟩ }
  {
  intro ρ w Γx Λx hs hu hp
  have e14 : ρ 10 = .agg cs3.toArray := (hp 3 rfl).1
  have e15 : ρ 11 = .int .i64 x6 := (hp 4 rfl).1
  refine WL.call (vs := [.agg cs3.toArray, .int .i64 x6]) hs FN57 ⟨e14, ⟨e15, trivial⟩⟩ (fun ok hA => network_side.calls (x1 := x1) (x5 := x6) hxx11 (hA.get (Γx.length + 0) (getApp rfl))) ?_
  rintro _ w hs
  exact WL.nil ⟨rfl, _, rfl, rfl, hs.cutG 0 0⟩ }
  {
  intro ρ w Γx Λx hs hu hp
  have e16 : ρ 9 = .int .i64 x10 := (hp 2 rfl).1
  have e17 : ρ 12 = .int .i64 x11 := (hp 5 rfl).1
  refine WL.bin (v := .bool (x10 != x11)) e16 e17 (ib_neq _ _ _) ?_
  exact WL.nil ⟨rfl, _, rfl, rfl, hs.cutG 0 0⟩ }
  {
  intro ρ w hs hu18 hp
  obtain ⟨⟨⟨⟨⟨⟨⟨_, hp0_⟩, hp1_⟩, hp2_⟩, hp3_⟩, hp4_⟩, hp5_⟩, hp6_⟩ := hp
  have hs : St ok (bz w0) w [vl t_network_Network x1 (.agg cs3.toArray)] [blk g8 28 cs3] := hs
  have e19 : ρ 13 = .bool (x10 != x11) := hp6_
  have e20 : ρ 12 = .int .i64 x11 := hp5_
  have e21 : ρ 11 = .int .i64 x6 := hp4_
  have e22 : ρ 10 = .agg cs3.toArray := hp3_
  have e23 : ρ 9 = .int .i64 x10 := hp2_
  have e24 : ρ 8 = .int .i64 x5 := hp1_
  have e25 : ρ 7 = .agg cs3.toArray := hp0_
  refine WA.step [7] (by kernel_rfl) (by simp) ⟨?_, trivial⟩
  refine WL.assign (v := .bool (x10 != x11)) e19 ?_
  refine WL.nil ⟨rfl, _, rfl, ?_⟩
  refine WA.done (by kernel_rfl) ?_
  refine hK9 _ _ ?_
  refine W.ret ?_
  have hr := Option.some.inj hf; subst hr
  exact ⟨_, resOk_one rfl rfl, (), rfl, (hs.mask []).pick []⟩ }
theorem network_Deliverable.calls {ok : Nat → Prop} {w0 : World} {x1 : network_Network} {v2 : Value} {r : List Int} (hf : network_Deliverable x1 = some r) (i0 : (vl t_network_Network x1 v2).holds ok w0) :
    Calls Tryz.prog 21 #[v2] w0 fun e w' => ∃ v, e = .returned v ∧ ∃ y : (Option Addr × Nat × Nat), v = .slice y.1 y.2.1 y.2.2 ∧ St ok (bz w0) w' [] [own (tInt .i64) 3 (.slice y.1 y.2.1 y.2.2) r] := by
  unfold network_Deliverable at hf
  refine calls_of_W (fn := Tryz.f21) (N := 29) Tryz.func21 rfl Tryz.ntmps21 rfl ?_
  have hs : St ok (bz w0) w0 [vl t_network_Network x1 v2] [] := St.init (All.cons i0 All.nil)
  clear i0
  obtain ⟨cs3, hl4, rfl⟩ := hs.aggv (n := 3) 0 rfl rfl rfl
  refine W.seqK fun K5 hK5 => ?_
  refine W.region ?_
  refine WL.box (vs := cs3) hs rfl rfl (fun g6 w hs => ?_)
  refine WL.assign (v := .slice none 0 0) rfl ?_
  refine WL.nil ?_
  refine hK5 _ _ ?_
  refine W.seqK fun K7 hK7 => ?_
  refine W.region ?_
  refine WL.assign (v := .slice none 0 0) rfl ?_
  refine WL.nil ?_
  refine hK7 _ _ ?_
  refine W.seqK fun K8 hK8 => ?_
  have hs := hs.ownNil (tInt .i64) 3
  have Jk14 : ∀ (x10 : List Int) (a11 : Option Addr) (c12 : Nat) (n13 : Nat) (ρ : Env) (w : World), ρ 3 = .slice a11 n13 c12 → St ok (bz w0) w [] [own (tInt .i64) 3 (.slice a11 n13 c12) x10] → network_Deliverable.j1 x10 = some r → K8 ρ w := by
    intro x10 a11 c12 n13 ρ w h9_3 hs hf
    refine hK8 _ _ ?_
    unfold network_Deliverable.j1 at hf
    refine W.seqK fun K15 hK15 => ?_
    refine W.region ?_
    refine WL.move (v := .slice a11 n13 c12) h9_3 ?_
    refine WL.assign (v := .slice a11 n13 c12) rfl ?_
    refine WL.nil ?_
    refine hK15 _ _ ?_
    refine W.ret ?_
    have hr := Option.some.inj hf; subst hr
    exact ⟨_, resOk_one rfl rfl, (a11, n13, c12), rfl, (hs.mask [true]).pick []⟩
  refine W.seqK fun K16 hK16 => ?_
  refine W.region ?_
  refine WL.fieldAddr (m := 1) rfl FA28_1 rfl ?_
  refine WL.loadF (z := x1.Packets) F_network_Network_Packets hs 1 rfl 0 rfl rfl TI25 (.inr rfl) rfl rfl (fun v17 hs => ?_)
  obtain ⟨a18, c19, rfl⟩ := hs.slice 0 rfl
  refine WL.len (v := .slice a18 (x1.Packets).length c19) rfl (len_slice UN25) ?_
  refine WL.move (v := .int .i64 0) rfl ?_
  refine WL.nil ?_
  refine hK16 _ _ ?_
  refine W.block ?_
  obtain ⟨bs26, hbs26, hfs26⟩ := bindE hf
  refine W.loop hbs26 (fun s ρ w => match s with | (x21, x25) => ∃ (a22 : Option Addr), ∃ (c23 : Nat), ∃ (n24 : Nat), ρ 1 = .pointer (some ⟨g6, 0, none⟩) ∧ ρ 3 = .slice a22 n24 c23 ∧ ρ 7 = .slice a18 (x1.Packets).length c19 ∧ ρ 8 = .int .i64 ((x1.Packets).length : Int) ∧ ρ 9 = .int .i64 x25 ∧ St ok (bz w0) w [vl (tSlice t_network_Packet) x1.Packets (.slice a18 (x1.Packets).length c19), vl t_network_Network x1 (.agg cs3.toArray)] [own (tInt .i64) 3 (.slice a22 n24 c23) x21, blk g6 28 cs3]) ⟨none, 0, 0, rfl, rfl, rfl, rfl, rfl, (hs.mask [true, true]).pick [0, 1]⟩ ?_
  intro s ρ w os26 hI hf hbbs26
  obtain ⟨x21, x25⟩ := s
  obtain ⟨a22, c23, n24, h20_1, h20_3, h20_7, h20_8, h20_9, hs⟩ := hI
  unfold network_Deliverable.l1 at hf
  refine W.seqK fun K27 hK27 => ?_
  refine W.region ?_
  refine WL.bin (v := .bool (decide (x25 < ((x1.Packets).length : Int)))) h20_9 h20_8 (ib_lss _ _ _) ?_
  refine WL.nil ?_
  refine hK27 _ _ ?_
  refine W.seqK fun K28 hK28 => ?_
  rcases iteE hf with ⟨hc29, hf⟩ | ⟨hc29, hf⟩
  {
  refine W.cond_true (bool_tr rfl hc29) ?_
  refine W.skip ?_
  refine hK28 _ _ ?_
  refine W.seqK fun K30 hK30 => ?_
  have Jk36 : ∀ (x32 : List Int) (a33 : Option Addr) (c34 : Nat) (n35 : Nat) (ρ : Env) (w : World), ρ 1 = .pointer (some ⟨g6, 0, none⟩) → ρ 3 = .slice a33 n35 c34 → ρ 7 = .slice a18 (x1.Packets).length c19 → ρ 8 = .int .i64 ((x1.Packets).length : Int) → ρ 9 = .int .i64 x25 → St ok (bz w0) w [vl (tSlice t_network_Packet) x1.Packets (.slice a18 (x1.Packets).length c19), vl t_network_Network x1 (.agg cs3.toArray)] [own (tInt .i64) 3 (.slice a33 n35 c34) x32, blk g6 28 cs3] → network_Deliverable.j2 x25 x32 = some os26 → K30 ρ w := by
    intro x32 a33 c34 n35 ρ w h31_1 h31_3 h31_7 h31_8 h31_9 hs hf
    refine hK30 _ _ ?_
    unfold network_Deliverable.j2 at hf
    refine W.region ?_
    obtain ⟨x37, ex37, hf⟩ := letE hf
    refine WL.bin (v := .int .i64 x37) h31_9 rfl (ib_as ex37 (ib_add _ _ _)) ?_
    refine WL.move (v := .int .i64 x37) rfl ?_
    refine WL.nil ?_
    exact ⟨_, (Option.some.inj hf).symm, a33, c34, n35, h31_1, h31_3, h31_7, h31_8, rfl, (hs.mask [true, true]).pick [0, 1]⟩
  refine W.block ?_
  refine W.seqK fun K38 hK38 => ?_
  refine W.region ?_
  obtain ⟨x39, hxx39, hf⟩ := bindE hf
  refine WL.indexAddr hs 0 rfl UN25 TI66 h20_7 h20_9 hxx39 (fun ad40 hs => ?_)
  refine WL.loadP hs 0 rfl TI66 (.inl rfl) rfl (fun v41 hs => ?_)
  obtain ⟨cs42, hl43, rfl⟩ := hs.aggv (n := 19) 0 rfl rfl rfl
  refine WL.alloc hs ZV66 (fun g44 w hs => ?_)
  refine WL.storeAll (vs := cs42) hs 0 rfl TI66 rfl rfl rfl hl43 (hs.ones 0 rfl rfl) rfl (fun w hs => ?_)
  refine WL.nil ?_
  refine hK38 _ _ ?_
  refine W.seqK fun K45 hK45 => ?_
  refine W.region ?_
  refine WL.loadAll hs 2 rfl TI28 h20_1 hl4 ?_
  refine WL.fieldAddr (m := 1) rfl FA66_1 rfl ?_
  refine WL.fieldAddr (m := 2) rfl FA51_1 rfl ?_
  refine WL.loadF (z := x39.Message.From) (F_network_Packet_Message.comp F_api_Message_From) hs 0 rfl 0 rfl rfl TI3 (.inr rfl) rfl rfl (fun v46 hs => ?_)
  obtain rfl := hs.int 0 rfl
  refine WL.fieldAddr (m := 1) rfl FA66_1 rfl ?_
  refine WL.fieldAddr (m := 3) rfl FA51_2 rfl ?_
  refine WL.loadF (z := x39.Message.To) (F_network_Packet_Message.comp F_api_Message_To) hs 0 rfl 1 rfl rfl TI3 (.inr rfl) rfl rfl (fun v47 hs => ?_)
  obtain rfl := hs.int 0 rfl
  obtain ⟨x48, hxx48, hf⟩ := bindE hf
  refine WL.call (vs := [.agg cs3.toArray, .int .i64 x39.Message.From, .int .i64 x39.Message.To]) hs FN37 ⟨rfl, ⟨rfl, ⟨rfl, trivial⟩⟩⟩ (fun ok hA => network_Blocked.calls (x1 := x1) (x5 := x39.Message.From) (x6 := x39.Message.To) hxx48 (hA.get 5 rfl)) ?_
  rintro _ w hs
  refine WL.not rfl ?_
  refine WL.nil ?_
  refine hK45 _ _ ?_
  rcases iteE hf with ⟨hc49, hf⟩ | ⟨hc49, hf⟩
  {
  refine W.cond_true (bool_tr rfl hc49) ?_
  refine W.region ?_
  refine WL.move (v := .slice a22 n24 c23) h20_3 ?_
  refine WL.fieldAddr (m := 0) rfl FA66_0 rfl ?_
  refine WL.loadF (z := x39.ID) F_network_Packet_ID hs 0 rfl 2 rfl rfl TI3 (.inr rfl) rfl rfl (fun v50 hs => ?_)
  obtain rfl := hs.int 0 rfl
  refine WL.buildSlice (n := 1) (vs := [(0, .int .i64 x39.ID)]) (cs := [.int .i64 x39.ID]) hs ⟨⟨rfl, rfl⟩, trivial⟩ (bls PS23 (by decide) rfl) (fun g51 w hs => ?_)
  obtain ⟨x52, hxx52, hf⟩ := bindE hf
  obtain ⟨hbx52, hex52⟩ := appE hxx52
  refine WL.append (ys := [x39.ID]) (zs := x52) hs 2 rfl 0 rfl UN23 EI3 rfl rfl (fun ok hA => (Cells.one (T := tInt .i64) rfl)) hbx52 (by omega) hex52 (fun v53 w hs => ?_)
  obtain ⟨a54, n56, c55, rfl⟩ := hs.ownv3 2 rfl
  refine WL.assign (v := .slice a54 n56 c55) rfl ?_
  refine WL.nil ?_
  exact Jk36 x52 a54 c55 n56 _ _ h20_1 rfl h20_7 h20_8 h20_9 ((hs.mask [false, false, true, true]).pick [5, 6]) hf }
  {
  refine W.cond_false (bool_tr rfl hc49) ?_
  refine W.skip ?_
  exact Jk36 x21 a22 c23 n24 _ _ h20_1 h20_3 h20_7 h20_8 h20_9 ((hs.mask [false, true, true]).pick [4, 5]) hf } }
  {
  refine W.cond_false (bool_tr rfl hc29) ?_
  refine W.exit ?_
  have hr := Option.some.inj hf; subst hr
  have hr := hbbs26 _ rfl; subst hr
  have hf := hfs26
  exact Jk14 x21 a22 c23 n24 _ _ h20_3 ((hs.mask [true]).pick []) hf }
theorem network_Deliverable.callc {ok : Nat → Prop} {w0 : World} {x1 : network_Network} {v2 : Value} {r : List Int} (hf : network_Deliverable x1 = some r) (i0 : (vl t_network_Network x1 v2).holds ok w0) :
    Calls Tryz.prog 21 #[v2] w0 fun e w' => ∃ v, e = .returned v ∧ ∃ y : (Option Addr × Nat), v = .slice y.1 r.length y.2 ∧ St ok (bz w0) w' [vl (tSlice (tInt .i64)) r (.slice y.1 r.length y.2)] [] := by
  refine (network_Deliverable.calls (ok := ok) (w0 := w0) (x1 := x1) hf i0).mono ?_
  rintro e w' ⟨v, rfl, ⟨a58, n59, c60⟩, rfl, hs⟩
  obtain rfl := hs.ownLen 0 rfl
  have hs := hs.freezeOwn 0 rfl
  exact ⟨_, rfl, (a58, c60), rfl, hs.pick [0]⟩
theorem slices_BinarySearchFunc_int.calls {ok : Nat → Prop} {w0 : World} {x1 : List network_Packet} {x4 : Int} {x5 : network_Packet × Int → Option Int} {a2 : Option Addr} {c3 : Nat} {v6 : Value} {r : Int × Bool} (hf : slices_BinarySearchFunc_int x1 x4 x5 = some r) (i0 : (vl (tSlice t_network_Packet) x1 (.slice a2 x1.length c3)).holds ok w0) (i1 : (vl (tFun Tryz.prog (argK2 t_network_Packet (tInt .i64)) (fun r : Int => .int .i64 r)) x5 v6).holds ok w0) :
    Calls Tryz.prog 47 #[.slice a2 x1.length c3, .int .i64 x4, v6] w0 fun e w' => ∃ v, e = .returned v ∧ ∃ y : Unit, v = .tuple #[.int .i64 r.1, .bool r.2] ∧ St ok (bz w0) w' [] [] := by
  unfold slices_BinarySearchFunc_int at hf
  refine calls_of_W (fn := Tryz.f47) (N := 49) Tryz.func47 rfl Tryz.ntmps47 rfl ?_
  have hs : St ok (bz w0) w0 [vl (tSlice t_network_Packet) x1 (.slice a2 x1.length c3), vl (tFun Tryz.prog (argK2 t_network_Packet (tInt .i64)) (fun r : Int => .int .i64 r)) x5 v6] [] := St.init (All.cons i0 (All.cons i1 All.nil))
  clear i0 i1
  refine W.seqK fun K7 hK7 => ?_
  refine W.region ?_
  refine WL.assign (v := .int .i64 0) rfl ?_
  refine WL.assign (v := .bool false) rfl ?_
  refine WL.nil ?_
  refine hK7 _ _ ?_
  refine W.seqK fun K8 hK8 => ?_
  refine W.region ?_
  refine WL.move (v := .slice a2 x1.length c3) rfl ?_
  refine WL.len (v := .slice a2 x1.length c3) rfl (len_slice UN25) ?_
  refine WL.assign (v := .int .i64 (x1.length : Int)) rfl ?_
  refine WL.nil ?_
  refine hK8 _ _ ?_
  refine W.seqK fun K9 hK9 => ?_
  refine W.region ?_
  refine WL.move (v := .int .i64 (x1.length : Int)) rfl ?_
  refine WL.assign (v := .int .i64 0) rfl ?_
  refine WL.assign (v := .int .i64 (x1.length : Int)) rfl ?_
  refine WL.nil ?_
  refine hK9 _ _ ?_
  refine W.seqK fun K10 hK10 => ?_
  have Jk13 : ∀ (x12 : Int) (ρ : Env) (w : World), ρ 0 = .slice a2 x1.length c3 → ρ 1 = .int .i64 x4 → ρ 2 = v6 → ρ 8 = .int .i64 (x1.length : Int) → ρ 9 = .int .i64 x12 → St ok (bz w0) w [vl (tSlice t_network_Packet) x1 (.slice a2 x1.length c3), vl (tFun Tryz.prog (argK2 t_network_Packet (tInt .i64)) (fun r : Int => .int .i64 r)) x5 v6] [] → slices_BinarySearchFunc_int.j2 x1 x4 x5 x12 = some r → K10 ρ w := by
    intro x12 ρ w h11_0 h11_1 h11_2 h11_8 h11_9 hs hf
    refine hK10 _ _ ?_
    unfold slices_BinarySearchFunc_int.j2 at hf
    refine W.seqK fun K14 hK14 => ?_
    have Jk18 : ∀ (x16 : Int) (x17 : Bool) (ρ : Env) (w : World), ρ 6 = .int .i64 x16 → ρ 7 = .bool x17 → St ok (bz w0) w [] [] → slices_BinarySearchFunc_int.j1 x16 x17 = some r → K14 ρ w := by
      intro x16 x17 ρ w h15_6 h15_7 hs hf
      refine hK14 _ _ ?_
      unfold slices_BinarySearchFunc_int.j1 at hf
      refine W.ret ?_
      have hr := Option.some.inj hf; subst hr
      exact ⟨_, resOk_two rfl h15_6 h15_7, (), rfl, (hs.mask []).pick []⟩
    refine W.region ?_
    refine WL.move (v := .int .i64 x12) h11_9 ?_
    refine WL.move (v := .int .i64 x12) h11_9 ?_
    refine WL.move (v := .int .i64 (x1.length : Int)) h11_8 ?_
    refine WL.bin (v := .bool (decide (x12 < (x1.length : Int)))) rfl rfl (ib_lss _ _ _) ?_
    refine WL.move (v := .bool (decide (x12 < (x1.length : Int)))) rfl ?_
    rcases iteE hf with ⟨hc19, hf⟩ | ⟨hc19, hf⟩
    {
    refine WL.move (v := v6) h11_2 ?_ (hg := (wanted_of rfl rfl (bool_tr rfl hc19)).trans rfl)
    refine WL.move (v := .slice a2 x1.length c3) h11_0 ?_ (hg := (wanted_of rfl rfl (bool_tr rfl hc19)).trans rfl)
    refine WL.move (v := .int .i64 x12) h11_9 ?_ (hg := (wanted_of rfl rfl (bool_tr rfl hc19)).trans rfl)
    obtain ⟨x20, hxx20, hf⟩ := bindE hf
    refine WL.indexAddr hs 0 rfl UN25 TI66 rfl rfl hxx20 (fun ad21 hs => ?_) (hg := (wanted_of rfl rfl (bool_tr rfl hc19)).trans rfl)
    refine WL.loadP hs 0 rfl TI66 (.inl rfl) rfl (fun v22 hs => ?_) (hg := (wanted_of rfl rfl (bool_tr rfl hc19)).trans rfl)
    obtain ⟨cs23, hl24, rfl⟩ := hs.aggv (n := 19) 0 rfl rfl rfl
    refine WL.move (v := .int .i64 x4) h11_1 ?_ (hg := (wanted_of rfl rfl (bool_tr rfl hc19)).trans rfl)
    obtain ⟨x25, hxx25, hf⟩ := bindE hf
    refine WL.callF (x := (x20, x4)) (vs := [.agg cs23.toArray, .int .i64 x4]) hs 3 rfl rfl ⟨rfl, ⟨rfl, trivial⟩⟩ (fun ok hA => ⟨_, _, rfl, hA.get 0 rfl, tInt_V.2 rfl⟩) hxx25 (fun w hs => ?_) (hg := (wanted_of rfl rfl (bool_tr rfl hc19)).trans rfl)
    refine WL.bin (v := .bool (x25 == 0)) rfl rfl (ib_eql _ _ _) ?_ (hg := (wanted_of rfl rfl (bool_tr rfl hc19)).trans rfl)
    refine WL.pickT (v := .bool (x25 == 0)) (bool_tr rfl hc19) rfl ?_
    refine WL.assign (v := .int .i64 x12) rfl ?_
    refine WL.assign (v := .bool (x25 == 0)) rfl ?_
    refine WL.nil ?_
    exact Jk18 x12 (x25 == 0) _ _ rfl rfl ((hs.mask []).pick []) hf }
    {
    refine WL.pass ((wanted_of rfl rfl (bool_tr rfl hc19)).trans rfl) rfl ?_
    refine WL.pass ((wanted_of rfl rfl (bool_tr rfl hc19)).trans rfl) rfl ?_
    refine WL.pass ((wanted_of rfl rfl (bool_tr rfl hc19)).trans rfl) rfl ?_
    refine WL.pass ((wanted_of rfl rfl (bool_tr rfl hc19)).trans rfl) rfl ?_
    refine WL.pass ((wanted_of rfl rfl (bool_tr rfl hc19)).trans rfl) rfl ?_
    refine WL.pass ((wanted_of rfl rfl (bool_tr rfl hc19)).trans rfl) rfl ?_
    refine WL.pass ((wanted_of rfl rfl (bool_tr rfl hc19)).trans rfl) rfl ?_
    refine WL.pass ((wanted_of rfl rfl (bool_tr rfl hc19)).trans rfl) rfl ?_
    refine WL.pickF (v := .bool false) (bool_tr rfl hc19) rfl ?_
    refine WL.assign (v := .int .i64 x12) rfl ?_
    refine WL.assign (v := .bool false) rfl ?_
    refine WL.nil ?_
    exact Jk18 x12 false _ _ rfl rfl ((hs.mask []).pick []) hf }
  refine W.block ?_
  obtain ⟨bs29, hbs29, hfs29⟩ := bindE hf
  refine W.loop hbs29 (fun s ρ w => match s with | (x27, x28) => ρ 0 = .slice a2 x1.length c3 ∧ ρ 1 = .int .i64 x4 ∧ ρ 2 = v6 ∧ ρ 8 = .int .i64 (x1.length : Int) ∧ ρ 9 = .int .i64 x27 ∧ ρ 10 = .int .i64 x28 ∧ St ok (bz w0) w [vl (tSlice t_network_Packet) x1 (.slice a2 x1.length c3), vl (tFun Tryz.prog (argK2 t_network_Packet (tInt .i64)) (fun r : Int => .int .i64 r)) x5 v6] []) ⟨rfl, rfl, rfl, rfl, rfl, rfl, (hs.mask []).pick [0, 1]⟩ ?_
  intro s ρ w os29 hI hf hbbs29
  obtain ⟨x27, x28⟩ := s
  obtain ⟨h26_0, h26_1, h26_2, h26_8, h26_9, h26_10, hs⟩ := hI
  unfold slices_BinarySearchFunc_int.l1 at hf
  refine W.seqK fun K30 hK30 => ?_
  refine W.seqK fun K31 hK31 => ?_
  refine W.region ?_
  refine WL.move (v := .int .i64 x27) h26_9 ?_
  refine WL.move (v := .int .i64 x28) h26_10 ?_
  refine WL.bin (v := .bool (decide (x27 < x28))) rfl rfl (ib_lss _ _ _) ?_
  refine WL.nil ?_
  refine hK31 _ _ ?_
  rcases iteE hf with ⟨hc32, hf⟩ | ⟨hc32, hf⟩
  {
  refine W.cond_true (bool_tr rfl hc32) ?_
  refine W.skip ?_
  refine hK30 _ _ ?_
  refine W.block ?_
  refine W.seqK fun K33 hK33 => ?_
  refine W.region ?_
  refine WL.move (v := .int .i64 x27) h26_9 ?_
  refine WL.move (v := .int .i64 x28) h26_10 ?_
  obtain ⟨x34, ex34, hf⟩ := letE hf
  refine WL.bin (v := .int .i64 x34) rfl rfl (ib_as ex34 (ib_add _ _ _)) ?_
  refine WL.convI UN3 UN109 rfl ?_
  obtain ⟨x36, ex36, hf⟩ := letE hf
  refine WL.shr_ (e := x36) rfl rfl (by decide) ex36 ?_
  refine WL.convI UN109 UN3 rfl ?_
  refine WL.assign (v := .int .i64 (IntKind.i64.wrap x36)) rfl ?_
  refine WL.nil ?_
  refine hK33 _ _ ?_
  refine W.seqK fun K37 hK37 => ?_
  refine W.region ?_
  refine WL.move (v := v6) h26_2 ?_
  refine WL.move (v := .slice a2 x1.length c3) h26_0 ?_
  refine WL.move (v := .int .i64 (IntKind.i64.wrap x36)) rfl ?_
  obtain ⟨x38, hxx38, hf⟩ := bindE hf
  refine WL.indexAddr hs 0 rfl UN25 TI66 rfl rfl hxx38 (fun ad39 hs => ?_)
  refine WL.loadP hs 0 rfl TI66 (.inl rfl) rfl (fun v40 hs => ?_)
  obtain ⟨cs41, hl42, rfl⟩ := hs.aggv (n := 19) 0 rfl rfl rfl
  refine WL.move (v := .int .i64 x4) h26_1 ?_
  obtain ⟨x43, hxx43, hf⟩ := bindE hf
  refine WL.callF (x := (x38, x4)) (vs := [.agg cs41.toArray, .int .i64 x4]) hs 3 rfl rfl ⟨rfl, ⟨rfl, trivial⟩⟩ (fun ok hA => ⟨_, _, rfl, hA.get 0 rfl, tInt_V.2 rfl⟩) hxx43 (fun w hs => ?_)
  refine WL.bin (v := .bool (decide (x43 < 0))) rfl rfl (ib_lss _ _ _) ?_
  refine WL.nil ?_
  refine hK37 _ _ ?_
  rcases iteE hf with ⟨hc44, hf⟩ | ⟨hc44, hf⟩
  {
  refine W.cond_true (bool_tr rfl hc44) ?_
  refine W.region ?_
  refine WL.move (v := .int .i64 (IntKind.i64.wrap x36)) rfl ?_
  obtain ⟨x45, ex45, hf⟩ := letE hf
  refine WL.bin (v := .int .i64 x45) rfl rfl (ib_as ex45 (ib_add _ _ _)) ?_
  refine WL.assign (v := .int .i64 x45) rfl ?_
  refine WL.nil ?_
  exact ⟨_, (Option.some.inj hf).symm, h26_0, h26_1, h26_2, h26_8, rfl, h26_10, (hs.mask []).pick [2, 3]⟩ }
  {
  refine W.cond_false (bool_tr rfl hc44) ?_
  refine W.region ?_
  refine WL.move (v := .int .i64 (IntKind.i64.wrap x36)) rfl ?_
  refine WL.assign (v := .int .i64 (IntKind.i64.wrap x36)) rfl ?_
  refine WL.nil ?_
  exact ⟨_, (Option.some.inj hf).symm, h26_0, h26_1, h26_2, h26_8, h26_9, rfl, (hs.mask []).pick [2, 3]⟩ } }
  {
  refine W.cond_false (bool_tr rfl hc32) ?_
  refine W.exit ?_
  have hr := Option.some.inj hf; subst hr
  have hr := hbbs29 _ rfl; subst hr
  have hf := hfs29
  exact Jk13 x27 _ _ h26_0 h26_1 h26_2 h26_8 h26_9 ((hs.mask []).pick [0, 1]) hf }
theorem cmp_isNaN_int.calls {ok : Nat → Prop} {w0 : World} {x1 : Int}  {r : Bool} (hf : cmp_isNaN_int x1 = some r)  :
    Calls Tryz.prog 56 #[.int .i64 x1] w0 fun e w' => ∃ v, e = .returned v ∧ ∃ y : Unit, v = .bool r ∧ St ok (bz w0) w' [] [] := by
  unfold cmp_isNaN_int at hf
  refine calls_of_W (fn := Tryz.f56) (N := 6) Tryz.func56 rfl Tryz.ntmps56 rfl ?_
  have hs : St ok (bz w0) w0 [] [] := St.init All.nil
  refine W.seqK fun K2 hK2 => ?_
  refine W.region ?_
  refine WL.assign (v := .bool false) rfl ?_
  refine WL.nil ?_
  refine hK2 _ _ ?_
  refine W.seqK fun K3 hK3 => ?_
  refine W.region ?_
  refine WL.move (v := .int .i64 x1) rfl ?_
  refine WL.move (v := .int .i64 x1) rfl ?_
  refine WL.bin (v := .bool (x1 != x1)) rfl rfl (ib_neq _ _ _) ?_
  refine WL.assign (v := .bool (x1 != x1)) rfl ?_
  refine WL.nil ?_
  refine hK3 _ _ ?_
  refine W.ret ?_
  have hr := Option.some.inj hf; subst hr
  exact ⟨_, resOk_one rfl rfl, (), rfl, (hs.mask []).pick []⟩
theorem cmp_Compare_int.calls {ok : Nat → Prop} {w0 : World} {x1 : Int} {x2 : Int}  {r : Int} (hf : cmp_Compare_int x1 x2 = some r)  :
    Calls Tryz.prog 36 #[.int .i64 x1, .int .i64 x2] w0 fun e w' => ∃ v, e = .returned v ∧ ∃ y : Unit, v = .int .i64 r ∧ St ok (bz w0) w' [] [] := by
  unfold cmp_Compare_int at hf
  refine calls_of_W (fn := Tryz.f36) (N := 20) Tryz.func36 rfl Tryz.ntmps36 rfl ?_
  have hs : St ok (bz w0) w0 [] [] := St.init All.nil
  refine W.seqK fun K3 hK3 => ?_
  refine W.region ?_
  refine WL.assign (v := .int .i64 0) rfl ?_
  refine WL.nil ?_
  refine hK3 _ _ ?_
  refine W.seqK fun K4 hK4 => ?_
  refine W.region ?_
  refine WL.move (v := .int .i64 x1) rfl ?_
  obtain ⟨x5, hxx5, hf⟩ := bindE hf
  refine WL.call (vs := [.int .i64 x1]) hs FN56 ⟨rfl, trivial⟩ (fun ok hA => cmp_isNaN_int.calls (x1 := x1) hxx5) ?_
  rintro _ w hs
  refine WL.assign (v := .bool x5) rfl ?_
  refine WL.nil ?_
  refine hK4 _ _ ?_
  refine W.seqK fun K6 hK6 => ?_
  refine W.region ?_
  refine WL.move (v := .int .i64 x2) rfl ?_
  obtain ⟨x7, hxx7, hf⟩ := bindE hf
  refine WL.call (vs := [.int .i64 x2]) hs FN56 ⟨rfl, trivial⟩ (fun ok hA => cmp_isNaN_int.calls (x1 := x2) hxx7) ?_
  rintro _ w hs
  refine WL.assign (v := .bool x7) rfl ?_
  refine WL.nil ?_
  refine hK6 _ _ ?_
  refine W.seqK fun K8 hK8 => ?_
  refine W.seqK fun K9 hK9 => ?_
  refine W.region ?_
  refine WL.move (v := .bool x5) rfl ?_
  refine WL.nil ?_
  refine hK9 _ _ ?_
  rcases iteE hf with ⟨hc10, hf⟩ | ⟨hc10, hf⟩
  {
  refine W.cond_true (bool_tr rfl hc10) ?_
  refine W.seqK fun K11 hK11 => ?_
  refine W.seqK fun K12 hK12 => ?_
  refine W.region ?_
  refine WL.move (v := .bool x7) rfl ?_
  refine WL.nil ?_
  refine hK12 _ _ ?_
  rcases iteE hf with ⟨hc13, hf⟩ | ⟨hc13, hf⟩
  {
  refine W.cond_true (bool_tr rfl hc13) ?_
  refine W.seqK fun K14 hK14 => ?_
  refine W.region ?_
  refine WL.assign (v := .int .i64 0) rfl ?_
  refine WL.nil ?_
  refine hK14 _ _ ?_
  refine W.ret ?_
  have hr := Option.some.inj hf; subst hr
  exact ⟨_, resOk_one rfl rfl, (), rfl, (hs.mask []).pick []⟩ }
  {
  refine W.cond_false (bool_tr rfl hc13) ?_
  refine W.skip ?_
  refine hK11 _ _ ?_
  refine W.seqK fun K15 hK15 => ?_
  refine W.region ?_
  refine WL.assign (v := .int .i64 (-1)) rfl ?_
  refine WL.nil ?_
  refine hK15 _ _ ?_
  refine W.ret ?_
  have hr := Option.some.inj hf; subst hr
  exact ⟨_, resOk_one rfl rfl, (), rfl, (hs.mask []).pick []⟩ } }
  {
  refine W.cond_false (bool_tr rfl hc10) ?_
  refine W.skip ?_
  refine hK8 _ _ ?_
  refine W.seqK fun K16 hK16 => ?_
  refine W.seqK fun K17 hK17 => ?_
  refine W.region ?_
  refine WL.move (v := .bool x7) rfl ?_
  refine WL.nil ?_
  refine hK17 _ _ ?_
  rcases iteE hf with ⟨hc18, hf⟩ | ⟨hc18, hf⟩
  {
  refine W.cond_true (bool_tr rfl hc18) ?_
  refine W.seqK fun K19 hK19 => ?_
  refine W.region ?_
  refine WL.assign (v := .int .i64 1) rfl ?_
  refine WL.nil ?_
  refine hK19 _ _ ?_
  refine W.ret ?_
  have hr := Option.some.inj hf; subst hr
  exact ⟨_, resOk_one rfl rfl, (), rfl, (hs.mask []).pick []⟩ }
  {
  refine W.cond_false (bool_tr rfl hc18) ?_
  refine W.skip ?_
  refine hK16 _ _ ?_
  refine W.seqK fun K20 hK20 => ?_
  refine W.seqK fun K21 hK21 => ?_
  refine W.region ?_
  refine WL.move (v := .int .i64 x1) rfl ?_
  refine WL.move (v := .int .i64 x2) rfl ?_
  refine WL.bin (v := .bool (decide (x1 < x2))) rfl rfl (ib_lss _ _ _) ?_
  refine WL.nil ?_
  refine hK21 _ _ ?_
  rcases iteE hf with ⟨hc22, hf⟩ | ⟨hc22, hf⟩
  {
  refine W.cond_true (bool_tr rfl hc22) ?_
  refine W.seqK fun K23 hK23 => ?_
  refine W.region ?_
  refine WL.assign (v := .int .i64 (-1)) rfl ?_
  refine WL.nil ?_
  refine hK23 _ _ ?_
  refine W.ret ?_
  have hr := Option.some.inj hf; subst hr
  exact ⟨_, resOk_one rfl rfl, (), rfl, (hs.mask []).pick []⟩ }
  {
  refine W.cond_false (bool_tr rfl hc22) ?_
  refine W.skip ?_
  refine hK20 _ _ ?_
  refine W.seqK fun K24 hK24 => ?_
  refine W.seqK fun K25 hK25 => ?_
  refine W.region ?_
  refine WL.move (v := .int .i64 x1) rfl ?_
  refine WL.move (v := .int .i64 x2) rfl ?_
  refine WL.bin (v := .bool (decide (x2 < x1))) rfl rfl (ib_gtr _ _ _) ?_
  refine WL.nil ?_
  refine hK25 _ _ ?_
  rcases iteE hf with ⟨hc26, hf⟩ | ⟨hc26, hf⟩
  {
  refine W.cond_true (bool_tr rfl hc26) ?_
  refine W.seqK fun K27 hK27 => ?_
  refine W.region ?_
  refine WL.assign (v := .int .i64 1) rfl ?_
  refine WL.nil ?_
  refine hK27 _ _ ?_
  refine W.ret ?_
  have hr := Option.some.inj hf; subst hr
  exact ⟨_, resOk_one rfl rfl, (), rfl, (hs.mask []).pick []⟩ }
  {
  refine W.cond_false (bool_tr rfl hc26) ?_
  refine W.skip ?_
  refine hK24 _ _ ?_
  refine W.seqK fun K28 hK28 => ?_
  refine W.region ?_
  refine WL.assign (v := .int .i64 0) rfl ?_
  refine WL.nil ?_
  refine hK28 _ _ ?_
  refine W.ret ?_
  have hr := Option.some.inj hf; subst hr
  exact ⟨_, resOk_one rfl rfl, (), rfl, (hs.mask []).pick []⟩ } } } }
theorem network_position_1.calls {ok : Nat → Prop} {w0 : World} {x1 : network_Packet} {x5 : Int} {v2 : Value} {r : Int} (hf : network_position_1 x1 x5 = some r) (i0 : (vl t_network_Packet x1 v2).holds ok w0) :
    Calls Tryz.prog 48 #[v2, .int .i64 x5] w0 fun e w' => ∃ v, e = .returned v ∧ ∃ y : Unit, v = .int .i64 r ∧ St ok (bz w0) w' [] [] := by
  unfold network_position_1 at hf
  refine calls_of_W (fn := Tryz.f48) (N := 9) Tryz.func48 rfl Tryz.ntmps48 rfl ?_
  have hs : St ok (bz w0) w0 [vl t_network_Packet x1 v2] [] := St.init (All.cons i0 All.nil)
  clear i0
  obtain ⟨cs3, hl4, rfl⟩ := hs.aggv (n := 19) 0 rfl rfl rfl
  refine W.seqK fun K6 hK6 => ?_
  refine W.region ?_
  refine WL.box (vs := cs3) hs rfl rfl (fun g7 w hs => ?_)
  refine WL.assign (v := .int .i64 0) rfl ?_
  refine WL.nil ?_
  refine hK6 _ _ ?_
  refine W.seqK fun K8 hK8 => ?_
  refine W.region ?_
  refine WL.fieldAddr (m := 0) rfl FA66_0 rfl ?_
  refine WL.loadF (z := x1.ID) F_network_Packet_ID hs 0 rfl 0 rfl rfl TI3 (.inr rfl) rfl rfl (fun v9 hs => ?_)
  obtain rfl := hs.int 0 rfl
  refine WL.move (v := .int .i64 x5) rfl ?_
  obtain ⟨x10, hxx10, hf⟩ := bindE hf
  refine WL.call (vs := [.int .i64 x1.ID, .int .i64 x5]) hs FN36 ⟨rfl, ⟨rfl, trivial⟩⟩ (fun ok hA => cmp_Compare_int.calls (x1 := x1.ID) (x2 := x5) hxx10) ?_
  rintro _ w hs
  refine WL.assign (v := .int .i64 x10) rfl ?_
  refine WL.nil ?_
  refine hK8 _ _ ?_
  refine W.ret ?_
  have hr := Option.some.inj hf; subst hr
  exact ⟨_, resOk_one rfl rfl, (), rfl, (hs.mask []).pick []⟩
theorem network_position.calls {ok : Nat → Prop} {w0 : World} {x1 : network_Network} {x5 : Int} {v2 : Value} {r : Int × Bool} (hf : network_position x1 x5 = some r) (i0 : (vl t_network_Network x1 v2).holds ok w0) :
    Calls Tryz.prog 30 #[v2, .int .i64 x5] w0 fun e w' => ∃ v, e = .returned v ∧ ∃ y : Unit, v = .tuple #[.int .i64 r.1, .bool r.2] ∧ St ok (bz w0) w' [] [] := by
  unfold network_position at hf
  refine calls_of_W (fn := Tryz.f30) (N := 12) Tryz.func30 rfl Tryz.ntmps30 rfl ?_
  have hs : St ok (bz w0) w0 [vl t_network_Network x1 v2] [] := St.init (All.cons i0 All.nil)
  clear i0
  obtain ⟨cs3, hl4, rfl⟩ := hs.aggv (n := 3) 0 rfl rfl rfl
  refine W.seqK fun K6 hK6 => ?_
  refine W.region ?_
  refine WL.box (vs := cs3) hs rfl rfl (fun g7 w hs => ?_)
  refine WL.assign (v := .int .i64 0) rfl ?_
  refine WL.assign (v := .bool false) rfl ?_
  refine WL.nil ?_
  refine hK6 _ _ ?_
  refine W.seqK fun K8 hK8 => ?_
  refine W.region ?_
  refine WL.fieldAddr (m := 1) rfl FA28_1 rfl ?_
  refine WL.loadF (z := x1.Packets) F_network_Network_Packets hs 0 rfl 0 rfl rfl TI25 (.inr rfl) rfl rfl (fun v9 hs => ?_)
  obtain ⟨a10, c11, rfl⟩ := hs.slice 0 rfl
  refine WL.move (v := .int .i64 x5) rfl ?_
  have hs := hs.add (it := vl (tFun Tryz.prog (argK2 t_network_Packet (tInt .i64)) (fun r : Int => .int .i64 r)) (fun p : network_Packet × Int => network_position_1 p.1 p.2) (.func (.func 48) #[] #[])) fun ok hA => tFun_V.2 ⟨48, _, rfl, FN48, fun ok' w' hm p r vs hF har => by
    obtain ⟨u1, u2, rfl, h1, h2⟩ := har
    obtain rfl := tInt_V.1 h2
    exact (network_position_1.calls (x1 := p.1) (x5 := p.2) hF h1).mono (by rintro e w2 ⟨v, h1, y, h2, h3⟩; exact ⟨v, h1, h2, h3⟩)⟩
  obtain ⟨⟨x12, x13⟩, hxx12, hf⟩ := bindE hf
  refine WL.call (vs := [.slice a10 (x1.Packets).length c11, .int .i64 x5, (.func (.func 48) #[] #[])]) hs FN47 ⟨rfl, ⟨rfl, ⟨rfl, trivial⟩⟩⟩ (fun ok hA => slices_BinarySearchFunc_int.calls (x1 := x1.Packets) (x4 := x5) (x5 := (fun p : network_Packet × Int => network_position_1 p.1 p.2)) hxx12 (hA.get 1 rfl) (hA.get 0 rfl)) ?_
  rintro _ w hs
  refine WL.extract (v := .int .i64 x12) rfl rfl ?_
  refine WL.extract (v := .bool x13) rfl rfl ?_
  refine WL.assign (v := .int .i64 x12) rfl ?_
  refine WL.assign (v := .bool x13) rfl ?_
  refine WL.nil ?_
  refine hK8 _ _ ?_
  refine W.ret ?_
  have hr := Option.some.inj hf; subst hr
  exact ⟨_, resOk_two rfl rfl rfl, (), rfl, (hs.mask []).pick []⟩
end Go.Proofs.YthcohhpmpdijoaaGreatDoor
set_option linter.unusedVariables false
set_option linter.unusedSimpArgs false
namespace Go.Proofs.YthcohhpmpdijoaaGreatDoor
open Go Go.RowKit Go.Proofs.YthcohhpmpdijoaaGreatDoorL
set_option maxRecDepth 100000
set_option maxHeartbeats 4000000
theorem network_Find.calls {ok : Nat → Prop} {w0 : World} {x1 : network_Network} {x5 : Int} {v2 : Value} {r : api_Message × Bool} (hf : network_Find x1 x5 = some r) (i0 : (vl t_network_Network x1 v2).holds ok w0) :
    Calls Tryz.prog 15 #[v2, .int .i64 x5] w0 fun e w' => ∃ v, e = .returned v ∧ ∃ y : List Value, v = .tuple #[.agg y.toArray, .bool r.2] ∧ St ok (bz w0) w' [vl t_api_Message r.1 (.agg y.toArray)] [] := by
  unfold network_Find at hf
  refine calls_of_W (fn := Tryz.f15) (N := 23) Tryz.func15 rfl Tryz.ntmps15 rfl ?_
  have hs : St ok (bz w0) w0 [vl t_network_Network x1 v2] [] := St.init (All.cons i0 All.nil)
  clear i0
  obtain ⟨cs3, hl4, rfl⟩ := hs.aggv (n := 3) 0 rfl rfl rfl
  refine W.seqK fun K6 hK6 => ?_
  refine W.region ?_
  refine WL.box (vs := cs3) hs rfl rfl (fun g7 w hs => ?_)
  refine WL.alloc hs ZV51 (fun g8 w hs => ?_)
  refine WL.assign (v := .bool false) rfl ?_
  refine WL.nil ?_
  refine hK6 _ _ ?_
  refine W.seqK fun K9 hK9 => ?_
  refine W.region ?_
  refine WL.loadAll hs 1 rfl TI28 rfl hl4 ?_
  refine WL.move (v := .int .i64 x5) rfl ?_
  obtain ⟨⟨x10, x11⟩, hxx10, hf⟩ := bindE hf
  refine WL.call (vs := [.agg cs3.toArray, .int .i64 x5]) hs FN30 ⟨rfl, ⟨rfl, trivial⟩⟩ (fun ok hA => network_position.calls (x1 := x1) (x5 := x5) hxx10 (hA.get 0 rfl)) ?_
  rintro _ w hs
  refine WL.move (v := .tuple #[.int .i64 x10, .bool x11]) rfl ?_
  refine WL.extract (v := .int .i64 x10) rfl rfl ?_
  refine WL.extract (v := .bool x11) rfl rfl ?_
  refine WL.assign (v := .int .i64 x10) rfl ?_
  refine WL.assign (v := .bool x11) rfl ?_
  refine WL.nil ?_
  refine hK9 _ _ ?_
  refine W.seqK fun K12 hK12 => ?_
  refine W.seqK fun K13 hK13 => ?_
  refine W.region ?_
  refine WL.move (v := .bool x11) rfl ?_
  refine WL.not rfl ?_
  refine WL.nil ?_
  refine hK13 _ _ ?_
  rcases iteE hf with ⟨hc14, hf⟩ | ⟨hc14, hf⟩
  {
  refine W.cond_true (bool_tr rfl hc14) ?_
  refine W.seqK fun K15 hK15 => ?_
  refine W.region ?_
  refine WL.build (vs := []) (cs := [.int .i64 0, .int .i64 0, .int .i64 0, .int .i64 0, .int .i64 0, .int .i64 0, .int .i64 0, .slice none 0 0, .slice none 0 0, .slice none 0 0, .slice none 0 0, .bool false, .slice none 0 0, .slice none 0 0, .slice none 0 0, .slice none 0 0, .slice none 0 0, .bool false]) trivial (bld PL51 (by kernel_rfl)) ?_
  refine WL.storeAll (vs := [.int .i64 0, .int .i64 0, .int .i64 0, .int .i64 0, .int .i64 0, .int .i64 0, .int .i64 0, .slice none 0 0, .slice none 0 0, .slice none 0 0, .slice none 0 0, .bool false, .slice none 0 0, .slice none 0 0, .slice none 0 0, .slice none 0 0, .slice none 0 0, .bool false]) hs 0 rfl TI51 rfl rfl rfl rfl (ones_of rfl) rfl (fun w hs => ?_)
  refine WL.assign (v := .bool false) rfl ?_
  refine WL.nil ?_
  refine hK15 _ _ ?_
  refine W.ret ?_
  have hr := Option.some.inj hf; subst hr
  have hs := hs.add (it := vl t_api_Message (⟨0, 0, 0, (⟨0, 0⟩ : api_AccessID), 0, 0, (⟨[], []⟩ : api_Certificate), (⟨[], []⟩ : api_Certificate), false, (⟨[], []⟩ : api_Certificate), [], [], [], false⟩ : api_Message) (.agg [.int .i64 0, .int .i64 0, .int .i64 0, .int .i64 0, .int .i64 0, .int .i64 0, .int .i64 0, .slice none 0 0, .slice none 0 0, .slice none 0 0, .slice none 0 0, .bool false, .slice none 0 0, .slice none 0 0, .slice none 0 0, .slice none 0 0, .slice none 0 0, .bool false].toArray)) fun ok hA => V_agg (show t_api_Message.R ok _ _ _ from ⟨[.int .i64 0], [.int .i64 0, .int .i64 0, .int .i64 0, .int .i64 0, .int .i64 0, .int .i64 0, .slice none 0 0, .slice none 0 0, .slice none 0 0, .slice none 0 0, .bool false, .slice none 0 0, .slice none 0 0, .slice none 0 0, .slice none 0 0, .slice none 0 0, .bool false], rfl, rfl, ⟨[.int .i64 0], [.int .i64 0, .int .i64 0, .int .i64 0, .int .i64 0, .int .i64 0, .slice none 0 0, .slice none 0 0, .slice none 0 0, .slice none 0 0, .bool false, .slice none 0 0, .slice none 0 0, .slice none 0 0, .slice none 0 0, .slice none 0 0, .bool false], rfl, rfl, ⟨[.int .i64 0], [.int .i64 0, .int .i64 0, .int .i64 0, .int .i64 0, .slice none 0 0, .slice none 0 0, .slice none 0 0, .slice none 0 0, .bool false, .slice none 0 0, .slice none 0 0, .slice none 0 0, .slice none 0 0, .slice none 0 0, .bool false], rfl, rfl, ⟨[.int .i64 0, .int .i64 0], [.int .i64 0, .int .i64 0, .slice none 0 0, .slice none 0 0, .slice none 0 0, .slice none 0 0, .bool false, .slice none 0 0, .slice none 0 0, .slice none 0 0, .slice none 0 0, .slice none 0 0, .bool false], rfl, ⟨[.int .i64 0], [.int .i64 0], rfl, rfl, rfl⟩, ⟨[.int .i64 0], [.int .i64 0, .slice none 0 0, .slice none 0 0, .slice none 0 0, .slice none 0 0, .bool false, .slice none 0 0, .slice none 0 0, .slice none 0 0, .slice none 0 0, .slice none 0 0, .bool false], rfl, rfl, ⟨[.int .i64 0], [.slice none 0 0, .slice none 0 0, .slice none 0 0, .slice none 0 0, .bool false, .slice none 0 0, .slice none 0 0, .slice none 0 0, .slice none 0 0, .slice none 0 0, .bool false], rfl, rfl, ⟨[.slice none 0 0, .slice none 0 0], [.slice none 0 0, .slice none 0 0, .bool false, .slice none 0 0, .slice none 0 0, .slice none 0 0, .slice none 0 0, .slice none 0 0, .bool false], rfl, ⟨[.slice none 0 0], [.slice none 0 0], rfl, R_nil, R_nil⟩, ⟨[.slice none 0 0, .slice none 0 0], [.bool false, .slice none 0 0, .slice none 0 0, .slice none 0 0, .slice none 0 0, .slice none 0 0, .bool false], rfl, ⟨[.slice none 0 0], [.slice none 0 0], rfl, R_nil, R_nil⟩, ⟨[.bool false], [.slice none 0 0, .slice none 0 0, .slice none 0 0, .slice none 0 0, .slice none 0 0, .bool false], rfl, rfl, ⟨[.slice none 0 0, .slice none 0 0], [.slice none 0 0, .slice none 0 0, .slice none 0 0, .bool false], rfl, ⟨[.slice none 0 0], [.slice none 0 0], rfl, R_nil, R_nil⟩, ⟨[.slice none 0 0], [.slice none 0 0, .slice none 0 0, .bool false], rfl, R_nil, ⟨[.slice none 0 0], [.slice none 0 0, .bool false], rfl, R_nil, ⟨[.slice none 0 0], [.bool false], rfl, R_nil, rfl⟩⟩⟩⟩⟩⟩⟩⟩⟩⟩⟩⟩⟩) rfl
  exact ⟨_, resOk_two rfl (res_all hs 0 rfl TI51 rfl rfl) rfl, [.int .i64 0, .int .i64 0, .int .i64 0, .int .i64 0, .int .i64 0, .int .i64 0, .int .i64 0, .slice none 0 0, .slice none 0 0, .slice none 0 0, .slice none 0 0, .bool false, .slice none 0 0, .slice none 0 0, .slice none 0 0, .slice none 0 0, .slice none 0 0, .bool false], rfl, (hs.mask []).pick [0]⟩ }
  {
  refine W.cond_false (bool_tr rfl hc14) ?_
  refine W.skip ?_
  refine hK12 _ _ ?_
  refine W.seqK fun K16 hK16 => ?_
  refine W.region ?_
  refine WL.fieldAddr (m := 1) rfl FA28_1 rfl ?_
  refine WL.loadF (z := x1.Packets) F_network_Network_Packets hs 1 rfl 0 rfl rfl TI25 (.inr rfl) rfl rfl (fun v17 hs => ?_)
  obtain ⟨a18, c19, rfl⟩ := hs.slice 0 rfl
  refine WL.move (v := .int .i64 x10) rfl ?_
  obtain ⟨x20, hxx20, hf⟩ := bindE hf
  refine WL.indexAddr hs 0 rfl UN25 TI66 rfl rfl hxx20 (fun ad21 hs => ?_)
  refine WL.fieldAddrP (z := x20.Message) F_network_Packet_Message hs 0 rfl rfl FA66_1 rfl (fun ad22 hs => ?_)
  refine WL.loadP hs 0 rfl TI51 (.inl rfl) rfl (fun v23 hs => ?_)
  obtain ⟨cs24, hl25, rfl⟩ := hs.aggv (n := 18) 0 rfl rfl rfl
  refine WL.storeAll (vs := cs24) hs 0 rfl TI51 rfl rfl rfl hl25 (hs.ones 0 rfl rfl) rfl (fun w hs => ?_)
  refine WL.assign (v := .bool true) rfl ?_
  refine WL.nil ?_
  refine hK16 _ _ ?_
  refine W.ret ?_
  have hr := Option.some.inj hf; subst hr
  exact ⟨_, resOk_two rfl (res_all hs 0 rfl TI51 rfl hl25) rfl, cs24, rfl, (hs.mask []).pick [0]⟩ }
theorem adversary_matches.calls {ok : Nat → Prop} {w0 : World} {x1 : adversary_Rule} {x5 : api_Message} {v2 : Value} {v6 : Value} {r : Bool} (hf : adversary_matches x1 x5 = some r) (i0 : (vl t_adversary_Rule x1 v2).holds ok w0) (i1 : (vl t_api_Message x5 v6).holds ok w0) :
    Calls Tryz.prog 39 #[v2, v6] w0 fun e w' => ∃ v, e = .returned v ∧ ∃ y : Unit, v = .bool r ∧ St ok (bz w0) w' [] [] := by
  unfold adversary_matches at hf
  refine calls_of_W (fn := Tryz.f39) (N := 28) Tryz.func39 rfl Tryz.ntmps39 rfl ?_
  have hs : St ok (bz w0) w0 [vl t_adversary_Rule x1 v2, vl t_api_Message x5 v6] [] := St.init (All.cons i0 (All.cons i1 All.nil))
  clear i0 i1
  obtain ⟨cs3, hl4, rfl⟩ := hs.aggv (n := 2) 0 rfl rfl rfl
  obtain ⟨cs7, hl8, rfl⟩ := hs.aggv (n := 18) 1 rfl rfl rfl
  refine W.seqK fun K9 hK9 => ?_
  refine W.region ?_
  refine WL.box (vs := cs3) hs rfl rfl (fun g10 w hs => ?_)
  refine WL.box (vs := cs7) hs rfl rfl (fun g11 w hs => ?_)
  refine WL.assign (v := .bool false) rfl ?_
  refine WL.nil ?_
  refine hK9 _ _ ?_
  refine W.seqK fun K12 hK12 => ?_
  refine W.seqK fun K13 hK13 => ?_
  refine W.region ?_
  refine WL.fieldAddr (m := 0) rfl FA38_0 rfl ?_
  refine WL.loadF (z := x1.Kind) F_adversary_Rule_Kind hs 1 rfl 0 rfl rfl TI3 (.inr rfl) rfl rfl (fun v14 hs => ?_)
  obtain rfl := hs.int 0 rfl
  refine WL.nil ?_
  refine hK13 _ _ ?_
  refine W.block ?_
  refine W.seqK fun K15 hK15 => ?_
  have Jk18 : ∀ (x17 : Bool) (ρ : Env) (w : World), ρ 2 = .pointer (some ⟨g10, 0, none⟩) → ρ 3 = .pointer (some ⟨g11, 0, none⟩) → ρ 6 = .int .i64 x1.Kind → ρ 7 = .bool x17 → St ok (bz w0) w [vl t_api_Message x5 (.agg cs7.toArray), vl t_adversary_Rule x1 (.agg cs3.toArray)] [blk g11 51 cs7, blk g10 38 cs3] → adversary_matches.j2 x1 x5 x17 = some r → K15 ρ w := by
    intro x17 ρ w h16_2 h16_3 h16_6 h16_7 hs hf
    refine hK15 _ _ ?_
    unfold adversary_matches.j2 at hf
    rcases iteE hf with ⟨hc19, hf⟩ | ⟨hc19, hf⟩
    {
    refine W.cond_true (bool_tr h16_7 hc19) ?_
    refine W.seqK fun K20 hK20 => ?_
    refine W.region ?_
    refine WL.fieldAddr (m := 2) h16_3 FA51_2 rfl ?_
    refine WL.loadF (z := x5.To) F_api_Message_To hs 0 rfl 0 rfl rfl TI3 (.inr rfl) rfl rfl (fun v21 hs => ?_)
    obtain rfl := hs.int 0 rfl
    refine WL.fieldAddr (m := 1) h16_2 FA38_1 rfl ?_
    refine WL.loadF (z := x1.Arg) F_adversary_Rule_Arg hs 1 rfl 2 rfl rfl TI3 (.inr rfl) rfl rfl (fun v22 hs => ?_)
    obtain rfl := hs.int 0 rfl
    refine WL.bin (v := .bool (x5.To == x1.Arg)) rfl rfl (ib_eql _ _ _) ?_
    refine WL.assign (v := .bool (x5.To == x1.Arg)) rfl ?_
    refine WL.nil ?_
    refine hK20 _ _ ?_
    refine W.ret ?_
    have hr := Option.some.inj hf; subst hr
    exact ⟨_, resOk_one rfl rfl, (), rfl, (hs.mask []).pick []⟩ }
    {
    refine W.cond_false (bool_tr h16_7 hc19) ?_
    refine W.seqK fun K23 hK23 => ?_
    have Jk26 : ∀ (x25 : Bool) (ρ : Env) (w : World), ρ 2 = .pointer (some ⟨g10, 0, none⟩) → ρ 3 = .pointer (some ⟨g11, 0, none⟩) → ρ 15 = .bool x25 → St ok (bz w0) w [vl t_api_Message x5 (.agg cs7.toArray), vl t_adversary_Rule x1 (.agg cs3.toArray)] [blk g11 51 cs7, blk g10 38 cs3] → adversary_matches.j1 x1 x5 x25 = some r → K23 ρ w := by
      intro x25 ρ w h24_2 h24_3 h24_15 hs hf
      refine hK23 _ _ ?_
      unfold adversary_matches.j1 at hf
      rcases iteE hf with ⟨hc27, hf⟩ | ⟨hc27, hf⟩
      {
      refine W.cond_true (bool_tr h24_15 hc27) ?_
      refine W.seqK fun K28 hK28 => ?_
      refine W.region ?_
      refine WL.fieldAddr (m := 1) h24_3 FA51_1 rfl ?_
      refine WL.loadF (z := x5.From) F_api_Message_From hs 0 rfl 0 rfl rfl TI3 (.inr rfl) rfl rfl (fun v29 hs => ?_)
      obtain rfl := hs.int 0 rfl
      refine WL.fieldAddr (m := 1) h24_2 FA38_1 rfl ?_
      refine WL.loadF (z := x1.Arg) F_adversary_Rule_Arg hs 1 rfl 2 rfl rfl TI3 (.inr rfl) rfl rfl (fun v30 hs => ?_)
      obtain rfl := hs.int 0 rfl
      refine WL.bin (v := .bool (x5.From == x1.Arg)) rfl rfl (ib_eql _ _ _) ?_
      refine WL.assign (v := .bool (x5.From == x1.Arg)) rfl ?_
      refine WL.nil ?_
      refine hK28 _ _ ?_
      refine W.ret ?_
      have hr := Option.some.inj hf; subst hr
      exact ⟨_, resOk_one rfl rfl, (), rfl, (hs.mask []).pick []⟩ }
      {
      refine W.cond_false (bool_tr h24_15 hc27) ?_
      refine W.skip ?_
      refine hK12 _ _ ?_
      refine W.seqK fun K31 hK31 => ?_
      refine W.region ?_
      refine WL.fieldAddr (m := 0) h24_3 FA51_0 rfl ?_
      refine WL.loadF (z := x5.Kind) F_api_Message_Kind hs 0 rfl 0 rfl rfl TI3 (.inr rfl) rfl rfl (fun v32 hs => ?_)
      obtain rfl := hs.int 0 rfl
      refine WL.fieldAddr (m := 1) h24_2 FA38_1 rfl ?_
      refine WL.loadF (z := x1.Arg) F_adversary_Rule_Arg hs 1 rfl 2 rfl rfl TI3 (.inr rfl) rfl rfl (fun v33 hs => ?_)
      obtain rfl := hs.int 0 rfl
      refine WL.bin (v := .bool (x5.Kind == x1.Arg)) rfl rfl (ib_eql _ _ _) ?_
      refine WL.assign (v := .bool (x5.Kind == x1.Arg)) rfl ?_
      refine WL.nil ?_
      refine hK31 _ _ ?_
      refine W.ret ?_
      have hr := Option.some.inj hf; subst hr
      exact ⟨_, resOk_one rfl rfl, (), rfl, (hs.mask []).pick []⟩ }
    refine W.seqK fun K34 hK34 => ?_
    refine W.region ?_
    refine WL.bin (v := .bool (x1.Kind == 2)) h16_6 rfl (ib_eql _ _ _) ?_
    refine WL.assign (v := .bool (x1.Kind == 2)) rfl ?_
    refine WL.nil ?_
    refine hK34 _ _ ?_
    rcases iteE hf with ⟨hc35, hf⟩ | ⟨hc35, hf⟩
    {
    refine W.cond_true (bool_tr rfl hc35) ?_
    refine W.skip ?_
    exact Jk26 true _ _ h16_2 h16_3 (bool_tr rfl hc35) ((hs.mask [true, true]).pick [0, 1]) hf }
    {
    refine W.cond_false (bool_tr rfl hc35) ?_
    refine W.region ?_
    refine WL.bin (v := .bool (x1.Kind == 5)) h16_6 rfl (ib_eql _ _ _) ?_
    refine WL.assign (v := .bool (x1.Kind == 5)) rfl ?_
    refine WL.nil ?_
    exact Jk26 (x1.Kind == 5) _ _ h16_2 h16_3 rfl ((hs.mask [true, true]).pick [0, 1]) hf } }
  refine W.seqK fun K36 hK36 => ?_
  refine W.region ?_
  refine WL.bin (v := .bool (x1.Kind == 1)) rfl rfl (ib_eql _ _ _) ?_
  refine WL.assign (v := .bool (x1.Kind == 1)) rfl ?_
  refine WL.nil ?_
  refine hK36 _ _ ?_
  rcases iteE hf with ⟨hc37, hf⟩ | ⟨hc37, hf⟩
  {
  refine W.cond_true (bool_tr rfl hc37) ?_
  refine W.skip ?_
  exact Jk18 true _ _ rfl rfl rfl (bool_tr rfl hc37) ((hs.mask [true, true]).pick [2, 1]) hf }
  {
  refine W.cond_false (bool_tr rfl hc37) ?_
  refine W.region ?_
  refine WL.bin (v := .bool (x1.Kind == 4)) rfl rfl (ib_eql _ _ _) ?_
  refine WL.assign (v := .bool (x1.Kind == 4)) rfl ?_
  refine WL.nil ?_
  exact Jk18 (x1.Kind == 4) _ _ rfl rfl rfl rfl ((hs.mask [true, true]).pick [2, 1]) hf }
theorem adversary_filterOf_1.calls {ok : Nat → Prop} {w0 : World} {x1 : List network_Packet} {x4 : adversary_Rule} {x6 : Int} {a2 : Option Addr} {c3 : Nat} {ad5 : Addr} {ad7 : Addr} {r : List network_Packet} (hf : adversary_filterOf_1 x1 x4 x6 = some r) (i0 : (vl (tSlice t_network_Packet) x1 (.slice a2 x1.length c3)).holds ok w0) (i1 : (pl t_adversary_Rule x4 ad5).holds ok w0) (i2 : (pl (tInt .i64) x6 ad7).holds ok w0) :
    Calls Tryz.prog 38 #[.slice a2 x1.length c3, .pointer (some ad5), .pointer (some ad7)] w0 fun e w' => ∃ v, e = .returned v ∧ ∃ y : (Option Addr × Nat), v = .slice y.1 r.length y.2 ∧ St ok (bz w0) w' [vl (tSlice t_network_Packet) r (.slice y.1 r.length y.2)] [] := by
  unfold adversary_filterOf_1 at hf
  refine calls_of_W (fn := Tryz.f38) (N := 62) Tryz.func38 rfl Tryz.ntmps38 rfl ?_
  have hs : St ok (bz w0) w0 [vl (tSlice t_network_Packet) x1 (.slice a2 x1.length c3), pl t_adversary_Rule x4 ad5, pl (tInt .i64) x6 ad7] [] := St.init (All.cons i0 (All.cons i1 (All.cons i2 All.nil)))
  clear i0 i1 i2
  refine W.seqK fun K8 hK8 => ?_
  refine W.region ?_
  refine WL.assign (v := .slice none 0 0) rfl ?_
  refine WL.nil ?_
  refine hK8 _ _ ?_
  refine W.seqK fun K9 hK9 => ?_
  refine W.region ?_
  refine WL.move (v := .slice a2 x1.length c3) rfl ?_
  refine WL.len (v := .slice a2 x1.length c3) rfl (len_slice UN25) ?_
  refine WL.assign (v := .int .i64 (x1.length : Int)) rfl ?_
  refine WL.nil ?_
  refine hK9 _ _ ?_
  refine W.seqK fun K10 hK10 => ?_
  refine W.seqK fun K11 hK11 => ?_
  refine W.region ?_
  refine WL.fieldAddrP (z := x4.Kind) F_adversary_Rule_Kind hs 1 rfl rfl FA38_0 rfl (fun ad12 hs => ?_)
  refine WL.loadP hs 0 rfl TI3 (.inr rfl) rfl (fun v13 hs => ?_)
  obtain rfl := hs.int 0 rfl
  refine WL.nil ?_
  refine hK11 _ _ ?_
  refine W.block ?_
  refine W.seqK fun K14 hK14 => ?_
  refine W.region ?_
  refine WL.bin (v := .bool (x4.Kind == 7)) rfl rfl (ib_eql _ _ _) ?_
  refine WL.assign (v := .bool (x4.Kind == 7)) rfl ?_
  refine WL.nil ?_
  refine hK14 _ _ ?_
  rcases iteE hf with ⟨hc15, hf⟩ | ⟨hc15, hf⟩
  {
  refine W.cond_true (bool_tr rfl hc15) ?_
  refine W.seqK fun K16 hK16 => ?_
  refine W.region ?_
  refine WL.move (v := .slice a2 x1.length c3) rfl ?_
  obtain ⟨x17, hxx17, hf⟩ := bindE hf
  refine WL.slice_h hs 2 rfl UN25 TI66 rfl rfl hxx17 (fun a18 c19 hs => ?_)
  refine WL.assign (v := .slice a18 x17.length c19) rfl ?_
  refine WL.nil ?_
  refine hK16 _ _ ?_
  refine W.ret ?_
  have hr := Option.some.inj hf; subst hr
  exact ⟨_, resOk_one rfl rfl, (a18, c19), rfl, (hs.mask []).pick [0]⟩ }
  {
  refine W.cond_false (bool_tr rfl hc15) ?_
  refine W.seqK fun K20 hK20 => ?_
  refine W.region ?_
  refine WL.bin (v := .bool (x4.Kind == 8)) rfl rfl (ib_eql _ _ _) ?_
  refine WL.assign (v := .bool (x4.Kind == 8)) rfl ?_
  refine WL.nil ?_
  refine hK20 _ _ ?_
  rcases iteE hf with ⟨hc21, hf⟩ | ⟨hc21, hf⟩
  {
  refine W.cond_true (bool_tr rfl hc21) ?_
  refine W.seqK fun K22 hK22 => ?_
  refine W.region ?_
  refine WL.move (v := .slice a2 x1.length c3) rfl ?_
  refine WL.move (v := .int .i64 (x1.length : Int)) rfl ?_
  obtain ⟨x23, ex23, hf⟩ := letE hf
  refine WL.bin (v := .int .i64 x23) rfl rfl (ib_as ex23 (ib_sub _ _ _)) ?_
  obtain ⟨x24, hxx24, hf⟩ := bindE hf
  refine WL.slice_l hs 2 rfl UN25 TI66 rfl rfl hxx24 (fun a25 c26 hs => ?_)
  refine WL.assign (v := .slice a25 x24.length c26) rfl ?_
  refine WL.nil ?_
  refine hK22 _ _ ?_
  refine W.ret ?_
  have hr := Option.some.inj hf; subst hr
  exact ⟨_, resOk_one rfl rfl, (a25, c26), rfl, (hs.mask []).pick [0]⟩ }
  {
  refine W.cond_false (bool_tr rfl hc21) ?_
  refine W.seqK fun K27 hK27 => ?_
  refine W.region ?_
  refine WL.bin (v := .bool (x4.Kind == 9)) rfl rfl (ib_eql _ _ _) ?_
  refine WL.assign (v := .bool (x4.Kind == 9)) rfl ?_
  refine WL.nil ?_
  refine hK27 _ _ ?_
  rcases iteE hf with ⟨hc28, hf⟩ | ⟨hc28, hf⟩
  {
  refine W.cond_true (bool_tr rfl hc28) ?_
  refine W.seqK fun K29 hK29 => ?_
  refine W.region ?_
  refine WL.loadP hs 4 rfl TI3 (.inr rfl) rfl (fun v30 hs => ?_)
  obtain rfl := hs.int 0 rfl
  refine WL.move (v := .int .i64 (x1.length : Int)) rfl ?_
  obtain ⟨hn32, hf⟩ := guardE hf
  obtain ⟨x31, ex31, hf⟩ := letE hf
  refine WL.bin (v := .int .i64 x31) rfl rfl (ib_as ex31 (ib_rem _ _ _ hn32)) ?_
  refine WL.move (v := .int .i64 (x1.length : Int)) rfl ?_
  obtain ⟨x33, ex33, hf⟩ := letE hf
  refine WL.bin (v := .int .i64 x33) rfl rfl (ib_as ex33 (ib_add _ _ _)) ?_
  refine WL.move (v := .int .i64 (x1.length : Int)) rfl ?_
  obtain ⟨hn35, hf⟩ := guardE hf
  obtain ⟨x34, ex34, hf⟩ := letE hf
  refine WL.bin (v := .int .i64 x34) rfl rfl (ib_as ex34 (ib_rem _ _ _ hn35)) ?_
  refine WL.assign (v := .int .i64 x34) rfl ?_
  refine WL.nil ?_
  refine hK29 _ _ ?_
  refine W.seqK fun K36 hK36 => ?_
  refine W.region ?_
  refine WL.move (v := .slice a2 x1.length c3) rfl ?_
  refine WL.move (v := .int .i64 x34) rfl ?_
  refine WL.move (v := .int .i64 x34) rfl ?_
  obtain ⟨x37, ex37, hf⟩ := letE hf
  refine WL.bin (v := .int .i64 x37) rfl rfl (ib_as ex37 (ib_add _ _ _)) ?_
  obtain ⟨x38, hxx38, hf⟩ := bindE hf
  refine WL.slice_lh hs 3 rfl UN25 TI66 rfl rfl rfl hxx38 (fun a39 c40 hs => ?_)
  refine WL.assign (v := .slice a39 x38.length c40) rfl ?_
  refine WL.nil ?_
  refine hK36 _ _ ?_
  refine W.ret ?_
  have hr := Option.some.inj hf; subst hr
  exact ⟨_, resOk_one rfl rfl, (a39, c40), rfl, (hs.mask []).pick [0]⟩ }
  {
  refine W.cond_false (bool_tr rfl hc28) ?_
  refine W.skip ?_
  refine hK10 _ _ ?_
  refine W.seqK fun K41 hK41 => ?_
  refine W.region ?_
  refine WL.assign (v := .slice none 0 0) rfl ?_
  refine WL.nil ?_
  refine hK41 _ _ ?_
  refine W.seqK fun K42 hK42 => ?_
  have hs := hs.ownNil t_network_Packet 66
  have Jk48 : ∀ (x44 : List network_Packet) (a45 : Option Addr) (c46 : Nat) (n47 : Nat) (ρ : Env) (w : World), ρ 0 = .slice a2 x1.length c3 → ρ 7 = .slice a45 n47 c46 → St ok (bz w0) w [vl (tSlice t_network_Packet) x1 (.slice a2 x1.length c3)] [own t_network_Packet 66 (.slice a45 n47 c46) x44] → adversary_filterOf_1.j1 x1 x44 = some r → K42 ρ w := by
    intro x44 a45 c46 n47 ρ w h43_0 h43_7 hs hf
    refine hK42 _ _ ?_
    unfold adversary_filterOf_1.j1 at hf
    refine W.seqK fun K49 hK49 => ?_
    refine W.seqK fun K50 hK50 => ?_
    refine W.region ?_
    refine WL.move (v := .slice a45 n47 c46) h43_7 ?_
    refine WL.len (v := .slice a45 n47 c46) rfl (len_own hs 0 rfl UN25) ?_
    refine WL.bin (v := .bool ((x44.length : Int) == 0)) rfl rfl (ib_eql _ _ _) ?_
    refine WL.nil ?_
    refine hK50 _ _ ?_
    rcases iteE hf with ⟨hc51, hf⟩ | ⟨hc51, hf⟩
    {
    refine W.cond_true (bool_tr rfl hc51) ?_
    refine W.seqK fun K52 hK52 => ?_
    refine W.region ?_
    refine WL.move (v := .slice a2 x1.length c3) h43_0 ?_
    refine WL.assign (v := .slice a2 x1.length c3) rfl ?_
    refine WL.nil ?_
    refine hK52 _ _ ?_
    refine W.ret ?_
    have hr := Option.some.inj hf; subst hr
    exact ⟨_, resOk_one rfl rfl, (a2, c3), rfl, (hs.mask []).pick [0]⟩ }
    {
    refine W.cond_false (bool_tr rfl hc51) ?_
    refine W.skip ?_
    refine hK49 _ _ ?_
    refine W.seqK fun K53 hK53 => ?_
    refine W.region ?_
    refine WL.move (v := .slice a45 n47 c46) h43_7 ?_
    refine WL.assign (v := .slice a45 n47 c46) rfl ?_
    refine WL.nil ?_
    refine hK53 _ _ ?_
    refine W.ret ?_
    have hr := Option.some.inj hf; subst hr
    obtain rfl := hs.ownLen 0 rfl
    have hs := hs.freezeOwn 0 rfl
    exact ⟨_, resOk_one rfl rfl, (a45, c46), rfl, (hs.mask []).pick [0]⟩ }
  refine W.seqK fun K54 hK54 => ?_
  refine W.region ?_
  refine WL.move (v := .slice a2 x1.length c3) rfl ?_
  refine WL.len (v := .slice a2 x1.length c3) rfl (len_slice UN25) ?_
  refine WL.move (v := .int .i64 0) rfl ?_
  refine WL.nil ?_
  refine hK54 _ _ ?_
  refine W.block ?_
  obtain ⟨bs61, hbs61, hfs61⟩ := bindE hf
  refine W.loop hbs61 (fun s ρ w => match s with | (x56, x60) => ∃ (a57 : Option Addr), ∃ (c58 : Nat), ∃ (n59 : Nat), ρ 0 = .slice a2 x1.length c3 ∧ ρ 1 = .pointer (some ad5) ∧ ρ 7 = .slice a57 n59 c58 ∧ ρ 38 = .slice a2 x1.length c3 ∧ ρ 39 = .int .i64 (x1.length : Int) ∧ ρ 40 = .int .i64 x60 ∧ St ok (bz w0) w [vl (tSlice t_network_Packet) x1 (.slice a2 x1.length c3), pl t_adversary_Rule x4 ad5] [own t_network_Packet 66 (.slice a57 n59 c58) x56]) ⟨none, 0, 0, rfl, rfl, rfl, rfl, rfl, rfl, (hs.mask [true]).pick [2, 3]⟩ ?_
  intro s ρ w os61 hI hf hbbs61
  obtain ⟨x56, x60⟩ := s
  obtain ⟨a57, c58, n59, h55_0, h55_1, h55_7, h55_38, h55_39, h55_40, hs⟩ := hI
  unfold adversary_filterOf_1.l1 at hf
  refine W.seqK fun K62 hK62 => ?_
  refine W.region ?_
  refine WL.bin (v := .bool (decide (x60 < (x1.length : Int)))) h55_40 h55_39 (ib_lss _ _ _) ?_
  refine WL.nil ?_
  refine hK62 _ _ ?_
  refine W.seqK fun K63 hK63 => ?_
  rcases iteE hf with ⟨hc64, hf⟩ | ⟨hc64, hf⟩
  {
  refine W.cond_true (bool_tr rfl hc64) ?_
  refine W.skip ?_
  refine hK63 _ _ ?_
  refine W.seqK fun K65 hK65 => ?_
  have Jk71 : ∀ (x67 : List network_Packet) (a68 : Option Addr) (c69 : Nat) (n70 : Nat) (ρ : Env) (w : World), ρ 0 = .slice a2 x1.length c3 → ρ 1 = .pointer (some ad5) → ρ 7 = .slice a68 n70 c69 → ρ 38 = .slice a2 x1.length c3 → ρ 39 = .int .i64 (x1.length : Int) → ρ 40 = .int .i64 x60 → St ok (bz w0) w [vl (tSlice t_network_Packet) x1 (.slice a2 x1.length c3), pl t_adversary_Rule x4 ad5] [own t_network_Packet 66 (.slice a68 n70 c69) x67] → adversary_filterOf_1.j2 x60 x67 = some os61 → K65 ρ w := by
    intro x67 a68 c69 n70 ρ w h66_0 h66_1 h66_7 h66_38 h66_39 h66_40 hs hf
    refine hK65 _ _ ?_
    unfold adversary_filterOf_1.j2 at hf
    refine W.region ?_
    obtain ⟨x72, ex72, hf⟩ := letE hf
    refine WL.bin (v := .int .i64 x72) h66_40 rfl (ib_as ex72 (ib_add _ _ _)) ?_
    refine WL.move (v := .int .i64 x72) rfl ?_
    refine WL.nil ?_
    exact ⟨_, (Option.some.inj hf).symm, a68, c69, n70, h66_0, h66_1, h66_7, h66_38, h66_39, rfl, (hs.mask [true]).pick [0, 1]⟩
  refine W.block ?_
  refine W.seqK fun K73 hK73 => ?_
  refine W.region ?_
  obtain ⟨x74, hxx74, hf⟩ := bindE hf
  refine WL.indexAddr hs 0 rfl UN25 TI66 h55_38 h55_40 hxx74 (fun ad75 hs => ?_)
  refine WL.loadP hs 0 rfl TI66 (.inl rfl) rfl (fun v76 hs => ?_)
  obtain ⟨cs77, hl78, rfl⟩ := hs.aggv (n := 19) 0 rfl rfl rfl
  refine WL.alloc hs ZV66 (fun g79 w hs => ?_)
  refine WL.storeAll (vs := cs77) hs 0 rfl TI66 rfl rfl rfl hl78 (hs.ones 0 rfl rfl) rfl (fun w hs => ?_)
  refine WL.nil ?_
  refine hK73 _ _ ?_
  refine W.seqK fun K80 hK80 => ?_
  obtain ⟨x87, hxx87, hf⟩ := bindE hf
  refine W.any (by kernel_rfl) 8 0 [true, true, true, true, true, true, true, true] rfl rfl (poAt [pq (fun y : List Value => .agg y.toArray) (fun v => [vl t_adversary_Rule x4 v]) (fun v => []), pv (.pointer (some ⟨g79, 1, none⟩)), pq (fun y : List Value => .agg y.toArray) (fun v => [vl t_api_Message x74.Message v]) (fun v => []), pv (.bool x87), pq (fun y : Addr => .pointer (some y)) (fun v => [pl (tInt .i64) x4.Kind (adOf v)]) (fun v => []), pv (.int .i64 x4.Kind), pv (.bool (decide (x4.Kind ≤ 3))), pv (.bool (x87 == (decide (x4.Kind ≤ 3))))]) (Λ := [blk g79 66 cs77, own t_network_Packet 66 (.slice a57 n59 c58) x56]) hs (by kernel_rfl) (by kernel_rfl) (by kernel_rfl) ⟨⟨⟨⟨⟨⟨⟨⟨trivial, ?_⟩, ?_⟩, ?_⟩, ?_⟩, ?_⟩, ?_⟩, ?_⟩, ?_⟩ ?_
  {
  intro ρ w Γx Λx hs hu hp
  refine WL.loadP hs (Γx.length + 3) (getApp rfl) TI38 (.inl rfl) ((hu 1 rfl).trans h55_1) (fun v81 hs => ?_)
  obtain ⟨cs82, hl83, rfl⟩ := hs.aggv (n := 2) 0 rfl rfl rfl
  have hs := hs.add (it := vl t_adversary_Rule x4 (.agg cs82.toArray)) fun ok hA => hA.get 0 rfl
  exact WL.nil ⟨rfl, _, rfl, ⟨cs82, rfl⟩, hs.cutG 1 1⟩ }
  {
  intro ρ w Γx Λx hs hu hp
  refine WL.fieldAddr (m := 1) (hu 9 rfl) FA66_1 rfl ?_
  exact WL.nil ⟨rfl, _, rfl, rfl, hs.cutG 0 0⟩ }
  {
  intro ρ w Γx Λx hs hu hp
  have e90 : ρ 45 = .pointer (some ⟨g79, 1, none⟩) := (hp 1 rfl).1
  refine WL.loadF (z := x74.Message) F_network_Packet_Message hs (Λx.length + 0) (getApp rfl) (Γx.length + 0) (getApp rfl) rfl TI51 (.inl rfl) e90 rfl (fun v84 hs => ?_)
  obtain ⟨cs85, hl86, rfl⟩ := hs.aggv (n := 18) 0 rfl rfl rfl
  have hs := hs.add (it := vl t_api_Message x74.Message (.agg cs85.toArray)) fun ok hA => hA.get 0 rfl
  exact WL.nil ⟨rfl, _, rfl, ⟨cs85, rfl⟩, hs.cutG 1 1⟩ }
  {
  intro ρ w Γx Λx hs hu hp
  obtain ⟨⟨cs91, e93r⟩, hm94⟩ := hp 0 rfl
  have e93 : ρ 44 = .agg cs91.toArray := e93r
  rw [e93r] at hm94
  have hs := hs.memo1 (it := vl t_adversary_Rule x4 (.agg cs91.toArray)) (List.mem_append.2 (.inl (hm94 _ (List.mem_of_getElem? (i := 0) rfl))))
  have hl92 := hs.agglen (n := 2) 0 rfl rfl rfl
  obtain ⟨⟨cs95, e97r⟩, hm98⟩ := hp 2 rfl
  have e97 : ρ 46 = .agg cs95.toArray := e97r
  rw [e97r] at hm98
  have hs := hs.memo1 (it := vl t_api_Message x74.Message (.agg cs95.toArray)) (List.mem_cons_of_mem _ (List.mem_append.2 (.inl (hm98 _ (List.mem_of_getElem? (i := 0) rfl)))))
  have hl96 := hs.agglen (n := 18) 0 rfl rfl rfl
  refine WL.call (vs := [.agg cs91.toArray, .agg cs95.toArray]) hs FN39 ⟨e93, ⟨e97, trivial⟩⟩ (fun ok hA => adversary_matches.calls (x1 := x4) (x5 := x74.Message) hxx87 (hA.get 1 rfl) (hA.get 0 rfl)) ?_
  rintro _ w hs
  exact WL.nil ⟨rfl, _, rfl, rfl, hs.cutG 0 2⟩ }
  {
  intro ρ w Γx Λx hs hu hp
  refine WL.fieldAddrP (z := x4.Kind) F_adversary_Rule_Kind hs (Γx.length + 3) (getApp rfl) ((hu 1 rfl).trans h55_1) FA38_0 rfl (fun ad88 hs => ?_)
  have hs := hs.add (it := pl (tInt .i64) x4.Kind ad88) fun ok hA => hA.get 0 rfl
  exact WL.nil ⟨rfl, _, rfl, ⟨ad88, rfl⟩, hs.cutG 1 1⟩ }
  {
  intro ρ w Γx Λx hs hu hp
  obtain ⟨⟨ad99, e100r⟩, hm101⟩ := hp 4 rfl
  have e100 : ρ 48 = .pointer (some ad99) := e100r
  rw [e100r] at hm101
  have hs := hs.memo1 (it := pl (tInt .i64) x4.Kind ad99) (List.mem_append.2 (.inl (hm101 _ (List.mem_of_getElem? (i := 0) rfl))))
  refine WL.loadP hs 0 rfl TI3 (.inr rfl) e100 (fun v89 hs => ?_)
  obtain rfl := hs.int 0 rfl
  exact WL.nil ⟨rfl, _, rfl, rfl, hs.cutG 0 2⟩ }
  {
  intro ρ w Γx Λx hs hu hp
  have e102 : ρ 49 = .int .i64 x4.Kind := (hp 5 rfl).1
  refine WL.bin (v := .bool (decide (x4.Kind ≤ 3))) e102 rfl (ib_leq _ _ _) ?_
  exact WL.nil ⟨rfl, _, rfl, rfl, hs.cutG 0 0⟩ }
  {
  intro ρ w Γx Λx hs hu hp
  have e103 : ρ 47 = .bool x87 := (hp 3 rfl).1
  have e104 : ρ 50 = .bool (decide (x4.Kind ≤ 3)) := (hp 6 rfl).1
  refine WL.eqB UN4 e103 e104 ?_
  exact WL.nil ⟨rfl, _, rfl, rfl, hs.cutG 0 0⟩ }
  {
  intro ρ w hs hu105 hp
  obtain ⟨⟨⟨⟨⟨⟨⟨⟨_, hp0_⟩, hp1_⟩, hp2_⟩, hp3_⟩, hp4_⟩, hp5_⟩, hp6_⟩, hp7_⟩ := hp
  have hs : St ok (bz w0) w [pl (tInt .i64) x4.Kind (adOf (ρ 48)), vl t_api_Message x74.Message (ρ 46), vl t_adversary_Rule x4 (ρ 44), vl t_network_Packet x74 (.agg cs77.toArray), pl t_network_Packet x74 ad75, vl (tSlice t_network_Packet) x1 (.slice a2 x1.length c3), pl t_adversary_Rule x4 ad5] [blk g79 66 cs77, own t_network_Packet 66 (.slice a57 n59 c58) x56] := hs
  have e106 : ρ 51 = .bool (x87 == (decide (x4.Kind ≤ 3))) := hp7_
  have e107 : ρ 50 = .bool (decide (x4.Kind ≤ 3)) := hp6_
  have e108 : ρ 49 = .int .i64 x4.Kind := hp5_
  obtain ⟨ad109, e110⟩ := hp4_
  have e110 : ρ 48 = .pointer (some ad109) := e110
  try rw [e110] at hs
  have e111 : ρ 47 = .bool x87 := hp3_
  obtain ⟨cs112, e114⟩ := hp2_
  have e114 : ρ 46 = .agg cs112.toArray := e114
  try rw [e114] at hs
  have e115 : ρ 45 = .pointer (some ⟨g79, 1, none⟩) := hp1_
  obtain ⟨cs116, e118⟩ := hp0_
  have e118 : ρ 44 = .agg cs116.toArray := e118
  try rw [e118] at hs
  have hl117 := hs.agglen (n := 2) 2 rfl rfl rfl
  have hl113 := hs.agglen (n := 18) 1 rfl rfl rfl
  refine WA.done (by kernel_rfl) ?_
  refine hK80 _ _ ?_
  rcases iteE hf with ⟨hc119, hf⟩ | ⟨hc119, hf⟩
  {
  refine W.cond_true (bool_tr e106 hc119) ?_
  refine W.region ?_
  refine WL.move (v := .slice a57 n59 c58) ((hu105 7 rfl).trans h55_7) ?_
  refine WL.loadAll hs 0 rfl TI66 (hu105 9 rfl) hl78 ?_
  refine WL.buildSlice (n := 1) (vs := [(0, .agg cs77.toArray)]) (cs := cs77) hs ⟨⟨rfl, rfl⟩, trivial⟩ (bls PS25 (by decide) (by simp [fillS, fillL, Value.cells, hl78])) (fun g120 w hs => ?_)
  obtain ⟨x121, hxx121, hf⟩ := bindE hf
  obtain ⟨hbx121, hex121⟩ := appE hxx121
  refine WL.append (ys := [x74]) (zs := x121) hs 2 rfl 0 rfl UN25 EI66 rfl rfl (fun ok hA => (Cells.one (T := t_network_Packet) (R_agg (hA.get 3 rfl) rfl))) hbx121 (by omega) hex121 (fun v122 w hs => ?_)
  obtain ⟨a123, n125, c124, rfl⟩ := hs.ownv3 2 rfl
  refine WL.assign (v := .slice a123 n125 c124) rfl ?_
  refine WL.nil ?_
  exact Jk71 x121 a123 c124 n125 _ _ ((hu105 0 rfl).trans h55_0) ((hu105 1 rfl).trans h55_1) rfl ((hu105 38 rfl).trans h55_38) ((hu105 39 rfl).trans h55_39) ((hu105 40 rfl).trans h55_40) ((hs.mask [false, false, true]).pick [5, 6]) hf }
  {
  refine W.cond_false (bool_tr e106 hc119) ?_
  refine W.skip ?_
  exact Jk71 x56 a57 c58 n59 _ _ ((hu105 0 rfl).trans h55_0) ((hu105 1 rfl).trans h55_1) ((hu105 7 rfl).trans h55_7) ((hu105 38 rfl).trans h55_38) ((hu105 39 rfl).trans h55_39) ((hu105 40 rfl).trans h55_40) ((hs.mask [false, true]).pick [5, 6]) hf } } }
  {
  refine W.cond_false (bool_tr rfl hc64) ?_
  refine W.exit ?_
  have hr := Option.some.inj hf; subst hr
  have hr := hbbs61 _ rfl; subst hr
  have hf := hfs61
  exact Jk48 x56 a57 c58 n59 _ _ h55_0 h55_7 ((hs.mask [true]).pick [0]) hf } } } }
theorem adversary_filterOf.calls {ok : Nat → Prop} {w0 : World} {x1 : adversary_Rule} {x5 : Int} {v2 : Value} {r : (List network_Packet) → Option (List network_Packet)} (hf : adversary_filterOf x1 x5 = some r) (i0 : (vl t_adversary_Rule x1 v2).holds ok w0) :
    Calls Tryz.prog 22 #[v2, .int .i64 x5] w0 fun e w' => ∃ v, e = .returned v ∧ ∃ y : Value, v = y ∧ St ok (bz w0) w' [vl (tFunT Tryz.prog (argK1 (tSlice t_network_Packet)) (tSlice t_network_Packet)) r y] [] := by
  unfold adversary_filterOf at hf
  refine calls_of_W (fn := Tryz.f22) (N := 6) Tryz.func22 rfl Tryz.ntmps22 rfl ?_
  have hs : St ok (bz w0) w0 [vl t_adversary_Rule x1 v2] [] := St.init (All.cons i0 All.nil)
  clear i0
  obtain ⟨cs3, hl4, rfl⟩ := hs.aggv (n := 2) 0 rfl rfl rfl
  refine W.seqK fun K6 hK6 => ?_
  refine W.region ?_
  refine WL.box (vs := cs3) hs rfl rfl (fun g7 w hs => ?_)
  refine WL.box (vs := [.int .i64 x5]) hs rfl rfl (fun g8 w hs => ?_)
  refine WL.assign (v := .nilFunc) rfl ?_
  refine WL.nil ?_
  refine hK6 _ _ ?_
  refine W.seqK fun K9 hK9 => ?_
  refine W.region ?_
  refine WL.makeFunc (vs := [.pointer (some ⟨g7, 0, none⟩), .pointer (some ⟨g8, 0, none⟩)]) ⟨rfl, ⟨rfl, trivial⟩⟩ ?_
  refine WL.assign (v := .func (.func 38) #[] #[.pointer (some ⟨g7, 0, none⟩), .pointer (some ⟨g8, 0, none⟩)]) rfl ?_
  refine WL.nil ?_
  refine hK9 _ _ ?_
  refine W.ret ?_
  have hr := Option.some.inj hf; subst hr
  have hs := hs.freezeB (A := t_adversary_Rule) (x := x1) 1 rfl fun ok hA => (R_agg (hA.get 0 rfl) rfl)
  have hs := hs.freezeB (A := tInt .i64) (x := x5) 0 rfl fun ok hA => rfl
  have hs := hs.add (it := vl (tFunT Tryz.prog (argK1 (tSlice t_network_Packet)) (tSlice t_network_Packet)) (fun p : (List network_Packet) => adversary_filterOf_1 p x1 x5) (.func (.func 38) #[] #[.pointer (some ⟨g7, 0, none⟩), .pointer (some ⟨g8, 0, none⟩)])) fun ok hA => tFunT_V.2 ⟨38, _, rfl, FN38, fun ok' w' hm p r vs hF har => by
    obtain ⟨u1, rfl, h1⟩ := har
    obtain ⟨a0, c0, e0, _⟩ := tSlice_V.1 h1
    subst e0
    exact (adversary_filterOf_1.calls (x1 := p) (x4 := x1) (x6 := x5) hF h1 ((hA.get 1 rfl).move hm) ((hA.get 0 rfl).move hm)).mono (by rintro e w2 ⟨v, h1, y, h2, h3⟩; exact ⟨v, h1, _, h2, h3⟩)⟩
  exact ⟨_, resOk_one rfl rfl, (.func (.func 38) #[] #[.pointer (some ⟨g7, 0, none⟩), .pointer (some ⟨g8, 0, none⟩)]), rfl, (hs.mask []).pick [0]⟩
theorem adversary_narrow.calls {ok : Nat → Prop} {w0 : World} {x1 : List network_Packet} {x4 : List ((List network_Packet) → Option (List network_Packet))} {a2 : Option Addr} {c3 : Nat} {a5 : Option Addr} {c6 : Nat} {r : List network_Packet} (hf : adversary_narrow x1 x4 = some r) (i0 : (vl (tSlice t_network_Packet) x1 (.slice a2 x1.length c3)).holds ok w0) (i1 : (vl (tSlice (tFunT Tryz.prog (argK1 (tSlice t_network_Packet)) (tSlice t_network_Packet))) x4 (.slice a5 x4.length c6)).holds ok w0) :
    Calls Tryz.prog 23 #[.slice a2 x1.length c3, .slice a5 x4.length c6] w0 fun e w' => ∃ v, e = .returned v ∧ ∃ y : (Option Addr × Nat), v = .slice y.1 r.length y.2 ∧ St ok (bz w0) w' [vl (tSlice t_network_Packet) r (.slice y.1 r.length y.2)] [] := by
  unfold adversary_narrow at hf
  refine calls_of_W (fn := Tryz.f23) (N := 18) Tryz.func23 rfl Tryz.ntmps23 rfl ?_
  have hs : St ok (bz w0) w0 [vl (tSlice t_network_Packet) x1 (.slice a2 x1.length c3), vl (tSlice (tFunT Tryz.prog (argK1 (tSlice t_network_Packet)) (tSlice t_network_Packet))) x4 (.slice a5 x4.length c6)] [] := St.init (All.cons i0 (All.cons i1 All.nil))
  clear i0 i1
  refine W.seqK fun K7 hK7 => ?_
  refine W.region ?_
  refine WL.assign (v := .slice none 0 0) rfl ?_
  refine WL.nil ?_
  refine hK7 _ _ ?_
  refine W.seqK fun K8 hK8 => ?_
  have Jk13 : ∀ (x10 : List network_Packet) (a11 : Option Addr) (c12 : Nat) (ρ : Env) (w : World), ρ 0 = .slice a11 x10.length c12 → St ok (bz w0) w [vl (tSlice t_network_Packet) x10 (.slice a11 x10.length c12)] [] → adversary_narrow.j1 x10 = some r → K8 ρ w := by
    intro x10 a11 c12 ρ w h9_0 hs hf
    refine hK8 _ _ ?_
    unfold adversary_narrow.j1 at hf
    refine W.seqK fun K14 hK14 => ?_
    refine W.region ?_
    refine WL.move (v := .slice a11 x10.length c12) h9_0 ?_
    refine WL.assign (v := .slice a11 x10.length c12) rfl ?_
    refine WL.nil ?_
    refine hK14 _ _ ?_
    refine W.ret ?_
    have hr := Option.some.inj hf; subst hr
    exact ⟨_, resOk_one rfl rfl, (a11, c12), rfl, (hs.mask []).pick [0]⟩
  refine W.seqK fun K15 hK15 => ?_
  refine W.region ?_
  refine WL.move (v := .slice a5 x4.length c6) rfl ?_
  refine WL.len (v := .slice a5 x4.length c6) rfl (len_slice UN67) ?_
  refine WL.move (v := .int .i64 0) rfl ?_
  refine WL.nil ?_
  refine hK15 _ _ ?_
  refine W.block ?_
  obtain ⟨bs21, hbs21, hfs21⟩ := bindE hf
  refine W.loop hbs21 (fun s ρ w => match s with | (x17, x20) => ∃ (a18 : Option Addr), ∃ (c19 : Nat), ρ 0 = .slice a18 x17.length c19 ∧ ρ 7 = .slice a5 x4.length c6 ∧ ρ 8 = .int .i64 (x4.length : Int) ∧ ρ 9 = .int .i64 x20 ∧ St ok (bz w0) w [vl (tSlice t_network_Packet) x17 (.slice a18 x17.length c19), vl (tSlice (tFunT Tryz.prog (argK1 (tSlice t_network_Packet)) (tSlice t_network_Packet))) x4 (.slice a5 x4.length c6)] []) ⟨a2, c3, rfl, rfl, rfl, rfl, (hs.mask []).pick [0, 1]⟩ ?_
  intro s ρ w os21 hI hf hbbs21
  obtain ⟨x17, x20⟩ := s
  obtain ⟨a18, c19, h16_0, h16_7, h16_8, h16_9, hs⟩ := hI
  unfold adversary_narrow.l1 at hf
  refine W.seqK fun K22 hK22 => ?_
  refine W.region ?_
  refine WL.bin (v := .bool (decide (x20 < (x4.length : Int)))) h16_9 h16_8 (ib_lss _ _ _) ?_
  refine WL.nil ?_
  refine hK22 _ _ ?_
  refine W.seqK fun K23 hK23 => ?_
  rcases iteE hf with ⟨hc24, hf⟩ | ⟨hc24, hf⟩
  {
  refine W.cond_true (bool_tr rfl hc24) ?_
  refine W.skip ?_
  refine hK23 _ _ ?_
  refine W.seqK fun K25 hK25 => ?_
  refine W.block ?_
  refine W.seqK fun K26 hK26 => ?_
  refine W.region ?_
  obtain ⟨x27, hxx27, hf⟩ := bindE hf
  refine WL.indexAddr hs 1 rfl UN67 TI69 h16_7 h16_9 hxx27 (fun ad28 hs => ?_)
  refine WL.loadP hs 0 rfl TI69 (.inr rfl) rfl (fun v29 hs => ?_)
  refine WL.assign (v := v29) rfl ?_
  refine WL.nil ?_
  refine hK26 _ _ ?_
  refine W.region ?_
  refine WL.move (v := v29) rfl ?_
  refine WL.move (v := .slice a18 x17.length c19) h16_0 ?_
  obtain ⟨x30, hxx30, hf⟩ := bindE hf
  refine WL.callFT (x := x17) (vs := [.slice a18 x17.length c19]) hs 0 rfl rfl ⟨rfl, trivial⟩ (fun ok hA => ⟨_, rfl, hA.get 2 rfl⟩) hxx30 (fun v33 w hs => ?_)
  obtain ⟨a31, c32, rfl⟩ := hs.slice 0 rfl
  refine WL.assign (v := .slice a31 x30.length c32) rfl ?_
  refine WL.nil ?_
  refine hK25 _ _ ?_
  refine W.region ?_
  obtain ⟨x34, ex34, hf⟩ := letE hf
  refine WL.bin (v := .int .i64 x34) h16_9 rfl (ib_as ex34 (ib_add _ _ _)) ?_
  refine WL.move (v := .int .i64 x34) rfl ?_
  refine WL.nil ?_
  exact ⟨_, (Option.some.inj hf).symm, a31, c32, rfl, h16_7, h16_8, rfl, (hs.mask []).pick [0, 4]⟩ }
  {
  refine W.cond_false (bool_tr rfl hc24) ?_
  refine W.exit ?_
  have hr := Option.some.inj hf; subst hr
  have hr := hbbs21 _ rfl; subst hr
  have hf := hfs21
  exact Jk13 x17 a18 c19 _ _ h16_0 ((hs.mask []).pick [0]) hf }
theorem adversary_Choose.calls {ok : Nat → Prop} {w0 : World} {x1 : List adversary_Rule} {x4 : network_Network} {x8 : Int} {a2 : Option Addr} {c3 : Nat} {v5 : Value} {r : Int × Bool} (hf : adversary_Choose x1 x4 x8 = some r) (i0 : (vl (tSlice t_adversary_Rule) x1 (.slice a2 x1.length c3)).holds ok w0) (i1 : (vl t_network_Network x4 v5).holds ok w0) :
    Calls Tryz.prog 7 #[.slice a2 x1.length c3, v5, .int .i64 x8] w0 fun e w' => ∃ v, e = .returned v ∧ ∃ y : Unit, v = .tuple #[.int .i64 r.1, .bool r.2] ∧ St ok (bz w0) w' [] [] := by
  unfold adversary_Choose at hf
  refine calls_of_W (fn := Tryz.f7) (N := 63) Tryz.func7 rfl Tryz.ntmps7 rfl ?_
  have hs : St ok (bz w0) w0 [vl (tSlice t_adversary_Rule) x1 (.slice a2 x1.length c3), vl t_network_Network x4 v5] [] := St.init (All.cons i0 (All.cons i1 All.nil))
  clear i0 i1
  obtain ⟨cs6, hl7, rfl⟩ := hs.aggv (n := 3) 1 rfl rfl rfl
  refine W.seqK fun K9 hK9 => ?_
  refine W.region ?_
  refine WL.box (vs := cs6) hs rfl rfl (fun g10 w hs => ?_)
  refine WL.assign (v := .int .i64 0) rfl ?_
  refine WL.assign (v := .bool false) rfl ?_
  refine WL.nil ?_
  refine hK9 _ _ ?_
  refine W.seqK fun K11 hK11 => ?_
  refine W.region ?_
  refine WL.assign (v := .slice none 0 0) rfl ?_
  refine WL.nil ?_
  refine hK11 _ _ ?_
  refine W.seqK fun K12 hK12 => ?_
  have hs := hs.ownNil t_network_Packet 66
  have Jk18 : ∀ (x14 : List network_Packet) (a15 : Option Addr) (c16 : Nat) (n17 : Nat) (ρ : Env) (w : World), ρ 0 = .slice a2 x1.length c3 → ρ 2 = .int .i64 x8 → ρ 8 = .slice a15 n17 c16 → St ok (bz w0) w [vl (tSlice t_adversary_Rule) x1 (.slice a2 x1.length c3)] [own t_network_Packet 66 (.slice a15 n17 c16) x14] → adversary_Choose.j3 x1 x8 x14 = some r → K12 ρ w := by
    intro x14 a15 c16 n17 ρ w h13_0 h13_2 h13_8 hs hf
    refine hK12 _ _ ?_
    unfold adversary_Choose.j3 at hf
    refine W.seqK fun K19 hK19 => ?_
    refine W.seqK fun K20 hK20 => ?_
    have Jk23 : ∀ (x22 : Bool) (ρ : Env) (w : World), ρ 0 = .slice a2 x1.length c3 → ρ 2 = .int .i64 x8 → ρ 8 = .slice a15 n17 c16 → ρ 43 = .bool x22 → St ok (bz w0) w [vl (tSlice t_adversary_Rule) x1 (.slice a2 x1.length c3)] [own t_network_Packet 66 (.slice a15 n17 c16) x14] → adversary_Choose.j2 x1 x8 x14 x22 = some r → K20 ρ w := by
      intro x22 ρ w h21_0 h21_2 h21_8 h21_43 hs hf
      refine hK20 _ _ ?_
      unfold adversary_Choose.j2 at hf
      rcases iteE hf with ⟨hc24, hf⟩ | ⟨hc24, hf⟩
      {
      refine W.cond_true (bool_tr h21_43 hc24) ?_
      refine W.seqK fun K25 hK25 => ?_
      refine W.region ?_
      refine WL.assign (v := .int .i64 0) rfl ?_
      refine WL.assign (v := .bool false) rfl ?_
      refine WL.nil ?_
      refine hK25 _ _ ?_
      refine W.ret ?_
      have hr := Option.some.inj hf; subst hr
      exact ⟨_, resOk_two rfl rfl rfl, (), rfl, (hs.mask []).pick []⟩ }
      {
      refine W.cond_false (bool_tr h21_43 hc24) ?_
      refine W.skip ?_
      refine hK19 _ _ ?_
      refine W.seqK fun K26 hK26 => ?_
      refine W.region ?_
      refine WL.assign (v := .slice none 0 0) rfl ?_
      refine WL.nil ?_
      refine hK26 _ _ ?_
      refine W.seqK fun K27 hK27 => ?_
      have hs := hs.ownNil (tFunT Tryz.prog (argK1 (tSlice t_network_Packet)) (tSlice t_network_Packet)) 69
      have Jk33 : ∀ (x29 : List ((List network_Packet) → Option (List network_Packet))) (a30 : Option Addr) (c31 : Nat) (n32 : Nat) (ρ : Env) (w : World), ρ 8 = .slice a15 n17 c16 → ρ 13 = .slice a30 n32 c31 → St ok (bz w0) w [] [own (tFunT Tryz.prog (argK1 (tSlice t_network_Packet)) (tSlice t_network_Packet)) 69 (.slice a30 n32 c31) x29, own t_network_Packet 66 (.slice a15 n17 c16) x14] → adversary_Choose.j1 x14 x29 = some r → K27 ρ w := by
        intro x29 a30 c31 n32 ρ w h28_8 h28_13 hs hf
        refine hK27 _ _ ?_
        unfold adversary_Choose.j1 at hf
        refine W.seqK fun K34 hK34 => ?_
        refine W.region ?_
        refine WL.move (v := .slice a15 n17 c16) h28_8 ?_
        refine WL.move (v := .slice a30 n32 c31) h28_13 ?_
        obtain rfl := hs.ownLen 1 rfl
        have hs := hs.freezeOwn 1 rfl
        obtain rfl := hs.ownLen 0 rfl
        have hs := hs.freezeOwn 0 rfl
        obtain ⟨x35, hxx35, hf⟩ := bindE hf
        refine WL.call (vs := [.slice a15 x14.length c16, .slice a30 x29.length c31]) hs FN23 ⟨rfl, ⟨rfl, trivial⟩⟩ (fun ok hA => adversary_narrow.calls (x1 := x14) (x4 := x29) hxx35 (hA.get 1 rfl) (hA.get 0 rfl)) ?_
        rintro ⟨a36, c37⟩ w hs
        obtain ⟨x38, hxx38, hf⟩ := bindE hf
        refine WL.indexAddr hs 0 rfl UN25 TI66 rfl rfl hxx38 (fun ad39 hs => ?_)
        refine WL.fieldAddrP (z := x38.ID) F_network_Packet_ID hs 0 rfl rfl FA66_0 rfl (fun ad40 hs => ?_)
        refine WL.loadP hs 0 rfl TI3 (.inr rfl) rfl (fun v41 hs => ?_)
        obtain rfl := hs.int 0 rfl
        refine WL.assign (v := .int .i64 x38.ID) rfl ?_
        refine WL.assign (v := .bool true) rfl ?_
        refine WL.nil ?_
        refine hK34 _ _ ?_
        refine W.ret ?_
        have hr := Option.some.inj hf; subst hr
        exact ⟨_, resOk_two rfl rfl rfl, (), rfl, (hs.mask []).pick []⟩
      refine W.seqK fun K42 hK42 => ?_
      refine W.region ?_
      refine WL.move (v := .slice a2 x1.length c3) h21_0 ?_
      refine WL.len (v := .slice a2 x1.length c3) rfl (len_slice UN22) ?_
      refine WL.move (v := .int .i64 0) rfl ?_
      refine WL.nil ?_
      refine hK42 _ _ ?_
      refine W.block ?_
      obtain ⟨bs49, hbs49, hfs49⟩ := bindE hf
      refine W.loop hbs49 (fun s ρ w => match s with | (x44, x48) => ∃ (a45 : Option Addr), ∃ (c46 : Nat), ∃ (n47 : Nat), ρ 2 = .int .i64 x8 ∧ ρ 8 = .slice a15 n17 c16 ∧ ρ 13 = .slice a45 n47 c46 ∧ ρ 44 = .slice a2 x1.length c3 ∧ ρ 45 = .int .i64 (x1.length : Int) ∧ ρ 46 = .int .i64 x48 ∧ St ok (bz w0) w [vl (tSlice t_adversary_Rule) x1 (.slice a2 x1.length c3)] [own (tFunT Tryz.prog (argK1 (tSlice t_network_Packet)) (tSlice t_network_Packet)) 69 (.slice a45 n47 c46) x44, own t_network_Packet 66 (.slice a15 n17 c16) x14]) ⟨none, 0, 0, h21_2, h21_8, rfl, rfl, rfl, rfl, (hs.mask [true, true]).pick [0]⟩ ?_
      intro s ρ w os49 hI hf hbbs49
      obtain ⟨x44, x48⟩ := s
      obtain ⟨a45, c46, n47, h43_2, h43_8, h43_13, h43_44, h43_45, h43_46, hs⟩ := hI
      unfold adversary_Choose.l1 at hf
      refine W.seqK fun K50 hK50 => ?_
      refine W.region ?_
      refine WL.bin (v := .bool (decide (x48 < (x1.length : Int)))) h43_46 h43_45 (ib_lss _ _ _) ?_
      refine WL.nil ?_
      refine hK50 _ _ ?_
      refine W.seqK fun K51 hK51 => ?_
      rcases iteE hf with ⟨hc52, hf⟩ | ⟨hc52, hf⟩
      {
      refine W.cond_true (bool_tr rfl hc52) ?_
      refine W.skip ?_
      refine hK51 _ _ ?_
      refine W.seqK fun K53 hK53 => ?_
      refine W.block ?_
      refine W.seqK fun K54 hK54 => ?_
      refine W.region ?_
      obtain ⟨x55, hxx55, hf⟩ := bindE hf
      refine WL.indexAddr hs 0 rfl UN22 TI38 h43_44 h43_46 hxx55 (fun ad56 hs => ?_)
      refine WL.loadP hs 0 rfl TI38 (.inl rfl) rfl (fun v57 hs => ?_)
      obtain ⟨cs58, hl59, rfl⟩ := hs.aggv (n := 2) 0 rfl rfl rfl
      refine WL.alloc hs ZV38 (fun g60 w hs => ?_)
      refine WL.storeAll (vs := cs58) hs 0 rfl TI38 rfl rfl rfl hl59 (hs.ones 0 rfl rfl) rfl (fun w hs => ?_)
      refine WL.nil ?_
      refine hK54 _ _ ?_
      refine W.region ?_
      refine WL.move (v := .slice a45 n47 c46) h43_13 ?_
      refine WL.loadAll hs 0 rfl TI38 rfl hl59 ?_
      refine WL.move (v := .int .i64 x8) h43_2 ?_
      obtain ⟨x61, hxx61, hf⟩ := bindE hf
      refine WL.call (vs := [.agg cs58.toArray, .int .i64 x8]) hs FN22 ⟨rfl, ⟨rfl, trivial⟩⟩ (fun ok hA => adversary_filterOf.calls (x1 := x55) (x5 := x8) hxx61 (hA.get 0 rfl)) ?_
      rintro v62 w hs
      obtain ⟨g63, c64, rfl⟩ := hs.funT 0 rfl
      refine WL.buildSlice (n := 1) (vs := [(0, (.func (.func g63) #[] c64))]) (cs := [(.func (.func g63) #[] c64)]) hs ⟨⟨rfl, rfl⟩, trivial⟩ (bls PS67 (by decide) rfl) (fun g65 w hs => ?_)
      obtain ⟨x66, hxx66, hf⟩ := bindE hf
      obtain ⟨hbx66, hex66⟩ := appE hxx66
      refine WL.append (ys := [x61]) (zs := x66) hs 2 rfl 0 rfl UN67 EI69 rfl rfl (fun ok hA => (Cells.one (T := tFunT Tryz.prog (argK1 (tSlice t_network_Packet)) (tSlice t_network_Packet)) (R_fun (hA.get 0 rfl)))) hbx66 (by omega) hex66 (fun v67 w hs => ?_)
      obtain ⟨a68, n70, c69, rfl⟩ := hs.ownv3 2 rfl
      refine WL.assign (v := .slice a68 n70 c69) rfl ?_
      refine WL.nil ?_
      refine hK53 _ _ ?_
      refine W.region ?_
      obtain ⟨x71, ex71, hf⟩ := letE hf
      refine WL.bin (v := .int .i64 x71) h43_46 rfl (ib_as ex71 (ib_add _ _ _)) ?_
      refine WL.move (v := .int .i64 x71) rfl ?_
      refine WL.nil ?_
      exact ⟨_, (Option.some.inj hf).symm, a68, c69, n70, h43_2, h43_8, rfl, h43_44, h43_45, rfl, (hs.mask [false, false, true, true]).pick [3]⟩ }
      {
      refine W.cond_false (bool_tr rfl hc52) ?_
      refine W.exit ?_
      have hr := Option.some.inj hf; subst hr
      have hr := hbbs49 _ rfl; subst hr
      have hf := hfs49
      exact Jk33 x44 a45 c46 n47 _ _ h43_8 h43_13 ((hs.mask [true, true]).pick []) hf } }
    refine W.region ?_
    refine WL.move (v := .slice a15 n17 c16) h13_8 ?_
    refine WL.len (v := .slice a15 n17 c16) rfl (len_own hs 0 rfl UN25) ?_
    refine WL.bin (v := .bool ((x14.length : Int) == 0)) rfl rfl (ib_eql _ _ _) ?_
    refine WL.move (v := .bool ((x14.length : Int) == 0)) rfl ?_
    rcases iteE hf with ⟨hc73, hf⟩ | ⟨hc73, hf⟩
    {
    refine WL.pass ((wanted_of rfl rfl (bool_tr rfl hc73)).trans rfl) rfl ?_
    refine WL.pass ((wanted_of rfl rfl (bool_tr rfl hc73)).trans rfl) rfl ?_
    refine WL.pass ((wanted_of rfl rfl (bool_tr rfl hc73)).trans rfl) rfl ?_
    refine WL.pickT (v := .bool true) (bool_tr rfl hc73) rfl ?_
    refine WL.nil ?_
    exact Jk23 true _ _ h13_0 h13_2 h13_8 rfl ((hs.mask [true]).pick [0]) hf }
    {
    refine WL.move (v := .slice a2 x1.length c3) h13_0 ?_ (hg := (wanted_of rfl rfl (bool_tr rfl hc73)).trans rfl)
    obtain ⟨x74, hxx74, hf⟩ := bindE hf
    refine WL.call (vs := [.slice a2 x1.length c3]) hs FN9 ⟨rfl, trivial⟩ (fun ok hA => adversary_Validate.calls (x1 := x1) hxx74 (hA.get 0 rfl)) ?_ (hg := (wanted_of rfl rfl (bool_tr rfl hc73)).trans rfl)
    rintro _ w hs
    refine WL.bin (v := .bool (x74 != 0)) rfl rfl (ib_neq _ _ _) ?_ (hg := (wanted_of rfl rfl (bool_tr rfl hc73)).trans rfl)
    refine WL.pickF (v := .bool (x74 != 0)) (bool_tr rfl hc73) rfl ?_
    refine WL.nil ?_
    exact Jk23 (x74 != 0) _ _ h13_0 h13_2 h13_8 rfl ((hs.mask [true]).pick [0]) hf }
  refine W.seqK fun K75 hK75 => ?_
  refine W.region ?_
  refine WL.loadAll hs 1 rfl TI28 rfl hl7 ?_
  obtain ⟨x76, hxx76, hf⟩ := bindE hf
  refine WL.call (vs := [.agg cs6.toArray]) hs FN21 ⟨rfl, trivial⟩ (fun ok hA => network_Deliverable.calls (x1 := x4) hxx76 (hA.get 1 rfl)) ?_
  rintro ⟨a77, n78, c79⟩ w hs
  refine WL.len (v := .slice a77 n78 c79) rfl (len_own hs 0 rfl UN23) ?_
  refine WL.move (v := .int .i64 0) rfl ?_
  refine WL.nil ?_
  refine hK75 _ _ ?_
  refine W.block ?_
  obtain ⟨bs86, hbs86, hfs86⟩ := bindE hf
  refine W.loop hbs86 (fun s ρ w => match s with | (x81, x85) => ∃ (a82 : Option Addr), ∃ (c83 : Nat), ∃ (n84 : Nat), ρ 0 = .slice a2 x1.length c3 ∧ ρ 2 = .int .i64 x8 ∧ ρ 4 = .pointer (some ⟨g10, 0, none⟩) ∧ ρ 8 = .slice a82 n84 c83 ∧ ρ 17 = .slice a77 n78 c79 ∧ ρ 18 = .int .i64 (x76.length : Int) ∧ ρ 19 = .int .i64 x85 ∧ St ok (bz w0) w [vl (tSlice t_adversary_Rule) x1 (.slice a2 x1.length c3), vl t_network_Network x4 (.agg cs6.toArray)] [own (tInt .i64) 3 (.slice a77 n78 c79) x76, own t_network_Packet 66 (.slice a82 n84 c83) x81, blk g10 28 cs6]) ⟨none, 0, 0, rfl, rfl, rfl, rfl, rfl, rfl, rfl, (hs.mask [true, true, true]).pick [0, 1]⟩ ?_
  intro s ρ w os86 hI hf hbbs86
  obtain ⟨x81, x85⟩ := s
  obtain ⟨a82, c83, n84, h80_0, h80_2, h80_4, h80_8, h80_17, h80_18, h80_19, hs⟩ := hI
  unfold adversary_Choose.l2 at hf
  refine W.seqK fun K87 hK87 => ?_
  refine W.region ?_
  refine WL.bin (v := .bool (decide (x85 < (x76.length : Int)))) h80_19 h80_18 (ib_lss _ _ _) ?_
  refine WL.nil ?_
  refine hK87 _ _ ?_
  refine W.seqK fun K88 hK88 => ?_
  rcases iteE hf with ⟨hc89, hf⟩ | ⟨hc89, hf⟩
  {
  refine W.cond_true (bool_tr rfl hc89) ?_
  refine W.skip ?_
  refine hK88 _ _ ?_
  refine W.seqK fun K90 hK90 => ?_
  refine W.block ?_
  refine W.seqK fun K91 hK91 => ?_
  refine W.region ?_
  obtain ⟨x92, hxx92, hf⟩ := bindE hf
  refine WL.indexAddrO hs 0 rfl UN23 TI3 h80_17 h80_19 hxx92 (fun ad93 hatad93 => ?_)
  refine WL.loadO hs 0 rfl TI3 (.inr rfl) hatad93 hxx92 rfl (fun v94 hs => ?_)
  obtain rfl := hs.int 0 rfl
  refine WL.assign (v := .int .i64 x92) rfl ?_
  refine WL.nil ?_
  refine hK91 _ _ ?_
  refine W.seqK fun K95 hK95 => ?_
  refine W.region ?_
  refine WL.loadAll hs 2 rfl TI28 h80_4 hl7 ?_
  refine WL.move (v := .int .i64 x92) rfl ?_
  obtain ⟨⟨x96, x97⟩, hxx96, hf⟩ := bindE hf
  refine WL.call (vs := [.agg cs6.toArray, .int .i64 x92]) hs FN15 ⟨rfl, ⟨rfl, trivial⟩⟩ (fun ok hA => network_Find.calls (x1 := x4) (x5 := x92) hxx96 (hA.get 2 rfl)) ?_
  rintro cs98 w hs
  have hl99 := hs.agglen (n := 18) 0 rfl rfl rfl
  refine WL.move (v := .tuple #[.agg cs98.toArray, .bool x97]) rfl ?_
  refine WL.extract (v := .agg cs98.toArray) rfl rfl ?_
  refine WL.extract (v := .bool x97) rfl rfl ?_
  refine WL.alloc hs ZV51 (fun g100 w hs => ?_)
  refine WL.storeAll (vs := cs98) hs 0 rfl TI51 rfl rfl rfl hl99 (hs.ones 0 rfl rfl) rfl (fun w hs => ?_)
  refine WL.assign (v := .bool x97) rfl ?_
  refine WL.nil ?_
  refine hK95 _ _ ?_
  refine W.region ?_
  refine WL.move (v := .slice a82 n84 c83) h80_8 ?_
  refine WL.move (v := .int .i64 x92) rfl ?_
  refine WL.loadAll hs 0 rfl TI51 rfl hl99 ?_
  refine WL.build (vs := [(0, .int .i64 x92), (1, .agg cs98.toArray)]) (cs := ([.int .i64 x92] : List Value) ++ cs98) ⟨⟨rfl, rfl⟩, ⟨⟨rfl, rfl⟩, trivial⟩⟩ (bld PL66 (by simp [fillL, Value.cells, hl99])) ?_
  refine WL.buildSlice (n := 1) (vs := [(0, .agg (([.int .i64 x92] : List Value) ++ cs98 : List Value).toArray)]) (cs := ([.int .i64 x92] : List Value) ++ cs98) hs ⟨⟨rfl, rfl⟩, trivial⟩ (bls PS25 (by decide) (by simp [fillS, fillL, Value.cells, hl99])) (fun g101 w hs => ?_)
  obtain ⟨x102, hxx102, hf⟩ := bindE hf
  obtain ⟨hbx102, hex102⟩ := appE hxx102
  refine WL.append (ys := [(⟨x92, x96⟩ : network_Packet)]) (zs := x102) hs 3 rfl 0 rfl UN25 EI66 rfl rfl (fun ok hA => (Cells.one (T := t_network_Packet) (show t_network_Packet.R ok _ (⟨x92, x96⟩ : network_Packet) _ from ⟨[.int .i64 x92], cs98, by simp, rfl, (R_agg (hA.get 0 rfl) rfl)⟩))) hbx102 (by omega) hex102 (fun v103 w hs => ?_)
  obtain ⟨a104, n106, c105, rfl⟩ := hs.ownv3 3 rfl
  refine WL.assign (v := .slice a104 n106 c105) rfl ?_
  refine WL.nil ?_
  refine hK90 _ _ ?_
  refine W.region ?_
  obtain ⟨x107, ex107, hf⟩ := letE hf
  refine WL.bin (v := .int .i64 x107) h80_19 rfl (ib_as ex107 (ib_add _ _ _)) ?_
  refine WL.move (v := .int .i64 x107) rfl ?_
  refine WL.nil ?_
  exact ⟨_, (Option.some.inj hf).symm, a104, c105, n106, h80_0, h80_2, h80_4, rfl, h80_17, h80_18, rfl, (hs.mask [false, false, true, true, true]).pick [2, 3]⟩ }
  {
  refine W.cond_false (bool_tr rfl hc89) ?_
  refine W.exit ?_
  have hr := Option.some.inj hf; subst hr
  have hr := hbbs86 _ rfl; subst hr
  have hf := hfs86
  exact Jk18 x81 a82 c83 n84 _ _ h80_0 h80_2 h80_8 ((hs.mask [false, true]).pick [0]) hf }
end Go.Proofs.YthcohhpmpdijoaaGreatDoor
set_option linter.unusedVariables false
set_option linter.unusedSimpArgs false
namespace Go.Proofs.YthcohhpmpdijoaaGreatDoor
open Go Go.RowKit Go.Proofs.YthcohhpmpdijoaaGreatDoorL
set_option maxRecDepth 100000
set_option maxHeartbeats 4000000
theorem network_remove.calls {ok : Nat → Prop} {w0 : World} {x1 : network_Network} {x5 : Int} {v2 : Value} {r : network_Network} (hf : network_remove x1 x5 = some r) (i0 : (vl t_network_Network x1 v2).holds ok w0) :
    Calls Tryz.prog 46 #[v2, .int .i64 x5] w0 fun e w' => ∃ v, e = .returned v ∧ ∃ y : List Value, v = .agg y.toArray ∧ St ok (bz w0) w' [vl t_network_Network r (.agg y.toArray)] [] := by
  unfold network_remove at hf
  refine calls_of_W (fn := Tryz.f46) (N := 20) Tryz.func46 rfl Tryz.ntmps46 rfl ?_
  have hs : St ok (bz w0) w0 [vl t_network_Network x1 v2] [] := St.init (All.cons i0 All.nil)
  clear i0
  obtain ⟨cs3, hl4, rfl⟩ := hs.aggv (n := 3) 0 rfl rfl rfl
  refine W.seqK fun K6 hK6 => ?_
  refine W.region ?_
  obtain ⟨a8, c9, a10, c11, rfl⟩ := open_network_Network hs 0 rfl
  have hs := hs.add (it := vl (tSlice t_network_Packet) x1.Packets (.slice a8 (x1.Packets).length c9)) fun ok hA => V_fld F_network_Network_Packets (hA.get 0 rfl) rfl rfl rfl
  have hs := hs.add (it := vl (tSlice t_network_Side) x1.Sides (.slice a10 (x1.Sides).length c11)) fun ok hA => V_fld F_network_Network_Sides (hA.get 1 rfl) rfl rfl rfl
  refine WL.box (vs := [.int .i64 x1.Next, .slice a8 (x1.Packets).length c9, .slice a10 (x1.Sides).length c11]) hs rfl rfl (fun g7 w hs => ?_)
  refine WL.alloc hs ZV28 (fun g12 w hs => ?_)
  refine WL.nil ?_
  refine hK6 _ _ ?_
  refine W.seqK fun K13 hK13 => ?_
  refine W.region ?_
  refine WL.loadN (vs := [.int .i64 x1.Next, .slice a8 (x1.Packets).length c9, .slice a10 (x1.Sides).length c11]) hs 1 rfl TI28 rfl rfl rfl ?_
  have hs := hs.add (it := vl t_network_Network (⟨x1.Next, x1.Packets, x1.Sides⟩ : network_Network) (.agg [.int .i64 x1.Next, .slice a8 (x1.Packets).length c9, .slice a10 (x1.Sides).length c11].toArray)) fun ok hA => V_agg (show t_network_Network.R ok _ _ _ from ⟨[.int .i64 x1.Next], [.slice a8 (x1.Packets).length c9, .slice a10 (x1.Sides).length c11], rfl, rfl, ⟨[.slice a8 (x1.Packets).length c9], [.slice a10 (x1.Sides).length c11], rfl, (R_one (hA.get 1 rfl)), (R_one (hA.get 0 rfl))⟩⟩) rfl
  obtain ⟨x14, hxx14, hf⟩ := bindE hf
  refine WL.call (vs := [.agg ([.int .i64 x1.Next, .slice a8 (x1.Packets).length c9, .slice a10 (x1.Sides).length c11] : List Value).toArray]) hs FN31 ⟨rfl, trivial⟩ (fun ok hA => network_clone.calls (x1 := (⟨x1.Next, x1.Packets, x1.Sides⟩ : network_Network)) hxx14 (hA.get 0 rfl)) ?_
  rintro ⟨⟨a15, n16, c17⟩, ⟨a18, n19, c20⟩⟩ w hs
  refine WL.storeAll (vs := [.int .i64 x14.Next, .slice a15 n16 c17, .slice a18 n19 c20]) hs 3 rfl TI28 rfl rfl rfl rfl (ones_of rfl) rfl (fun w hs => ?_)
  refine WL.nil ?_
  refine hK13 _ _ ?_
  refine W.seqK fun K21 hK21 => ?_
  obtain rfl := hs.ownLen 0 rfl
  have hs := hs.freezeOwn 0 rfl
  obtain rfl := hs.ownLen 0 rfl
  have hs := hs.freezeOwn 0 rfl
  obtain ⟨x22, hxx22, hf⟩ := bindE hf
  obtain ⟨x24, ex24, hf⟩ := letE hf
  obtain ⟨x25, hxx25, hf⟩ := bindE hf
  refine W.any (by kernel_rfl) 10 3 [true, true, true, true, true, true, true, true, true, true, false, false, false] rfl rfl (poAt [pv (.pointer (some ⟨g7, 1, none⟩)), pv (.slice a15 (x14.Packets).length c17), pv (.int .i64 x5), pv (.int .i64 x5), pq (fun y : Option Addr => .slice y x22.length x22.length) (fun v => [vl (tSlice t_network_Packet) x22 v]) (fun v => []), pv (.pointer (some ⟨g7, 1, none⟩)), pv (.slice a15 (x14.Packets).length c17), pv (.int .i64 x5), pv (.int .i64 x24), pq (fun y : (Option Addr × Nat) => .slice y.1 x25.length y.2) (fun v => [vl (tSlice t_network_Packet) x25 v]) (fun v => [])]) (Λ := [blk g12 28 [.int .i64 0, .slice none 0 0, .slice none 0 0], blk g7 28 [.int .i64 x14.Next, .slice a15 (x14.Packets).length c17, .slice a18 (x14.Sides).length c20]]) hs (by kernel_rfl) (by kernel_rfl) (by kernel_rfl) ⟨⟨⟨⟨⟨⟨⟨⟨⟨⟨trivial, ?_⟩, ?_⟩, ?_⟩, ?_⟩, ?_⟩, ?_⟩, ?_⟩, ?_⟩, ?_⟩, ?_⟩ ?_
  {
  intro ρ w Γx Λx hs hu hp
  refine WL.fieldAddr (m := 1) (hu 2 rfl) FA28_1 rfl ?_
  exact WL.nil ⟨rfl, _, rfl, rfl, hs.cutG 0 0⟩ }
  {
  intro ρ w Γx Λx hs hu hp
  have e28 : ρ 7 = .pointer (some ⟨g7, 1, none⟩) := (hp 0 rfl).1
  refine WL.load1 (v := .slice a15 (x14.Packets).length c17) hs (Λx.length + 1) (getApp rfl) TI25 e28 rfl ?_
  exact WL.nil ⟨rfl, _, rfl, rfl, hs.cutG 0 0⟩ }
  {
  intro ρ w Γx Λx hs hu hp
  refine WL.move (v := .int .i64 x5) (hu 1 rfl) ?_
  exact WL.nil ⟨rfl, _, rfl, rfl, hs.cutG 0 0⟩ }
  {
  intro ρ w Γx Λx hs hu hp
  refine WL.move (v := .int .i64 x5) (hu 1 rfl) ?_
  exact WL.nil ⟨rfl, _, rfl, rfl, hs.cutG 0 0⟩ }
  {
  intro ρ w Γx Λx hs hu hp
  have e29 : ρ 8 = .slice a15 (x14.Packets).length c17 := (hp 1 rfl).1
  have e30 : ρ 9 = .int .i64 x5 := (hp 2 rfl).1
  have e31 : ρ 10 = .int .i64 x5 := (hp 3 rfl).1
  refine WL.slice_hm hs (Γx.length + 1) (getApp rfl) UN25 TI66 e29 e30 e31 rfl hxx22 (fun a23 hs => ?_)
  have hs := hs.add (it := vl (tSlice t_network_Packet) x22 (.slice a23 x22.length x22.length)) fun ok hA => hA.get 0 rfl
  exact WL.nil ⟨rfl, _, rfl, ⟨a23, rfl⟩, hs.cutG 1 1⟩ }
  {
  intro ρ w Γx Λx hs hu hp
  refine WL.fieldAddr (m := 1) (hu 2 rfl) FA28_1 rfl ?_
  exact WL.nil ⟨rfl, _, rfl, rfl, hs.cutG 0 0⟩ }
  {
  intro ρ w Γx Λx hs hu hp
  have e32 : ρ 12 = .pointer (some ⟨g7, 1, none⟩) := (hp 5 rfl).1
  refine WL.load1 (v := .slice a15 (x14.Packets).length c17) hs (Λx.length + 1) (getApp rfl) TI25 e32 rfl ?_
  exact WL.nil ⟨rfl, _, rfl, rfl, hs.cutG 0 0⟩ }
  {
  intro ρ w Γx Λx hs hu hp
  refine WL.move (v := .int .i64 x5) (hu 1 rfl) ?_
  exact WL.nil ⟨rfl, _, rfl, rfl, hs.cutG 0 0⟩ }
  {
  intro ρ w Γx Λx hs hu hp
  have e33 : ρ 14 = .int .i64 x5 := (hp 7 rfl).1
  refine WL.bin (v := .int .i64 x24) e33 rfl (ib_as ex24 (ib_add _ _ _)) ?_
  exact WL.nil ⟨rfl, _, rfl, rfl, hs.cutG 0 0⟩ }
  {
  intro ρ w Γx Λx hs hu hp
  have e34 : ρ 13 = .slice a15 (x14.Packets).length c17 := (hp 6 rfl).1
  have e35 : ρ 15 = .int .i64 x24 := (hp 8 rfl).1
  refine WL.slice_l hs (Γx.length + 1) (getApp rfl) UN25 TI66 e34 e35 hxx25 (fun a26 c27 hs => ?_)
  have hs := hs.add (it := vl (tSlice t_network_Packet) x25 (.slice a26 x25.length c27)) fun ok hA => hA.get 0 rfl
  exact WL.nil ⟨rfl, _, rfl, ⟨(a26, c27), rfl⟩, hs.cutG 1 1⟩ }
  {
  intro ρ w hs hu36 hp
  obtain ⟨⟨⟨⟨⟨⟨⟨⟨⟨⟨_, hp0_⟩, hp1_⟩, hp2_⟩, hp3_⟩, hp4_⟩, hp5_⟩, hp6_⟩, hp7_⟩, hp8_⟩, hp9_⟩ := hp
  have hs : St ok (bz w0) w [vl (tSlice t_network_Packet) x25 (ρ 16), vl (tSlice t_network_Packet) x22 (ρ 11), vl (tSlice t_network_Side) x14.Sides (.slice a18 (x14.Sides).length c20), vl (tSlice t_network_Packet) x14.Packets (.slice a15 (x14.Packets).length c17), vl t_network_Network (⟨x1.Next, x1.Packets, x1.Sides⟩ : network_Network) (.agg [.int .i64 x1.Next, .slice a8 (x1.Packets).length c9, .slice a10 (x1.Sides).length c11].toArray), vl (tSlice t_network_Side) x1.Sides (.slice a10 (x1.Sides).length c11), vl (tSlice t_network_Packet) x1.Packets (.slice a8 (x1.Packets).length c9), vl t_network_Network x1 (.agg [.int .i64 x1.Next, .slice a8 (x1.Packets).length c9, .slice a10 (x1.Sides).length c11].toArray)] [blk g12 28 [.int .i64 0, .slice none 0 0, .slice none 0 0], blk g7 28 [.int .i64 x14.Next, .slice a15 (x14.Packets).length c17, .slice a18 (x14.Sides).length c20]] := hs
  obtain ⟨⟨a37, c38⟩, e39⟩ := hp9_
  have e39 : ρ 16 = .slice a37 x25.length c38 := e39
  try rw [e39] at hs
  have e40 : ρ 15 = .int .i64 x24 := hp8_
  have e41 : ρ 14 = .int .i64 x5 := hp7_
  have e42 : ρ 13 = .slice a15 (x14.Packets).length c17 := hp6_
  have e43 : ρ 12 = .pointer (some ⟨g7, 1, none⟩) := hp5_
  obtain ⟨a44, e45⟩ := hp4_
  have e45 : ρ 11 = .slice a44 x22.length x22.length := e45
  try rw [e45] at hs
  have e46 : ρ 10 = .int .i64 x5 := hp3_
  have e47 : ρ 9 = .int .i64 x5 := hp2_
  have e48 : ρ 8 = .slice a15 (x14.Packets).length c17 := hp1_
  have e49 : ρ 7 = .pointer (some ⟨g7, 1, none⟩) := hp0_
  refine WA.step [10] (by kernel_rfl) (by simp) ⟨?_, trivial⟩
  obtain ⟨x50, hxx50, hf⟩ := bindE hf
  obtain ⟨hbx50, hex50⟩ := appE hxx50
  refine WL.appendFS (zs := x50) hs 1 rfl 0 rfl UN25 UN25 EI66 e45 e39 hbx50 (by omega) hex50 (fun a51 c52 w hs => ?_)
  refine WL.nil ⟨rfl, _, rfl, ?_⟩
  refine WA.step [11] (by kernel_rfl) (by simp) ⟨?_, trivial⟩
  refine WL.fieldAddr (m := 1) (hu36 2 rfl) FA28_1 rfl ?_
  refine WL.nil ⟨rfl, _, rfl, ?_⟩
  refine WA.step [12] (by kernel_rfl) (by simp) ⟨?_, trivial⟩
  refine WL.store (vs := [.slice a51 x50.length c52]) (cs' := [.int .i64 x14.Next, .slice a51 x50.length c52, .slice a18 (x14.Sides).length c20]) hs 1 rfl TI25 rfl rfl rfl rfl (ones_of rfl) (Nat.le_of_ble_eq_true rfl) rfl (fun w hs => ?_)
  refine WL.nil ⟨rfl, _, rfl, ?_⟩
  refine WA.done (by kernel_rfl) ?_
  refine hK21 _ _ ?_
  refine W.seqK fun K53 hK53 => ?_
  refine W.region ?_
  refine WL.loadN (vs := [.int .i64 x14.Next, .slice a51 x50.length c52, .slice a18 (x14.Sides).length c20]) hs 1 rfl TI28 (hu36 2 rfl) rfl rfl ?_
  refine WL.storeAll (vs := [.int .i64 x14.Next, .slice a51 x50.length c52, .slice a18 (x14.Sides).length c20]) hs 0 rfl TI28 (hu36 4 rfl) rfl rfl rfl (ones_of rfl) rfl (fun w hs => ?_)
  refine WL.nil ?_
  refine hK53 _ _ ?_
  refine W.ret ?_
  have hr := Option.some.inj hf; subst hr
  have hs := hs.add (it := vl t_network_Network (⟨x14.Next, x50, x14.Sides⟩ : network_Network) (.agg [.int .i64 x14.Next, .slice a51 x50.length c52, .slice a18 (x14.Sides).length c20].toArray)) fun ok hA => V_agg (show t_network_Network.R ok _ _ _ from ⟨[.int .i64 x14.Next], [.slice a51 x50.length c52, .slice a18 (x14.Sides).length c20], rfl, rfl, ⟨[.slice a51 x50.length c52], [.slice a18 (x14.Sides).length c20], rfl, (R_one (hA.get 0 rfl)), (R_one (hA.get 3 rfl))⟩⟩) rfl
  exact ⟨_, resOk_one rfl (res_all hs 0 rfl TI28 (hu36 4 rfl) rfl), [.int .i64 x14.Next, .slice a51 x50.length c52, .slice a18 (x14.Sides).length c20], rfl, (hs.mask []).pick [0]⟩ }
theorem network_Deliver.calls {ok : Nat → Prop} {w0 : World} {x1 : network_Network} {x5 : Int} {v2 : Value} {r : network_Network × api_Message × Bool} (hf : network_Deliver x1 x5 = some r) (i0 : (vl t_network_Network x1 v2).holds ok w0) :
    Calls Tryz.prog 29 #[v2, .int .i64 x5] w0 fun e w' => ∃ v, e = .returned v ∧ ∃ y : (List Value) × (List Value), v = .tuple #[.agg y.1.toArray, .agg y.2.toArray, .bool r.2.2] ∧ St ok (bz w0) w' [vl t_network_Network r.1 (.agg y.1.toArray), vl t_api_Message r.2.1 (.agg y.2.toArray)] [] := by
  unfold network_Deliver at hf
  refine calls_of_W (fn := Tryz.f29) (N := 47) Tryz.func29 rfl Tryz.ntmps29 rfl ?_
  have hs : St ok (bz w0) w0 [vl t_network_Network x1 v2] [] := St.init (All.cons i0 All.nil)
  clear i0
  obtain ⟨cs3, hl4, rfl⟩ := hs.aggv (n := 3) 0 rfl rfl rfl
  refine W.seqK fun K6 hK6 => ?_
  refine W.region ?_
  refine WL.box (vs := cs3) hs rfl rfl (fun g7 w hs => ?_)
  refine WL.alloc hs ZV28 (fun g8 w hs => ?_)
  refine WL.alloc hs ZV51 (fun g9 w hs => ?_)
  refine WL.assign (v := .bool false) rfl ?_
  refine WL.nil ?_
  refine hK6 _ _ ?_
  refine W.seqK fun K10 hK10 => ?_
  refine W.region ?_
  refine WL.loadAll hs 2 rfl TI28 rfl hl4 ?_
  refine WL.move (v := .int .i64 x5) rfl ?_
  obtain ⟨⟨x11, x12⟩, hxx11, hf⟩ := bindE hf
  refine WL.call (vs := [.agg cs3.toArray, .int .i64 x5]) hs FN30 ⟨rfl, ⟨rfl, trivial⟩⟩ (fun ok hA => network_position.calls (x1 := x1) (x5 := x5) hxx11 (hA.get 0 rfl)) ?_
  rintro _ w hs
  refine WL.move (v := .tuple #[.int .i64 x11, .bool x12]) rfl ?_
  refine WL.extract (v := .int .i64 x11) rfl rfl ?_
  refine WL.extract (v := .bool x12) rfl rfl ?_
  refine WL.assign (v := .int .i64 x11) rfl ?_
  refine WL.assign (v := .bool x12) rfl ?_
  refine WL.nil ?_
  refine hK10 _ _ ?_
  refine W.seqK fun K13 hK13 => ?_
  refine W.seqK fun K14 hK14 => ?_
  have Jk17 : ∀ (x16 : Bool) (ρ : Env) (w : World), ρ 2 = .pointer (some ⟨g7, 0, none⟩) → ρ 4 = .pointer (some ⟨g8, 0, none⟩) → ρ 5 = .pointer (some ⟨g9, 0, none⟩) → ρ 7 = .int .i64 x11 → ρ 34 = .bool x16 → St ok (bz w0) w [vl t_network_Network x1 (.agg cs3.toArray)] [blk g9 51 [.int .i64 0, .int .i64 0, .int .i64 0, .int .i64 0, .int .i64 0, .int .i64 0, .int .i64 0, .slice none 0 0, .slice none 0 0, .slice none 0 0, .slice none 0 0, .bool false, .slice none 0 0, .slice none 0 0, .slice none 0 0, .slice none 0 0, .slice none 0 0, .bool false], blk g8 28 [.int .i64 0, .slice none 0 0, .slice none 0 0], blk g7 28 cs3] → network_Deliver.j1 x1 x11 x16 = some r → K14 ρ w := by
    intro x16 ρ w h15_2 h15_4 h15_5 h15_7 h15_34 hs hf
    refine hK14 _ _ ?_
    unfold network_Deliver.j1 at hf
    rcases iteE hf with ⟨hc18, hf⟩ | ⟨hc18, hf⟩
    {
    refine W.cond_true (bool_tr h15_34 hc18) ?_
    refine W.seqK fun K19 hK19 => ?_
    refine W.region ?_
    refine WL.loadAll hs 2 rfl TI28 h15_2 hl4 ?_
    obtain ⟨x20, hxx20, hf⟩ := bindE hf
    refine WL.call (vs := [.agg cs3.toArray]) hs FN31 ⟨rfl, trivial⟩ (fun ok hA => network_clone.calls (x1 := x1) hxx20 (hA.get 0 rfl)) ?_
    rintro ⟨⟨a21, n22, c23⟩, ⟨a24, n25, c26⟩⟩ w hs
    refine WL.build (vs := []) (cs := [.int .i64 0, .int .i64 0, .int .i64 0, .int .i64 0, .int .i64 0, .int .i64 0, .int .i64 0, .slice none 0 0, .slice none 0 0, .slice none 0 0, .slice none 0 0, .bool false, .slice none 0 0, .slice none 0 0, .slice none 0 0, .slice none 0 0, .slice none 0 0, .bool false]) trivial (bld PL51 (by kernel_rfl)) ?_
    refine WL.storeAll (vs := [.int .i64 x20.Next, .slice a21 n22 c23, .slice a24 n25 c26]) hs 3 rfl TI28 h15_4 rfl rfl rfl (ones_of rfl) rfl (fun w hs => ?_)
    refine WL.storeAll (vs := [.int .i64 0, .int .i64 0, .int .i64 0, .int .i64 0, .int .i64 0, .int .i64 0, .int .i64 0, .slice none 0 0, .slice none 0 0, .slice none 0 0, .slice none 0 0, .bool false, .slice none 0 0, .slice none 0 0, .slice none 0 0, .slice none 0 0, .slice none 0 0, .bool false]) hs 2 rfl TI51 h15_5 rfl rfl rfl (ones_of rfl) rfl (fun w hs => ?_)
    refine WL.assign (v := .bool false) rfl ?_
    refine WL.nil ?_
    refine hK19 _ _ ?_
    refine W.ret ?_
    have hr := Option.some.inj hf; subst hr
    obtain rfl := hs.ownLen 0 rfl
    have hs := hs.freezeOwn 0 rfl
    obtain rfl := hs.ownLen 0 rfl
    have hs := hs.freezeOwn 0 rfl
    have hs := hs.add (it := vl t_network_Network (⟨x20.Next, x20.Packets, x20.Sides⟩ : network_Network) (.agg [.int .i64 x20.Next, .slice a21 (x20.Packets).length c23, .slice a24 (x20.Sides).length c26].toArray)) fun ok hA => V_agg (show t_network_Network.R ok _ _ _ from ⟨[.int .i64 x20.Next], [.slice a21 (x20.Packets).length c23, .slice a24 (x20.Sides).length c26], rfl, rfl, ⟨[.slice a21 (x20.Packets).length c23], [.slice a24 (x20.Sides).length c26], rfl, (R_one (hA.get 1 rfl)), (R_one (hA.get 0 rfl))⟩⟩) rfl
    have hs := hs.add (it := vl t_api_Message (⟨0, 0, 0, (⟨0, 0⟩ : api_AccessID), 0, 0, (⟨[], []⟩ : api_Certificate), (⟨[], []⟩ : api_Certificate), false, (⟨[], []⟩ : api_Certificate), [], [], [], false⟩ : api_Message) (.agg [.int .i64 0, .int .i64 0, .int .i64 0, .int .i64 0, .int .i64 0, .int .i64 0, .int .i64 0, .slice none 0 0, .slice none 0 0, .slice none 0 0, .slice none 0 0, .bool false, .slice none 0 0, .slice none 0 0, .slice none 0 0, .slice none 0 0, .slice none 0 0, .bool false].toArray)) fun ok hA => V_agg (show t_api_Message.R ok _ _ _ from ⟨[.int .i64 0], [.int .i64 0, .int .i64 0, .int .i64 0, .int .i64 0, .int .i64 0, .int .i64 0, .slice none 0 0, .slice none 0 0, .slice none 0 0, .slice none 0 0, .bool false, .slice none 0 0, .slice none 0 0, .slice none 0 0, .slice none 0 0, .slice none 0 0, .bool false], rfl, rfl, ⟨[.int .i64 0], [.int .i64 0, .int .i64 0, .int .i64 0, .int .i64 0, .int .i64 0, .slice none 0 0, .slice none 0 0, .slice none 0 0, .slice none 0 0, .bool false, .slice none 0 0, .slice none 0 0, .slice none 0 0, .slice none 0 0, .slice none 0 0, .bool false], rfl, rfl, ⟨[.int .i64 0], [.int .i64 0, .int .i64 0, .int .i64 0, .int .i64 0, .slice none 0 0, .slice none 0 0, .slice none 0 0, .slice none 0 0, .bool false, .slice none 0 0, .slice none 0 0, .slice none 0 0, .slice none 0 0, .slice none 0 0, .bool false], rfl, rfl, ⟨[.int .i64 0, .int .i64 0], [.int .i64 0, .int .i64 0, .slice none 0 0, .slice none 0 0, .slice none 0 0, .slice none 0 0, .bool false, .slice none 0 0, .slice none 0 0, .slice none 0 0, .slice none 0 0, .slice none 0 0, .bool false], rfl, ⟨[.int .i64 0], [.int .i64 0], rfl, rfl, rfl⟩, ⟨[.int .i64 0], [.int .i64 0, .slice none 0 0, .slice none 0 0, .slice none 0 0, .slice none 0 0, .bool false, .slice none 0 0, .slice none 0 0, .slice none 0 0, .slice none 0 0, .slice none 0 0, .bool false], rfl, rfl, ⟨[.int .i64 0], [.slice none 0 0, .slice none 0 0, .slice none 0 0, .slice none 0 0, .bool false, .slice none 0 0, .slice none 0 0, .slice none 0 0, .slice none 0 0, .slice none 0 0, .bool false], rfl, rfl, ⟨[.slice none 0 0, .slice none 0 0], [.slice none 0 0, .slice none 0 0, .bool false, .slice none 0 0, .slice none 0 0, .slice none 0 0, .slice none 0 0, .slice none 0 0, .bool false], rfl, ⟨[.slice none 0 0], [.slice none 0 0], rfl, R_nil, R_nil⟩, ⟨[.slice none 0 0, .slice none 0 0], [.bool false, .slice none 0 0, .slice none 0 0, .slice none 0 0, .slice none 0 0, .slice none 0 0, .bool false], rfl, ⟨[.slice none 0 0], [.slice none 0 0], rfl, R_nil, R_nil⟩, ⟨[.bool false], [.slice none 0 0, .slice none 0 0, .slice none 0 0, .slice none 0 0, .slice none 0 0, .bool false], rfl, rfl, ⟨[.slice none 0 0, .slice none 0 0], [.slice none 0 0, .slice none 0 0, .slice none 0 0, .bool false], rfl, ⟨[.slice none 0 0], [.slice none 0 0], rfl, R_nil, R_nil⟩, ⟨[.slice none 0 0], [.slice none 0 0, .slice none 0 0, .bool false], rfl, R_nil, ⟨[.slice none 0 0], [.slice none 0 0, .bool false], rfl, R_nil, ⟨[.slice none 0 0], [.bool false], rfl, R_nil, rfl⟩⟩⟩⟩⟩⟩⟩⟩⟩⟩⟩⟩⟩) rfl
    exact ⟨_, resOk_three rfl (res_all hs 1 rfl TI28 h15_4 rfl) (res_all hs 0 rfl TI51 h15_5 rfl) rfl, ([.int .i64 x20.Next, .slice a21 (x20.Packets).length c23, .slice a24 (x20.Sides).length c26], [.int .i64 0, .int .i64 0, .int .i64 0, .int .i64 0, .int .i64 0, .int .i64 0, .int .i64 0, .slice none 0 0, .slice none 0 0, .slice none 0 0, .slice none 0 0, .bool false, .slice none 0 0, .slice none 0 0, .slice none 0 0, .slice none 0 0, .slice none 0 0, .bool false]), rfl, (hs.mask []).pick [1, 0]⟩ }
    {
    refine W.cond_false (bool_tr h15_34 hc18) ?_
    refine W.skip ?_
    refine hK13 _ _ ?_
    refine W.seqK fun K27 hK27 => ?_
    obtain ⟨x28, hxx28, hf⟩ := bindE hf
    obtain ⟨x34, hxx34, hf⟩ := bindE hf
    have hs := hs.front 1 rfl
    refine W.any (by kernel_rfl) 10 2 [true, true, true, true, true, true, true, true, true, true, false, false] rfl rfl (poAt [pv (.agg cs3.toArray), pv (.int .i64 x11), pq (fun y : List Value => .agg y.toArray) (fun v => [vl t_network_Network x28 v]) (fun v => []), pv (.pointer (some ⟨g7, 1, none⟩)), pq (fun y : (Option Addr × Nat) => .slice y.1 (x1.Packets).length y.2) (fun v => [vl (tSlice t_network_Packet) x1.Packets v]) (fun v => []), pv (.int .i64 x11), pq (fun y : Addr => .pointer (some y)) (fun v => [pl t_network_Packet x34 (adOf v)]) (fun v => []), pq (fun y : Addr => .pointer (some y)) (fun v => [pl t_api_Message x34.Message (adOf v)]) (fun v => []), pq (fun y : List Value => .agg y.toArray) (fun v => [vl t_api_Message x34.Message v]) (fun v => []), pw (blk g8 28 [.int .i64 0, .slice none 0 0, .slice none 0 0]) (tbx t_network_Network x28 g8 28)]) (Λ := [blk g9 51 [.int .i64 0, .int .i64 0, .int .i64 0, .int .i64 0, .int .i64 0, .int .i64 0, .int .i64 0, .slice none 0 0, .slice none 0 0, .slice none 0 0, .slice none 0 0, .bool false, .slice none 0 0, .slice none 0 0, .slice none 0 0, .slice none 0 0, .slice none 0 0, .bool false], blk g7 28 cs3]) hs (by kernel_rfl) (by kernel_rfl) (by kernel_rfl) ⟨⟨⟨⟨⟨⟨⟨⟨⟨⟨trivial, ?_⟩, ?_⟩, ?_⟩, ?_⟩, ?_⟩, ?_⟩, ?_⟩, ?_⟩, ?_⟩, ?_⟩ ?_
    {
    intro ρ w Γx Λx hs hu hp
    refine WL.loadAll hs (Λx.length + 1) (getApp rfl) TI28 ((hu 2 rfl).trans h15_2) hl4 ?_
    exact WL.nil ⟨rfl, _, rfl, rfl, hs.cutG 0 0⟩ }
    {
    intro ρ w Γx Λx hs hu hp
    refine WL.move (v := .int .i64 x11) ((hu 7 rfl).trans h15_7) ?_
    exact WL.nil ⟨rfl, _, rfl, rfl, hs.cutG 0 0⟩ }
    {
    intro ρ w Γx Λx hs hu hp
    have e40 : ρ 38 = .agg cs3.toArray := (hp 0 rfl).1
    have e41 : ρ 39 = .int .i64 x11 := (hp 1 rfl).1
    refine WL.call (vs := [.agg cs3.toArray, .int .i64 x11]) hs FN46 ⟨e40, ⟨e41, trivial⟩⟩ (fun ok hA => network_remove.calls (x1 := x1) (x5 := x11) hxx28 (hA.get (Γx.length + 0) (getApp rfl))) ?_
    rintro cs29 w hs
    have hl30 := hs.agglen (n := 3) 0 rfl rfl rfl
    have hs := hs.add (it := vl t_network_Network x28 (.agg cs29.toArray)) fun ok hA => hA.get 0 rfl
    exact WL.nil ⟨rfl, _, rfl, ⟨cs29, rfl⟩, hs.cutG 1 1⟩ }
    {
    intro ρ w Γx Λx hs hu hp
    refine WL.fieldAddr (m := 1) ((hu 2 rfl).trans h15_2) FA28_1 rfl ?_
    exact WL.nil ⟨rfl, _, rfl, rfl, hs.cutG 0 0⟩ }
    {
    intro ρ w Γx Λx hs hu hp
    have e42 : ρ 41 = .pointer (some ⟨g7, 1, none⟩) := (hp 3 rfl).1
    refine WL.loadF (z := x1.Packets) F_network_Network_Packets hs (Λx.length + 1) (getApp rfl) (Γx.length + 0) (getApp rfl) rfl TI25 (.inr rfl) e42 rfl (fun v31 hs => ?_)
    obtain ⟨a32, c33, rfl⟩ := hs.slice 0 rfl
    have hs := hs.add (it := vl (tSlice t_network_Packet) x1.Packets (.slice a32 (x1.Packets).length c33)) fun ok hA => hA.get 0 rfl
    exact WL.nil ⟨rfl, _, rfl, ⟨(a32, c33), rfl⟩, hs.cutG 1 1⟩ }
    {
    intro ρ w Γx Λx hs hu hp
    refine WL.move (v := .int .i64 x11) ((hu 7 rfl).trans h15_7) ?_
    exact WL.nil ⟨rfl, _, rfl, rfl, hs.cutG 0 0⟩ }
    {
    intro ρ w Γx Λx hs hu hp
    obtain ⟨⟨⟨a43, c44⟩, e45r⟩, hm46⟩ := hp 4 rfl
    have e45 : ρ 42 = .slice a43 (x1.Packets).length c44 := e45r
    rw [e45r] at hm46
    have hs := hs.memo1 (it := vl (tSlice t_network_Packet) x1.Packets (.slice a43 (x1.Packets).length c44)) (List.mem_append.2 (.inl (hm46 _ (List.mem_of_getElem? (i := 0) rfl))))
    have e47 : ρ 43 = .int .i64 x11 := (hp 5 rfl).1
    refine WL.indexAddr hs 0 rfl UN25 TI66 e45 e47 hxx34 (fun ad35 hs => ?_)
    have hs := hs.add (it := pl t_network_Packet x34 ad35) fun ok hA => hA.get 0 rfl
    exact WL.nil ⟨rfl, _, rfl, ⟨ad35, rfl⟩, hs.cutG 1 2⟩ }
    {
    intro ρ w Γx Λx hs hu hp
    obtain ⟨⟨ad48, e49r⟩, hm50⟩ := hp 6 rfl
    have e49 : ρ 44 = .pointer (some ad48) := e49r
    rw [e49r] at hm50
    have hs := hs.memo1 (it := pl t_network_Packet x34 ad48) (List.mem_append.2 (.inl (hm50 _ (List.mem_of_getElem? (i := 0) rfl))))
    refine WL.fieldAddrP (z := x34.Message) F_network_Packet_Message hs 0 rfl e49 FA66_1 rfl (fun ad36 hs => ?_)
    have hs := hs.add (it := pl t_api_Message x34.Message ad36) fun ok hA => hA.get 0 rfl
    exact WL.nil ⟨rfl, _, rfl, ⟨ad36, rfl⟩, hs.cutG 1 2⟩ }
    {
    intro ρ w Γx Λx hs hu hp
    obtain ⟨⟨ad51, e52r⟩, hm53⟩ := hp 7 rfl
    have e52 : ρ 45 = .pointer (some ad51) := e52r
    rw [e52r] at hm53
    have hs := hs.memo1 (it := pl t_api_Message x34.Message ad51) (List.mem_append.2 (.inl (hm53 _ (List.mem_of_getElem? (i := 0) rfl))))
    refine WL.loadP hs 0 rfl TI51 (.inl rfl) e52 (fun v37 hs => ?_)
    obtain ⟨cs38, hl39, rfl⟩ := hs.aggv (n := 18) 0 rfl rfl rfl
    have hs := hs.add (it := vl t_api_Message x34.Message (.agg cs38.toArray)) fun ok hA => hA.get 0 rfl
    exact WL.nil ⟨rfl, _, rfl, ⟨cs38, rfl⟩, hs.cutG 1 2⟩ }
    {
    intro ρ w Γx Λx hs hu hp
    have hs : St ok (bz w0) w (Γx ++ [vl t_network_Network x1 (.agg cs3.toArray)]) (Λx ++ ([blk g8 28 [.int .i64 0, .slice none 0 0, .slice none 0 0]] ++ [blk g9 51 [.int .i64 0, .int .i64 0, .int .i64 0, .int .i64 0, .int .i64 0, .int .i64 0, .int .i64 0, .slice none 0 0, .slice none 0 0, .slice none 0 0, .slice none 0 0, .bool false, .slice none 0 0, .slice none 0 0, .slice none 0 0, .slice none 0 0, .slice none 0 0, .bool false], blk g7 28 cs3])) := hs
    obtain ⟨⟨cs54, e56r⟩, hm57⟩ := hp 2 rfl
    have e56 : ρ 40 = .agg cs54.toArray := e56r
    rw [e56r] at hm57
    have hs := hs.memo1 (it := vl t_network_Network x28 (.agg cs54.toArray)) (List.mem_append.2 (.inl (hm57 _ (List.mem_of_getElem? (i := 0) rfl))))
    have hl55 := hs.agglen (n := 3) 0 rfl rfl rfl
    refine WL.storeAll (vs := cs54) hs (Λx.length + 0) (getApp rfl) TI28 ((hu 4 rfl).trans h15_4) e56 rfl hl55 (hs.ones 0 rfl rfl) rfl (fun w hs => ?_)
    have hs := hs.backP
    have hs := hs.toT (A := t_network_Network) 0 rfl fun ok hA => (R_agg (hA.get 0 rfl) rfl)
    exact WL.nil ⟨rfl, _, rfl, trivial, hs.cutG 0 1⟩ }
    {
    intro ρ w hs hu58 hp
    obtain ⟨⟨⟨⟨⟨⟨⟨⟨⟨⟨_, hp0_⟩, hp1_⟩, hp2_⟩, hp3_⟩, hp4_⟩, hp5_⟩, hp6_⟩, hp7_⟩, hp8_⟩, hp9_⟩ := hp
    have hs : St ok (bz w0) w [vl t_api_Message x34.Message (ρ 46), pl t_api_Message x34.Message (adOf (ρ 45)), pl t_network_Packet x34 (adOf (ρ 44)), vl (tSlice t_network_Packet) x1.Packets (ρ 42), vl t_network_Network x28 (ρ 40), vl t_network_Network x1 (.agg cs3.toArray)] [tbx t_network_Network x28 g8 28, blk g9 51 [.int .i64 0, .int .i64 0, .int .i64 0, .int .i64 0, .int .i64 0, .int .i64 0, .int .i64 0, .slice none 0 0, .slice none 0 0, .slice none 0 0, .slice none 0 0, .bool false, .slice none 0 0, .slice none 0 0, .slice none 0 0, .slice none 0 0, .slice none 0 0, .bool false], blk g7 28 cs3] := hs
    obtain ⟨cs59, e61⟩ := hp8_
    have e61 : ρ 46 = .agg cs59.toArray := e61
    try rw [e61] at hs
    obtain ⟨ad62, e63⟩ := hp7_
    have e63 : ρ 45 = .pointer (some ad62) := e63
    try rw [e63] at hs
    obtain ⟨ad64, e65⟩ := hp6_
    have e65 : ρ 44 = .pointer (some ad64) := e65
    try rw [e65] at hs
    have e66 : ρ 43 = .int .i64 x11 := hp5_
    obtain ⟨⟨a67, c68⟩, e69⟩ := hp4_
    have e69 : ρ 42 = .slice a67 (x1.Packets).length c68 := e69
    try rw [e69] at hs
    have e70 : ρ 41 = .pointer (some ⟨g7, 1, none⟩) := hp3_
    obtain ⟨cs71, e73⟩ := hp2_
    have e73 : ρ 40 = .agg cs71.toArray := e73
    try rw [e73] at hs
    have e74 : ρ 39 = .int .i64 x11 := hp1_
    have e75 : ρ 38 = .agg cs3.toArray := hp0_
    have hl72 := hs.agglen (n := 3) 4 rfl rfl rfl
    have hl60 := hs.agglen (n := 18) 0 rfl rfl rfl
    obtain ⟨cs76, hl77, hs⟩ := hs.ofT (n := 3) 0 rfl rfl rfl
    refine WA.step [10] (by kernel_rfl) (by simp) ⟨?_, trivial⟩
    refine WL.storeAll (vs := cs59) hs 1 rfl TI51 ((hu58 5 rfl).trans h15_5) e61 rfl hl60 (hs.ones 1 rfl rfl) rfl (fun w hs => ?_)
    refine WL.nil ⟨rfl, _, rfl, ?_⟩
    refine WA.step [11] (by kernel_rfl) (by simp) ⟨?_, trivial⟩
    refine WL.assign (v := .bool true) rfl ?_
    refine WL.nil ⟨rfl, _, rfl, ?_⟩
    refine WA.done (by kernel_rfl) ?_
    refine hK27 _ _ ?_
    refine W.ret ?_
    have hr := Option.some.inj hf; subst hr
    exact ⟨_, resOk_three rfl (res_all hs 0 rfl TI28 ((hu58 4 rfl).trans h15_4) hl77) (res_all hs 1 rfl TI51 ((hu58 5 rfl).trans h15_5) hl60) rfl, (cs76, cs59), rfl, (hs.mask []).pick [0, 1]⟩ } }
  rcases iteE hf with ⟨hc78, hf⟩ | ⟨hc78, hf⟩
  {
  refine W.any (by kernel_rfl) 20 0 [true, true, true, true, true, true, true, true, true, true, true, true, true, true, true, true, true, true, true, true] rfl rfl (poAt [pv (.bool x12), pv (.bool (!x12)), pv (.bool (!x12)), pv (undef), pv (undef), pv (undef), pv (undef), pv (undef), pv (undef), pv (undef), pv (undef), pv (undef), pv (undef), pv (undef), pv (undef), pv (undef), pv (undef), pv (undef), pv (undef), pv (.bool true)]) (Λ := [blk g9 51 [.int .i64 0, .int .i64 0, .int .i64 0, .int .i64 0, .int .i64 0, .int .i64 0, .int .i64 0, .slice none 0 0, .slice none 0 0, .slice none 0 0, .slice none 0 0, .bool false, .slice none 0 0, .slice none 0 0, .slice none 0 0, .slice none 0 0, .slice none 0 0, .bool false], blk g8 28 [.int .i64 0, .slice none 0 0, .slice none 0 0], blk g7 28 cs3]) hs (by kernel_rfl) (by kernel_rfl) (by kernel_rfl) ⟨⟨⟨⟨⟨⟨⟨⟨⟨⟨⟨⟨⟨⟨⟨⟨⟨⟨⟨⟨trivial, ?_⟩, ?_⟩, ?_⟩, ?_⟩, ?_⟩, ?_⟩, ?_⟩, ?_⟩, ?_⟩, ?_⟩, ?_⟩, ?_⟩, ?_⟩, ?_⟩, ?_⟩, ?_⟩, ?_⟩, ?_⟩, ?_⟩, ?_⟩ ?_
  {
  intro ρ w Γx Λx hs hu hp
  refine WL.move (v := .bool x12) (hu 8 rfl) ?_
  exact WL.nil ⟨rfl, _, rfl, rfl, hs.cutG 0 0⟩ }
  {
  intro ρ w Γx Λx hs hu hp
  have e79 : ρ 15 = .bool x12 := (hp 0 rfl).1
  refine WL.not e79 ?_
  exact WL.nil ⟨rfl, _, rfl, rfl, hs.cutG 0 0⟩ }
  {
  intro ρ w Γx Λx hs hu hp
  have e80 : ρ 16 = .bool (!x12) := (hp 1 rfl).1
  refine WL.move (v := .bool (!x12)) e80 ?_
  exact WL.nil ⟨rfl, _, rfl, rfl, hs.cutG 0 0⟩ }
  {
  intro ρ w Γx Λx hs hu hp
  have e81 : ρ 17 = .bool (!x12) := (hp 2 rfl).1
  refine WL.pass ((wanted_of rfl rfl (bool_tr e81 hc78)).trans rfl) rfl ?_
  exact WL.nil ⟨rfl, _, rfl, rfl, hs.cutG 0 0⟩ }
  {
  intro ρ w Γx Λx hs hu hp
  have e82 : ρ 17 = .bool (!x12) := (hp 2 rfl).1
  refine WL.pass ((wanted_of rfl rfl (bool_tr e82 hc78)).trans rfl) rfl ?_
  exact WL.nil ⟨rfl, _, rfl, rfl, hs.cutG 0 0⟩ }
  {
  intro ρ w Γx Λx hs hu hp
  have e83 : ρ 19 = undef := (hp 4 rfl).1
  have e84 : ρ 17 = .bool (!x12) := (hp 2 rfl).1
  refine WL.pass ((wanted_of rfl rfl (bool_tr e84 hc78)).trans rfl) rfl ?_
  exact WL.nil ⟨rfl, _, rfl, rfl, hs.cutG 0 0⟩ }
  {
  intro ρ w Γx Λx hs hu hp
  have e85 : ρ 17 = .bool (!x12) := (hp 2 rfl).1
  refine WL.pass ((wanted_of rfl rfl (bool_tr e85 hc78)).trans rfl) rfl ?_
  exact WL.nil ⟨rfl, _, rfl, rfl, hs.cutG 0 0⟩ }
  {
  intro ρ w Γx Λx hs hu hp
  have e86 : ρ 20 = undef := (hp 5 rfl).1
  have e87 : ρ 21 = undef := (hp 6 rfl).1
  have e88 : ρ 17 = .bool (!x12) := (hp 2 rfl).1
  refine WL.pass ((wanted_of rfl rfl (bool_tr e88 hc78)).trans rfl) rfl ?_
  exact WL.nil ⟨rfl, _, rfl, rfl, hs.cutG 0 0⟩ }
  {
  intro ρ w Γx Λx hs hu hp
  have e89 : ρ 22 = undef := (hp 7 rfl).1
  have e90 : ρ 17 = .bool (!x12) := (hp 2 rfl).1
  refine WL.pass ((wanted_of rfl rfl (bool_tr e90 hc78)).trans rfl) rfl ?_
  exact WL.nil ⟨rfl, _, rfl, rfl, hs.cutG 0 0⟩ }
  {
  intro ρ w Γx Λx hs hu hp
  have e91 : ρ 23 = undef := (hp 8 rfl).1
  have e92 : ρ 17 = .bool (!x12) := (hp 2 rfl).1
  refine WL.pass ((wanted_of rfl rfl (bool_tr e92 hc78)).trans rfl) rfl ?_
  exact WL.nil ⟨rfl, _, rfl, rfl, hs.cutG 0 0⟩ }
  {
  intro ρ w Γx Λx hs hu hp
  have e93 : ρ 24 = undef := (hp 9 rfl).1
  have e94 : ρ 17 = .bool (!x12) := (hp 2 rfl).1
  refine WL.pass ((wanted_of rfl rfl (bool_tr e94 hc78)).trans rfl) rfl ?_
  exact WL.nil ⟨rfl, _, rfl, rfl, hs.cutG 0 0⟩ }
  {
  intro ρ w Γx Λx hs hu hp
  have e95 : ρ 17 = .bool (!x12) := (hp 2 rfl).1
  refine WL.pass ((wanted_of rfl rfl (bool_tr e95 hc78)).trans rfl) rfl ?_
  exact WL.nil ⟨rfl, _, rfl, rfl, hs.cutG 0 0⟩ }
  {
  intro ρ w Γx Λx hs hu hp
  have e96 : ρ 26 = undef := (hp 11 rfl).1
  have e97 : ρ 17 = .bool (!x12) := (hp 2 rfl).1
  refine WL.pass ((wanted_of rfl rfl (bool_tr e97 hc78)).trans rfl) rfl ?_
  exact WL.nil ⟨rfl, _, rfl, rfl, hs.cutG 0 0⟩ }
  {
  intro ρ w Γx Λx hs hu hp
  have e98 : ρ 17 = .bool (!x12) := (hp 2 rfl).1
  refine WL.pass ((wanted_of rfl rfl (bool_tr e98 hc78)).trans rfl) rfl ?_
  exact WL.nil ⟨rfl, _, rfl, rfl, hs.cutG 0 0⟩ }
  {
  intro ρ w Γx Λx hs hu hp
  have e99 : ρ 27 = undef := (hp 12 rfl).1
  have e100 : ρ 28 = undef := (hp 13 rfl).1
  have e101 : ρ 17 = .bool (!x12) := (hp 2 rfl).1
  refine WL.pass ((wanted_of rfl rfl (bool_tr e101 hc78)).trans rfl) rfl ?_
  exact WL.nil ⟨rfl, _, rfl, rfl, hs.cutG 0 0⟩ }
  {
  intro ρ w Γx Λx hs hu hp
  have e102 : ρ 29 = undef := (hp 14 rfl).1
  have e103 : ρ 17 = .bool (!x12) := (hp 2 rfl).1
  refine WL.pass ((wanted_of rfl rfl (bool_tr e103 hc78)).trans rfl) rfl ?_
  exact WL.nil ⟨rfl, _, rfl, rfl, hs.cutG 0 0⟩ }
  {
  intro ρ w Γx Λx hs hu hp
  have e104 : ρ 30 = undef := (hp 15 rfl).1
  have e105 : ρ 17 = .bool (!x12) := (hp 2 rfl).1
  refine WL.pass ((wanted_of rfl rfl (bool_tr e105 hc78)).trans rfl) rfl ?_
  exact WL.nil ⟨rfl, _, rfl, rfl, hs.cutG 0 0⟩ }
  {
  intro ρ w Γx Λx hs hu hp
  have e106 : ρ 31 = undef := (hp 16 rfl).1
  have e107 : ρ 17 = .bool (!x12) := (hp 2 rfl).1
  refine WL.pass ((wanted_of rfl rfl (bool_tr e107 hc78)).trans rfl) rfl ?_
  exact WL.nil ⟨rfl, _, rfl, rfl, hs.cutG 0 0⟩ }
  {
  intro ρ w Γx Λx hs hu hp
  have e108 : ρ 18 = undef := (hp 3 rfl).1
  have e109 : ρ 25 = undef := (hp 10 rfl).1
  have e110 : ρ 32 = undef := (hp 17 rfl).1
  have e111 : ρ 17 = .bool (!x12) := (hp 2 rfl).1
  refine WL.pass ((wanted_of rfl rfl (bool_tr e111 hc78)).trans rfl) rfl ?_
  exact WL.nil ⟨rfl, _, rfl, rfl, hs.cutG 0 0⟩ }
  {
  intro ρ w Γx Λx hs hu hp
  have e112 : ρ 17 = .bool (!x12) := (hp 2 rfl).1
  have e113 : ρ 33 = undef := (hp 18 rfl).1
  refine WL.pickT (v := .bool true) (bool_tr e112 hc78) rfl ?_
  exact WL.nil ⟨rfl, _, rfl, rfl, hs.cutG 0 0⟩ }
  {
  intro ρ w hs hu114 hp
  obtain ⟨⟨⟨⟨⟨⟨⟨⟨⟨⟨⟨⟨⟨⟨⟨⟨⟨⟨⟨⟨_, hp0_⟩, hp1_⟩, hp2_⟩, hp3_⟩, hp4_⟩, hp5_⟩, hp6_⟩, hp7_⟩, hp8_⟩, hp9_⟩, hp10_⟩, hp11_⟩, hp12_⟩, hp13_⟩, hp14_⟩, hp15_⟩, hp16_⟩, hp17_⟩, hp18_⟩, hp19_⟩ := hp
  have hs : St ok (bz w0) w [vl t_network_Network x1 (.agg cs3.toArray)] [blk g9 51 [.int .i64 0, .int .i64 0, .int .i64 0, .int .i64 0, .int .i64 0, .int .i64 0, .int .i64 0, .slice none 0 0, .slice none 0 0, .slice none 0 0, .slice none 0 0, .bool false, .slice none 0 0, .slice none 0 0, .slice none 0 0, .slice none 0 0, .slice none 0 0, .bool false], blk g8 28 [.int .i64 0, .slice none 0 0, .slice none 0 0], blk g7 28 cs3] := hs
  have e115 : ρ 34 = .bool true := hp19_
  have e116 : ρ 33 = undef := hp18_
  have e117 : ρ 32 = undef := hp17_
  have e118 : ρ 31 = undef := hp16_
  have e119 : ρ 30 = undef := hp15_
  have e120 : ρ 29 = undef := hp14_
  have e121 : ρ 28 = undef := hp13_
  have e122 : ρ 27 = undef := hp12_
  have e123 : ρ 26 = undef := hp11_
  have e124 : ρ 25 = undef := hp10_
  have e125 : ρ 24 = undef := hp9_
  have e126 : ρ 23 = undef := hp8_
  have e127 : ρ 22 = undef := hp7_
  have e128 : ρ 21 = undef := hp6_
  have e129 : ρ 20 = undef := hp5_
  have e130 : ρ 19 = undef := hp4_
  have e131 : ρ 18 = undef := hp3_
  have e132 : ρ 17 = .bool (!x12) := hp2_
  have e133 : ρ 16 = .bool (!x12) := hp1_
  have e134 : ρ 15 = .bool x12 := hp0_
  refine WA.done (by kernel_rfl) ?_
  exact Jk17 true _ _ (hu114 2 rfl) (hu114 4 rfl) (hu114 5 rfl) (hu114 7 rfl) e115 ((hs.mask [true, true, true]).pick [0]) hf } }
  {
  obtain ⟨x138, hxx138, hf⟩ := bindE hf
  obtain ⟨x146, hxx146, hf⟩ := bindE hf
  obtain ⟨x151, hxx151, hf⟩ := bindE hf
  refine W.any (by kernel_rfl) 20 0 [true, true, true, true, true, true, true, true, true, true, true, true, true, true, true, true, true, true, true, true] rfl rfl (poAt [pv (.bool x12), pv (.bool (!x12)), pv (.bool (!x12)), pv (.agg cs3.toArray), pv (.pointer (some ⟨g7, 1, none⟩)), pq (fun y : (Option Addr × Nat) => .slice y.1 (x1.Packets).length y.2) (fun v => [vl (tSlice t_network_Packet) x1.Packets v]) (fun v => []), pv (.int .i64 x11), pq (fun y : Addr => .pointer (some y)) (fun v => [pl t_network_Packet x138 (adOf v)]) (fun v => []), pq (fun y : Addr => .pointer (some y)) (fun v => [pl t_api_Message x138.Message (adOf v)]) (fun v => []), pq (fun y : Addr => .pointer (some y)) (fun v => [pl (tInt .i64) x138.Message.From (adOf v)]) (fun v => []), pv (.int .i64 x138.Message.From), pv (.pointer (some ⟨g7, 1, none⟩)), pq (fun y : (Option Addr × Nat) => .slice y.1 (x1.Packets).length y.2) (fun v => [vl (tSlice t_network_Packet) x1.Packets v]) (fun v => []), pv (.int .i64 x11), pq (fun y : Addr => .pointer (some y)) (fun v => [pl t_network_Packet x146 (adOf v)]) (fun v => []), pq (fun y : Addr => .pointer (some y)) (fun v => [pl t_api_Message x146.Message (adOf v)]) (fun v => []), pq (fun y : Addr => .pointer (some y)) (fun v => [pl (tInt .i64) x146.Message.To (adOf v)]) (fun v => []), pv (.int .i64 x146.Message.To), pv (.bool x151), pv (.bool x151)]) (Λ := [blk g9 51 [.int .i64 0, .int .i64 0, .int .i64 0, .int .i64 0, .int .i64 0, .int .i64 0, .int .i64 0, .slice none 0 0, .slice none 0 0, .slice none 0 0, .slice none 0 0, .bool false, .slice none 0 0, .slice none 0 0, .slice none 0 0, .slice none 0 0, .slice none 0 0, .bool false], blk g8 28 [.int .i64 0, .slice none 0 0, .slice none 0 0], blk g7 28 cs3]) hs (by kernel_rfl) (by kernel_rfl) (by kernel_rfl) ⟨⟨⟨⟨⟨⟨⟨⟨⟨⟨⟨⟨⟨⟨⟨⟨⟨⟨⟨⟨trivial, ?_⟩, ?_⟩, ?_⟩, ?_⟩, ?_⟩, ?_⟩, ?_⟩, ?_⟩, ?_⟩, ?_⟩, ?_⟩, ?_⟩, ?_⟩, ?_⟩, ?_⟩, ?_⟩, ?_⟩, ?_⟩, ?_⟩, ?_⟩ ?_
  {
  intro ρ w Γx Λx hs hu hp
  refine WL.move (v := .bool x12) (hu 8 rfl) ?_
  exact WL.nil ⟨rfl, _, rfl, rfl, hs.cutG 0 0⟩ }
  {
  intro ρ w Γx Λx hs hu hp
  have e152 : ρ 15 = .bool x12 := (hp 0 rfl).1
  refine WL.not e152 ?_
  exact WL.nil ⟨rfl, _, rfl, rfl, hs.cutG 0 0⟩ }
  {
  intro ρ w Γx Λx hs hu hp
  have e153 : ρ 16 = .bool (!x12) := (hp 1 rfl).1
  refine WL.move (v := .bool (!x12)) e153 ?_
  exact WL.nil ⟨rfl, _, rfl, rfl, hs.cutG 0 0⟩ }
  {
  intro ρ w Γx Λx hs hu hp
  have e154 : ρ 17 = .bool (!x12) := (hp 2 rfl).1
  refine WL.loadAll hs (Λx.length + 2) (getApp rfl) TI28 (hu 2 rfl) hl4 ?_ (hg := (wanted_of rfl rfl (bool_tr e154 hc78)).trans rfl)
  exact WL.nil ⟨rfl, _, rfl, rfl, hs.cutG 0 0⟩ }
  {
  intro ρ w Γx Λx hs hu hp
  have e155 : ρ 17 = .bool (!x12) := (hp 2 rfl).1
  refine WL.fieldAddr (m := 1) (hu 2 rfl) FA28_1 rfl ?_ (hg := (wanted_of rfl rfl (bool_tr e155 hc78)).trans rfl)
  exact WL.nil ⟨rfl, _, rfl, rfl, hs.cutG 0 0⟩ }
  {
  intro ρ w Γx Λx hs hu hp
  have e156 : ρ 19 = .pointer (some ⟨g7, 1, none⟩) := (hp 4 rfl).1
  have e157 : ρ 17 = .bool (!x12) := (hp 2 rfl).1
  refine WL.loadF (z := x1.Packets) F_network_Network_Packets hs (Λx.length + 2) (getApp rfl) (Γx.length + 0) (getApp rfl) rfl TI25 (.inr rfl) e156 rfl (fun v135 hs => ?_) (hg := (wanted_of rfl rfl (bool_tr e157 hc78)).trans rfl)
  obtain ⟨a136, c137, rfl⟩ := hs.slice 0 rfl
  have hs := hs.add (it := vl (tSlice t_network_Packet) x1.Packets (.slice a136 (x1.Packets).length c137)) fun ok hA => hA.get 0 rfl
  exact WL.nil ⟨rfl, _, rfl, ⟨(a136, c137), rfl⟩, hs.cutG 1 1⟩ }
  {
  intro ρ w Γx Λx hs hu hp
  have e158 : ρ 17 = .bool (!x12) := (hp 2 rfl).1
  refine WL.move (v := .int .i64 x11) (hu 7 rfl) ?_ (hg := (wanted_of rfl rfl (bool_tr e158 hc78)).trans rfl)
  exact WL.nil ⟨rfl, _, rfl, rfl, hs.cutG 0 0⟩ }
  {
  intro ρ w Γx Λx hs hu hp
  obtain ⟨⟨⟨a159, c160⟩, e161r⟩, hm162⟩ := hp 5 rfl
  have e161 : ρ 20 = .slice a159 (x1.Packets).length c160 := e161r
  rw [e161r] at hm162
  have hs := hs.memo1 (it := vl (tSlice t_network_Packet) x1.Packets (.slice a159 (x1.Packets).length c160)) (List.mem_append.2 (.inl (hm162 _ (List.mem_of_getElem? (i := 0) rfl))))
  have e163 : ρ 21 = .int .i64 x11 := (hp 6 rfl).1
  have e164 : ρ 17 = .bool (!x12) := (hp 2 rfl).1
  refine WL.indexAddr hs 0 rfl UN25 TI66 e161 e163 hxx138 (fun ad139 hs => ?_) (hg := (wanted_of rfl rfl (bool_tr e164 hc78)).trans rfl)
  have hs := hs.add (it := pl t_network_Packet x138 ad139) fun ok hA => hA.get 0 rfl
  exact WL.nil ⟨rfl, _, rfl, ⟨ad139, rfl⟩, hs.cutG 1 2⟩ }
  {
  intro ρ w Γx Λx hs hu hp
  obtain ⟨⟨ad165, e166r⟩, hm167⟩ := hp 7 rfl
  have e166 : ρ 22 = .pointer (some ad165) := e166r
  rw [e166r] at hm167
  have hs := hs.memo1 (it := pl t_network_Packet x138 ad165) (List.mem_append.2 (.inl (hm167 _ (List.mem_of_getElem? (i := 0) rfl))))
  have e168 : ρ 17 = .bool (!x12) := (hp 2 rfl).1
  refine WL.fieldAddrP (z := x138.Message) F_network_Packet_Message hs 0 rfl e166 FA66_1 rfl (fun ad140 hs => ?_) (hg := (wanted_of rfl rfl (bool_tr e168 hc78)).trans rfl)
  have hs := hs.add (it := pl t_api_Message x138.Message ad140) fun ok hA => hA.get 0 rfl
  exact WL.nil ⟨rfl, _, rfl, ⟨ad140, rfl⟩, hs.cutG 1 2⟩ }
  {
  intro ρ w Γx Λx hs hu hp
  obtain ⟨⟨ad169, e170r⟩, hm171⟩ := hp 8 rfl
  have e170 : ρ 23 = .pointer (some ad169) := e170r
  rw [e170r] at hm171
  have hs := hs.memo1 (it := pl t_api_Message x138.Message ad169) (List.mem_append.2 (.inl (hm171 _ (List.mem_of_getElem? (i := 0) rfl))))
  have e172 : ρ 17 = .bool (!x12) := (hp 2 rfl).1
  refine WL.fieldAddrP (z := x138.Message.From) F_api_Message_From hs 0 rfl e170 FA51_1 rfl (fun ad141 hs => ?_) (hg := (wanted_of rfl rfl (bool_tr e172 hc78)).trans rfl)
  have hs := hs.add (it := pl (tInt .i64) x138.Message.From ad141) fun ok hA => hA.get 0 rfl
  exact WL.nil ⟨rfl, _, rfl, ⟨ad141, rfl⟩, hs.cutG 1 2⟩ }
  {
  intro ρ w Γx Λx hs hu hp
  obtain ⟨⟨ad173, e174r⟩, hm175⟩ := hp 9 rfl
  have e174 : ρ 24 = .pointer (some ad173) := e174r
  rw [e174r] at hm175
  have hs := hs.memo1 (it := pl (tInt .i64) x138.Message.From ad173) (List.mem_append.2 (.inl (hm175 _ (List.mem_of_getElem? (i := 0) rfl))))
  have e176 : ρ 17 = .bool (!x12) := (hp 2 rfl).1
  refine WL.loadP hs 0 rfl TI3 (.inr rfl) e174 (fun v142 hs => ?_) (hg := (wanted_of rfl rfl (bool_tr e176 hc78)).trans rfl)
  obtain rfl := hs.int 0 rfl
  exact WL.nil ⟨rfl, _, rfl, rfl, hs.cutG 0 2⟩ }
  {
  intro ρ w Γx Λx hs hu hp
  have e177 : ρ 17 = .bool (!x12) := (hp 2 rfl).1
  refine WL.fieldAddr (m := 1) (hu 2 rfl) FA28_1 rfl ?_ (hg := (wanted_of rfl rfl (bool_tr e177 hc78)).trans rfl)
  exact WL.nil ⟨rfl, _, rfl, rfl, hs.cutG 0 0⟩ }
  {
  intro ρ w Γx Λx hs hu hp
  have e178 : ρ 26 = .pointer (some ⟨g7, 1, none⟩) := (hp 11 rfl).1
  have e179 : ρ 17 = .bool (!x12) := (hp 2 rfl).1
  refine WL.loadF (z := x1.Packets) F_network_Network_Packets hs (Λx.length + 2) (getApp rfl) (Γx.length + 0) (getApp rfl) rfl TI25 (.inr rfl) e178 rfl (fun v143 hs => ?_) (hg := (wanted_of rfl rfl (bool_tr e179 hc78)).trans rfl)
  obtain ⟨a144, c145, rfl⟩ := hs.slice 0 rfl
  have hs := hs.add (it := vl (tSlice t_network_Packet) x1.Packets (.slice a144 (x1.Packets).length c145)) fun ok hA => hA.get 0 rfl
  exact WL.nil ⟨rfl, _, rfl, ⟨(a144, c145), rfl⟩, hs.cutG 1 1⟩ }
  {
  intro ρ w Γx Λx hs hu hp
  have e180 : ρ 17 = .bool (!x12) := (hp 2 rfl).1
  refine WL.move (v := .int .i64 x11) (hu 7 rfl) ?_ (hg := (wanted_of rfl rfl (bool_tr e180 hc78)).trans rfl)
  exact WL.nil ⟨rfl, _, rfl, rfl, hs.cutG 0 0⟩ }
  {
  intro ρ w Γx Λx hs hu hp
  obtain ⟨⟨⟨a181, c182⟩, e183r⟩, hm184⟩ := hp 12 rfl
  have e183 : ρ 27 = .slice a181 (x1.Packets).length c182 := e183r
  rw [e183r] at hm184
  have hs := hs.memo1 (it := vl (tSlice t_network_Packet) x1.Packets (.slice a181 (x1.Packets).length c182)) (List.mem_append.2 (.inl (hm184 _ (List.mem_of_getElem? (i := 0) rfl))))
  have e185 : ρ 28 = .int .i64 x11 := (hp 13 rfl).1
  have e186 : ρ 17 = .bool (!x12) := (hp 2 rfl).1
  refine WL.indexAddr hs 0 rfl UN25 TI66 e183 e185 hxx146 (fun ad147 hs => ?_) (hg := (wanted_of rfl rfl (bool_tr e186 hc78)).trans rfl)
  have hs := hs.add (it := pl t_network_Packet x146 ad147) fun ok hA => hA.get 0 rfl
  exact WL.nil ⟨rfl, _, rfl, ⟨ad147, rfl⟩, hs.cutG 1 2⟩ }
  {
  intro ρ w Γx Λx hs hu hp
  obtain ⟨⟨ad187, e188r⟩, hm189⟩ := hp 14 rfl
  have e188 : ρ 29 = .pointer (some ad187) := e188r
  rw [e188r] at hm189
  have hs := hs.memo1 (it := pl t_network_Packet x146 ad187) (List.mem_append.2 (.inl (hm189 _ (List.mem_of_getElem? (i := 0) rfl))))
  have e190 : ρ 17 = .bool (!x12) := (hp 2 rfl).1
  refine WL.fieldAddrP (z := x146.Message) F_network_Packet_Message hs 0 rfl e188 FA66_1 rfl (fun ad148 hs => ?_) (hg := (wanted_of rfl rfl (bool_tr e190 hc78)).trans rfl)
  have hs := hs.add (it := pl t_api_Message x146.Message ad148) fun ok hA => hA.get 0 rfl
  exact WL.nil ⟨rfl, _, rfl, ⟨ad148, rfl⟩, hs.cutG 1 2⟩ }
  {
  intro ρ w Γx Λx hs hu hp
  obtain ⟨⟨ad191, e192r⟩, hm193⟩ := hp 15 rfl
  have e192 : ρ 30 = .pointer (some ad191) := e192r
  rw [e192r] at hm193
  have hs := hs.memo1 (it := pl t_api_Message x146.Message ad191) (List.mem_append.2 (.inl (hm193 _ (List.mem_of_getElem? (i := 0) rfl))))
  have e194 : ρ 17 = .bool (!x12) := (hp 2 rfl).1
  refine WL.fieldAddrP (z := x146.Message.To) F_api_Message_To hs 0 rfl e192 FA51_2 rfl (fun ad149 hs => ?_) (hg := (wanted_of rfl rfl (bool_tr e194 hc78)).trans rfl)
  have hs := hs.add (it := pl (tInt .i64) x146.Message.To ad149) fun ok hA => hA.get 0 rfl
  exact WL.nil ⟨rfl, _, rfl, ⟨ad149, rfl⟩, hs.cutG 1 2⟩ }
  {
  intro ρ w Γx Λx hs hu hp
  obtain ⟨⟨ad195, e196r⟩, hm197⟩ := hp 16 rfl
  have e196 : ρ 31 = .pointer (some ad195) := e196r
  rw [e196r] at hm197
  have hs := hs.memo1 (it := pl (tInt .i64) x146.Message.To ad195) (List.mem_append.2 (.inl (hm197 _ (List.mem_of_getElem? (i := 0) rfl))))
  have e198 : ρ 17 = .bool (!x12) := (hp 2 rfl).1
  refine WL.loadP hs 0 rfl TI3 (.inr rfl) e196 (fun v150 hs => ?_) (hg := (wanted_of rfl rfl (bool_tr e198 hc78)).trans rfl)
  obtain rfl := hs.int 0 rfl
  exact WL.nil ⟨rfl, _, rfl, rfl, hs.cutG 0 2⟩ }
  {
  intro ρ w Γx Λx hs hu hp
  have e199 : ρ 18 = .agg cs3.toArray := (hp 3 rfl).1
  have e200 : ρ 25 = .int .i64 x138.Message.From := (hp 10 rfl).1
  have e201 : ρ 32 = .int .i64 x146.Message.To := (hp 17 rfl).1
  have e202 : ρ 17 = .bool (!x12) := (hp 2 rfl).1
  refine WL.call (vs := [.agg cs3.toArray, .int .i64 x138.Message.From, .int .i64 x146.Message.To]) hs FN37 ⟨e199, ⟨e200, ⟨e201, trivial⟩⟩⟩ (fun ok hA => network_Blocked.calls (x1 := x1) (x5 := x138.Message.From) (x6 := x146.Message.To) hxx151 (hA.get (Γx.length + 0) (getApp rfl))) ?_ (hg := (wanted_of rfl rfl (bool_tr e202 hc78)).trans rfl)
  rintro _ w hs
  exact WL.nil ⟨rfl, _, rfl, rfl, hs.cutG 0 0⟩ }
  {
  intro ρ w Γx Λx hs hu hp
  have e203 : ρ 17 = .bool (!x12) := (hp 2 rfl).1
  have e204 : ρ 33 = .bool x151 := (hp 18 rfl).1
  refine WL.pickF (v := .bool x151) (bool_tr e203 hc78) e204 ?_
  exact WL.nil ⟨rfl, _, rfl, rfl, hs.cutG 0 0⟩ }
  {
  intro ρ w hs hu205 hp
  obtain ⟨⟨⟨⟨⟨⟨⟨⟨⟨⟨⟨⟨⟨⟨⟨⟨⟨⟨⟨⟨_, hp0_⟩, hp1_⟩, hp2_⟩, hp3_⟩, hp4_⟩, hp5_⟩, hp6_⟩, hp7_⟩, hp8_⟩, hp9_⟩, hp10_⟩, hp11_⟩, hp12_⟩, hp13_⟩, hp14_⟩, hp15_⟩, hp16_⟩, hp17_⟩, hp18_⟩, hp19_⟩ := hp
  have hs : St ok (bz w0) w [pl (tInt .i64) x146.Message.To (adOf (ρ 31)), pl t_api_Message x146.Message (adOf (ρ 30)), pl t_network_Packet x146 (adOf (ρ 29)), vl (tSlice t_network_Packet) x1.Packets (ρ 27), pl (tInt .i64) x138.Message.From (adOf (ρ 24)), pl t_api_Message x138.Message (adOf (ρ 23)), pl t_network_Packet x138 (adOf (ρ 22)), vl (tSlice t_network_Packet) x1.Packets (ρ 20), vl t_network_Network x1 (.agg cs3.toArray)] [blk g9 51 [.int .i64 0, .int .i64 0, .int .i64 0, .int .i64 0, .int .i64 0, .int .i64 0, .int .i64 0, .slice none 0 0, .slice none 0 0, .slice none 0 0, .slice none 0 0, .bool false, .slice none 0 0, .slice none 0 0, .slice none 0 0, .slice none 0 0, .slice none 0 0, .bool false], blk g8 28 [.int .i64 0, .slice none 0 0, .slice none 0 0], blk g7 28 cs3] := hs
  have e206 : ρ 34 = .bool x151 := hp19_
  have e207 : ρ 33 = .bool x151 := hp18_
  have e208 : ρ 32 = .int .i64 x146.Message.To := hp17_
  obtain ⟨ad209, e210⟩ := hp16_
  have e210 : ρ 31 = .pointer (some ad209) := e210
  try rw [e210] at hs
  obtain ⟨ad211, e212⟩ := hp15_
  have e212 : ρ 30 = .pointer (some ad211) := e212
  try rw [e212] at hs
  obtain ⟨ad213, e214⟩ := hp14_
  have e214 : ρ 29 = .pointer (some ad213) := e214
  try rw [e214] at hs
  have e215 : ρ 28 = .int .i64 x11 := hp13_
  obtain ⟨⟨a216, c217⟩, e218⟩ := hp12_
  have e218 : ρ 27 = .slice a216 (x1.Packets).length c217 := e218
  try rw [e218] at hs
  have e219 : ρ 26 = .pointer (some ⟨g7, 1, none⟩) := hp11_
  have e220 : ρ 25 = .int .i64 x138.Message.From := hp10_
  obtain ⟨ad221, e222⟩ := hp9_
  have e222 : ρ 24 = .pointer (some ad221) := e222
  try rw [e222] at hs
  obtain ⟨ad223, e224⟩ := hp8_
  have e224 : ρ 23 = .pointer (some ad223) := e224
  try rw [e224] at hs
  obtain ⟨ad225, e226⟩ := hp7_
  have e226 : ρ 22 = .pointer (some ad225) := e226
  try rw [e226] at hs
  have e227 : ρ 21 = .int .i64 x11 := hp6_
  obtain ⟨⟨a228, c229⟩, e230⟩ := hp5_
  have e230 : ρ 20 = .slice a228 (x1.Packets).length c229 := e230
  try rw [e230] at hs
  have e231 : ρ 19 = .pointer (some ⟨g7, 1, none⟩) := hp4_
  have e232 : ρ 18 = .agg cs3.toArray := hp3_
  have e233 : ρ 17 = .bool (!x12) := hp2_
  have e234 : ρ 16 = .bool (!x12) := hp1_
  have e235 : ρ 15 = .bool x12 := hp0_
  refine WA.done (by kernel_rfl) ?_
  exact Jk17 x151 _ _ (hu205 2 rfl) (hu205 4 rfl) (hu205 5 rfl) (hu205 7 rfl) e206 ((hs.mask [true, true, true]).pick [8]) hf } }
theorem adversary_Order.calls {ok : Nat → Prop} {w0 : World} {x1 : List adversary_Rule} {x4 : network_Network} {a2 : Option Addr} {c3 : Nat} {v5 : Value} {r : List Int} (hf : adversary_Order x1 x4 = some r) (i0 : (vl (tSlice t_adversary_Rule) x1 (.slice a2 x1.length c3)).holds ok w0) (i1 : (vl t_network_Network x4 v5).holds ok w0) :
    Calls Tryz.prog 14 #[.slice a2 x1.length c3, v5] w0 fun e w' => ∃ v, e = .returned v ∧ ∃ y : (Option Addr × Nat × Nat), v = .slice y.1 y.2.1 y.2.2 ∧ St ok (bz w0) w' [] [own (tInt .i64) 3 (.slice y.1 y.2.1 y.2.2) r] := by
  unfold adversary_Order at hf
  refine calls_of_W (fn := Tryz.f14) (N := 31) Tryz.func14 rfl Tryz.ntmps14 rfl ?_
  have hs : St ok (bz w0) w0 [vl (tSlice t_adversary_Rule) x1 (.slice a2 x1.length c3), vl t_network_Network x4 v5] [] := St.init (All.cons i0 (All.cons i1 All.nil))
  clear i0 i1
  obtain ⟨cs6, hl7, rfl⟩ := hs.aggv (n := 3) 1 rfl rfl rfl
  refine W.seqK fun K8 hK8 => ?_
  refine W.region ?_
  refine WL.box (vs := cs6) hs rfl rfl (fun g9 w hs => ?_)
  refine WL.assign (v := .slice none 0 0) rfl ?_
  refine WL.nil ?_
  refine hK8 _ _ ?_
  refine W.seqK fun K10 hK10 => ?_
  refine W.region ?_
  refine WL.assign (v := .slice none 0 0) rfl ?_
  refine WL.nil ?_
  refine hK10 _ _ ?_
  refine W.block ?_
  have hs := hs.ownNil (tInt .i64) 3
  obtain ⟨bs19, hbs19, hfs19⟩ := bindE hf
  refine W.loop hbs19 (fun s ρ w => match s with | (x12, x16) => ∃ (a13 : Option Addr), ∃ (c14 : Nat), ∃ (n15 : Nat), ∃ (cs17 : List Value), cs17.length = 3 ∧ ρ 0 = .slice a2 x1.length c3 ∧ ρ 3 = .pointer (some ⟨g9, 0, none⟩) ∧ ρ 5 = .slice a13 n15 c14 ∧ St ok (bz w0) w [vl (tSlice t_adversary_Rule) x1 (.slice a2 x1.length c3), vl t_network_Network x16 (.agg cs17.toArray)] [own (tInt .i64) 3 (.slice a13 n15 c14) x12, blk g9 28 cs17]) ⟨none, 0, 0, cs6, hl7, rfl, rfl, rfl, (hs.mask [true, true]).pick [0, 1]⟩ ?_
  intro s ρ w os19 hI hf hbbs19
  obtain ⟨x12, x16⟩ := s
  obtain ⟨a13, c14, n15, cs17, hl18, h11_0, h11_3, h11_5, hs⟩ := hI
  unfold adversary_Order.l1 at hf
  refine W.block ?_
  refine W.seqK fun K20 hK20 => ?_
  refine W.region ?_
  refine WL.move (v := .slice a2 x1.length c3) h11_0 ?_
  refine WL.loadAll hs 1 rfl TI28 h11_3 hl18 ?_
  refine WL.move (v := .slice a13 n15 c14) h11_5 ?_
  refine WL.len (v := .slice a13 n15 c14) rfl (len_own hs 0 rfl UN23) ?_
  obtain ⟨⟨x21, x22⟩, hxx21, hf⟩ := bindE hf
  refine WL.call (vs := [.slice a2 x1.length c3, .agg cs17.toArray, .int .i64 (x12.length : Int)]) hs FN7 ⟨rfl, ⟨rfl, ⟨rfl, trivial⟩⟩⟩ (fun ok hA => adversary_Choose.calls (x1 := x1) (x4 := x16) (x8 := (x12.length : Int)) hxx21 (hA.get 0 rfl) (hA.get 1 rfl)) ?_
  rintro _ w hs
  refine WL.move (v := .tuple #[.int .i64 x21, .bool x22]) rfl ?_
  refine WL.extract (v := .int .i64 x21) rfl rfl ?_
  refine WL.extract (v := .bool x22) rfl rfl ?_
  refine WL.assign (v := .int .i64 x21) rfl ?_
  refine WL.assign (v := .bool x22) rfl ?_
  refine WL.nil ?_
  refine hK20 _ _ ?_
  refine W.seqK fun K23 hK23 => ?_
  have Jk29 : ∀ (x25 : Bool) (x26 : network_Network) (cs27 : List Value) (ρ : Env) (w : World), cs27.length = 3 → ρ 0 = .slice a2 x1.length c3 → ρ 3 = .pointer (some ⟨g9, 0, none⟩) → ρ 5 = .slice a13 n15 c14 → ρ 6 = .int .i64 x21 → ρ 7 = .bool x25 → St ok (bz w0) w [vl (tSlice t_adversary_Rule) x1 (.slice a2 x1.length c3), vl t_network_Network x26 (.agg cs27.toArray)] [own (tInt .i64) 3 (.slice a13 n15 c14) x12, blk g9 28 cs27] → adversary_Order.j1 x12 x21 x25 x26 = some os19 → K23 ρ w := by
    intro x25 x26 cs27 ρ w hl28 h24_0 h24_3 h24_5 h24_6 h24_7 hs hf
    refine hK23 _ _ ?_
    unfold adversary_Order.j1 at hf
    refine W.seqK fun K30 hK30 => ?_
    refine W.seqK fun K31 hK31 => ?_
    refine W.region ?_
    refine WL.move (v := .bool x25) h24_7 ?_
    refine WL.not rfl ?_
    refine WL.nil ?_
    refine hK31 _ _ ?_
    rcases iteE hf with ⟨hc32, hf⟩ | ⟨hc32, hf⟩
    {
    refine W.cond_true (bool_tr rfl hc32) ?_
    refine W.seqK fun K33 hK33 => ?_
    refine W.region ?_
    refine WL.move (v := .slice a13 n15 c14) h24_5 ?_
    refine WL.assign (v := .slice a13 n15 c14) rfl ?_
    refine WL.nil ?_
    refine hK33 _ _ ?_
    refine W.ret ?_
    have hr := Option.some.inj hf; subst hr
    have hr := hbbs19 _ rfl; subst hr
    have hf := hfs19
    have hr := Option.some.inj hf; subst hr
    exact ⟨_, resOk_one rfl rfl, (a13, n15, c14), rfl, (hs.mask [true]).pick []⟩ }
    {
    refine W.cond_false (bool_tr rfl hc32) ?_
    refine W.skip ?_
    refine hK30 _ _ ?_
    refine W.region ?_
    refine WL.move (v := .slice a13 n15 c14) h24_5 ?_
    refine WL.move (v := .int .i64 x21) h24_6 ?_
    refine WL.buildSlice (n := 1) (vs := [(0, .int .i64 x21)]) (cs := [.int .i64 x21]) hs ⟨⟨rfl, rfl⟩, trivial⟩ (bls PS23 (by decide) rfl) (fun g34 w hs => ?_)
    obtain ⟨x35, hxx35, hf⟩ := bindE hf
    obtain ⟨hbx35, hex35⟩ := appE hxx35
    refine WL.append (ys := [x21]) (zs := x35) hs 1 rfl 0 rfl UN23 EI3 rfl rfl (fun ok hA => (Cells.one (T := tInt .i64) rfl)) hbx35 (by omega) hex35 (fun v36 w hs => ?_)
    obtain ⟨a37, n39, c38, rfl⟩ := hs.ownv3 1 rfl
    refine WL.assign (v := .slice a37 n39 c38) rfl ?_
    refine WL.nil ?_
    exact ⟨_, (Option.some.inj hf).symm, a37, c38, n39, cs27, hl28, h24_0, h24_3, rfl, (hs.mask [false, true, true]).pick [0, 1]⟩ }
  refine W.seqK fun K40 hK40 => ?_
  refine W.region ?_
  refine WL.move (v := .bool x22) rfl ?_
  refine WL.nil ?_
  refine hK40 _ _ ?_
  rcases iteE hf with ⟨hc41, hf⟩ | ⟨hc41, hf⟩
  {
  refine W.cond_true (bool_tr rfl hc41) ?_
  refine W.region ?_
  refine WL.loadAll hs 1 rfl TI28 h11_3 hl18 ?_
  refine WL.move (v := .int .i64 x21) rfl ?_
  obtain ⟨⟨x42, x43, x44⟩, hxx42, hf⟩ := bindE hf
  refine WL.call (vs := [.agg cs17.toArray, .int .i64 x21]) hs FN29 ⟨rfl, ⟨rfl, trivial⟩⟩ (fun ok hA => network_Deliver.calls (x1 := x16) (x5 := x21) hxx42 (hA.get 1 rfl)) ?_
  rintro ⟨cs45, cs46⟩ w hs
  have hl47 := hs.agglen (n := 3) 0 rfl rfl rfl
  have hl48 := hs.agglen (n := 18) 1 rfl rfl rfl
  refine WL.move (v := .tuple #[.agg cs45.toArray, .agg cs46.toArray, .bool x44]) rfl ?_
  refine WL.extract (v := .agg cs45.toArray) rfl rfl ?_
  refine WL.extract (v := .agg cs46.toArray) rfl rfl ?_
  refine WL.extract (v := .bool x44) rfl rfl ?_
  refine WL.storeAll (vs := cs45) hs 1 rfl TI28 h11_3 rfl rfl hl47 (hs.ones 0 rfl rfl) hl18 (fun w hs => ?_)
  refine WL.assign (v := .bool x44) rfl ?_
  refine WL.nil ?_
  exact Jk29 x44 x42 cs45 _ _ hl47 h11_0 h11_3 h11_5 rfl rfl ((hs.mask [true, true]).pick [2, 0]) hf }
  {
  refine W.cond_false (bool_tr rfl hc41) ?_
  refine W.skip ?_
  exact Jk29 x22 x16 cs17 _ _ hl18 h11_0 h11_3 h11_5 rfl rfl ((hs.mask [true, true]).pick [0, 1]) hf }
theorem adversary_Order.callc {ok : Nat → Prop} {w0 : World} {x1 : List adversary_Rule} {x4 : network_Network} {a2 : Option Addr} {c3 : Nat} {v5 : Value} {r : List Int} (hf : adversary_Order x1 x4 = some r) (i0 : (vl (tSlice t_adversary_Rule) x1 (.slice a2 x1.length c3)).holds ok w0) (i1 : (vl t_network_Network x4 v5).holds ok w0) :
    Calls Tryz.prog 14 #[.slice a2 x1.length c3, v5] w0 fun e w' => ∃ v, e = .returned v ∧ ∃ y : (Option Addr × Nat), v = .slice y.1 r.length y.2 ∧ St ok (bz w0) w' [vl (tSlice (tInt .i64)) r (.slice y.1 r.length y.2)] [] := by
  refine (adversary_Order.calls (ok := ok) (w0 := w0) (x1 := x1) (x4 := x4) hf i0 i1).mono ?_
  rintro e w' ⟨v, rfl, ⟨a50, n51, c52⟩, rfl, hs⟩
  obtain rfl := hs.ownLen 0 rfl
  have hs := hs.freezeOwn 0 rfl
  exact ⟨_, rfl, (a50, c52), rfl, hs.pick [0]⟩
end Go.Proofs.YthcohhpmpdijoaaGreatDoor
set_option linter.unusedVariables false
set_option linter.unusedSimpArgs false
namespace Go.Proofs.YthcohhpmpdijoaaGreatDoor
open Go Go.RowKit Go.Proofs.YthcohhpmpdijoaaGreatDoorL
set_option maxRecDepth 100000
set_option maxHeartbeats 4000000
theorem eslaw36_awake.calls {ok : Nat → Prop} {w0 : World}  {mxl : Int} {r : Bool} (hf : eslaw36_awake = some r) (i0 : (pl (tSlice tStr) words_ (⟨0, 0, none⟩)).holds ok w0) (i1 : (vl (tTab Tryz.prog "internal/strconv.uint64pow10" 1 GN1 Go.Lib.pow10Tab) () (.int .i64 0)).holds ok w0) (i2 : (pl (tInt .i64) mxl (⟨2, 0, none⟩)).holds ok w0) (i3 : (pl tErr true (⟨3, 0, none⟩)).holds ok w0) (i4 : (pl tErr true (⟨4, 0, none⟩)).holds ok w0) :
    Calls Tryz.prog 5 #[] w0 fun e w' => ∃ v, e = .returned v ∧ ∃ y : Unit, v = .bool r ∧ St ok (bz w0) w' [] [] := by
  unfold eslaw36_awake at hf
  refine calls_of_W (fn := Tryz.f5) (N := 62) Tryz.func5 rfl Tryz.ntmps5 rfl ?_
  have hs : St ok (bz w0) w0 [pl (tSlice tStr) words_ (⟨0, 0, none⟩), vl (tTab Tryz.prog "internal/strconv.uint64pow10" 1 GN1 Go.Lib.pow10Tab) () (.int .i64 0), pl (tInt .i64) mxl (⟨2, 0, none⟩), pl tErr true (⟨3, 0, none⟩), pl tErr true (⟨4, 0, none⟩)] [] := St.init (All.cons i0 (All.cons i1 (All.cons i2 (All.cons i3 (All.cons i4 All.nil)))))
  clear i0 i1 i2 i3 i4
  refine W.seqK fun K1 hK1 => ?_
  refine W.region ?_
  refine WL.assign (v := .bool false) rfl ?_
  refine WL.nil ?_
  refine hK1 _ _ ?_
  refine W.seqK fun K2 hK2 => ?_
  refine W.region ?_
  obtain ⟨x3, hxx3, hf⟩ := bindE hf
  refine WL.call (vs := []) hs FN17 trivial (fun ok hA => network_New.calls hxx3) ?_
  rintro ⟨⟨a4, n5, c6⟩, ⟨a7, n8, c9⟩⟩ w hs
  refine WL.build (vs := [(0, .int .i64 2), (1, .int .i64 1), (2, .int .i64 2)]) (cs := [.int .i64 2, .int .i64 1, .int .i64 2, .int .i64 0, .int .i64 0, .int .i64 0, .int .i64 0, .slice none 0 0, .slice none 0 0, .slice none 0 0, .slice none 0 0, .bool false, .slice none 0 0, .slice none 0 0, .slice none 0 0, .slice none 0 0, .slice none 0 0, .bool false]) ⟨⟨rfl, rfl⟩, ⟨⟨rfl, rfl⟩, ⟨⟨rfl, rfl⟩, trivial⟩⟩⟩ (bld PL51 (by kernel_rfl)) ?_
  refine WL.build (vs := [(0, .int .i64 1), (1, .int .i64 2), (2, .int .i64 3)]) (cs := [.int .i64 1, .int .i64 2, .int .i64 3, .int .i64 0, .int .i64 0, .int .i64 0, .int .i64 0, .slice none 0 0, .slice none 0 0, .slice none 0 0, .slice none 0 0, .bool false, .slice none 0 0, .slice none 0 0, .slice none 0 0, .slice none 0 0, .slice none 0 0, .bool false]) ⟨⟨rfl, rfl⟩, ⟨⟨rfl, rfl⟩, ⟨⟨rfl, rfl⟩, trivial⟩⟩⟩ (bld PL51 (by kernel_rfl)) ?_
  refine WL.build (vs := [(0, .int .i64 2), (1, .int .i64 3), (2, .int .i64 1)]) (cs := [.int .i64 2, .int .i64 3, .int .i64 1, .int .i64 0, .int .i64 0, .int .i64 0, .int .i64 0, .slice none 0 0, .slice none 0 0, .slice none 0 0, .slice none 0 0, .bool false, .slice none 0 0, .slice none 0 0, .slice none 0 0, .slice none 0 0, .slice none 0 0, .bool false]) ⟨⟨rfl, rfl⟩, ⟨⟨rfl, rfl⟩, ⟨⟨rfl, rfl⟩, trivial⟩⟩⟩ (bld PL51 (by kernel_rfl)) ?_
  refine WL.buildSlice (n := 3) (vs := [(0, .agg ([.int .i64 2, .int .i64 1, .int .i64 2, .int .i64 0, .int .i64 0, .int .i64 0, .int .i64 0, .slice none 0 0, .slice none 0 0, .slice none 0 0, .slice none 0 0, .bool false, .slice none 0 0, .slice none 0 0, .slice none 0 0, .slice none 0 0, .slice none 0 0, .bool false] : List Value).toArray), (1, .agg ([.int .i64 1, .int .i64 2, .int .i64 3, .int .i64 0, .int .i64 0, .int .i64 0, .int .i64 0, .slice none 0 0, .slice none 0 0, .slice none 0 0, .slice none 0 0, .bool false, .slice none 0 0, .slice none 0 0, .slice none 0 0, .slice none 0 0, .slice none 0 0, .bool false] : List Value).toArray), (2, .agg ([.int .i64 2, .int .i64 3, .int .i64 1, .int .i64 0, .int .i64 0, .int .i64 0, .int .i64 0, .slice none 0 0, .slice none 0 0, .slice none 0 0, .slice none 0 0, .bool false, .slice none 0 0, .slice none 0 0, .slice none 0 0, .slice none 0 0, .slice none 0 0, .bool false] : List Value).toArray)]) (cs := [.int .i64 2, .int .i64 1, .int .i64 2, .int .i64 0, .int .i64 0, .int .i64 0, .int .i64 0, .slice none 0 0, .slice none 0 0, .slice none 0 0, .slice none 0 0, .bool false, .slice none 0 0, .slice none 0 0, .slice none 0 0, .slice none 0 0, .slice none 0 0, .bool false, .int .i64 1, .int .i64 2, .int .i64 3, .int .i64 0, .int .i64 0, .int .i64 0, .int .i64 0, .slice none 0 0, .slice none 0 0, .slice none 0 0, .slice none 0 0, .bool false, .slice none 0 0, .slice none 0 0, .slice none 0 0, .slice none 0 0, .slice none 0 0, .bool false, .int .i64 2, .int .i64 3, .int .i64 1, .int .i64 0, .int .i64 0, .int .i64 0, .int .i64 0, .slice none 0 0, .slice none 0 0, .slice none 0 0, .slice none 0 0, .bool false, .slice none 0 0, .slice none 0 0, .slice none 0 0, .slice none 0 0, .slice none 0 0, .bool false]) hs ⟨⟨rfl, rfl⟩, ⟨⟨rfl, rfl⟩, ⟨⟨rfl, rfl⟩, trivial⟩⟩⟩ (bls PS57 (by decide) rfl) (fun g10 w hs => ?_)
  obtain rfl := hs.ownLen 1 rfl
  have hs := hs.freezeOwn 1 rfl
  obtain rfl := hs.ownLen 1 rfl
  have hs := hs.freezeOwn 1 rfl
  have hs := hs.add (it := vl t_network_Network (⟨x3.Next, x3.Packets, x3.Sides⟩ : network_Network) (.agg [.int .i64 x3.Next, .slice a4 (x3.Packets).length c6, .slice a7 (x3.Sides).length c9].toArray)) fun ok hA => V_agg (show t_network_Network.R ok _ _ _ from ⟨[.int .i64 x3.Next], [.slice a4 (x3.Packets).length c6, .slice a7 (x3.Sides).length c9], rfl, rfl, ⟨[.slice a4 (x3.Packets).length c6], [.slice a7 (x3.Sides).length c9], rfl, (R_one (hA.get 1 rfl)), (R_one (hA.get 0 rfl))⟩⟩) rfl
  have hs := hs.ownLit (A := t_api_Message) (xs := [(⟨2, 1, 2, (⟨0, 0⟩ : api_AccessID), 0, 0, (⟨[], []⟩ : api_Certificate), (⟨[], []⟩ : api_Certificate), false, (⟨[], []⟩ : api_Certificate), [], [], [], false⟩ : api_Message), (⟨1, 2, 3, (⟨0, 0⟩ : api_AccessID), 0, 0, (⟨[], []⟩ : api_Certificate), (⟨[], []⟩ : api_Certificate), false, (⟨[], []⟩ : api_Certificate), [], [], [], false⟩ : api_Message), (⟨2, 3, 1, (⟨0, 0⟩ : api_AccessID), 0, 0, (⟨[], []⟩ : api_Certificate), (⟨[], []⟩ : api_Certificate), false, (⟨[], []⟩ : api_Certificate), [], [], [], false⟩ : api_Message)]) 0 rfl (fun ok hA => (Cells.app (Cells.one (T := t_api_Message) (show t_api_Message.R ok _ (⟨2, 1, 2, (⟨0, 0⟩ : api_AccessID), 0, 0, (⟨[], []⟩ : api_Certificate), (⟨[], []⟩ : api_Certificate), false, (⟨[], []⟩ : api_Certificate), [], [], [], false⟩ : api_Message) _ from ⟨[.int .i64 2], [.int .i64 1, .int .i64 2, .int .i64 0, .int .i64 0, .int .i64 0, .int .i64 0, .slice none 0 0, .slice none 0 0, .slice none 0 0, .slice none 0 0, .bool false, .slice none 0 0, .slice none 0 0, .slice none 0 0, .slice none 0 0, .slice none 0 0, .bool false], rfl, rfl, ⟨[.int .i64 1], [.int .i64 2, .int .i64 0, .int .i64 0, .int .i64 0, .int .i64 0, .slice none 0 0, .slice none 0 0, .slice none 0 0, .slice none 0 0, .bool false, .slice none 0 0, .slice none 0 0, .slice none 0 0, .slice none 0 0, .slice none 0 0, .bool false], rfl, rfl, ⟨[.int .i64 2], [.int .i64 0, .int .i64 0, .int .i64 0, .int .i64 0, .slice none 0 0, .slice none 0 0, .slice none 0 0, .slice none 0 0, .bool false, .slice none 0 0, .slice none 0 0, .slice none 0 0, .slice none 0 0, .slice none 0 0, .bool false], rfl, rfl, ⟨[.int .i64 0, .int .i64 0], [.int .i64 0, .int .i64 0, .slice none 0 0, .slice none 0 0, .slice none 0 0, .slice none 0 0, .bool false, .slice none 0 0, .slice none 0 0, .slice none 0 0, .slice none 0 0, .slice none 0 0, .bool false], rfl, ⟨[.int .i64 0], [.int .i64 0], rfl, rfl, rfl⟩, ⟨[.int .i64 0], [.int .i64 0, .slice none 0 0, .slice none 0 0, .slice none 0 0, .slice none 0 0, .bool false, .slice none 0 0, .slice none 0 0, .slice none 0 0, .slice none 0 0, .slice none 0 0, .bool false], rfl, rfl, ⟨[.int .i64 0], [.slice none 0 0, .slice none 0 0, .slice none 0 0, .slice none 0 0, .bool false, .slice none 0 0, .slice none 0 0, .slice none 0 0, .slice none 0 0, .slice none 0 0, .bool false], rfl, rfl, ⟨[.slice none 0 0, .slice none 0 0], [.slice none 0 0, .slice none 0 0, .bool false, .slice none 0 0, .slice none 0 0, .slice none 0 0, .slice none 0 0, .slice none 0 0, .bool false], rfl, ⟨[.slice none 0 0], [.slice none 0 0], rfl, R_nil, R_nil⟩, ⟨[.slice none 0 0, .slice none 0 0], [.bool false, .slice none 0 0, .slice none 0 0, .slice none 0 0, .slice none 0 0, .slice none 0 0, .bool false], rfl, ⟨[.slice none 0 0], [.slice none 0 0], rfl, R_nil, R_nil⟩, ⟨[.bool false], [.slice none 0 0, .slice none 0 0, .slice none 0 0, .slice none 0 0, .slice none 0 0, .bool false], rfl, rfl, ⟨[.slice none 0 0, .slice none 0 0], [.slice none 0 0, .slice none 0 0, .slice none 0 0, .bool false], rfl, ⟨[.slice none 0 0], [.slice none 0 0], rfl, R_nil, R_nil⟩, ⟨[.slice none 0 0], [.slice none 0 0, .slice none 0 0, .bool false], rfl, R_nil, ⟨[.slice none 0 0], [.slice none 0 0, .bool false], rfl, R_nil, ⟨[.slice none 0 0], [.bool false], rfl, R_nil, rfl⟩⟩⟩⟩⟩⟩⟩⟩⟩⟩⟩⟩⟩)) (Cells.app (Cells.one (T := t_api_Message) (show t_api_Message.R ok _ (⟨1, 2, 3, (⟨0, 0⟩ : api_AccessID), 0, 0, (⟨[], []⟩ : api_Certificate), (⟨[], []⟩ : api_Certificate), false, (⟨[], []⟩ : api_Certificate), [], [], [], false⟩ : api_Message) _ from ⟨[.int .i64 1], [.int .i64 2, .int .i64 3, .int .i64 0, .int .i64 0, .int .i64 0, .int .i64 0, .slice none 0 0, .slice none 0 0, .slice none 0 0, .slice none 0 0, .bool false, .slice none 0 0, .slice none 0 0, .slice none 0 0, .slice none 0 0, .slice none 0 0, .bool false], rfl, rfl, ⟨[.int .i64 2], [.int .i64 3, .int .i64 0, .int .i64 0, .int .i64 0, .int .i64 0, .slice none 0 0, .slice none 0 0, .slice none 0 0, .slice none 0 0, .bool false, .slice none 0 0, .slice none 0 0, .slice none 0 0, .slice none 0 0, .slice none 0 0, .bool false], rfl, rfl, ⟨[.int .i64 3], [.int .i64 0, .int .i64 0, .int .i64 0, .int .i64 0, .slice none 0 0, .slice none 0 0, .slice none 0 0, .slice none 0 0, .bool false, .slice none 0 0, .slice none 0 0, .slice none 0 0, .slice none 0 0, .slice none 0 0, .bool false], rfl, rfl, ⟨[.int .i64 0, .int .i64 0], [.int .i64 0, .int .i64 0, .slice none 0 0, .slice none 0 0, .slice none 0 0, .slice none 0 0, .bool false, .slice none 0 0, .slice none 0 0, .slice none 0 0, .slice none 0 0, .slice none 0 0, .bool false], rfl, ⟨[.int .i64 0], [.int .i64 0], rfl, rfl, rfl⟩, ⟨[.int .i64 0], [.int .i64 0, .slice none 0 0, .slice none 0 0, .slice none 0 0, .slice none 0 0, .bool false, .slice none 0 0, .slice none 0 0, .slice none 0 0, .slice none 0 0, .slice none 0 0, .bool false], rfl, rfl, ⟨[.int .i64 0], [.slice none 0 0, .slice none 0 0, .slice none 0 0, .slice none 0 0, .bool false, .slice none 0 0, .slice none 0 0, .slice none 0 0, .slice none 0 0, .slice none 0 0, .bool false], rfl, rfl, ⟨[.slice none 0 0, .slice none 0 0], [.slice none 0 0, .slice none 0 0, .bool false, .slice none 0 0, .slice none 0 0, .slice none 0 0, .slice none 0 0, .slice none 0 0, .bool false], rfl, ⟨[.slice none 0 0], [.slice none 0 0], rfl, R_nil, R_nil⟩, ⟨[.slice none 0 0, .slice none 0 0], [.bool false, .slice none 0 0, .slice none 0 0, .slice none 0 0, .slice none 0 0, .slice none 0 0, .bool false], rfl, ⟨[.slice none 0 0], [.slice none 0 0], rfl, R_nil, R_nil⟩, ⟨[.bool false], [.slice none 0 0, .slice none 0 0, .slice none 0 0, .slice none 0 0, .slice none 0 0, .bool false], rfl, rfl, ⟨[.slice none 0 0, .slice none 0 0], [.slice none 0 0, .slice none 0 0, .slice none 0 0, .bool false], rfl, ⟨[.slice none 0 0], [.slice none 0 0], rfl, R_nil, R_nil⟩, ⟨[.slice none 0 0], [.slice none 0 0, .slice none 0 0, .bool false], rfl, R_nil, ⟨[.slice none 0 0], [.slice none 0 0, .bool false], rfl, R_nil, ⟨[.slice none 0 0], [.bool false], rfl, R_nil, rfl⟩⟩⟩⟩⟩⟩⟩⟩⟩⟩⟩⟩⟩)) (Cells.one (T := t_api_Message) (show t_api_Message.R ok _ (⟨2, 3, 1, (⟨0, 0⟩ : api_AccessID), 0, 0, (⟨[], []⟩ : api_Certificate), (⟨[], []⟩ : api_Certificate), false, (⟨[], []⟩ : api_Certificate), [], [], [], false⟩ : api_Message) _ from ⟨[.int .i64 2], [.int .i64 3, .int .i64 1, .int .i64 0, .int .i64 0, .int .i64 0, .int .i64 0, .slice none 0 0, .slice none 0 0, .slice none 0 0, .slice none 0 0, .bool false, .slice none 0 0, .slice none 0 0, .slice none 0 0, .slice none 0 0, .slice none 0 0, .bool false], rfl, rfl, ⟨[.int .i64 3], [.int .i64 1, .int .i64 0, .int .i64 0, .int .i64 0, .int .i64 0, .slice none 0 0, .slice none 0 0, .slice none 0 0, .slice none 0 0, .bool false, .slice none 0 0, .slice none 0 0, .slice none 0 0, .slice none 0 0, .slice none 0 0, .bool false], rfl, rfl, ⟨[.int .i64 1], [.int .i64 0, .int .i64 0, .int .i64 0, .int .i64 0, .slice none 0 0, .slice none 0 0, .slice none 0 0, .slice none 0 0, .bool false, .slice none 0 0, .slice none 0 0, .slice none 0 0, .slice none 0 0, .slice none 0 0, .bool false], rfl, rfl, ⟨[.int .i64 0, .int .i64 0], [.int .i64 0, .int .i64 0, .slice none 0 0, .slice none 0 0, .slice none 0 0, .slice none 0 0, .bool false, .slice none 0 0, .slice none 0 0, .slice none 0 0, .slice none 0 0, .slice none 0 0, .bool false], rfl, ⟨[.int .i64 0], [.int .i64 0], rfl, rfl, rfl⟩, ⟨[.int .i64 0], [.int .i64 0, .slice none 0 0, .slice none 0 0, .slice none 0 0, .slice none 0 0, .bool false, .slice none 0 0, .slice none 0 0, .slice none 0 0, .slice none 0 0, .slice none 0 0, .bool false], rfl, rfl, ⟨[.int .i64 0], [.slice none 0 0, .slice none 0 0, .slice none 0 0, .slice none 0 0, .bool false, .slice none 0 0, .slice none 0 0, .slice none 0 0, .slice none 0 0, .slice none 0 0, .bool false], rfl, rfl, ⟨[.slice none 0 0, .slice none 0 0], [.slice none 0 0, .slice none 0 0, .bool false, .slice none 0 0, .slice none 0 0, .slice none 0 0, .slice none 0 0, .slice none 0 0, .bool false], rfl, ⟨[.slice none 0 0], [.slice none 0 0], rfl, R_nil, R_nil⟩, ⟨[.slice none 0 0, .slice none 0 0], [.bool false, .slice none 0 0, .slice none 0 0, .slice none 0 0, .slice none 0 0, .slice none 0 0, .bool false], rfl, ⟨[.slice none 0 0], [.slice none 0 0], rfl, R_nil, R_nil⟩, ⟨[.bool false], [.slice none 0 0, .slice none 0 0, .slice none 0 0, .slice none 0 0, .slice none 0 0, .bool false], rfl, rfl, ⟨[.slice none 0 0, .slice none 0 0], [.slice none 0 0, .slice none 0 0, .slice none 0 0, .bool false], rfl, ⟨[.slice none 0 0], [.slice none 0 0], rfl, R_nil, R_nil⟩, ⟨[.slice none 0 0], [.slice none 0 0, .slice none 0 0, .bool false], rfl, R_nil, ⟨[.slice none 0 0], [.slice none 0 0, .bool false], rfl, R_nil, ⟨[.slice none 0 0], [.bool false], rfl, R_nil, rfl⟩⟩⟩⟩⟩⟩⟩⟩⟩⟩⟩⟩⟩))))) (Nat.le_of_ble_eq_true rfl)
  have hs := hs.freezeOwn 0 rfl
  obtain ⟨x11, hxx11, hf⟩ := bindE hf
  refine WL.call (vs := [.agg ([.int .i64 x3.Next, .slice a4 (x3.Packets).length c6, .slice a7 (x3.Sides).length c9] : List Value).toArray, .slice (some ⟨g10, 0, none⟩) ([(⟨2, 1, 2, (⟨0, 0⟩ : api_AccessID), 0, 0, (⟨[], []⟩ : api_Certificate), (⟨[], []⟩ : api_Certificate), false, (⟨[], []⟩ : api_Certificate), [], [], [], false⟩ : api_Message), (⟨1, 2, 3, (⟨0, 0⟩ : api_AccessID), 0, 0, (⟨[], []⟩ : api_Certificate), (⟨[], []⟩ : api_Certificate), false, (⟨[], []⟩ : api_Certificate), [], [], [], false⟩ : api_Message), (⟨2, 3, 1, (⟨0, 0⟩ : api_AccessID), 0, 0, (⟨[], []⟩ : api_Certificate), (⟨[], []⟩ : api_Certificate), false, (⟨[], []⟩ : api_Certificate), [], [], [], false⟩ : api_Message)]).length 3]) hs FN16 ⟨rfl, ⟨rfl, trivial⟩⟩ (fun ok hA => network_Send.calls (x1 := (⟨x3.Next, x3.Packets, x3.Sides⟩ : network_Network)) (x5 := ([(⟨2, 1, 2, (⟨0, 0⟩ : api_AccessID), 0, 0, (⟨[], []⟩ : api_Certificate), (⟨[], []⟩ : api_Certificate), false, (⟨[], []⟩ : api_Certificate), [], [], [], false⟩ : api_Message), (⟨1, 2, 3, (⟨0, 0⟩ : api_AccessID), 0, 0, (⟨[], []⟩ : api_Certificate), (⟨[], []⟩ : api_Certificate), false, (⟨[], []⟩ : api_Certificate), [], [], [], false⟩ : api_Message), (⟨2, 3, 1, (⟨0, 0⟩ : api_AccessID), 0, 0, (⟨[], []⟩ : api_Certificate), (⟨[], []⟩ : api_Certificate), false, (⟨[], []⟩ : api_Certificate), [], [], [], false⟩ : api_Message)])) hxx11 (hA.get 1 rfl) (hA.get 0 rfl)) ?_
  rintro ⟨⟨a12, n13, c14⟩, ⟨a15, n16, c17⟩⟩ w hs
  refine WL.alloc hs ZV28 (fun g18 w hs => ?_)
  refine WL.storeAll (vs := [.int .i64 x11.Next, .slice a12 n13 c14, .slice a15 n16 c17]) hs 0 rfl TI28 rfl rfl rfl rfl (ones_of rfl) rfl (fun w hs => ?_)
  refine WL.nil ?_
  refine hK2 _ _ ?_
  refine W.seqK fun K19 hK19 => ?_
  refine W.region ?_
  obtain ⟨⟨x20, x21⟩, hxx20, hf⟩ := bindE hf
  refine WL.call (vs := [bstr ([112, 114, 101, 102, 101, 114, 32, 107, 105, 110, 100, 32, 50, 59, 32, 110, 101, 119, 101, 115, 116] : List UInt8)]) hs FN18 ⟨rfl, trivial⟩ (fun ok hA => adversary_Parse.calls (x1 := ([112, 114, 101, 102, 101, 114, 32, 107, 105, 110, 100, 32, 50, 59, 32, 110, 101, 119, 101, 115, 116] : List UInt8)) hxx20 (hA.get 4 rfl) (hA.get 5 rfl) (hA.get 6 rfl) (hA.get 7 rfl) (hA.get 8 rfl)) ?_
  rintro ⟨a22, n23, c24⟩ w hs
  refine WL.move (v := .tuple #[.slice a22 n23 c24, .int .i64 x21]) rfl ?_
  refine WL.extract (v := .slice a22 n23 c24) rfl rfl ?_
  refine WL.extract (v := .int .i64 x21) rfl rfl ?_
  refine WL.assign (v := .slice a22 n23 c24) rfl ?_
  refine WL.assign (v := .int .i64 x21) rfl ?_
  refine WL.nil ?_
  refine hK19 _ _ ?_
  refine W.seqK fun K25 hK25 => ?_
  refine W.region ?_
  refine WL.move (v := .slice a22 n23 c24) rfl ?_
  refine WL.loadN (vs := [.int .i64 x11.Next, .slice a12 n13 c14, .slice a15 n16 c17]) hs 1 rfl TI28 rfl rfl rfl ?_
  obtain ⟨⟨x26, x27⟩, hxx26, hf⟩ := bindE hf
  refine WL.callL (vs := [.slice a22 x20.length c24, .agg ([.int .i64 x11.Next, .slice a12 n13 c14, .slice a15 n16 c17] : List Value).toArray, .int .i64 0]) hs FN7 ⟨(Eq.trans rfl (sl_len (hs.ownLen 0 rfl))), ⟨rfl, ⟨rfl, trivial⟩⟩⟩ (adversary_Choose.calls (x1 := x20) (x4 := (⟨x11.Next, x11.Packets, x11.Sides⟩ : network_Network)) (x8 := 0) hxx26 (hs.ownN 0 rfl) (V_agg (show t_network_Network.R (fun _ => True) _ (⟨x11.Next, x11.Packets, x11.Sides⟩ : network_Network) [.int .i64 x11.Next, .slice a12 n13 c14, .slice a15 n16 c17] from ⟨[.int .i64 x11.Next], [.slice a12 n13 c14, .slice a15 n16 c17], rfl, rfl, ⟨[.slice a12 n13 c14], [.slice a15 n16 c17], rfl, (R_one (hs.ownT 2 rfl)), (R_one (hs.ownT 3 rfl))⟩⟩) rfl)) ?_
  rintro _ w hs
  refine WL.move (v := .tuple #[.int .i64 x26, .bool x27]) rfl ?_
  refine WL.extract (v := .int .i64 x26) rfl rfl ?_
  refine WL.extract (v := .bool x27) rfl rfl ?_
  refine WL.assign (v := .int .i64 x26) rfl ?_
  refine WL.assign (v := .bool x27) rfl ?_
  refine WL.nil ?_
  refine hK25 _ _ ?_
  refine W.seqK fun K28 hK28 => ?_
  refine W.region ?_
  refine WL.move (v := .slice a22 n23 c24) rfl ?_
  refine WL.loadN (vs := [.int .i64 x11.Next, .slice a12 n13 c14, .slice a15 n16 c17]) hs 1 rfl TI28 rfl rfl rfl ?_
  obtain rfl := hs.ownLen 0 rfl
  have hs := hs.freezeOwn 0 rfl
  obtain rfl := hs.ownLen 1 rfl
  have hs := hs.freezeOwn 1 rfl
  obtain rfl := hs.ownLen 1 rfl
  have hs := hs.freezeOwn 1 rfl
  have hs := hs.add (it := vl t_network_Network (⟨x11.Next, x11.Packets, x11.Sides⟩ : network_Network) (.agg [.int .i64 x11.Next, .slice a12 (x11.Packets).length c14, .slice a15 (x11.Sides).length c17].toArray)) fun ok hA => V_agg (show t_network_Network.R ok _ _ _ from ⟨[.int .i64 x11.Next], [.slice a12 (x11.Packets).length c14, .slice a15 (x11.Sides).length c17], rfl, rfl, ⟨[.slice a12 (x11.Packets).length c14], [.slice a15 (x11.Sides).length c17], rfl, (R_one (hA.get 1 rfl)), (R_one (hA.get 0 rfl))⟩⟩) rfl
  obtain ⟨x29, hxx29, hf⟩ := bindE hf
  refine WL.call (vs := [.slice a22 x20.length c24, .agg ([.int .i64 x11.Next, .slice a12 (x11.Packets).length c14, .slice a15 (x11.Sides).length c17] : List Value).toArray]) hs FN14 ⟨rfl, ⟨rfl, trivial⟩⟩ (fun ok hA => adversary_Order.calls (x1 := x20) (x4 := (⟨x11.Next, x11.Packets, x11.Sides⟩ : network_Network)) hxx29 (hA.get 3 rfl) (hA.get 0 rfl)) ?_
  rintro ⟨a30, n31, c32⟩ w hs
  refine WL.assign (v := .slice a30 n31 c32) rfl ?_
  refine WL.nil ?_
  refine hK28 _ _ ?_
  refine W.seqK fun K33 hK33 => ?_
  have Jk36 : ∀ (x35 : Bool) (ρ : Env) (w : World), ρ 0 = .bool x35 → St ok (bz w0) w [pl (tSlice tStr) words_ (⟨0, 0, none⟩), vl (tTab Tryz.prog "internal/strconv.uint64pow10" 1 GN1 Go.Lib.pow10Tab) () (.int .i64 0), pl (tInt .i64) mxl (⟨2, 0, none⟩), pl tErr true (⟨3, 0, none⟩), pl tErr true (⟨4, 0, none⟩)] [] → eslaw36_awake.j1 x35 = some r → K33 ρ w := by
    intro x35 ρ w h34_0 hs hf
    refine hK33 _ _ ?_
    unfold eslaw36_awake.j1 at hf
    refine W.ret ?_
    have hr := Option.some.inj hf; subst hr
    exact ⟨_, resOk_one rfl h34_0, (), rfl, (hs.mask []).pick []⟩
  refine W.region ?_
  refine WL.move (v := .int .i64 x21) rfl ?_
  refine WL.bin (v := .bool (x21 == 0)) rfl rfl (ib_eql _ _ _) ?_
  refine WL.move (v := .bool (x21 == 0)) rfl ?_
  rcases iteE hf with ⟨hc37, hf⟩ | ⟨hc37, hf⟩
  {
  refine WL.move (v := .slice a22 x20.length c24) rfl ?_ (hg := (wanted_of rfl rfl (bool_tr rfl hc37)).trans rfl)
  refine WL.len (v := .slice a22 x20.length c24) rfl (len_slice UN22) ?_ (hg := (wanted_of rfl rfl (bool_tr rfl hc37)).trans rfl)
  refine WL.bin (v := .bool ((x20.length : Int) == 2)) rfl rfl (ib_eql _ _ _) ?_ (hg := (wanted_of rfl rfl (bool_tr rfl hc37)).trans rfl)
  refine WL.pickT (v := .bool ((x20.length : Int) == 2)) (bool_tr rfl hc37) rfl ?_
  refine WL.move (v := .bool ((x20.length : Int) == 2)) rfl ?_
  rcases iteE hf with ⟨hc38, hf⟩ | ⟨hc38, hf⟩
  {
  refine WL.move (v := .bool x27) rfl ?_ (hg := (wanted_of rfl rfl (bool_tr rfl hc38)).trans rfl)
  refine WL.pickT (v := .bool x27) (bool_tr rfl hc38) rfl ?_
  refine WL.move (v := .bool x27) rfl ?_
  rcases iteE hf with ⟨hc39, hf⟩ | ⟨hc39, hf⟩
  {
  refine WL.move (v := .int .i64 x26) rfl ?_ (hg := (wanted_of rfl rfl (bool_tr rfl hc39)).trans rfl)
  refine WL.bin (v := .bool (x26 == 3)) rfl rfl (ib_eql _ _ _) ?_ (hg := (wanted_of rfl rfl (bool_tr rfl hc39)).trans rfl)
  refine WL.pickT (v := .bool (x26 == 3)) (bool_tr rfl hc39) rfl ?_
  refine WL.move (v := .bool (x26 == 3)) rfl ?_
  rcases iteE hf with ⟨hc40, hf⟩ | ⟨hc40, hf⟩
  {
  refine WL.move (v := .slice a30 n31 c32) rfl ?_ (hg := (wanted_of rfl rfl (bool_tr rfl hc40)).trans rfl)
  refine WL.len (v := .slice a30 n31 c32) rfl (len_own hs 0 rfl UN23) ?_ (hg := (wanted_of rfl rfl (bool_tr rfl hc40)).trans rfl)
  refine WL.bin (v := .bool ((x29.length : Int) == 3)) rfl rfl (ib_eql _ _ _) ?_ (hg := (wanted_of rfl rfl (bool_tr rfl hc40)).trans rfl)
  refine WL.pickT (v := .bool ((x29.length : Int) == 3)) (bool_tr rfl hc40) rfl ?_
  refine WL.move (v := .bool ((x29.length : Int) == 3)) rfl ?_
  rcases iteE hf with ⟨hc41, hf⟩ | ⟨hc41, hf⟩
  {
  refine WL.move (v := .slice a30 n31 c32) rfl ?_ (hg := (wanted_of rfl rfl (bool_tr rfl hc41)).trans rfl)
  obtain ⟨x42, hxx42, hf⟩ := bindE hf
  refine WL.indexAddrO hs 0 rfl UN23 TI3 rfl rfl hxx42 (fun ad43 hatad43 => ?_) (hg := (wanted_of rfl rfl (bool_tr rfl hc41)).trans rfl)
  refine WL.loadO hs 0 rfl TI3 (.inr rfl) hatad43 hxx42 rfl (fun v44 hs => ?_) (hg := (wanted_of rfl rfl (bool_tr rfl hc41)).trans rfl)
  obtain rfl := hs.int 0 rfl
  refine WL.bin (v := .bool (x42 == 1)) rfl rfl (ib_eql _ _ _) ?_ (hg := (wanted_of rfl rfl (bool_tr rfl hc41)).trans rfl)
  refine WL.pickT (v := .bool (x42 == 1)) (bool_tr rfl hc41) rfl ?_
  refine WL.move (v := .bool (x42 == 1)) rfl ?_
  rcases iteE hf with ⟨hc45, hf⟩ | ⟨hc45, hf⟩
  {
  refine WL.move (v := .slice a30 n31 c32) rfl ?_ (hg := (wanted_of rfl rfl (bool_tr rfl hc45)).trans rfl)
  obtain ⟨x46, hxx46, hf⟩ := bindE hf
  refine WL.indexAddrO hs 0 rfl UN23 TI3 rfl rfl hxx46 (fun ad47 hatad47 => ?_) (hg := (wanted_of rfl rfl (bool_tr rfl hc45)).trans rfl)
  refine WL.loadO hs 0 rfl TI3 (.inr rfl) hatad47 hxx46 rfl (fun v48 hs => ?_) (hg := (wanted_of rfl rfl (bool_tr rfl hc45)).trans rfl)
  obtain rfl := hs.int 0 rfl
  refine WL.bin (v := .bool (x46 == 2)) rfl rfl (ib_eql _ _ _) ?_ (hg := (wanted_of rfl rfl (bool_tr rfl hc45)).trans rfl)
  refine WL.pickT (v := .bool (x46 == 2)) (bool_tr rfl hc45) rfl ?_
  refine WL.move (v := .bool (x46 == 2)) rfl ?_
  rcases iteE hf with ⟨hc49, hf⟩ | ⟨hc49, hf⟩
  {
  refine WL.move (v := .slice a22 x20.length c24) rfl ?_ (hg := (wanted_of rfl rfl (bool_tr rfl hc49)).trans rfl)
  obtain ⟨x50, hxx50, hf⟩ := bindE hf
  refine WL.call (vs := [.slice a22 x20.length c24]) hs FN11 ⟨rfl, trivial⟩ (fun ok hA => adversary_Format.calls (x1 := x20) hxx50 (hA.get 5 rfl) (hA.get 10 rfl) (hA.get 11 rfl)) ?_ (hg := (wanted_of rfl rfl (bool_tr rfl hc49)).trans rfl)
  rintro _ w hs
  refine WL.binS (v := .bool (x50 == ([112, 114, 101, 102, 101, 114, 32, 107, 105, 110, 100, 32, 50, 59, 32, 110, 101, 119, 101, 115, 116] : List UInt8))) rfl rfl (sb_eql _ _) ?_ (hg := (wanted_of rfl rfl (bool_tr rfl hc49)).trans rfl)
  refine WL.pickT (v := .bool (x50 == ([112, 114, 101, 102, 101, 114, 32, 107, 105, 110, 100, 32, 50, 59, 32, 110, 101, 119, 101, 115, 116] : List UInt8))) (bool_tr rfl hc49) rfl ?_
  refine WL.assign (v := .bool (x50 == ([112, 114, 101, 102, 101, 114, 32, 107, 105, 110, 100, 32, 50, 59, 32, 110, 101, 119, 101, 115, 116] : List UInt8))) rfl ?_
  refine WL.nil ?_
  exact Jk36 (x50 == ([112, 114, 101, 102, 101, 114, 32, 107, 105, 110, 100, 32, 50, 59, 32, 110, 101, 119, 101, 115, 116] : List UInt8)) _ _ rfl ((hs.mask []).pick [10, 11, 12, 13, 14]) hf }
  {
  refine WL.pass ((wanted_of rfl rfl (bool_tr rfl hc49)).trans rfl) rfl ?_
  refine WL.pass ((wanted_of rfl rfl (bool_tr rfl hc49)).trans rfl) rfl ?_
  refine WL.pass ((wanted_of rfl rfl (bool_tr rfl hc49)).trans rfl) rfl ?_
  refine WL.pickF (v := .bool false) (bool_tr rfl hc49) rfl ?_
  refine WL.assign (v := .bool false) rfl ?_
  refine WL.nil ?_
  exact Jk36 false _ _ rfl ((hs.mask []).pick [10, 11, 12, 13, 14]) hf } }
  {
  refine WL.pass ((wanted_of rfl rfl (bool_tr rfl hc45)).trans rfl) rfl ?_
  refine WL.pass ((wanted_of rfl rfl (bool_tr rfl hc45)).trans rfl) rfl ?_
  refine WL.pass ((wanted_of rfl rfl (bool_tr rfl hc45)).trans rfl) rfl ?_
  refine WL.pass ((wanted_of rfl rfl (bool_tr rfl hc45)).trans rfl) rfl ?_
  refine WL.pickF (v := .bool false) (bool_tr rfl hc45) rfl ?_
  refine WL.move (v := .bool false) rfl ?_
  refine WL.pass ((wanted_of rfl rfl rfl).trans rfl) rfl ?_
  refine WL.pass ((wanted_of rfl rfl rfl).trans rfl) rfl ?_
  refine WL.pass ((wanted_of rfl rfl rfl).trans rfl) rfl ?_
  refine WL.pickF (v := .bool false) rfl rfl ?_
  refine WL.assign (v := .bool false) rfl ?_
  refine WL.nil ?_
  exact Jk36 false _ _ rfl ((hs.mask []).pick [9, 10, 11, 12, 13]) hf } }
  {
  refine WL.pass ((wanted_of rfl rfl (bool_tr rfl hc41)).trans rfl) rfl ?_
  refine WL.pass ((wanted_of rfl rfl (bool_tr rfl hc41)).trans rfl) rfl ?_
  refine WL.pass ((wanted_of rfl rfl (bool_tr rfl hc41)).trans rfl) rfl ?_
  refine WL.pass ((wanted_of rfl rfl (bool_tr rfl hc41)).trans rfl) rfl ?_
  refine WL.pickF (v := .bool false) (bool_tr rfl hc41) rfl ?_
  refine WL.move (v := .bool false) rfl ?_
  refine WL.pass ((wanted_of rfl rfl rfl).trans rfl) rfl ?_
  refine WL.pass ((wanted_of rfl rfl rfl).trans rfl) rfl ?_
  refine WL.pass ((wanted_of rfl rfl rfl).trans rfl) rfl ?_
  refine WL.pass ((wanted_of rfl rfl rfl).trans rfl) rfl ?_
  refine WL.pickF (v := .bool false) rfl rfl ?_
  refine WL.move (v := .bool false) rfl ?_
  refine WL.pass ((wanted_of rfl rfl rfl).trans rfl) rfl ?_
  refine WL.pass ((wanted_of rfl rfl rfl).trans rfl) rfl ?_
  refine WL.pass ((wanted_of rfl rfl rfl).trans rfl) rfl ?_
  refine WL.pickF (v := .bool false) rfl rfl ?_
  refine WL.assign (v := .bool false) rfl ?_
  refine WL.nil ?_
  exact Jk36 false _ _ rfl ((hs.mask []).pick [8, 9, 10, 11, 12]) hf } }
  {
  refine WL.pass ((wanted_of rfl rfl (bool_tr rfl hc40)).trans rfl) rfl ?_
  refine WL.pass ((wanted_of rfl rfl (bool_tr rfl hc40)).trans rfl) rfl ?_
  refine WL.pass ((wanted_of rfl rfl (bool_tr rfl hc40)).trans rfl) rfl ?_
  refine WL.pickF (v := .bool false) (bool_tr rfl hc40) rfl ?_
  refine WL.move (v := .bool false) rfl ?_
  refine WL.pass ((wanted_of rfl rfl rfl).trans rfl) rfl ?_
  refine WL.pass ((wanted_of rfl rfl rfl).trans rfl) rfl ?_
  refine WL.pass ((wanted_of rfl rfl rfl).trans rfl) rfl ?_
  refine WL.pass ((wanted_of rfl rfl rfl).trans rfl) rfl ?_
  refine WL.pickF (v := .bool false) rfl rfl ?_
  refine WL.move (v := .bool false) rfl ?_
  refine WL.pass ((wanted_of rfl rfl rfl).trans rfl) rfl ?_
  refine WL.pass ((wanted_of rfl rfl rfl).trans rfl) rfl ?_
  refine WL.pass ((wanted_of rfl rfl rfl).trans rfl) rfl ?_
  refine WL.pass ((wanted_of rfl rfl rfl).trans rfl) rfl ?_
  refine WL.pickF (v := .bool false) rfl rfl ?_
  refine WL.move (v := .bool false) rfl ?_
  refine WL.pass ((wanted_of rfl rfl rfl).trans rfl) rfl ?_
  refine WL.pass ((wanted_of rfl rfl rfl).trans rfl) rfl ?_
  refine WL.pass ((wanted_of rfl rfl rfl).trans rfl) rfl ?_
  refine WL.pickF (v := .bool false) rfl rfl ?_
  refine WL.assign (v := .bool false) rfl ?_
  refine WL.nil ?_
  exact Jk36 false _ _ rfl ((hs.mask []).pick [8, 9, 10, 11, 12]) hf } }
  {
  refine WL.pass ((wanted_of rfl rfl (bool_tr rfl hc39)).trans rfl) rfl ?_
  refine WL.pass ((wanted_of rfl rfl (bool_tr rfl hc39)).trans rfl) rfl ?_
  refine WL.pickF (v := .bool false) (bool_tr rfl hc39) rfl ?_
  refine WL.move (v := .bool false) rfl ?_
  refine WL.pass ((wanted_of rfl rfl rfl).trans rfl) rfl ?_
  refine WL.pass ((wanted_of rfl rfl rfl).trans rfl) rfl ?_
  refine WL.pass ((wanted_of rfl rfl rfl).trans rfl) rfl ?_
  refine WL.pickF (v := .bool false) rfl rfl ?_
  refine WL.move (v := .bool false) rfl ?_
  refine WL.pass ((wanted_of rfl rfl rfl).trans rfl) rfl ?_
  refine WL.pass ((wanted_of rfl rfl rfl).trans rfl) rfl ?_
  refine WL.pass ((wanted_of rfl rfl rfl).trans rfl) rfl ?_
  refine WL.pass ((wanted_of rfl rfl rfl).trans rfl) rfl ?_
  refine WL.pickF (v := .bool false) rfl rfl ?_
  refine WL.move (v := .bool false) rfl ?_
  refine WL.pass ((wanted_of rfl rfl rfl).trans rfl) rfl ?_
  refine WL.pass ((wanted_of rfl rfl rfl).trans rfl) rfl ?_
  refine WL.pass ((wanted_of rfl rfl rfl).trans rfl) rfl ?_
  refine WL.pass ((wanted_of rfl rfl rfl).trans rfl) rfl ?_
  refine WL.pickF (v := .bool false) rfl rfl ?_
  refine WL.move (v := .bool false) rfl ?_
  refine WL.pass ((wanted_of rfl rfl rfl).trans rfl) rfl ?_
  refine WL.pass ((wanted_of rfl rfl rfl).trans rfl) rfl ?_
  refine WL.pass ((wanted_of rfl rfl rfl).trans rfl) rfl ?_
  refine WL.pickF (v := .bool false) rfl rfl ?_
  refine WL.assign (v := .bool false) rfl ?_
  refine WL.nil ?_
  exact Jk36 false _ _ rfl ((hs.mask []).pick [8, 9, 10, 11, 12]) hf } }
  {
  refine WL.pass ((wanted_of rfl rfl (bool_tr rfl hc38)).trans rfl) rfl ?_
  refine WL.pickF (v := .bool false) (bool_tr rfl hc38) rfl ?_
  refine WL.move (v := .bool false) rfl ?_
  refine WL.pass ((wanted_of rfl rfl rfl).trans rfl) rfl ?_
  refine WL.pass ((wanted_of rfl rfl rfl).trans rfl) rfl ?_
  refine WL.pickF (v := .bool false) rfl rfl ?_
  refine WL.move (v := .bool false) rfl ?_
  refine WL.pass ((wanted_of rfl rfl rfl).trans rfl) rfl ?_
  refine WL.pass ((wanted_of rfl rfl rfl).trans rfl) rfl ?_
  refine WL.pass ((wanted_of rfl rfl rfl).trans rfl) rfl ?_
  refine WL.pickF (v := .bool false) rfl rfl ?_
  refine WL.move (v := .bool false) rfl ?_
  refine WL.pass ((wanted_of rfl rfl rfl).trans rfl) rfl ?_
  refine WL.pass ((wanted_of rfl rfl rfl).trans rfl) rfl ?_
  refine WL.pass ((wanted_of rfl rfl rfl).trans rfl) rfl ?_
  refine WL.pass ((wanted_of rfl rfl rfl).trans rfl) rfl ?_
  refine WL.pickF (v := .bool false) rfl rfl ?_
  refine WL.move (v := .bool false) rfl ?_
  refine WL.pass ((wanted_of rfl rfl rfl).trans rfl) rfl ?_
  refine WL.pass ((wanted_of rfl rfl rfl).trans rfl) rfl ?_
  refine WL.pass ((wanted_of rfl rfl rfl).trans rfl) rfl ?_
  refine WL.pass ((wanted_of rfl rfl rfl).trans rfl) rfl ?_
  refine WL.pickF (v := .bool false) rfl rfl ?_
  refine WL.move (v := .bool false) rfl ?_
  refine WL.pass ((wanted_of rfl rfl rfl).trans rfl) rfl ?_
  refine WL.pass ((wanted_of rfl rfl rfl).trans rfl) rfl ?_
  refine WL.pass ((wanted_of rfl rfl rfl).trans rfl) rfl ?_
  refine WL.pickF (v := .bool false) rfl rfl ?_
  refine WL.assign (v := .bool false) rfl ?_
  refine WL.nil ?_
  exact Jk36 false _ _ rfl ((hs.mask []).pick [8, 9, 10, 11, 12]) hf } }
  {
  refine WL.pass ((wanted_of rfl rfl (bool_tr rfl hc37)).trans rfl) rfl ?_
  refine WL.pass ((wanted_of rfl rfl (bool_tr rfl hc37)).trans rfl) rfl ?_
  refine WL.pass ((wanted_of rfl rfl (bool_tr rfl hc37)).trans rfl) rfl ?_
  refine WL.pickF (v := .bool false) (bool_tr rfl hc37) rfl ?_
  refine WL.move (v := .bool false) rfl ?_
  refine WL.pass ((wanted_of rfl rfl rfl).trans rfl) rfl ?_
  refine WL.pickF (v := .bool false) rfl rfl ?_
  refine WL.move (v := .bool false) rfl ?_
  refine WL.pass ((wanted_of rfl rfl rfl).trans rfl) rfl ?_
  refine WL.pass ((wanted_of rfl rfl rfl).trans rfl) rfl ?_
  refine WL.pickF (v := .bool false) rfl rfl ?_
  refine WL.move (v := .bool false) rfl ?_
  refine WL.pass ((wanted_of rfl rfl rfl).trans rfl) rfl ?_
  refine WL.pass ((wanted_of rfl rfl rfl).trans rfl) rfl ?_
  refine WL.pass ((wanted_of rfl rfl rfl).trans rfl) rfl ?_
  refine WL.pickF (v := .bool false) rfl rfl ?_
  refine WL.move (v := .bool false) rfl ?_
  refine WL.pass ((wanted_of rfl rfl rfl).trans rfl) rfl ?_
  refine WL.pass ((wanted_of rfl rfl rfl).trans rfl) rfl ?_
  refine WL.pass ((wanted_of rfl rfl rfl).trans rfl) rfl ?_
  refine WL.pass ((wanted_of rfl rfl rfl).trans rfl) rfl ?_
  refine WL.pickF (v := .bool false) rfl rfl ?_
  refine WL.move (v := .bool false) rfl ?_
  refine WL.pass ((wanted_of rfl rfl rfl).trans rfl) rfl ?_
  refine WL.pass ((wanted_of rfl rfl rfl).trans rfl) rfl ?_
  refine WL.pass ((wanted_of rfl rfl rfl).trans rfl) rfl ?_
  refine WL.pass ((wanted_of rfl rfl rfl).trans rfl) rfl ?_
  refine WL.pickF (v := .bool false) rfl rfl ?_
  refine WL.move (v := .bool false) rfl ?_
  refine WL.pass ((wanted_of rfl rfl rfl).trans rfl) rfl ?_
  refine WL.pass ((wanted_of rfl rfl rfl).trans rfl) rfl ?_
  refine WL.pass ((wanted_of rfl rfl rfl).trans rfl) rfl ?_
  refine WL.pickF (v := .bool false) rfl rfl ?_
  refine WL.assign (v := .bool false) rfl ?_
  refine WL.nil ?_
  exact Jk36 false _ _ rfl ((hs.mask []).pick [8, 9, 10, 11, 12]) hf }
theorem eslaw00_Index.calls {ok : Nat → Prop} {w0 : World} {x1 : Int} {x2 : Int}  {r : Int} (hf : eslaw00_Index x1 x2 = some r)  :
    Calls Tryz.prog 13 #[.int .i64 x1, .int .i64 x2] w0 fun e w' => ∃ v, e = .returned v ∧ ∃ y : Unit, v = .int .i64 r ∧ St ok (bz w0) w' [] [] := by
  unfold eslaw00_Index at hf
  refine calls_of_W (fn := Tryz.f13) (N := 14) Tryz.func13 rfl Tryz.ntmps13 rfl ?_
  have hs : St ok (bz w0) w0 [] [] := St.init All.nil
  refine W.seqK fun K3 hK3 => ?_
  refine W.region ?_
  refine WL.assign (v := .int .i64 0) rfl ?_
  refine WL.nil ?_
  refine hK3 _ _ ?_
  refine W.seqK fun K4 hK4 => ?_
  refine W.seqK fun K5 hK5 => ?_
  refine W.region ?_
  refine WL.move (v := .int .i64 x2) rfl ?_
  refine WL.bin (v := .bool (decide (x2 < 1))) rfl rfl (ib_lss _ _ _) ?_
  refine WL.nil ?_
  refine hK5 _ _ ?_
  rcases iteE hf with ⟨hc6, hf⟩ | ⟨hc6, hf⟩
  {
  refine W.cond_true (bool_tr rfl hc6) ?_
  refine W.seqK fun K7 hK7 => ?_
  refine W.region ?_
  refine WL.assign (v := .int .i64 0) rfl ?_
  refine WL.nil ?_
  refine hK7 _ _ ?_
  refine W.ret ?_
  have hr := Option.some.inj hf; subst hr
  exact ⟨_, resOk_one rfl rfl, (), rfl, (hs.mask []).pick []⟩ }
  {
  refine W.cond_false (bool_tr rfl hc6) ?_
  refine W.skip ?_
  refine hK4 _ _ ?_
  refine W.seqK fun K8 hK8 => ?_
  refine W.region ?_
  refine WL.move (v := .int .i64 x1) rfl ?_
  refine WL.move (v := .int .i64 x2) rfl ?_
  obtain ⟨hn9, hf⟩ := guardE hf
  refine WL.bin (v := .int .i64 (Int.tmod x1 x2)) rfl rfl (ib_rem _ _ _ hn9) ?_
  refine WL.move (v := .int .i64 x2) rfl ?_
  obtain ⟨x10, ex10, hf⟩ := letE hf
  refine WL.bin (v := .int .i64 x10) rfl rfl (ib_as ex10 (ib_add _ _ _)) ?_
  refine WL.move (v := .int .i64 x2) rfl ?_
  obtain ⟨hn11, hf⟩ := guardE hf
  refine WL.bin (v := .int .i64 (Int.tmod x10 x2)) rfl rfl (ib_rem _ _ _ hn11) ?_
  refine WL.assign (v := .int .i64 (Int.tmod x10 x2)) rfl ?_
  refine WL.nil ?_
  refine hK8 _ _ ?_
  refine W.ret ?_
  have hr := Option.some.inj hf; subst hr
  exact ⟨_, resOk_one rfl rfl, (), rfl, (hs.mask []).pick []⟩ }
theorem eslaw00_Digit.calls {ok : Nat → Prop} {w0 : World} {x1 : Int} {x2 : Int} {x3 : Int}  {r : Int} (hf : eslaw00_Digit x1 x2 x3 = some r)  :
    Calls Tryz.prog 19 #[.int .i64 x1, .int .i64 x2, .int .i64 x3] w0 fun e w' => ∃ v, e = .returned v ∧ ∃ y : Unit, v = .int .i64 r ∧ St ok (bz w0) w' [] [] := by
  unfold eslaw00_Digit at hf
  refine calls_of_W (fn := Tryz.f19) (N := 22) Tryz.func19 rfl Tryz.ntmps19 rfl ?_
  have hs : St ok (bz w0) w0 [] [] := St.init All.nil
  refine W.seqK fun K4 hK4 => ?_
  refine W.region ?_
  refine WL.assign (v := .int .i64 0) rfl ?_
  refine WL.nil ?_
  refine hK4 _ _ ?_
  refine W.seqK fun K5 hK5 => ?_
  refine W.region ?_
  refine WL.move (v := .int .i64 x1) rfl ?_
  obtain ⟨x6, hxx6, hf⟩ := bindE hf
  refine WL.call (vs := [.int .i64 x1, .int .i64 1099511627776]) hs FN13 ⟨rfl, ⟨rfl, trivial⟩⟩ (fun ok hA => eslaw00_Index.calls (x1 := x1) (x2 := 1099511627776) hxx6) ?_
  rintro _ w hs
  refine WL.assign (v := .int .i64 x6) rfl ?_
  refine WL.nil ?_
  refine hK5 _ _ ?_
  refine W.seqK fun K7 hK7 => ?_
  have Jk10 : ∀ (x9 : Int) (ρ : Env) (w : World), ρ 1 = .int .i64 x2 → ρ 7 = .int .i64 x9 → St ok (bz w0) w [] [] → eslaw00_Digit.j1 x2 x9 = some r → K7 ρ w := by
    intro x9 ρ w h8_1 h8_7 hs hf
    refine hK7 _ _ ?_
    unfold eslaw00_Digit.j1 at hf
    refine W.seqK fun K11 hK11 => ?_
    refine W.region ?_
    refine WL.move (v := .int .i64 x9) h8_7 ?_
    refine WL.move (v := .int .i64 x2) h8_1 ?_
    obtain ⟨hn12, hf⟩ := guardE hf
    refine WL.bin (v := .int .i64 (Int.tmod x9 x2)) rfl rfl (ib_rem _ _ _ hn12) ?_
    refine WL.assign (v := .int .i64 (Int.tmod x9 x2)) rfl ?_
    refine WL.nil ?_
    refine hK11 _ _ ?_
    refine W.ret ?_
    have hr := Option.some.inj hf; subst hr
    exact ⟨_, resOk_one rfl rfl, (), rfl, (hs.mask []).pick []⟩
  refine W.seqK fun K13 hK13 => ?_
  refine W.region ?_
  refine WL.assign (v := .int .i64 0) rfl ?_
  refine WL.nil ?_
  refine hK13 _ _ ?_
  refine W.block ?_
  obtain ⟨bs17, hbs17, hfs17⟩ := bindE hf
  refine W.loop hbs17 (fun s ρ w => match s with | (x15, x16) => ρ 1 = .int .i64 x2 ∧ ρ 2 = .int .i64 x3 ∧ ρ 7 = .int .i64 x15 ∧ ρ 8 = .int .i64 x16 ∧ St ok (bz w0) w [] []) ⟨rfl, rfl, rfl, rfl, (hs.mask []).pick []⟩ ?_
  intro s ρ w os17 hI hf hbbs17
  obtain ⟨x15, x16⟩ := s
  obtain ⟨h14_1, h14_2, h14_7, h14_8, hs⟩ := hI
  unfold eslaw00_Digit.l1 at hf
  refine W.seqK fun K18 hK18 => ?_
  refine W.seqK fun K19 hK19 => ?_
  refine W.region ?_
  refine WL.move (v := .int .i64 x16) h14_8 ?_
  refine WL.move (v := .int .i64 x3) h14_2 ?_
  refine WL.bin (v := .bool (decide (x16 < x3))) rfl rfl (ib_lss _ _ _) ?_
  refine WL.nil ?_
  refine hK19 _ _ ?_
  rcases iteE hf with ⟨hc20, hf⟩ | ⟨hc20, hf⟩
  {
  refine W.cond_true (bool_tr rfl hc20) ?_
  refine W.skip ?_
  refine hK18 _ _ ?_
  refine W.seqK fun K21 hK21 => ?_
  refine W.block ?_
  refine W.region ?_
  refine WL.move (v := .int .i64 x15) h14_7 ?_
  refine WL.move (v := .int .i64 x2) h14_1 ?_
  obtain ⟨hn23, hf⟩ := guardE hf
  obtain ⟨x22, ex22, hf⟩ := letE hf
  refine WL.bin (v := .int .i64 x22) rfl rfl (ib_as ex22 (ib_quo _ _ _ hn23)) ?_
  refine WL.assign (v := .int .i64 x22) rfl ?_
  refine WL.nil ?_
  refine hK21 _ _ ?_
  refine W.region ?_
  refine WL.move (v := .int .i64 x16) h14_8 ?_
  obtain ⟨x24, ex24, hf⟩ := letE hf
  refine WL.bin (v := .int .i64 x24) rfl rfl (ib_as ex24 (ib_add _ _ _)) ?_
  refine WL.assign (v := .int .i64 x24) rfl ?_
  refine WL.nil ?_
  exact ⟨_, (Option.some.inj hf).symm, h14_1, h14_2, rfl, rfl, (hs.mask []).pick []⟩ }
  {
  refine W.cond_false (bool_tr rfl hc20) ?_
  refine W.exit ?_
  have hr := Option.some.inj hf; subst hr
  have hr := hbbs17 _ rfl; subst hr
  have hf := hfs17
  exact Jk10 x15 _ _ h14_1 h14_7 ((hs.mask []).pick []) hf }
theorem network_Partition.calls {ok : Nat → Prop} {w0 : World} {x1 : network_Network} {x5 : List network_Side} {v2 : Value} {a6 : Option Addr} {c7 : Nat} {r : network_Network} (hf : network_Partition x1 x5 = some r) (i0 : (vl t_network_Network x1 v2).holds ok w0) (i1 : (vl (tSlice t_network_Side) x5 (.slice a6 x5.length c7)).holds ok w0) :
    Calls Tryz.prog 20 #[v2, .slice a6 x5.length c7] w0 fun e w' => ∃ v, e = .returned v ∧ ∃ y : (Option Addr × Nat × Nat) × (Option Addr × Nat × Nat), v = .agg ([.int .i64 r.Next, .slice y.1.1 y.1.2.1 y.1.2.2, .slice y.2.1 y.2.2.1 y.2.2.2] : List Value).toArray ∧ St ok (bz w0) w' [] [own t_network_Packet 66 (.slice y.1.1 y.1.2.1 y.1.2.2) r.Packets, own t_network_Side 63 (.slice y.2.1 y.2.2.1 y.2.2.2) r.Sides] := by
  unfold network_Partition at hf
  refine calls_of_W (fn := Tryz.f20) (N := 47) Tryz.func20 rfl Tryz.ntmps20 rfl ?_
  have hs : St ok (bz w0) w0 [vl t_network_Network x1 v2, vl (tSlice t_network_Side) x5 (.slice a6 x5.length c7)] [] := St.init (All.cons i0 (All.cons i1 All.nil))
  clear i0 i1
  obtain ⟨cs3, hl4, rfl⟩ := hs.aggv (n := 3) 0 rfl rfl rfl
  refine W.seqK fun K8 hK8 => ?_
  refine W.region ?_
  obtain ⟨a10, c11, a12, c13, rfl⟩ := open_network_Network hs 0 rfl
  have hs := hs.add (it := vl (tSlice t_network_Packet) x1.Packets (.slice a10 (x1.Packets).length c11)) fun ok hA => V_fld F_network_Network_Packets (hA.get 0 rfl) rfl rfl rfl
  have hs := hs.add (it := vl (tSlice t_network_Side) x1.Sides (.slice a12 (x1.Sides).length c13)) fun ok hA => V_fld F_network_Network_Sides (hA.get 1 rfl) rfl rfl rfl
  refine WL.box (vs := [.int .i64 x1.Next, .slice a10 (x1.Packets).length c11, .slice a12 (x1.Sides).length c13]) hs rfl rfl (fun g9 w hs => ?_)
  refine WL.alloc hs ZV28 (fun g14 w hs => ?_)
  refine WL.nil ?_
  refine hK8 _ _ ?_
  refine W.seqK fun K15 hK15 => ?_
  refine W.region ?_
  refine WL.loadN (vs := [.int .i64 x1.Next, .slice a10 (x1.Packets).length c11, .slice a12 (x1.Sides).length c13]) hs 1 rfl TI28 rfl rfl rfl ?_
  have hs := hs.add (it := vl t_network_Network (⟨x1.Next, x1.Packets, x1.Sides⟩ : network_Network) (.agg [.int .i64 x1.Next, .slice a10 (x1.Packets).length c11, .slice a12 (x1.Sides).length c13].toArray)) fun ok hA => V_agg (show t_network_Network.R ok _ _ _ from ⟨[.int .i64 x1.Next], [.slice a10 (x1.Packets).length c11, .slice a12 (x1.Sides).length c13], rfl, rfl, ⟨[.slice a10 (x1.Packets).length c11], [.slice a12 (x1.Sides).length c13], rfl, (R_one (hA.get 1 rfl)), (R_one (hA.get 0 rfl))⟩⟩) rfl
  obtain ⟨x16, hxx16, hf⟩ := bindE hf
  refine WL.call (vs := [.agg ([.int .i64 x1.Next, .slice a10 (x1.Packets).length c11, .slice a12 (x1.Sides).length c13] : List Value).toArray]) hs FN31 ⟨rfl, trivial⟩ (fun ok hA => network_clone.calls (x1 := (⟨x1.Next, x1.Packets, x1.Sides⟩ : network_Network)) hxx16 (hA.get 0 rfl)) ?_
  rintro ⟨⟨a17, n18, c19⟩, ⟨a20, n21, c22⟩⟩ w hs
  refine WL.storeAll (vs := [.int .i64 x16.Next, .slice a17 n18 c19, .slice a20 n21 c22]) hs 3 rfl TI28 rfl rfl rfl rfl (ones_of rfl) rfl (fun w hs => ?_)
  refine WL.nil ?_
  refine hK15 _ _ ?_
  refine W.seqK fun K23 hK23 => ?_
  refine W.region ?_
  refine WL.makeMap (fun a : Int => .int .i64 a) (tInt .i64) hs (fun g24 w hs => ?_)
  refine WL.assign (v := .map (some g24)) rfl ?_
  refine WL.nil ?_
  refine hK23 _ _ ?_
  refine W.seqK fun K25 hK25 => ?_
  have Jk28 : ∀ (x26 : List (Int × Int)) (ρ : Env) (w : World), ρ 2 = .pointer (some ⟨g9, 0, none⟩) → ρ 4 = .pointer (some ⟨g14, 0, none⟩) → ρ 5 = .map (some g24) → St ok (bz w0) w [] [mapo (fun a : Int => .int .i64 a) (tInt .i64) g24 x26, own t_network_Packet 66 (.slice a17 n18 c19) x16.Packets, own t_network_Side 63 (.slice a20 n21 c22) x16.Sides, blk g14 28 [.int .i64 0, .slice none 0 0, .slice none 0 0], blk g9 28 [.int .i64 x16.Next, .slice a17 n18 c19, .slice a20 n21 c22]] → network_Partition.j2 x16 x26 = some r → K25 ρ w := by
    intro x26 ρ w h27_2 h27_4 h27_5 hs hf
    refine hK25 _ _ ?_
    unfold network_Partition.j2 at hf
    refine W.seqK fun K29 hK29 => ?_
    refine W.region ?_
    refine WL.fieldAddr (m := 2) h27_2 FA28_2 rfl ?_
    refine WL.store (vs := [.slice none 0 0]) (cs' := [.int .i64 x16.Next, .slice a17 n18 c19, .slice none 0 0]) hs 4 rfl TI26 rfl rfl rfl rfl (ones_of rfl) (Nat.le_of_ble_eq_true rfl) rfl (fun w hs => ?_)
    refine WL.nil ?_
    refine hK29 _ _ ?_
    refine W.seqK fun K30 hK30 => ?_
    have hs := hs.ownNil t_network_Side 63
    have Jk36 : ∀ (x32 : List network_Side) (a33 : Option Addr) (c34 : Nat) (n35 : Nat) (ρ : Env) (w : World), ρ 2 = .pointer (some ⟨g9, 0, none⟩) → ρ 4 = .pointer (some ⟨g14, 0, none⟩) → St ok (bz w0) w [] [own t_network_Side 63 (.slice a33 n35 c34) x32, own t_network_Packet 66 (.slice a17 n18 c19) x16.Packets, blk g14 28 [.int .i64 0, .slice none 0 0, .slice none 0 0], blk g9 28 [.int .i64 x16.Next, .slice a17 n18 c19, .slice a33 n35 c34]] → network_Partition.j1 x16 x32 = some r → K30 ρ w := by
      intro x32 a33 c34 n35 ρ w h31_2 h31_4 hs hf
      refine hK30 _ _ ?_
      unfold network_Partition.j1 at hf
      refine W.seqK fun K37 hK37 => ?_
      refine W.region ?_
      refine WL.fieldAddr (m := 2) h31_2 FA28_2 rfl ?_
      refine WL.load1 (v := .slice a33 n35 c34) hs 3 rfl TI26 rfl rfl ?_
      obtain ⟨x38, hxx38, hf⟩ := bindE hf
      have hs := hs.front 0 rfl
      refine WL.callO (vs := [.slice a33 n35 c34, .func (.func 35) #[] #[]]) [own t_network_Side 63 (.slice a33 n35 c34) x32] (Λb := [own t_network_Packet 66 (.slice a17 n18 c19) x16.Packets, blk g14 28 [.int .i64 0, .slice none 0 0, .slice none 0 0], blk g9 28 [.int .i64 x16.Next, .slice a17 n18 c19, .slice a33 n35 c34]]) hs FN34 ⟨rfl, ⟨rfl, trivial⟩⟩ (fun ok F hs => slices_SortFunc_Side.calls (a0 := a33) (n0 := n35) (c0 := c34) (x1 := x32) hxx38 (hs.pick [])) ?_
      rintro _ w hs
      refine WL.nil ?_
      refine hK37 _ _ ?_
      refine W.seqK fun K39 hK39 => ?_
      refine W.region ?_
      refine WL.loadN (vs := [.int .i64 x16.Next, .slice a17 n18 c19, .slice a33 n35 c34]) hs 3 rfl TI28 h31_2 rfl rfl ?_
      refine WL.storeAll (vs := [.int .i64 x16.Next, .slice a17 n18 c19, .slice a33 n35 c34]) hs 2 rfl TI28 h31_4 rfl rfl rfl (ones_of rfl) rfl (fun w hs => ?_)
      refine WL.nil ?_
      refine hK39 _ _ ?_
      refine W.ret ?_
      have hr := Option.some.inj hf; subst hr
      have hs := hs.front 0 rfl
      have hs := hs.front 1 rfl
      exact ⟨_, resOk_one rfl (res_all hs 2 rfl TI28 h31_4 rfl), ((a17, n18, c19), (a33, n35, c34)), rfl, (hs.mask [true, true]).pick []⟩
    refine W.seqK fun K40 hK40 => ?_
    refine W.region ?_
    refine WL.move (v := .map (some g24)) h27_5 ?_
    have hf := permE hf
    refine WL.range hs 1 rfl UN84 rfl (fun r41 w hs => ?_)
    refine WL.nil ?_
    refine hK40 _ _ ?_
    refine W.block ?_
    refine W.loopR hf (fun lf s ρ w => match s with | x44 => ∃ (a45 : Option Addr), ∃ (c46 : Nat), ∃ (n47 : Nat), ρ 2 = .pointer (some ⟨g9, 0, none⟩) ∧ ρ 4 = .pointer (some ⟨g14, 0, none⟩) ∧ ρ 27 = .pointer (some ⟨r41, 0, none⟩) ∧ St ok (bz w0) w [] [own t_network_Side 63 (.slice a45 n47 c46) x44, rng (fun a : Int => .int .i64 a) (tInt .i64) g24 r41 x26 lf none, own t_network_Packet 66 (.slice a17 n18 c19) x16.Packets, blk g14 28 [.int .i64 0, .slice none 0 0, .slice none 0 0], blk g9 28 [.int .i64 x16.Next, .slice a17 n18 c19, .slice a45 n47 c46]]) ⟨none, 0, 0, h27_2, h27_4, rfl, (hs.mask [true, true, true, false, true, true]).pick []⟩ ?_
    intro lf x44 ρ w hI hNs48 hCs48
    obtain ⟨a45, c46, n47, h43_2, h43_4, h43_27, hs⟩ := hI
    refine W.seqK fun K51 hK51 => ?_
    refine W.region ?_
    refine WL.next hs 1 rfl h43_27 (fun hL => ?_) (fun x49 x50 lf2s48 v53 w hPs48 hs => ?_)
    {
    have hf : network_Partition.j1 x16 x44 = some r := hNs48 hL
    have hs := hs.unrng 1 rfl
    refine WL.extract (v := .bool false) rfl rfl ?_
    refine WL.nil ?_
    refine hK51 _ _ ?_
    refine W.seqK fun K52 hK52 => ?_
    refine W.cond_false rfl ?_
    refine W.exit ?_
    exact Jk36 x44 a45 c46 n47 _ _ h43_2 h43_4 ((hs.mask [true, false, true, true, true]).pick []) hf }
    {
    obtain ⟨os48, hSs48, hBs48⟩ := hCs48 _ _ hPs48
    have hf : network_Partition.l1 x49 x50 x44 = some os48 := hSs48
    unfold network_Partition.l1 at hf
    refine WL.extract (v := .bool true) rfl rfl ?_
    refine WL.nil ?_
    refine hK51 _ _ ?_
    refine W.seqK fun K54 hK54 => ?_
    refine W.cond_true rfl ?_
    refine W.skip ?_
    refine hK54 _ _ ?_
    refine W.block ?_
    refine W.seqK fun K55 hK55 => ?_
    refine W.region ?_
    refine WL.entry hs 1 rfl h43_27 (fun v56 hs => ?_)
    obtain rfl := hs.int 0 rfl
    have hs := hs.rngF 1 rfl
    refine WL.extract (v := .int .i64 x49) rfl rfl ?_
    refine WL.extract (v := .int .i64 x50) rfl rfl ?_
    refine WL.assign (v := .int .i64 x49) rfl ?_
    refine WL.assign (v := .int .i64 x50) rfl ?_
    refine WL.nil ?_
    refine hK55 _ _ ?_
    refine W.seqK fun K57 hK57 => ?_
    refine W.region ?_
    refine WL.move (v := .int .i64 x50) rfl ?_
    refine WL.bin (v := .bool (x50 != 0)) rfl rfl (ib_neq _ _ _) ?_
    refine WL.nil ?_
    refine hK57 _ _ ?_
    rcases iteE hf with ⟨hc58, hf⟩ | ⟨hc58, hf⟩
    {
    refine W.cond_true (bool_tr rfl hc58) ?_
    refine W.region ?_
    refine WL.fieldAddr (m := 2) h43_2 FA28_2 rfl ?_
    refine WL.load1 (v := .slice a45 n47 c46) hs 4 rfl TI26 rfl rfl ?_
    refine WL.move (v := .int .i64 x49) rfl ?_
    refine WL.move (v := .int .i64 x50) rfl ?_
    refine WL.build (vs := [(0, .int .i64 x49), (1, .int .i64 x50)]) (cs := [.int .i64 x49, .int .i64 x50]) ⟨⟨rfl, rfl⟩, ⟨⟨rfl, rfl⟩, trivial⟩⟩ (bld PL63 rfl) ?_
    refine WL.buildSlice (n := 1) (vs := [(0, .agg ([.int .i64 x49, .int .i64 x50] : List Value).toArray)]) (cs := [.int .i64 x49, .int .i64 x50]) hs ⟨⟨rfl, rfl⟩, trivial⟩ (bls PS26 (by decide) rfl) (fun g59 w hs => ?_)
    obtain ⟨x60, hxx60, hf⟩ := bindE hf
    obtain ⟨hbx60, hex60⟩ := appE hxx60
    refine WL.append (ys := [(⟨x49, x50⟩ : network_Side)]) (zs := x60) hs 1 rfl 0 rfl UN26 EI63 rfl rfl (fun ok hA => (Cells.one (T := t_network_Side) (show t_network_Side.R ok _ (⟨x49, x50⟩ : network_Side) _ from ⟨[.int .i64 x49], [.int .i64 x50], rfl, rfl, rfl⟩))) hbx60 (by omega) hex60 (fun v61 w hs => ?_)
    obtain ⟨a62, n64, c63, rfl⟩ := hs.ownv3 1 rfl
    refine WL.fieldAddr (m := 2) h43_2 FA28_2 rfl ?_
    refine WL.store (vs := [.slice a62 n64 c63]) (cs' := [.int .i64 x16.Next, .slice a17 n18 c19, .slice a62 n64 c63]) hs 5 rfl TI26 rfl rfl rfl rfl (ones_of rfl) (Nat.le_of_ble_eq_true rfl) rfl (fun w hs => ?_)
    refine WL.nil ?_
    have hr := Option.some.inj hf; subst hr
    exact ⟨_, _, _, hPs48, hSs48, a62, c63, n64, h43_2, h43_4, h43_27, (hs.mask [false, true, true, true, true, true]).pick []⟩ }
    {
    refine W.cond_false (bool_tr rfl hc58) ?_
    refine W.skip ?_
    have hr := Option.some.inj hf; subst hr
    exact ⟨_, _, _, hPs48, hSs48, a45, c46, n47, h43_2, h43_4, h43_27, (hs.mask [true, true, true, true, true]).pick []⟩ } }
  refine W.seqK fun K65 hK65 => ?_
  refine W.region ?_
  refine WL.move (v := .slice a6 x5.length c7) rfl ?_
  refine WL.len (v := .slice a6 x5.length c7) rfl (len_slice UN26) ?_
  refine WL.move (v := .int .i64 0) rfl ?_
  refine WL.nil ?_
  refine hK65 _ _ ?_
  refine W.block ?_
  obtain ⟨bs69, hbs69, hfs69⟩ := bindE hf
  refine W.loop hbs69 (fun s ρ w => match s with | (x66, x68) => ρ 2 = .pointer (some ⟨g9, 0, none⟩) ∧ ρ 4 = .pointer (some ⟨g14, 0, none⟩) ∧ ρ 5 = .map (some g24) ∧ ρ 13 = .slice a6 x5.length c7 ∧ ρ 14 = .int .i64 (x5.length : Int) ∧ ρ 15 = .int .i64 x68 ∧ St ok (bz w0) w [vl (tSlice t_network_Side) x5 (.slice a6 x5.length c7)] [mapo (fun a : Int => .int .i64 a) (tInt .i64) g24 x66, own t_network_Packet 66 (.slice a17 n18 c19) x16.Packets, own t_network_Side 63 (.slice a20 n21 c22) x16.Sides, blk g14 28 [.int .i64 0, .slice none 0 0, .slice none 0 0], blk g9 28 [.int .i64 x16.Next, .slice a17 n18 c19, .slice a20 n21 c22]]) ⟨rfl, rfl, rfl, rfl, rfl, rfl, (hs.mask [true, true, true, true, true]).pick [4]⟩ ?_
  intro s ρ w os69 hI hf hbbs69
  obtain ⟨x66, x68⟩ := s
  obtain ⟨h67_2, h67_4, h67_5, h67_13, h67_14, h67_15, hs⟩ := hI
  unfold network_Partition.l2 at hf
  refine W.seqK fun K70 hK70 => ?_
  refine W.region ?_
  refine WL.bin (v := .bool (decide (x68 < (x5.length : Int)))) h67_15 h67_14 (ib_lss _ _ _) ?_
  refine WL.nil ?_
  refine hK70 _ _ ?_
  refine W.seqK fun K71 hK71 => ?_
  rcases iteE hf with ⟨hc72, hf⟩ | ⟨hc72, hf⟩
  {
  refine W.cond_true (bool_tr rfl hc72) ?_
  refine W.skip ?_
  refine hK71 _ _ ?_
  refine W.seqK fun K73 hK73 => ?_
  refine W.block ?_
  refine W.seqK fun K74 hK74 => ?_
  refine W.region ?_
  obtain ⟨x75, hxx75, hf⟩ := bindE hf
  refine WL.indexAddr hs 0 rfl UN26 TI63 h67_13 h67_15 hxx75 (fun ad76 hs => ?_)
  refine WL.loadP hs 0 rfl TI63 (.inl rfl) rfl (fun v77 hs => ?_)
  obtain ⟨cs78, hl79, rfl⟩ := hs.aggv (n := 2) 0 rfl rfl rfl
  refine WL.alloc hs ZV63 (fun g80 w hs => ?_)
  refine WL.storeAll (vs := cs78) hs 0 rfl TI63 rfl rfl rfl hl79 (hs.ones 0 rfl rfl) rfl (fun w hs => ?_)
  refine WL.nil ?_
  refine hK74 _ _ ?_
  refine W.region ?_
  refine WL.move (v := .map (some g24)) h67_5 ?_
  refine WL.fieldAddr (m := 0) rfl FA63_0 rfl ?_
  refine WL.loadF (z := x75.Process) F_network_Side_Process hs 0 rfl 0 rfl rfl TI3 (.inr rfl) rfl rfl (fun v81 hs => ?_)
  obtain rfl := hs.int 0 rfl
  refine WL.fieldAddr (m := 1) rfl FA63_1 rfl ?_
  refine WL.loadF (z := x75.Side) F_network_Side_Side hs 0 rfl 1 rfl rfl TI3 (.inr rfl) rfl rfl (fun v82 hs => ?_)
  obtain rfl := hs.int 0 rfl
  obtain ⟨x83, exx83, hf⟩ := letE hf
  refine WL.mapUpdate (a := x75.Process) (y := x75.Side) (v := .int .i64 x75.Side) hs 1 rfl (kkInt UN3) UN84 rfl rfl rfl (fun ok hA => tInt_V.2 rfl) exx83 (fun w hs => ?_)
  refine WL.nil ?_
  refine hK73 _ _ ?_
  refine W.region ?_
  obtain ⟨x84, ex84, hf⟩ := letE hf
  refine WL.bin (v := .int .i64 x84) h67_15 rfl (ib_as ex84 (ib_add _ _ _)) ?_
  refine WL.move (v := .int .i64 x84) rfl ?_
  refine WL.nil ?_
  exact ⟨_, (Option.some.inj hf).symm, h67_2, h67_4, h67_5, h67_13, h67_14, rfl, (hs.mask [false, true, true, true, true, true]).pick [4]⟩ }
  {
  refine W.cond_false (bool_tr rfl hc72) ?_
  refine W.exit ?_
  have hr := Option.some.inj hf; subst hr
  have hr := hbbs69 _ rfl; subst hr
  have hf := hfs69
  exact Jk28 x66 _ _ h67_2 h67_4 h67_5 ((hs.mask [true, true, true, true, true]).pick []) hf }
theorem network_Partition.callc {ok : Nat → Prop} {w0 : World} {x1 : network_Network} {x5 : List network_Side} {v2 : Value} {a6 : Option Addr} {c7 : Nat} {r : network_Network} (hf : network_Partition x1 x5 = some r) (i0 : (vl t_network_Network x1 v2).holds ok w0) (i1 : (vl (tSlice t_network_Side) x5 (.slice a6 x5.length c7)).holds ok w0) :
    Calls Tryz.prog 20 #[v2, .slice a6 x5.length c7] w0 fun e w' => ∃ v, e = .returned v ∧ ∃ y : List Value, v = .agg y.toArray ∧ St ok (bz w0) w' [vl t_network_Network r (.agg y.toArray)] [] := by
  refine (network_Partition.calls (ok := ok) (w0 := w0) (x1 := x1) (x5 := x5) hf i0 i1).mono ?_
  rintro e w' ⟨v, rfl, ⟨⟨a86, n87, c88⟩, ⟨a89, n90, c91⟩⟩, rfl, hs⟩
  obtain rfl := hs.ownLen 0 rfl
  have hs := hs.freezeOwn 0 rfl
  obtain rfl := hs.ownLen 0 rfl
  have hs := hs.freezeOwn 0 rfl
  have hs := hs.add (it := vl t_network_Network (⟨r.Next, r.Packets, r.Sides⟩ : network_Network) (.agg [.int .i64 r.Next, .slice a86 (r.Packets).length c88, .slice a89 (r.Sides).length c91].toArray)) fun ok hA => V_agg (show t_network_Network.R ok _ _ _ from ⟨[.int .i64 r.Next], [.slice a86 (r.Packets).length c88, .slice a89 (r.Sides).length c91], rfl, rfl, ⟨[.slice a86 (r.Packets).length c88], [.slice a89 (r.Sides).length c91], rfl, (R_one (hA.get 1 rfl)), (R_one (hA.get 0 rfl))⟩⟩) rfl
  exact ⟨_, rfl, [.int .i64 r.Next, .slice a86 (r.Packets).length c88, .slice a89 (r.Sides).length c91], rfl, hs.pick [0]⟩
end Go.Proofs.YthcohhpmpdijoaaGreatDoor
