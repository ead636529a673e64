/- What the row leans on, as few texts. -/
import Derived.Test.YthcohhpmpdijoaaDoorQAT1
import Derived.Test.YthcohhpmpdijoaaDoorQAT0
import Derived.Test.YthcohhpmpdijoaaDoorQAT2
import Derived.Lib.Join
import Derived.Lib.ItoaNum
import Derived.Lib.SplitLaws
import Derived.Lib.CountLaws
import Derived.HandedShaped
import Derived.LaidLaws
import Derived.Shelf.Vars
import Derived.FnData
import Derived.Test.YthcohhpmpdijoaaDoorRows
import Derived.LaidByTextLater
import Derived.SevenTiedAt
import Derived.LaidSub
import Derived.LaidOnce
set_option linter.unusedVariables false
set_option linter.unusedSimpArgs false
namespace Go.Proofs.YthcohhpmpdijoaaDoor
open Go Go.RowKit Go.Proofs.YthcohhpmpdijoaaDoorL
set_option maxRecDepth 100000
set_option maxHeartbeats 4000000
theorem eslaw36_AdversaryText.calls {ok : Nat → Prop} {w0 : World} {x1 : List Int} {x4 : Int} {x5 : Int} {x6 : List UInt8} {a2 : Option Addr} {c3 : Nat} {mxl : Int} {r : Bool} (hf : eslaw36_AdversaryText x1 x4 x5 x6 = some r) (i0 : (vl (tSlice (tInt .i64)) x1 (.slice a2 x1.length c3)).holds ok w0) (i1 : (pl (tSlice tStr) words_ (⟨0, 0, none⟩)).holds ok w0) (i2 : (vl (tTab Tryd.prog "internal/strconv.uint64pow10" 1 GN1 Go.Lib.pow10Tab) () (.int .i64 0)).holds ok w0) (i3 : (pl (tInt .i64) mxl (⟨2, 0, none⟩)).holds ok w0) (i4 : (pl tErr true (⟨3, 0, none⟩)).holds ok w0) (i5 : (pl tErr true (⟨4, 0, none⟩)).holds ok w0) :
    Calls Tryd.prog 3 #[.slice a2 x1.length c3, .int .i64 x4, .int .i64 x5, bstr x6] w0 fun e w' => ∃ v, e = .returned v ∧ ∃ y : Unit, v = .bool r ∧ St ok (bz w0) w' [] [] := by
  unfold eslaw36_AdversaryText at hf
  refine calls_of_W (fn := Tryd.f3) (N := 146) Tryd.func3 rfl Tryd.ntmps3 rfl ?_
  have hs : St ok (bz w0) w0 [vl (tSlice (tInt .i64)) x1 (.slice a2 x1.length c3), pl (tSlice tStr) words_ (⟨0, 0, none⟩), vl (tTab Tryd.prog "internal/strconv.uint64pow10" 1 GN1 Go.Lib.pow10Tab) () (.int .i64 0), pl (tInt .i64) mxl (⟨2, 0, none⟩), pl tErr true (⟨3, 0, none⟩), pl tErr true (⟨4, 0, none⟩)] [] := St.init (All.cons i0 (All.cons i1 (All.cons i2 (All.cons i3 (All.cons i4 (All.cons i5 All.nil))))))
  clear i0 i1 i2 i3 i4 i5
  refine W.seqK fun K7 hK7 => ?_
  refine W.region ?_
  refine WL.assign (v := .bool false) rfl ?_
  refine WL.nil ?_
  refine hK7 _ _ ?_
  refine W.seqK fun K8 hK8 => ?_
  refine W.seqK fun K9 hK9 => ?_
  refine W.region ?_
  refine WL.move (v := bstr x6) rfl ?_
  refine WL.len (v := bstr x6) rfl (len_string UN9) ?_
  refine WL.bin (v := .bool (decide (20 < (x6.length : Int)))) rfl rfl (ib_gtr _ _ _) ?_
  refine WL.nil ?_
  refine hK9 _ _ ?_
  rcases iteE hf with ⟨hc10, hf⟩ | ⟨hc10, hf⟩
  {
  refine W.cond_true (bool_tr rfl hc10) ?_
  refine W.seqK fun K11 hK11 => ?_
  refine W.region ?_
  obtain ⟨x12, hxx12, hf⟩ := bindE hf
  refine WL.call (vs := []) hs FN4 trivial (fun ok hA => eslaw36_awake.calls hxx12 (hA.get 1 rfl) (hA.get 2 rfl) (hA.get 3 rfl) (hA.get 4 rfl) (hA.get 5 rfl)) ?_
  rintro _ w hs
  refine WL.assign (v := .bool x12) rfl ?_
  refine WL.nil ?_
  refine hK11 _ _ ?_
  refine W.ret ?_
  have hr := Option.some.inj hf; subst hr
  exact ⟨_, resOk_one rfl rfl, (), rfl, (hs.mask []).pick []⟩ }
  {
  refine W.cond_false (bool_tr rfl hc10) ?_
  refine W.skip ?_
  refine hK8 _ _ ?_
  refine W.seqK fun K13 hK13 => ?_
  refine W.region ?_
  refine WL.move (v := .slice a2 x1.length c3) rfl ?_
  obtain ⟨x14, hxx14, hf⟩ := bindE hf
  refine WL.call (vs := [.slice a2 x1.length c3]) hs FN5 ⟨rfl, trivial⟩ (fun ok hA => eslaw36_Rules.calls (x1 := x1) hxx14 (hA.get 0 rfl)) ?_
  rintro ⟨a15, n16, c17⟩ w hs
  refine WL.assign (v := .slice a15 n16 c17) rfl ?_
  refine WL.nil ?_
  refine hK13 _ _ ?_
  refine W.seqK fun K18 hK18 => ?_
  refine W.region ?_
  refine WL.move (v := .slice a15 n16 c17) rfl ?_
  obtain ⟨x19, hxx19, hf⟩ := bindE hf
  refine WL.callL (vs := [.slice a15 x14.length c17]) hs FN6 ⟨(Eq.trans rfl (sl_len (hs.ownLen 0 rfl))), trivial⟩ (adversary_Format.calls (x1 := x14) hxx19 (hs.ownN 0 rfl) (hs.allT.get 1 rfl) (hs.allT.get 2 rfl)) ?_
  rintro _ w hs
  refine WL.assign (v := bstr x19) rfl ?_
  refine WL.nil ?_
  refine hK18 _ _ ?_
  refine W.seqK fun K20 hK20 => ?_
  refine W.seqK fun K21 hK21 => ?_
  refine W.region ?_
  refine WL.move (v := bstr x19) rfl ?_
  refine WL.move (v := .slice a15 n16 c17) rfl ?_
  obtain ⟨x22, hxx22, hf⟩ := bindE hf
  refine WL.callL (vs := [.slice a15 x14.length c17]) hs FN7 ⟨(Eq.trans rfl (sl_len (hs.ownLen 0 rfl))), trivial⟩ (esref36_Format.calls (x1 := x14) hxx22 (hs.ownN 0 rfl)) ?_
  rintro _ w hs
  refine WL.binS (v := .bool (x19 != x22)) rfl rfl (sb_neq _ _) ?_
  refine WL.nil ?_
  refine hK21 _ _ ?_
  rcases iteE hf with ⟨hc23, hf⟩ | ⟨hc23, hf⟩
  {
  refine W.cond_true (bool_tr rfl hc23) ?_
  refine W.seqK fun K24 hK24 => ?_
  refine W.region ?_
  refine WL.assign (v := .bool false) rfl ?_
  refine WL.nil ?_
  refine hK24 _ _ ?_
  refine W.ret ?_
  have hr := Option.some.inj hf; subst hr
  exact ⟨_, resOk_one rfl rfl, (), rfl, (hs.mask []).pick []⟩ }
  {
  refine W.cond_false (bool_tr rfl hc23) ?_
  refine W.skip ?_
  refine hK20 _ _ ?_
  refine W.seqK fun K25 hK25 => ?_
  have Jk27 : ∀  (ρ : Env) (w : World), ρ 1 = .int .i64 x4 → ρ 2 = .int .i64 x5 → ρ 3 = bstr x6 → ρ 10 = bstr x19 → St ok (bz w0) w [pl (tSlice tStr) words_ (⟨0, 0, none⟩), vl (tTab Tryd.prog "internal/strconv.uint64pow10" 1 GN1 Go.Lib.pow10Tab) () (.int .i64 0), pl (tInt .i64) mxl (⟨2, 0, none⟩), pl tErr true (⟨3, 0, none⟩), pl tErr true (⟨4, 0, none⟩)] [] → eslaw36_AdversaryText.j4 x4 x5 x6 x19 = some r → K25 ρ w := by
    intro  ρ w h26_1 h26_2 h26_3 h26_10 hs hf
    refine hK25 _ _ ?_
    unfold eslaw36_AdversaryText.j4 at hf
    refine W.seqK fun K28 hK28 => ?_
    refine W.region ?_
    refine WL.move (v := .int .i64 x5) h26_2 ?_
    refine WL.move (v := bstr x19) h26_10 ?_
    refine WL.len (v := bstr x19) rfl (len_string UN9) ?_
    obtain ⟨x29, ex29, hf⟩ := letE hf
    refine WL.bin (v := .int .i64 x29) rfl rfl (ib_as ex29 (ib_add _ _ _)) ?_
    obtain ⟨x30, hxx30, hf⟩ := bindE hf
    refine WL.call (vs := [.int .i64 x5, .int .i64 x29]) hs FN10 ⟨rfl, ⟨rfl, trivial⟩⟩ (fun ok hA => eslaw00_Index.calls (x1 := x5) (x2 := x29) hxx30) ?_
    rintro _ w hs
    refine WL.assign (v := .int .i64 x30) rfl ?_
    refine WL.nil ?_
    refine hK28 _ _ ?_
    refine W.seqK fun K31 hK31 => ?_
    have Jk34 : ∀ (x33 : List UInt8) (ρ : Env) (w : World), ρ 10 = bstr x33 → St ok (bz w0) w [pl (tSlice tStr) words_ (⟨0, 0, none⟩), vl (tTab Tryd.prog "internal/strconv.uint64pow10" 1 GN1 Go.Lib.pow10Tab) () (.int .i64 0), pl (tInt .i64) mxl (⟨2, 0, none⟩), pl tErr true (⟨3, 0, none⟩), pl tErr true (⟨4, 0, none⟩)] [] → eslaw36_AdversaryText.j3 x33 = some r → K31 ρ w := by
      intro x33 ρ w h32_10 hs hf
      refine hK31 _ _ ?_
      unfold eslaw36_AdversaryText.j3 at hf
      refine W.seqK fun K35 hK35 => ?_
      refine W.region ?_
      refine WL.move (v := bstr x33) h32_10 ?_
      obtain ⟨⟨x36, x37⟩, hxx36, hf⟩ := bindE hf
      refine WL.call (vs := [bstr x33]) hs FN9 ⟨rfl, trivial⟩ (fun ok hA => adversary_Parse.calls (x1 := x33) hxx36 (hA.get 0 rfl) (hA.get 1 rfl) (hA.get 2 rfl) (hA.get 3 rfl) (hA.get 4 rfl)) ?_
      rintro ⟨a38, n39, c40⟩ w hs
      refine WL.move (v := .tuple #[.slice a38 n39 c40, .int .i64 x37]) rfl ?_
      refine WL.extract (v := .slice a38 n39 c40) rfl rfl ?_
      refine WL.extract (v := .int .i64 x37) rfl rfl ?_
      refine WL.assign (v := .slice a38 n39 c40) rfl ?_
      refine WL.assign (v := .int .i64 x37) rfl ?_
      refine WL.nil ?_
      refine hK35 _ _ ?_
      refine W.seqK fun K41 hK41 => ?_
      refine W.region ?_
      refine WL.move (v := bstr x33) h32_10 ?_
      obtain ⟨⟨x42, x43⟩, hxx42, hf⟩ := bindE hf
      refine WL.call (vs := [bstr x33]) hs FN11 ⟨rfl, trivial⟩ (fun ok hA => esref36_Parse.calls (x1 := x33) hxx42) ?_
      rintro ⟨a44, n45, c46⟩ w hs
      refine WL.move (v := .tuple #[.slice a44 n45 c46, .int .i64 x43]) rfl ?_
      refine WL.extract (v := .slice a44 n45 c46) rfl rfl ?_
      refine WL.extract (v := .int .i64 x43) rfl rfl ?_
      refine WL.assign (v := .slice a44 n45 c46) rfl ?_
      refine WL.assign (v := .int .i64 x43) rfl ?_
      refine WL.nil ?_
      refine hK41 _ _ ?_
      refine W.seqK fun K47 hK47 => ?_
      refine W.seqK fun K48 hK48 => ?_
      have Jk51 : ∀ (x50 : Bool) (ρ : Env) (w : World), ρ 15 = .slice a38 n39 c40 → ρ 17 = .slice a44 n45 c46 → ρ 129 = .bool x50 → St ok (bz w0) w [pl (tSlice tStr) words_ (⟨0, 0, none⟩), vl (tTab Tryd.prog "internal/strconv.uint64pow10" 1 GN1 Go.Lib.pow10Tab) () (.int .i64 0), pl (tInt .i64) mxl (⟨2, 0, none⟩), pl tErr true (⟨3, 0, none⟩), pl tErr true (⟨4, 0, none⟩)] [own t_adversary_Rule 32 (.slice a44 n45 c46) x42, own t_adversary_Rule 32 (.slice a38 n39 c40) x36] → eslaw36_AdversaryText.j2 x36 x42 x50 = some r → K48 ρ w := by
        intro x50 ρ w h49_15 h49_17 h49_129 hs hf
        refine hK48 _ _ ?_
        unfold eslaw36_AdversaryText.j2 at hf
        rcases iteE hf with ⟨hc52, hf⟩ | ⟨hc52, hf⟩
        {
        refine W.cond_true (bool_tr h49_129 hc52) ?_
        refine W.seqK fun K53 hK53 => ?_
        refine W.region ?_
        refine WL.assign (v := .bool false) rfl ?_
        refine WL.nil ?_
        refine hK53 _ _ ?_
        refine W.ret ?_
        have hr := Option.some.inj hf; subst hr
        exact ⟨_, resOk_one rfl rfl, (), rfl, (hs.mask []).pick []⟩ }
        {
        refine W.cond_false (bool_tr h49_129 hc52) ?_
        refine W.skip ?_
        refine hK47 _ _ ?_
        refine W.seqK fun K54 hK54 => ?_
        have Jk56 : ∀  (ρ : Env) (w : World), St ok (bz w0) w [pl (tSlice tStr) words_ (⟨0, 0, none⟩), vl (tTab Tryd.prog "internal/strconv.uint64pow10" 1 GN1 Go.Lib.pow10Tab) () (.int .i64 0), pl (tInt .i64) mxl (⟨2, 0, none⟩), pl tErr true (⟨3, 0, none⟩), pl tErr true (⟨4, 0, none⟩)] [] → eslaw36_AdversaryText.j1 = some r → K54 ρ w := by
          intro  ρ w  hs hf
          refine hK54 _ _ ?_
          unfold eslaw36_AdversaryText.j1 at hf
          refine W.seqK fun K57 hK57 => ?_
          refine W.region ?_
          obtain ⟨x58, hxx58, hf⟩ := bindE hf
          refine WL.call (vs := []) hs FN4 trivial (fun ok hA => eslaw36_awake.calls hxx58 (hA.get 0 rfl) (hA.get 1 rfl) (hA.get 2 rfl) (hA.get 3 rfl) (hA.get 4 rfl)) ?_
          rintro _ w hs
          refine WL.assign (v := .bool x58) rfl ?_
          refine WL.nil ?_
          refine hK57 _ _ ?_
          refine W.ret ?_
          have hr := Option.some.inj hf; subst hr
          exact ⟨_, resOk_one rfl rfl, (), rfl, (hs.mask []).pick []⟩
        refine W.seqK fun K59 hK59 => ?_
        refine W.region ?_
        refine WL.assign (v := .int .i64 0) rfl ?_
        refine WL.nil ?_
        refine hK59 _ _ ?_
        refine W.block ?_
        obtain ⟨bs62, hbs62, hfs62⟩ := bindE hf
        refine W.loop hbs62 (fun s ρ w => match s with | x61 => ρ 15 = .slice a38 n39 c40 ∧ ρ 17 = .slice a44 n45 c46 ∧ ρ 19 = .int .i64 x61 ∧ St ok (bz w0) w [pl (tSlice tStr) words_ (⟨0, 0, none⟩), vl (tTab Tryd.prog "internal/strconv.uint64pow10" 1 GN1 Go.Lib.pow10Tab) () (.int .i64 0), pl (tInt .i64) mxl (⟨2, 0, none⟩), pl tErr true (⟨3, 0, none⟩), pl tErr true (⟨4, 0, none⟩)] [own t_adversary_Rule 32 (.slice a44 n45 c46) x42, own t_adversary_Rule 32 (.slice a38 n39 c40) x36]) ⟨h49_15, h49_17, rfl, (hs.mask [true, true]).pick [0, 1, 2, 3, 4]⟩ ?_
        intro x61 ρ w os62 hI hf hbbs62
        obtain ⟨h60_15, h60_17, h60_19, hs⟩ := hI
        unfold eslaw36_AdversaryText.l1 at hf
        refine W.seqK fun K63 hK63 => ?_
        refine W.seqK fun K64 hK64 => ?_
        refine W.region ?_
        refine WL.move (v := .int .i64 x61) h60_19 ?_
        refine WL.move (v := .slice a38 n39 c40) h60_15 ?_
        refine WL.len (v := .slice a38 n39 c40) rfl (len_own hs 1 rfl UN24) ?_
        refine WL.bin (v := .bool (decide (x61 < (x36.length : Int)))) rfl rfl (ib_lss _ _ _) ?_
        refine WL.nil ?_
        refine hK64 _ _ ?_
        rcases iteE hf with ⟨hc65, hf⟩ | ⟨hc65, hf⟩
        {
        refine W.cond_true (bool_tr rfl hc65) ?_
        refine W.skip ?_
        refine hK63 _ _ ?_
        refine W.seqK fun K66 hK66 => ?_
        refine W.block ?_
        refine W.seqK fun K67 hK67 => ?_
        obtain ⟨x68, hxx68, hf⟩ := bindE hf
        obtain ⟨x73, hxx73, hf⟩ := bindE hf
        refine W.any (by kernel_rfl) 9 0 [true, true, true, true, true, true, true, true, true] rfl rfl (poAt [pv (.slice a38 n39 c40), pv (.int .i64 x61), po (fun ad => Go.Proofs.YthcohhpmpdijoaaDoorL.OwnAt 2 (.slice a38 n39 c40) x61 ad), pq (fun y : List Value => .agg y.toArray) (fun v => [vl t_adversary_Rule x68 v]) (fun v => []), pv (.slice a44 n45 c46), pv (.int .i64 x61), po (fun ad => Go.Proofs.YthcohhpmpdijoaaDoorL.OwnAt 2 (.slice a44 n45 c46) x61 ad), pq (fun y : List Value => .agg y.toArray) (fun v => [vl t_adversary_Rule x73 v]) (fun v => []), pv (.bool (!decide ((⟨x68.Kind, x68.Arg⟩ : adversary_Rule) = (⟨x73.Kind, x73.Arg⟩ : adversary_Rule))))]) (Λ := [own t_adversary_Rule 32 (.slice a44 n45 c46) x42, own t_adversary_Rule 32 (.slice a38 n39 c40) x36]) hs (by kernel_rfl) (by kernel_rfl) (by kernel_rfl) ⟨⟨⟨⟨⟨⟨⟨⟨⟨trivial, ?_⟩, ?_⟩, ?_⟩, ?_⟩, ?_⟩, ?_⟩, ?_⟩, ?_⟩, ?_⟩ ?_
        {
        intro ρ w Γx Λx hs hu hp
        refine WL.move (v := .slice a38 n39 c40) ((hu 15 rfl).trans h60_15) ?_
        exact WL.nil ⟨rfl, _, rfl, rfl, hs.cutG 0 0⟩ }
        {
        intro ρ w Γx Λx hs hu hp
        refine WL.move (v := .int .i64 x61) ((hu 19 rfl).trans h60_19) ?_
        exact WL.nil ⟨rfl, _, rfl, rfl, hs.cutG 0 0⟩ }
        {
        intro ρ w Γx Λx hs hu hp
        have e78 : ρ 136 = .slice a38 n39 c40 := (hp 0 rfl).1
        have e79 : ρ 137 = .int .i64 x61 := (hp 1 rfl).1
        refine WL.indexAddrO hs (Λx.length + 1) (getApp rfl) UN24 TI32 e78 e79 hxx68 (fun ad69 hatad69 => ?_)
        exact WL.nil ⟨rfl, _, rfl, ⟨ad69, rfl, hatad69⟩, hs.cutG 0 0⟩ }
        {
        intro ρ w Γx Λx hs hu hp
        obtain ⟨ad81, e80, hatad81⟩ := (hp 2 rfl).1
        have e80 : ρ 138 = .pointer (some ad81) := e80
        refine WL.loadO hs (Λx.length + 1) (getApp rfl) TI32 (.inl rfl) hatad81 hxx68 e80 (fun v70 hs => ?_)
        obtain ⟨cs71, hl72, rfl⟩ := hs.aggv (n := 2) 0 rfl rfl rfl
        have hs := hs.add (it := vl t_adversary_Rule x68 (.agg cs71.toArray)) fun ok hA => hA.get 0 rfl
        exact WL.nil ⟨rfl, _, rfl, ⟨cs71, rfl⟩, hs.cutG 1 1⟩ }
        {
        intro ρ w Γx Λx hs hu hp
        refine WL.move (v := .slice a44 n45 c46) ((hu 17 rfl).trans h60_17) ?_
        exact WL.nil ⟨rfl, _, rfl, rfl, hs.cutG 0 0⟩ }
        {
        intro ρ w Γx Λx hs hu hp
        refine WL.move (v := .int .i64 x61) ((hu 19 rfl).trans h60_19) ?_
        exact WL.nil ⟨rfl, _, rfl, rfl, hs.cutG 0 0⟩ }
        {
        intro ρ w Γx Λx hs hu hp
        have e82 : ρ 140 = .slice a44 n45 c46 := (hp 4 rfl).1
        have e83 : ρ 141 = .int .i64 x61 := (hp 5 rfl).1
        refine WL.indexAddrO hs (Λx.length + 0) (getApp rfl) UN24 TI32 e82 e83 hxx73 (fun ad74 hatad74 => ?_)
        exact WL.nil ⟨rfl, _, rfl, ⟨ad74, rfl, hatad74⟩, hs.cutG 0 0⟩ }
        {
        intro ρ w Γx Λx hs hu hp
        obtain ⟨ad85, e84, hatad85⟩ := (hp 6 rfl).1
        have e84 : ρ 142 = .pointer (some ad85) := e84
        refine WL.loadO hs (Λx.length + 0) (getApp rfl) TI32 (.inl rfl) hatad85 hxx73 e84 (fun v75 hs => ?_)
        obtain ⟨cs76, hl77, rfl⟩ := hs.aggv (n := 2) 0 rfl rfl rfl
        have hs := hs.add (it := vl t_adversary_Rule x73 (.agg cs76.toArray)) fun ok hA => hA.get 0 rfl
        exact WL.nil ⟨rfl, _, rfl, ⟨cs76, rfl⟩, hs.cutG 1 1⟩ }
        {
        intro ρ w Γx Λx hs hu hp
        obtain ⟨⟨cs86, e88r⟩, hm89⟩ := hp 3 rfl
        have e88 : ρ 139 = .agg cs86.toArray := e88r
        rw [e88r] at hm89
        have hs := hs.memo1 (it := vl t_adversary_Rule x68 (.agg cs86.toArray)) (List.mem_append.2 (.inl (hm89 _ (List.mem_of_getElem? (i := 0) rfl))))
        have hl87 := hs.agglen (n := 2) 0 rfl rfl rfl
        obtain ⟨⟨cs90, e92r⟩, hm93⟩ := hp 7 rfl
        have e92 : ρ 143 = .agg cs90.toArray := e92r
        rw [e92r] at hm93
        have hs := hs.memo1 (it := vl t_adversary_Rule x73 (.agg cs90.toArray)) (List.mem_cons_of_mem _ (List.mem_append.2 (.inl (hm93 _ (List.mem_of_getElem? (i := 0) rfl)))))
        have hl91 := hs.agglen (n := 2) 0 rfl rfl rfl
        obtain rfl := open_adversary_Rule hs 1 rfl
        obtain rfl := open_adversary_Rule hs 0 rfl
        refine WL.eqA e88 e92 EG32 (NQ32 (⟨x68.Kind, x68.Arg⟩ : adversary_Rule) (⟨x73.Kind, x73.Arg⟩ : adversary_Rule)) ?_
        exact WL.nil ⟨rfl, _, rfl, rfl, hs.cutG 0 2⟩ }
        {
        intro ρ w hs hu94 hp
        obtain ⟨⟨⟨⟨⟨⟨⟨⟨⟨_, hp0_⟩, hp1_⟩, hp2_⟩, hp3_⟩, hp4_⟩, hp5_⟩, hp6_⟩, hp7_⟩, hp8_⟩ := hp
        have hs : St ok (bz w0) w [vl t_adversary_Rule x73 (ρ 143), vl t_adversary_Rule x68 (ρ 139), pl (tSlice tStr) words_ (⟨0, 0, none⟩), vl (tTab Tryd.prog "internal/strconv.uint64pow10" 1 GN1 Go.Lib.pow10Tab) () (.int .i64 0), pl (tInt .i64) mxl (⟨2, 0, none⟩), pl tErr true (⟨3, 0, none⟩), pl tErr true (⟨4, 0, none⟩)] [own t_adversary_Rule 32 (.slice a44 n45 c46) x42, own t_adversary_Rule 32 (.slice a38 n39 c40) x36] := hs
        have e95 : ρ 144 = .bool (!decide ((⟨x68.Kind, x68.Arg⟩ : adversary_Rule) = (⟨x73.Kind, x73.Arg⟩ : adversary_Rule))) := hp8_
        obtain ⟨cs96, e98⟩ := hp7_
        have e98 : ρ 143 = .agg cs96.toArray := e98
        try rw [e98] at hs
        have e99 : ρ 141 = .int .i64 x61 := hp5_
        have e100 : ρ 140 = .slice a44 n45 c46 := hp4_
        obtain ⟨cs101, e103⟩ := hp3_
        have e103 : ρ 139 = .agg cs101.toArray := e103
        try rw [e103] at hs
        have e104 : ρ 137 = .int .i64 x61 := hp1_
        have e105 : ρ 136 = .slice a38 n39 c40 := hp0_
        have hl102 := hs.agglen (n := 2) 1 rfl rfl rfl
        have hl97 := hs.agglen (n := 2) 0 rfl rfl rfl
        refine WA.done (by kernel_rfl) ?_
        refine hK67 _ _ ?_
        rcases iteE hf with ⟨hc106, hf⟩ | ⟨hc106, hf⟩
        {
        refine W.cond_true (bool_tr e95 hc106) ?_
        refine W.seqK fun K107 hK107 => ?_
        refine W.region ?_
        refine WL.assign (v := .bool false) rfl ?_
        refine WL.nil ?_
        refine hK107 _ _ ?_
        refine W.ret ?_
        have hr := Option.some.inj hf; subst hr
        have hr := hbbs62 _ rfl; subst hr
        have hf := hfs62
        have hr := Option.some.inj hf; subst hr
        exact ⟨_, resOk_one rfl rfl, (), rfl, (hs.mask []).pick []⟩ }
        {
        refine W.cond_false (bool_tr e95 hc106) ?_
        refine W.skip ?_
        refine hK66 _ _ ?_
        refine W.region ?_
        refine WL.move (v := .int .i64 x61) ((hu94 19 rfl).trans h60_19) ?_
        obtain ⟨x108, ex108, hf⟩ := letE hf
        refine WL.bin (v := .int .i64 x108) rfl rfl (ib_as ex108 (ib_add _ _ _)) ?_
        refine WL.assign (v := .int .i64 x108) rfl ?_
        refine WL.nil ?_
        exact ⟨_, (Option.some.inj hf).symm, ((hu94 15 rfl).trans h60_15), ((hu94 17 rfl).trans h60_17), rfl, (hs.mask [true, true]).pick [2, 3, 4, 5, 6]⟩ } } }
        {
        refine W.cond_false (bool_tr rfl hc65) ?_
        refine W.exit ?_
        have hr := Option.some.inj hf; subst hr
        have hr := hbbs62 _ rfl; subst hr
        have hf := hfs62
        exact Jk56  _ _  ((hs.mask []).pick [0, 1, 2, 3, 4]) hf } }
      refine W.region ?_
      refine WL.move (v := .int .i64 x37) rfl ?_
      refine WL.move (v := .int .i64 x43) rfl ?_
      refine WL.bin (v := .bool (x37 != x43)) rfl rfl (ib_neq _ _ _) ?_
      refine WL.move (v := .bool (x37 != x43)) rfl ?_
      rcases iteE hf with ⟨hc110, hf⟩ | ⟨hc110, hf⟩
      {
      refine WL.pass ((wanted_of rfl rfl (bool_tr rfl hc110)).trans rfl) rfl ?_
      refine WL.pass ((wanted_of rfl rfl (bool_tr rfl hc110)).trans rfl) rfl ?_
      refine WL.pass ((wanted_of rfl rfl (bool_tr rfl hc110)).trans rfl) rfl ?_
      refine WL.pass ((wanted_of rfl rfl (bool_tr rfl hc110)).trans rfl) rfl ?_
      refine WL.pass ((wanted_of rfl rfl (bool_tr rfl hc110)).trans rfl) rfl ?_
      refine WL.pickT (v := .bool true) (bool_tr rfl hc110) rfl ?_
      refine WL.nil ?_
      exact Jk51 true _ _ rfl rfl rfl ((hs.mask [true, true]).pick [0, 1, 2, 3, 4]) hf }
      {
      refine WL.move (v := .slice a38 n39 c40) rfl ?_ (hg := (wanted_of rfl rfl (bool_tr rfl hc110)).trans rfl)
      refine WL.len (v := .slice a38 n39 c40) rfl (len_own hs 1 rfl UN24) ?_ (hg := (wanted_of rfl rfl (bool_tr rfl hc110)).trans rfl)
      refine WL.move (v := .slice a44 n45 c46) rfl ?_ (hg := (wanted_of rfl rfl (bool_tr rfl hc110)).trans rfl)
      refine WL.len (v := .slice a44 n45 c46) rfl (len_own hs 0 rfl UN24) ?_ (hg := (wanted_of rfl rfl (bool_tr rfl hc110)).trans rfl)
      refine WL.bin (v := .bool ((x36.length : Int) != (x42.length : Int))) rfl rfl (ib_neq _ _ _) ?_ (hg := (wanted_of rfl rfl (bool_tr rfl hc110)).trans rfl)
      refine WL.pickF (v := .bool ((x36.length : Int) != (x42.length : Int))) (bool_tr rfl hc110) rfl ?_
      refine WL.nil ?_
      exact Jk51 ((x36.length : Int) != (x42.length : Int)) _ _ rfl rfl rfl ((hs.mask [true, true]).pick [0, 1, 2, 3, 4]) hf }
    refine W.seqK fun K111 hK111 => ?_
    refine W.region ?_
    refine WL.move (v := .int .i64 x4) h26_1 ?_
    obtain ⟨x112, hxx112, hf⟩ := bindE hf
    refine WL.call (vs := [.int .i64 x4, .int .i64 4]) hs FN10 ⟨rfl, ⟨rfl, trivial⟩⟩ (fun ok hA => eslaw00_Index.calls (x1 := x4) (x2 := 4) hxx112) ?_
    rintro _ w hs
    refine WL.nil ?_
    refine hK111 _ _ ?_
    refine W.block ?_
    refine W.seqK fun K113 hK113 => ?_
    refine W.region ?_
    refine WL.bin (v := .bool (x112 == 0)) rfl rfl (ib_eql _ _ _) ?_
    refine WL.assign (v := .bool (x112 == 0)) rfl ?_
    refine WL.nil ?_
    refine hK113 _ _ ?_
    rcases iteE hf with ⟨hc114, hf⟩ | ⟨hc114, hf⟩
    {
    refine W.cond_true (bool_tr rfl hc114) ?_
    obtain ⟨x115, hxx115, hf⟩ := bindE hf
    obtain ⟨x116, hxx116, hf⟩ := bindE hf
    obtain ⟨x117, hxx117, hf⟩ := bindE hf
    obtain ⟨x118, hxx118, hf⟩ := bindE hf
    refine W.any (by kernel_rfl) 9 1 [true, true, true, true, true, true, true, true, true, false] rfl rfl (poAt [pv (bstr x19), pv (.int .i64 x30), pv (bstr x115), pv (bstr x6), pv (bstr x116), pv (bstr x19), pv (.int .i64 x30), pv (bstr x117), pv (bstr x118)]) (Λ := []) hs (by kernel_rfl) (by kernel_rfl) (by kernel_rfl) ⟨⟨⟨⟨⟨⟨⟨⟨⟨trivial, ?_⟩, ?_⟩, ?_⟩, ?_⟩, ?_⟩, ?_⟩, ?_⟩, ?_⟩, ?_⟩ ?_
    {
    intro ρ w Γx Λx hs hu hp
    refine WL.move (v := bstr x19) ((hu 10 rfl).trans h26_10) ?_
    exact WL.nil ⟨rfl, _, rfl, rfl, hs.cutG 0 0⟩ }
    {
    intro ρ w Γx Λx hs hu hp
    refine WL.move (v := .int .i64 x30) (hu 14 rfl) ?_
    exact WL.nil ⟨rfl, _, rfl, rfl, hs.cutG 0 0⟩ }
    {
    intro ρ w Γx Λx hs hu hp
    have e119 : ρ 80 = bstr x19 := (hp 0 rfl).1
    have e120 : ρ 81 = .int .i64 x30 := (hp 1 rfl).1
    refine WL.sliceS_h UN9 e119 e120 hxx115 ?_
    exact WL.nil ⟨rfl, _, rfl, rfl, hs.cutG 0 0⟩ }
    {
    intro ρ w Γx Λx hs hu hp
    refine WL.move (v := bstr x6) ((hu 3 rfl).trans h26_3) ?_
    exact WL.nil ⟨rfl, _, rfl, rfl, hs.cutG 0 0⟩ }
    {
    intro ρ w Γx Λx hs hu hp
    have e121 : ρ 82 = bstr x115 := (hp 2 rfl).1
    have e122 : ρ 83 = bstr x6 := (hp 3 rfl).1
    refine WL.binS (v := bstr x116) e121 e122 (sb_cat hxx116) ?_
    exact WL.nil ⟨rfl, _, rfl, rfl, hs.cutG 0 0⟩ }
    {
    intro ρ w Γx Λx hs hu hp
    refine WL.move (v := bstr x19) ((hu 10 rfl).trans h26_10) ?_
    exact WL.nil ⟨rfl, _, rfl, rfl, hs.cutG 0 0⟩ }
    {
    intro ρ w Γx Λx hs hu hp
    refine WL.move (v := .int .i64 x30) (hu 14 rfl) ?_
    exact WL.nil ⟨rfl, _, rfl, rfl, hs.cutG 0 0⟩ }
    {
    intro ρ w Γx Λx hs hu hp
    have e123 : ρ 85 = bstr x19 := (hp 5 rfl).1
    have e124 : ρ 86 = .int .i64 x30 := (hp 6 rfl).1
    refine WL.sliceS_l UN9 e123 e124 hxx117 ?_
    exact WL.nil ⟨rfl, _, rfl, rfl, hs.cutG 0 0⟩ }
    {
    intro ρ w Γx Λx hs hu hp
    have e125 : ρ 84 = bstr x116 := (hp 4 rfl).1
    have e126 : ρ 87 = bstr x117 := (hp 7 rfl).1
    refine WL.binS (v := bstr x118) e125 e126 (sb_cat hxx118) ?_
    exact WL.nil ⟨rfl, _, rfl, rfl, hs.cutG 0 0⟩ }
    {
    intro ρ w hs hu127 hp
    obtain ⟨⟨⟨⟨⟨⟨⟨⟨⟨_, hp0_⟩, hp1_⟩, hp2_⟩, hp3_⟩, hp4_⟩, hp5_⟩, hp6_⟩, hp7_⟩, hp8_⟩ := hp
    have hs : St ok (bz w0) w [pl (tSlice tStr) words_ (⟨0, 0, none⟩), vl (tTab Tryd.prog "internal/strconv.uint64pow10" 1 GN1 Go.Lib.pow10Tab) () (.int .i64 0), pl (tInt .i64) mxl (⟨2, 0, none⟩), pl tErr true (⟨3, 0, none⟩), pl tErr true (⟨4, 0, none⟩)] [] := hs
    have e128 : ρ 88 = bstr x118 := hp8_
    have e129 : ρ 87 = bstr x117 := hp7_
    have e130 : ρ 86 = .int .i64 x30 := hp6_
    have e131 : ρ 85 = bstr x19 := hp5_
    have e132 : ρ 84 = bstr x116 := hp4_
    have e133 : ρ 83 = bstr x6 := hp3_
    have e134 : ρ 82 = bstr x115 := hp2_
    have e135 : ρ 81 = .int .i64 x30 := hp1_
    have e136 : ρ 80 = bstr x19 := hp0_
    refine WA.step [9] (by kernel_rfl) (by simp) ⟨?_, trivial⟩
    refine WL.assign (v := bstr x118) e128 ?_
    refine WL.nil ⟨rfl, _, rfl, ?_⟩
    refine WA.done (by kernel_rfl) ?_
    exact Jk34 x118 _ _ rfl ((hs.mask []).pick [0, 1, 2, 3, 4]) hf } }
    {
    refine W.cond_false (bool_tr rfl hc114) ?_
    refine W.seqK fun K137 hK137 => ?_
    refine W.region ?_
    refine WL.bin (v := .bool (x112 == 1)) rfl rfl (ib_eql _ _ _) ?_
    refine WL.assign (v := .bool (x112 == 1)) rfl ?_
    refine WL.nil ?_
    refine hK137 _ _ ?_
    rcases iteE hf with ⟨hc138, hf⟩ | ⟨hc138, hf⟩
    {
    refine W.cond_true (bool_tr rfl hc138) ?_
    obtain ⟨x139, hxx139, hf⟩ := bindE hf
    obtain ⟨x142, ex142, hf⟩ := letE hf
    obtain ⟨x143, hxx143, hf⟩ := bindE hf
    obtain ⟨x144, hxx144, hf⟩ := bindE hf
    obtain ⟨x147, hxx147, hf⟩ := bindE hf
    obtain ⟨x148, hxx148, hf⟩ := bindE hf
    obtain ⟨x149, hxx149, hf⟩ := bindE hf
    refine W.any (by kernel_rfl) 14 1 [true, true, true, true, true, true, true, true, true, true, true, true, true, true, false] rfl rfl (poAt [pv (bstr x19), pv (.int .i64 x30), pv (bstr x139), pq (fun y : (Option Addr × Nat) => .slice y.1 ([([48] : List UInt8), ([32] : List UInt8), ([59] : List UInt8), ([59, 32] : List UInt8), ([57] : List UInt8), ([120] : List UInt8)]).length y.2) (fun v => [vl (tSlice tStr) ([([48] : List UInt8), ([32] : List UInt8), ([59] : List UInt8), ([59, 32] : List UInt8), ([57] : List UInt8), ([120] : List UInt8)]) v]) (fun v => []), pv (.int .i64 x4), pv (.int .i64 x142), pv (.int .i64 x143), pq (fun y : Addr => .pointer (some y)) (fun v => [pl tStr x144 (adOf v)]) (fun v => []), pv (bstr x144), pv (bstr x147), pv (bstr x19), pv (.int .i64 x30), pv (bstr x148), pv (bstr x149)]) (Λ := []) hs (by kernel_rfl) (by kernel_rfl) (by kernel_rfl) ⟨⟨⟨⟨⟨⟨⟨⟨⟨⟨⟨⟨⟨⟨trivial, ?_⟩, ?_⟩, ?_⟩, ?_⟩, ?_⟩, ?_⟩, ?_⟩, ?_⟩, ?_⟩, ?_⟩, ?_⟩, ?_⟩, ?_⟩, ?_⟩ ?_
    {
    intro ρ w Γx Λx hs hu hp
    refine WL.move (v := bstr x19) ((hu 10 rfl).trans h26_10) ?_
    exact WL.nil ⟨rfl, _, rfl, rfl, hs.cutG 0 0⟩ }
    {
    intro ρ w Γx Λx hs hu hp
    refine WL.move (v := .int .i64 x30) (hu 14 rfl) ?_
    exact WL.nil ⟨rfl, _, rfl, rfl, hs.cutG 0 0⟩ }
    {
    intro ρ w Γx Λx hs hu hp
    have e150 : ρ 91 = bstr x19 := (hp 0 rfl).1
    have e151 : ρ 92 = .int .i64 x30 := (hp 1 rfl).1
    refine WL.sliceS_h UN9 e150 e151 hxx139 ?_
    exact WL.nil ⟨rfl, _, rfl, rfl, hs.cutG 0 0⟩ }
    {
    intro ρ w Γx Λx hs hu hp
    refine WL.buildSliceB (ys := [([48] : List UInt8), ([32] : List UInt8), ([59] : List UInt8), ([59, 32] : List UInt8), ([57] : List UInt8), ([120] : List UInt8)]) (n := 6) (vs := [(0, bstr ([48] : List UInt8)), (1, bstr ([32] : List UInt8)), (2, bstr ([59] : List UInt8)), (3, bstr ([59, 32] : List UInt8)), (4, bstr ([57] : List UInt8)), (5, bstr ([120] : List UInt8))]) (cs := [bstr ([48] : List UInt8), bstr ([32] : List UInt8), bstr ([59] : List UInt8), bstr ([59, 32] : List UInt8), bstr ([57] : List UInt8), bstr ([120] : List UInt8)]) hs ⟨⟨rfl, rfl⟩, ⟨⟨rfl, rfl⟩, ⟨⟨rfl, rfl⟩, ⟨⟨rfl, rfl⟩, ⟨⟨rfl, rfl⟩, ⟨⟨rfl, rfl⟩, trivial⟩⟩⟩⟩⟩⟩ (bls PS34 (by decide) rfl) (fun ok hA => (Cells.app (Cells.one (T := tStr) rfl) (Cells.app (Cells.one (T := tStr) rfl) (Cells.app (Cells.one (T := tStr) rfl) (Cells.app (Cells.one (T := tStr) rfl) (Cells.app (Cells.one (T := tStr) rfl) (Cells.one (T := tStr) rfl))))))) rfl (by decide) (fun a141 w hBl hs => ?_)
    have hs := hs.add (it := vl (tSlice tStr) ([([48] : List UInt8), ([32] : List UInt8), ([59] : List UInt8), ([59, 32] : List UInt8), ([57] : List UInt8), ([120] : List UInt8)]) (.slice a141 ([([48] : List UInt8), ([32] : List UInt8), ([59] : List UInt8), ([59, 32] : List UInt8), ([57] : List UInt8), ([120] : List UInt8)]).length 6)) fun ok hA => hA.get 0 rfl
    exact WL.nil ⟨rfl, _, rfl, ⟨(a141, 6), rfl⟩, hs.cutG 1 1⟩ }
    {
    intro ρ w Γx Λx hs hu hp
    refine WL.move (v := .int .i64 x4) ((hu 1 rfl).trans h26_1) ?_
    exact WL.nil ⟨rfl, _, rfl, rfl, hs.cutG 0 0⟩ }
    {
    intro ρ w Γx Λx hs hu hp
    have e152 : ρ 95 = .int .i64 x4 := (hp 4 rfl).1
    refine WL.bin (v := .int .i64 x142) e152 rfl (ib_as ex142 (ib_quo _ _ _ (by decide))) ?_
    exact WL.nil ⟨rfl, _, rfl, rfl, hs.cutG 0 0⟩ }
    {
    intro ρ w Γx Λx hs hu hp
    have e153 : ρ 96 = .int .i64 x142 := (hp 5 rfl).1
    refine WL.call (vs := [.int .i64 x142, .int .i64 6]) hs FN10 ⟨e153, ⟨rfl, trivial⟩⟩ (fun ok hA => eslaw00_Index.calls (x1 := x142) (x2 := 6) hxx143) ?_
    rintro _ w hs
    exact WL.nil ⟨rfl, _, rfl, rfl, hs.cutG 0 0⟩ }
    {
    intro ρ w Γx Λx hs hu hp
    obtain ⟨⟨⟨a154, c155⟩, e156r⟩, hm157⟩ := hp 3 rfl
    have e156 : ρ 94 = .slice a154 ([([48] : List UInt8), ([32] : List UInt8), ([59] : List UInt8), ([59, 32] : List UInt8), ([57] : List UInt8), ([120] : List UInt8)]).length c155 := e156r
    rw [e156r] at hm157
    have hs := hs.memo1 (it := vl (tSlice tStr) ([([48] : List UInt8), ([32] : List UInt8), ([59] : List UInt8), ([59, 32] : List UInt8), ([57] : List UInt8), ([120] : List UInt8)]) (.slice a154 ([([48] : List UInt8), ([32] : List UInt8), ([59] : List UInt8), ([59, 32] : List UInt8), ([57] : List UInt8), ([120] : List UInt8)]).length c155)) (List.mem_append.2 (.inl (hm157 _ (List.mem_of_getElem? (i := 0) rfl))))
    have e158 : ρ 97 = .int .i64 x143 := (hp 6 rfl).1
    refine WL.indexAddr hs 0 rfl UN34 TI9 e156 e158 hxx144 (fun ad145 hs => ?_)
    have hs := hs.add (it := pl tStr x144 ad145) fun ok hA => hA.get 0 rfl
    exact WL.nil ⟨rfl, _, rfl, ⟨ad145, rfl⟩, hs.cutG 1 2⟩ }
    {
    intro ρ w Γx Λx hs hu hp
    obtain ⟨⟨ad159, e160r⟩, hm161⟩ := hp 7 rfl
    have e160 : ρ 98 = .pointer (some ad159) := e160r
    rw [e160r] at hm161
    have hs := hs.memo1 (it := pl tStr x144 ad159) (List.mem_append.2 (.inl (hm161 _ (List.mem_of_getElem? (i := 0) rfl))))
    refine WL.loadP hs 0 rfl TI9 (.inr rfl) e160 (fun v146 hs => ?_)
    obtain rfl := hs.str 0 rfl
    exact WL.nil ⟨rfl, _, rfl, rfl, hs.cutG 0 2⟩ }
    {
    intro ρ w Γx Λx hs hu hp
    have e162 : ρ 93 = bstr x139 := (hp 2 rfl).1
    have e163 : ρ 99 = bstr x144 := (hp 8 rfl).1
    refine WL.binS (v := bstr x147) e162 e163 (sb_cat hxx147) ?_
    exact WL.nil ⟨rfl, _, rfl, rfl, hs.cutG 0 0⟩ }
    {
    intro ρ w Γx Λx hs hu hp
    refine WL.move (v := bstr x19) ((hu 10 rfl).trans h26_10) ?_
    exact WL.nil ⟨rfl, _, rfl, rfl, hs.cutG 0 0⟩ }
    {
    intro ρ w Γx Λx hs hu hp
    refine WL.move (v := .int .i64 x30) (hu 14 rfl) ?_
    exact WL.nil ⟨rfl, _, rfl, rfl, hs.cutG 0 0⟩ }
    {
    intro ρ w Γx Λx hs hu hp
    have e164 : ρ 101 = bstr x19 := (hp 10 rfl).1
    have e165 : ρ 102 = .int .i64 x30 := (hp 11 rfl).1
    refine WL.sliceS_l UN9 e164 e165 hxx148 ?_
    exact WL.nil ⟨rfl, _, rfl, rfl, hs.cutG 0 0⟩ }
    {
    intro ρ w Γx Λx hs hu hp
    have e166 : ρ 100 = bstr x147 := (hp 9 rfl).1
    have e167 : ρ 103 = bstr x148 := (hp 12 rfl).1
    refine WL.binS (v := bstr x149) e166 e167 (sb_cat hxx149) ?_
    exact WL.nil ⟨rfl, _, rfl, rfl, hs.cutG 0 0⟩ }
    {
    intro ρ w hs hu168 hp
    obtain ⟨⟨⟨⟨⟨⟨⟨⟨⟨⟨⟨⟨⟨⟨_, hp0_⟩, hp1_⟩, hp2_⟩, hp3_⟩, hp4_⟩, hp5_⟩, hp6_⟩, hp7_⟩, hp8_⟩, hp9_⟩, hp10_⟩, hp11_⟩, hp12_⟩, hp13_⟩ := hp
    have hs : St ok (bz w0) w [pl tStr x144 (adOf (ρ 98)), vl (tSlice tStr) ([([48] : List UInt8), ([32] : List UInt8), ([59] : List UInt8), ([59, 32] : List UInt8), ([57] : List UInt8), ([120] : List UInt8)]) (ρ 94), pl (tSlice tStr) words_ (⟨0, 0, none⟩), vl (tTab Tryd.prog "internal/strconv.uint64pow10" 1 GN1 Go.Lib.pow10Tab) () (.int .i64 0), pl (tInt .i64) mxl (⟨2, 0, none⟩), pl tErr true (⟨3, 0, none⟩), pl tErr true (⟨4, 0, none⟩)] [] := hs
    have e169 : ρ 104 = bstr x149 := hp13_
    have e170 : ρ 103 = bstr x148 := hp12_
    have e171 : ρ 102 = .int .i64 x30 := hp11_
    have e172 : ρ 101 = bstr x19 := hp10_
    have e173 : ρ 100 = bstr x147 := hp9_
    have e174 : ρ 99 = bstr x144 := hp8_
    obtain ⟨ad175, e176⟩ := hp7_
    have e176 : ρ 98 = .pointer (some ad175) := e176
    try rw [e176] at hs
    have e177 : ρ 97 = .int .i64 x143 := hp6_
    have e178 : ρ 96 = .int .i64 x142 := hp5_
    have e179 : ρ 95 = .int .i64 x4 := hp4_
    obtain ⟨⟨a180, c181⟩, e182⟩ := hp3_
    have e182 : ρ 94 = .slice a180 ([([48] : List UInt8), ([32] : List UInt8), ([59] : List UInt8), ([59, 32] : List UInt8), ([57] : List UInt8), ([120] : List UInt8)]).length c181 := e182
    try rw [e182] at hs
    have e183 : ρ 93 = bstr x139 := hp2_
    have e184 : ρ 92 = .int .i64 x30 := hp1_
    have e185 : ρ 91 = bstr x19 := hp0_
    refine WA.step [14] (by kernel_rfl) (by simp) ⟨?_, trivial⟩
    refine WL.assign (v := bstr x149) e169 ?_
    refine WL.nil ⟨rfl, _, rfl, ?_⟩
    refine WA.done (by kernel_rfl) ?_
    exact Jk34 x149 _ _ rfl ((hs.mask []).pick [2, 3, 4, 5, 6]) hf } }
    {
    refine W.cond_false (bool_tr rfl hc138) ?_
    refine W.seqK fun K186 hK186 => ?_
    refine W.region ?_
    refine WL.bin (v := .bool (x112 == 2)) rfl rfl (ib_eql _ _ _) ?_
    refine WL.assign (v := .bool (x112 == 2)) rfl ?_
    refine WL.nil ?_
    refine hK186 _ _ ?_
    rcases iteE hf with ⟨hc187, hf⟩ | ⟨hc187, hf⟩
    {
    refine W.cond_true (bool_tr rfl hc187) ?_
    refine W.region ?_
    refine WL.move (v := bstr x19) h26_10 ?_
    refine WL.move (v := .int .i64 x30) rfl ?_
    obtain ⟨x188, hxx188, hf⟩ := bindE hf
    refine WL.sliceS_h UN9 rfl rfl hxx188 ?_
    refine WL.assign (v := bstr x188) rfl ?_
    refine WL.nil ?_
    exact Jk34 x188 _ _ rfl ((hs.mask []).pick [0, 1, 2, 3, 4]) hf }
    {
    refine W.cond_false (bool_tr rfl hc187) ?_
    refine W.region ?_
    refine WL.move (v := bstr x6) h26_3 ?_
    refine WL.assign (v := bstr x6) rfl ?_
    refine WL.nil ?_
    exact Jk34 x6 _ _ rfl ((hs.mask []).pick [0, 1, 2, 3, 4]) hf } } }
  refine W.seqK fun K189 hK189 => ?_
  refine W.region ?_
  refine WL.move (v := .slice a15 n16 c17) rfl ?_
  obtain ⟨x190, hxx190, hf⟩ := bindE hf
  refine WL.callL (vs := [.slice a15 x14.length c17]) hs FN8 ⟨(Eq.trans rfl (sl_len (hs.ownLen 0 rfl))), trivial⟩ (esref36_ValidateRules.calls (x1 := x14) hxx190 (hs.ownN 0 rfl)) ?_
  rintro _ w hs
  refine WL.bin (v := .bool (x190 == 0)) rfl rfl (ib_eql _ _ _) ?_
  refine WL.nil ?_
  refine hK189 _ _ ?_
  rcases iteE hf with ⟨hc191, hf⟩ | ⟨hc191, hf⟩
  {
  refine W.cond_true (bool_tr rfl hc191) ?_
  refine W.seqK fun K192 hK192 => ?_
  refine W.region ?_
  refine WL.move (v := bstr x19) rfl ?_
  obtain ⟨⟨x193, x194⟩, hxx193, hf⟩ := bindE hf
  refine WL.call (vs := [bstr x19]) hs FN9 ⟨rfl, trivial⟩ (fun ok hA => adversary_Parse.calls (x1 := x19) hxx193 (hA.get 1 rfl) (hA.get 2 rfl) (hA.get 3 rfl) (hA.get 4 rfl) (hA.get 5 rfl)) ?_
  rintro ⟨a195, n196, c197⟩ w hs
  refine WL.move (v := .tuple #[.slice a195 n196 c197, .int .i64 x194]) rfl ?_
  refine WL.extract (v := .slice a195 n196 c197) rfl rfl ?_
  refine WL.extract (v := .int .i64 x194) rfl rfl ?_
  refine WL.assign (v := .slice a195 n196 c197) rfl ?_
  refine WL.assign (v := .int .i64 x194) rfl ?_
  refine WL.nil ?_
  refine hK192 _ _ ?_
  refine W.seqK fun K198 hK198 => ?_
  refine W.seqK fun K199 hK199 => ?_
  have Jk202 : ∀ (x201 : Bool) (ρ : Env) (w : World), ρ 1 = .int .i64 x4 → ρ 2 = .int .i64 x5 → ρ 3 = bstr x6 → ρ 9 = .slice a15 n16 c17 → ρ 10 = bstr x19 → ρ 11 = .slice a195 n196 c197 → ρ 54 = .bool x201 → St ok (bz w0) w [pl (tSlice tStr) words_ (⟨0, 0, none⟩), vl (tTab Tryd.prog "internal/strconv.uint64pow10" 1 GN1 Go.Lib.pow10Tab) () (.int .i64 0), pl (tInt .i64) mxl (⟨2, 0, none⟩), pl tErr true (⟨3, 0, none⟩), pl tErr true (⟨4, 0, none⟩)] [own t_adversary_Rule 32 (.slice a195 n196 c197) x193, own t_adversary_Rule 32 (.slice a15 n16 c17) x14] → eslaw36_AdversaryText.j5 x4 x5 x6 x14 x19 x193 x201 = some r → K199 ρ w := by
    intro x201 ρ w h200_1 h200_2 h200_3 h200_9 h200_10 h200_11 h200_54 hs hf
    refine hK199 _ _ ?_
    unfold eslaw36_AdversaryText.j5 at hf
    rcases iteE hf with ⟨hc203, hf⟩ | ⟨hc203, hf⟩
    {
    refine W.cond_true (bool_tr h200_54 hc203) ?_
    refine W.seqK fun K204 hK204 => ?_
    refine W.region ?_
    refine WL.assign (v := .bool false) rfl ?_
    refine WL.nil ?_
    refine hK204 _ _ ?_
    refine W.ret ?_
    have hr := Option.some.inj hf; subst hr
    exact ⟨_, resOk_one rfl rfl, (), rfl, (hs.mask []).pick []⟩ }
    {
    refine W.cond_false (bool_tr h200_54 hc203) ?_
    refine W.skip ?_
    refine hK198 _ _ ?_
    refine W.seqK fun K205 hK205 => ?_
    refine W.region ?_
    refine WL.assign (v := .int .i64 0) rfl ?_
    refine WL.nil ?_
    refine hK205 _ _ ?_
    refine W.block ?_
    obtain ⟨bs208, hbs208, hfs208⟩ := bindE hf
    refine W.loop hbs208 (fun s ρ w => match s with | x207 => ρ 1 = .int .i64 x4 ∧ ρ 2 = .int .i64 x5 ∧ ρ 3 = bstr x6 ∧ ρ 9 = .slice a15 n16 c17 ∧ ρ 10 = bstr x19 ∧ ρ 11 = .slice a195 n196 c197 ∧ ρ 13 = .int .i64 x207 ∧ St ok (bz w0) w [pl (tSlice tStr) words_ (⟨0, 0, none⟩), vl (tTab Tryd.prog "internal/strconv.uint64pow10" 1 GN1 Go.Lib.pow10Tab) () (.int .i64 0), pl (tInt .i64) mxl (⟨2, 0, none⟩), pl tErr true (⟨3, 0, none⟩), pl tErr true (⟨4, 0, none⟩)] [own t_adversary_Rule 32 (.slice a195 n196 c197) x193, own t_adversary_Rule 32 (.slice a15 n16 c17) x14]) ⟨h200_1, h200_2, h200_3, h200_9, h200_10, h200_11, rfl, (hs.mask [true, true]).pick [0, 1, 2, 3, 4]⟩ ?_
    intro x207 ρ w os208 hI hf hbbs208
    obtain ⟨h206_1, h206_2, h206_3, h206_9, h206_10, h206_11, h206_13, hs⟩ := hI
    unfold eslaw36_AdversaryText.l2 at hf
    refine W.seqK fun K209 hK209 => ?_
    refine W.seqK fun K210 hK210 => ?_
    refine W.region ?_
    refine WL.move (v := .int .i64 x207) h206_13 ?_
    refine WL.move (v := .slice a195 n196 c197) h206_11 ?_
    refine WL.len (v := .slice a195 n196 c197) rfl (len_own hs 0 rfl UN24) ?_
    refine WL.bin (v := .bool (decide (x207 < (x193.length : Int)))) rfl rfl (ib_lss _ _ _) ?_
    refine WL.nil ?_
    refine hK210 _ _ ?_
    rcases iteE hf with ⟨hc211, hf⟩ | ⟨hc211, hf⟩
    {
    refine W.cond_true (bool_tr rfl hc211) ?_
    refine W.skip ?_
    refine hK209 _ _ ?_
    refine W.seqK fun K212 hK212 => ?_
    refine W.block ?_
    refine W.seqK fun K213 hK213 => ?_
    obtain ⟨x214, hxx214, hf⟩ := bindE hf
    obtain ⟨x219, hxx219, hf⟩ := bindE hf
    refine W.any (by kernel_rfl) 9 0 [true, true, true, true, true, true, true, true, true] rfl rfl (poAt [pv (.slice a195 n196 c197), pv (.int .i64 x207), po (fun ad => Go.Proofs.YthcohhpmpdijoaaDoorL.OwnAt 2 (.slice a195 n196 c197) x207 ad), pq (fun y : List Value => .agg y.toArray) (fun v => [vl t_adversary_Rule x214 v]) (fun v => []), pv (.slice a15 n16 c17), pv (.int .i64 x207), po (fun ad => Go.Proofs.YthcohhpmpdijoaaDoorL.OwnAt 2 (.slice a15 n16 c17) x207 ad), pq (fun y : List Value => .agg y.toArray) (fun v => [vl t_adversary_Rule x219 v]) (fun v => []), pv (.bool (!decide ((⟨x214.Kind, x214.Arg⟩ : adversary_Rule) = (⟨x219.Kind, x219.Arg⟩ : adversary_Rule))))]) (Λ := [own t_adversary_Rule 32 (.slice a195 n196 c197) x193, own t_adversary_Rule 32 (.slice a15 n16 c17) x14]) hs (by kernel_rfl) (by kernel_rfl) (by kernel_rfl) ⟨⟨⟨⟨⟨⟨⟨⟨⟨trivial, ?_⟩, ?_⟩, ?_⟩, ?_⟩, ?_⟩, ?_⟩, ?_⟩, ?_⟩, ?_⟩ ?_
    {
    intro ρ w Γx Λx hs hu hp
    refine WL.move (v := .slice a195 n196 c197) ((hu 11 rfl).trans h206_11) ?_
    exact WL.nil ⟨rfl, _, rfl, rfl, hs.cutG 0 0⟩ }
    {
    intro ρ w Γx Λx hs hu hp
    refine WL.move (v := .int .i64 x207) ((hu 13 rfl).trans h206_13) ?_
    exact WL.nil ⟨rfl, _, rfl, rfl, hs.cutG 0 0⟩ }
    {
    intro ρ w Γx Λx hs hu hp
    have e224 : ρ 61 = .slice a195 n196 c197 := (hp 0 rfl).1
    have e225 : ρ 62 = .int .i64 x207 := (hp 1 rfl).1
    refine WL.indexAddrO hs (Λx.length + 0) (getApp rfl) UN24 TI32 e224 e225 hxx214 (fun ad215 hatad215 => ?_)
    exact WL.nil ⟨rfl, _, rfl, ⟨ad215, rfl, hatad215⟩, hs.cutG 0 0⟩ }
    {
    intro ρ w Γx Λx hs hu hp
    obtain ⟨ad227, e226, hatad227⟩ := (hp 2 rfl).1
    have e226 : ρ 63 = .pointer (some ad227) := e226
    refine WL.loadO hs (Λx.length + 0) (getApp rfl) TI32 (.inl rfl) hatad227 hxx214 e226 (fun v216 hs => ?_)
    obtain ⟨cs217, hl218, rfl⟩ := hs.aggv (n := 2) 0 rfl rfl rfl
    have hs := hs.add (it := vl t_adversary_Rule x214 (.agg cs217.toArray)) fun ok hA => hA.get 0 rfl
    exact WL.nil ⟨rfl, _, rfl, ⟨cs217, rfl⟩, hs.cutG 1 1⟩ }
    {
    intro ρ w Γx Λx hs hu hp
    refine WL.move (v := .slice a15 n16 c17) ((hu 9 rfl).trans h206_9) ?_
    exact WL.nil ⟨rfl, _, rfl, rfl, hs.cutG 0 0⟩ }
    {
    intro ρ w Γx Λx hs hu hp
    refine WL.move (v := .int .i64 x207) ((hu 13 rfl).trans h206_13) ?_
    exact WL.nil ⟨rfl, _, rfl, rfl, hs.cutG 0 0⟩ }
    {
    intro ρ w Γx Λx hs hu hp
    have e228 : ρ 65 = .slice a15 n16 c17 := (hp 4 rfl).1
    have e229 : ρ 66 = .int .i64 x207 := (hp 5 rfl).1
    refine WL.indexAddrO hs (Λx.length + 1) (getApp rfl) UN24 TI32 e228 e229 hxx219 (fun ad220 hatad220 => ?_)
    exact WL.nil ⟨rfl, _, rfl, ⟨ad220, rfl, hatad220⟩, hs.cutG 0 0⟩ }
    {
    intro ρ w Γx Λx hs hu hp
    obtain ⟨ad231, e230, hatad231⟩ := (hp 6 rfl).1
    have e230 : ρ 67 = .pointer (some ad231) := e230
    refine WL.loadO hs (Λx.length + 1) (getApp rfl) TI32 (.inl rfl) hatad231 hxx219 e230 (fun v221 hs => ?_)
    obtain ⟨cs222, hl223, rfl⟩ := hs.aggv (n := 2) 0 rfl rfl rfl
    have hs := hs.add (it := vl t_adversary_Rule x219 (.agg cs222.toArray)) fun ok hA => hA.get 0 rfl
    exact WL.nil ⟨rfl, _, rfl, ⟨cs222, rfl⟩, hs.cutG 1 1⟩ }
    {
    intro ρ w Γx Λx hs hu hp
    obtain ⟨⟨cs232, e234r⟩, hm235⟩ := hp 3 rfl
    have e234 : ρ 64 = .agg cs232.toArray := e234r
    rw [e234r] at hm235
    have hs := hs.memo1 (it := vl t_adversary_Rule x214 (.agg cs232.toArray)) (List.mem_append.2 (.inl (hm235 _ (List.mem_of_getElem? (i := 0) rfl))))
    have hl233 := hs.agglen (n := 2) 0 rfl rfl rfl
    obtain ⟨⟨cs236, e238r⟩, hm239⟩ := hp 7 rfl
    have e238 : ρ 68 = .agg cs236.toArray := e238r
    rw [e238r] at hm239
    have hs := hs.memo1 (it := vl t_adversary_Rule x219 (.agg cs236.toArray)) (List.mem_cons_of_mem _ (List.mem_append.2 (.inl (hm239 _ (List.mem_of_getElem? (i := 0) rfl)))))
    have hl237 := hs.agglen (n := 2) 0 rfl rfl rfl
    obtain rfl := open_adversary_Rule hs 1 rfl
    obtain rfl := open_adversary_Rule hs 0 rfl
    refine WL.eqA e234 e238 EG32 (NQ32 (⟨x214.Kind, x214.Arg⟩ : adversary_Rule) (⟨x219.Kind, x219.Arg⟩ : adversary_Rule)) ?_
    exact WL.nil ⟨rfl, _, rfl, rfl, hs.cutG 0 2⟩ }
    {
    intro ρ w hs hu240 hp
    obtain ⟨⟨⟨⟨⟨⟨⟨⟨⟨_, hp0_⟩, hp1_⟩, hp2_⟩, hp3_⟩, hp4_⟩, hp5_⟩, hp6_⟩, hp7_⟩, hp8_⟩ := hp
    have hs : St ok (bz w0) w [vl t_adversary_Rule x219 (ρ 68), vl t_adversary_Rule x214 (ρ 64), pl (tSlice tStr) words_ (⟨0, 0, none⟩), vl (tTab Tryd.prog "internal/strconv.uint64pow10" 1 GN1 Go.Lib.pow10Tab) () (.int .i64 0), pl (tInt .i64) mxl (⟨2, 0, none⟩), pl tErr true (⟨3, 0, none⟩), pl tErr true (⟨4, 0, none⟩)] [own t_adversary_Rule 32 (.slice a195 n196 c197) x193, own t_adversary_Rule 32 (.slice a15 n16 c17) x14] := hs
    have e241 : ρ 69 = .bool (!decide ((⟨x214.Kind, x214.Arg⟩ : adversary_Rule) = (⟨x219.Kind, x219.Arg⟩ : adversary_Rule))) := hp8_
    obtain ⟨cs242, e244⟩ := hp7_
    have e244 : ρ 68 = .agg cs242.toArray := e244
    try rw [e244] at hs
    have e245 : ρ 66 = .int .i64 x207 := hp5_
    have e246 : ρ 65 = .slice a15 n16 c17 := hp4_
    obtain ⟨cs247, e249⟩ := hp3_
    have e249 : ρ 64 = .agg cs247.toArray := e249
    try rw [e249] at hs
    have e250 : ρ 62 = .int .i64 x207 := hp1_
    have e251 : ρ 61 = .slice a195 n196 c197 := hp0_
    have hl248 := hs.agglen (n := 2) 1 rfl rfl rfl
    have hl243 := hs.agglen (n := 2) 0 rfl rfl rfl
    refine WA.done (by kernel_rfl) ?_
    refine hK213 _ _ ?_
    rcases iteE hf with ⟨hc252, hf⟩ | ⟨hc252, hf⟩
    {
    refine W.cond_true (bool_tr e241 hc252) ?_
    refine W.seqK fun K253 hK253 => ?_
    refine W.region ?_
    refine WL.assign (v := .bool false) rfl ?_
    refine WL.nil ?_
    refine hK253 _ _ ?_
    refine W.ret ?_
    have hr := Option.some.inj hf; subst hr
    have hr := hbbs208 _ rfl; subst hr
    have hf := hfs208
    have hr := Option.some.inj hf; subst hr
    exact ⟨_, resOk_one rfl rfl, (), rfl, (hs.mask []).pick []⟩ }
    {
    refine W.cond_false (bool_tr e241 hc252) ?_
    refine W.skip ?_
    refine hK212 _ _ ?_
    refine W.region ?_
    refine WL.move (v := .int .i64 x207) ((hu240 13 rfl).trans h206_13) ?_
    obtain ⟨x254, ex254, hf⟩ := letE hf
    refine WL.bin (v := .int .i64 x254) rfl rfl (ib_as ex254 (ib_add _ _ _)) ?_
    refine WL.assign (v := .int .i64 x254) rfl ?_
    refine WL.nil ?_
    exact ⟨_, (Option.some.inj hf).symm, ((hu240 1 rfl).trans h206_1), ((hu240 2 rfl).trans h206_2), ((hu240 3 rfl).trans h206_3), ((hu240 9 rfl).trans h206_9), ((hu240 10 rfl).trans h206_10), ((hu240 11 rfl).trans h206_11), rfl, (hs.mask [true, true]).pick [2, 3, 4, 5, 6]⟩ } } }
    {
    refine W.cond_false (bool_tr rfl hc211) ?_
    refine W.exit ?_
    have hr := Option.some.inj hf; subst hr
    have hr := hbbs208 _ rfl; subst hr
    have hf := hfs208
    exact Jk27  _ _ h206_1 h206_2 h206_3 h206_10 ((hs.mask []).pick [0, 1, 2, 3, 4]) hf } }
  refine W.region ?_
  refine WL.move (v := .int .i64 x194) rfl ?_
  refine WL.bin (v := .bool (x194 != 0)) rfl rfl (ib_neq _ _ _) ?_
  refine WL.move (v := .bool (x194 != 0)) rfl ?_
  rcases iteE hf with ⟨hc256, hf⟩ | ⟨hc256, hf⟩
  {
  refine WL.pass ((wanted_of rfl rfl (bool_tr rfl hc256)).trans rfl) rfl ?_
  refine WL.pass ((wanted_of rfl rfl (bool_tr rfl hc256)).trans rfl) rfl ?_
  refine WL.pass ((wanted_of rfl rfl (bool_tr rfl hc256)).trans rfl) rfl ?_
  refine WL.pass ((wanted_of rfl rfl (bool_tr rfl hc256)).trans rfl) rfl ?_
  refine WL.pass ((wanted_of rfl rfl (bool_tr rfl hc256)).trans rfl) rfl ?_
  refine WL.pickT (v := .bool true) (bool_tr rfl hc256) rfl ?_
  refine WL.move (v := .bool true) rfl ?_
  refine WL.pass ((wanted_of rfl rfl rfl).trans rfl) rfl ?_
  refine WL.pass ((wanted_of rfl rfl rfl).trans rfl) rfl ?_
  refine WL.pass ((wanted_of rfl rfl rfl).trans rfl) rfl ?_
  refine WL.pass ((wanted_of rfl rfl rfl).trans rfl) rfl ?_
  refine WL.pickT (v := .bool true) rfl rfl ?_
  refine WL.nil ?_
  exact Jk202 true _ _ rfl rfl rfl rfl rfl rfl rfl ((hs.mask [true, true]).pick [1, 2, 3, 4, 5]) hf }
  {
  refine WL.move (v := .slice a195 n196 c197) rfl ?_ (hg := (wanted_of rfl rfl (bool_tr rfl hc256)).trans rfl)
  refine WL.len (v := .slice a195 n196 c197) rfl (len_own hs 0 rfl UN24) ?_ (hg := (wanted_of rfl rfl (bool_tr rfl hc256)).trans rfl)
  refine WL.move (v := .slice a15 n16 c17) rfl ?_ (hg := (wanted_of rfl rfl (bool_tr rfl hc256)).trans rfl)
  refine WL.len (v := .slice a15 n16 c17) rfl (len_own hs 1 rfl UN24) ?_ (hg := (wanted_of rfl rfl (bool_tr rfl hc256)).trans rfl)
  refine WL.bin (v := .bool ((x193.length : Int) != (x14.length : Int))) rfl rfl (ib_neq _ _ _) ?_ (hg := (wanted_of rfl rfl (bool_tr rfl hc256)).trans rfl)
  refine WL.pickF (v := .bool ((x193.length : Int) != (x14.length : Int))) (bool_tr rfl hc256) rfl ?_
  refine WL.move (v := .bool ((x193.length : Int) != (x14.length : Int))) rfl ?_
  rcases iteE hf with ⟨hc257, hf⟩ | ⟨hc257, hf⟩
  {
  refine WL.pass ((wanted_of rfl rfl (bool_tr rfl hc257)).trans rfl) rfl ?_
  refine WL.pass ((wanted_of rfl rfl (bool_tr rfl hc257)).trans rfl) rfl ?_
  refine WL.pass ((wanted_of rfl rfl (bool_tr rfl hc257)).trans rfl) rfl ?_
  refine WL.pass ((wanted_of rfl rfl (bool_tr rfl hc257)).trans rfl) rfl ?_
  refine WL.pickT (v := .bool true) (bool_tr rfl hc257) rfl ?_
  refine WL.nil ?_
  exact Jk202 true _ _ rfl rfl rfl rfl rfl rfl rfl ((hs.mask [true, true]).pick [1, 2, 3, 4, 5]) hf }
  {
  refine WL.move (v := .slice a195 n196 c197) rfl ?_ (hg := (wanted_of rfl rfl (bool_tr rfl hc257)).trans rfl)
  obtain ⟨x258, hxx258, hf⟩ := bindE hf
  refine WL.callL (vs := [.slice a195 x193.length c197]) hs FN6 ⟨(Eq.trans rfl (sl_len (hs.ownLen 0 rfl))), trivial⟩ (adversary_Format.calls (x1 := x193) hxx258 (hs.ownN 0 rfl) (hs.allT.get 1 rfl) (hs.allT.get 2 rfl)) ?_ (hg := (wanted_of rfl rfl (bool_tr rfl hc257)).trans rfl)
  rintro _ w hs
  refine WL.move (v := bstr x19) rfl ?_ (hg := (wanted_of rfl rfl (bool_tr rfl hc257)).trans rfl)
  refine WL.binS (v := .bool (x258 != x19)) rfl rfl (sb_neq _ _) ?_ (hg := (wanted_of rfl rfl (bool_tr rfl hc257)).trans rfl)
  refine WL.pickF (v := .bool (x258 != x19)) (bool_tr rfl hc257) rfl ?_
  refine WL.nil ?_
  exact Jk202 (x258 != x19) _ _ rfl rfl rfl rfl rfl rfl rfl ((hs.mask [true, true]).pick [1, 2, 3, 4, 5]) hf } } }
  {
  refine W.cond_false (bool_tr rfl hc191) ?_
  refine W.skip ?_
  exact Jk27  _ _ rfl rfl rfl rfl ((hs.mask []).pick [1, 2, 3, 4, 5]) hf } } }
end Go.Proofs.YthcohhpmpdijoaaDoor
set_option linter.unusedVariables false
set_option linter.unusedSimpArgs false
set_option linter.unusedSectionVars false
namespace Go.Proofs.YthcohhpmpdijoaaDoor
open Go Go.Proofs.YthcohhpmpdijoaaDoorL
theorem clone_eq (n : network_Network) (h1 : n.Packets.length ≤ 4096) (h2 : n.Sides.length ≤ 4096) : network_clone n = some n := by
  unfold network_clone slices_Clone_Packet slices_Clone_Side
  rw [app_of (by simp; omega), Option.bind_some, Option.bind_some, app_of (by simp; omega)]
  simp

def pk (next : Int) : List api_Message → List network_Packet
  | [] => []
  | m :: l => ⟨next, m⟩ :: pk (next + 1) l
theorem pk_length (x : Int) (l : List api_Message) : (pk x l).length = l.length := by
  induction l generalizing x with
  | nil => rfl
  | cons m l ih => simp [pk, ih]
theorem pk_app (x : Int) (l k : List api_Message) : pk x (l ++ k) = pk x l ++ pk (x + l.length) k := by
  induction l generalizing x with
  | nil => simp [pk]
  | cons m l ih =>
    simp only [pk, List.cons_append, ih, List.length_cons]
    rw [show x + 1 + (l.length : Int) = x + ((l.length + 1 : Nat) : Int) by omega]
theorem send_eq (n : network_Network) (ms : List api_Message) (h1 : n.Packets.length ≤ 4096) (h2 : n.Sides.length ≤ 4096) (h3 : 0 ≤ n.Next) (h3' : n.Next ≤ 4611686018427387904) (h4 : ms.length ≤ 4611686018427387904) :
    network_Send n ms = some ⟨n.Next + ((ms.take (4096 - n.Packets.length)).length : Int), n.Packets ++ pk n.Next (ms.take (4096 - n.Packets.length)), n.Sides⟩ := by
  unfold network_Send
  rw [clone_eq ⟨n.Next, n.Packets, n.Sides⟩ h1 h2]
  simp only [Option.bind_some]
  have hl := loopO_up (step := network_Send.l1 ms) (fun k => ((k : Int), n.Next + (k : Int), n.Packets ++ pk n.Next (ms.take k))) (ms.take (4096 - n.Packets.length)).length
    (b := (n.Next + ((ms.take (4096 - n.Packets.length)).length : Int), n.Packets ++ pk n.Next (ms.take (4096 - n.Packets.length)))) ?_ ?_
  · simp only [Int.natCast_zero, Int.add_zero, List.take_zero, pk, List.append_nil] at hl
    rw [hl]
    simp [network_Send.j1]
  · intro k hk
    rw [List.length_take] at hk
    have hk1 : k < ms.length := by omega
    simp only [network_Send.l1]
    rw [if_pos (by simp; omega), idx_nat hk1]
    simp only [Option.bind_some]
    rw [if_neg (by simp [pk_length]; omega), app_of (by simp [pk_length]; omega)]
    simp only [Option.bind_some, letV_of]
    rw [show IntKind.i64.wrap (n.Next + (k : Int) + 1) = n.Next + ((k + 1 : Nat) : Int) from by rw [w64 (by omega) (by omega)]; omega, w64n (by omega), take_snoc hk1, pk_app, List.length_take, Nat.min_eq_left (by omega)]
    simp only [pk, List.append_assoc]
  · simp only [network_Send.l1]
    rw [List.length_take]
    rcases Nat.lt_or_ge ms.length (4096 - n.Packets.length + 1) with h | h
    · rw [if_neg (by simp; omega)]
      simp only [Option.some.injEq, Sum.inr.injEq, Prod.mk.injEq, true_and]
      rw [Nat.min_eq_right (by omega), List.take_of_length_le (Nat.le_refl _), List.take_of_length_le (by omega)]
    · rw [if_pos (by simp; omega), Nat.min_eq_left (by omega), idx_nat (by omega)]
      simp only [Option.bind_some]
      rw [if_pos (by simp [pk_length]; omega)]

def sd : List network_Side → Int → Int
  | [], _ => 0
  | s :: l, p => if s.Process == p then s.Side else sd l p
theorem side_eq (n : network_Network) (p : Int) (h : n.Sides.length ≤ 4096) : network_side n p = some (sd n.Sides p) := by
  unfold network_side
  have key : ∃ b : Unit ⊕ Int, loopO (network_side.l1 n p) 0 = some b ∧ (match b with | .inl _ => 0 | .inr v => v) = sd n.Sides p := by
    refine loopO_ex (fun k s => s = (k : Int) ∧ sd n.Sides p = sd (n.Sides.drop k) p) n.Sides.length ⟨rfl, rfl⟩ (fun k s hk hI => ?_) (fun s hI => ?_)
    · obtain ⟨rfl, hI⟩ := hI
      simp only [network_side.l1]
      rw [if_pos (by simpa using hk), idx_nat hk]
      simp only [Option.bind_some, letV_of]
      rw [List.drop_eq_getElem_cons hk, sd] at hI
      by_cases hp : n.Sides[k].Process == p
      · rw [if_pos hp] at hI ⊢
        exact .inr ⟨_, rfl, hI.symm⟩
      · rw [if_neg hp] at hI ⊢
        exact .inl ⟨_, rfl, by rw [w64n (by omega)], hI⟩
    · obtain ⟨rfl, hI⟩ := hI
      simp only [network_side.l1]
      rw [if_neg (by simp)]
      refine ⟨_, rfl, ?_⟩
      rw [List.drop_length] at hI
      exact hI.symm
  obtain ⟨b, hb, hq⟩ := key
  rw [hb]
  simp only [Option.bind_some]
  cases b with
  | inl u => simp only [network_side.j1]; rw [← hq]
  | inr v => simp only [← hq]
def blk (S : List network_Side) (f t : Int) : Bool := sd S f != sd S t
theorem blocked_eq (n : network_Network) (f t : Int) (h : n.Sides.length ≤ 4096) : network_Blocked n f t = some (blk n.Sides f t) := by
  unfold network_Blocked
  rw [side_eq n f h, side_eq n t h]
  rfl
def dlv (S : List network_Side) (l : List network_Packet) : List Int := (l.filter fun p => !blk S p.Message.From p.Message.To).map (·.ID)
theorem dlv_snoc (S : List network_Side) (l : List network_Packet) (p : network_Packet) : dlv S (l ++ [p]) = dlv S l ++ if blk S p.Message.From p.Message.To then [] else [p.ID] := by
  unfold dlv
  rw [List.filter_append, List.map_append]
  cases h : blk S p.Message.From p.Message.To <;> simp [h]
theorem dlv_length (S : List network_Side) (l : List network_Packet) : (dlv S l).length ≤ l.length := by
  unfold dlv
  rw [List.length_map]
  exact List.length_filter_le _ _
theorem deliverable_eq (n : network_Network) (h1 : n.Packets.length ≤ 4096) (h2 : n.Sides.length ≤ 4096) : network_Deliverable n = some (dlv n.Sides n.Packets) := by
  unfold network_Deliverable
  have hl := loopO_up (step := network_Deliverable.l1 n) (fun k => (dlv n.Sides (n.Packets.take k), (k : Int))) n.Packets.length (b := dlv n.Sides n.Packets) ?_ ?_
  · have e : (dlv n.Sides (n.Packets.take 0), ((0 : Nat) : Int)) = ([], 0) := rfl
    rw [e] at hl
    rw [hl]
    rfl
  · intro k hk
    simp only [network_Deliverable.l1]
    rw [if_pos (by simpa using hk), idx_nat hk]
    simp only [Option.bind_some]
    rw [blocked_eq n _ _ h2]
    simp only [Option.bind_some]
    rw [take_snoc hk, dlv_snoc]
    have hb := dlv_length n.Sides (n.Packets.take k)
    rw [List.length_take] at hb
    cases hbl : blk n.Sides n.Packets[k].Message.From n.Packets[k].Message.To with
    | true =>
      simp only [Bool.not_true, Bool.false_eq_true, if_false, if_true, List.append_nil, network_Deliverable.j2, letV_of]
      rw [w64n (by omega)]
    | false =>
      simp only [Bool.not_false, Bool.false_eq_true, if_false, if_true, network_Deliverable.j2, letV_of]
      rw [app_of (by simp only [List.length_cons, List.length_nil]; omega)]
      simp only [Option.bind_some]
      rw [w64n (by omega)]
  · simp only [network_Deliverable.l1]
    rw [if_neg (by simp), List.take_of_length_le (Nat.le_refl _)]
theorem index_eq (x n : Int) (h1 : 1 ≤ n) (h2 : n ≤ 4611686018427387904) : eslaw00_Index x n = some (x % n) := by
  unfold eslaw00_Index
  have a1 := Int.tmod_lt_of_pos x (show 0 < n by omega)
  have a2 := Int.lt_tmod_of_pos x (show 0 < n by omega)
  have a3 := Int.tmod_add_mul_tdiv x n
  have hw : IntKind.i64.wrap (Int.tmod x n + n) = Int.tmod x n + n := w64 (by omega) (by omega)
  rw [if_neg (by simp; omega), if_pos (by omega), letV_of, hw, if_pos (by omega)]
  rw [Int.tmod_eq_emod_of_nonneg (by omega)]
  congr 1
  rw [Int.add_emod_right]
  conv => rhs; rw [← a3]
  rw [Int.add_mul_emod_self_left]
theorem index_pos (x n : Int) (h1 : 1 ≤ n) (h2 : n ≤ 4611686018427387904) : ∃ r, eslaw00_Index x n = some r ∧ 0 ≤ r ∧ r < n :=
  ⟨_, index_eq x n h1 h2, Int.emod_nonneg _ (by omega), Int.emod_lt_of_pos _ (by omega)⟩

def msg (k f t r : Int) : api_Message := ⟨k, f, t, ⟨0, 0⟩, r, 0, ⟨[], []⟩, ⟨[], []⟩, false, ⟨[], []⟩, [], [], [], false⟩
def IsMsg (m : api_Message) : Prop := ∃ k f t r, m = msg k f t r
theorem cmp_eq (x y : Int) : cmp_Compare_int x y = some (cmpI x y) := by
  unfold cmp_Compare_int cmp_isNaN_int cmpI
  simp only [bne_self_eq_false, Option.bind_some, Bool.false_eq_true, if_false]
  by_cases h1 : x < y
  · simp [h1]
  · by_cases h2 : y < x <;> simp [h1, h2]
theorem cmpI_zero (x y : Int) : (cmpI x y == 0) = (x == y) := by
  unfold cmpI
  by_cases h1 : x < y
  · have : x ≠ y := by omega
    simp [h1, this]
  · by_cases h2 : y < x
    · have : x ≠ y := by omega
      simp [h1, h2, this]
    · have : x = y := by omega
      simp [this]
def Asc (l : List network_Packet) : Prop := l.Pairwise fun a b => a.ID < b.ID
theorem position_ex (n : network_Network) (id : Int) (h1 : n.Packets.length ≤ 4096) (ha : Asc n.Packets) :
    ∃ i : Nat, i ≤ n.Packets.length ∧ (∀ p (hp : p < n.Packets.length), p < i → n.Packets[p].ID < id) ∧ (∀ p (hp : p < n.Packets.length), i ≤ p → ¬ n.Packets[p].ID < id) ∧
      network_position n id = some ((i : Int), match n.Packets[i]? with | some p => p.ID == id | none => false) := by
  unfold network_position slices_BinarySearchFunc_int
  have key : ∃ b, loopO (slices_BinarySearchFunc_int.l1 n.Packets id (fun p : network_Packet × Int => network_position_1 p.1 p.2)) (0, (n.Packets.length : Int)) = some b ∧
      ∃ i : Nat, b = (i : Int) ∧ i ≤ n.Packets.length ∧ (∀ p (hp : p < n.Packets.length), p < i → n.Packets[p].ID < id) ∧ (∀ p (hp : p < n.Packets.length), i ≤ p → ¬ n.Packets[p].ID < id) := by
    refine loopO_mu (fun s => ∃ i j : Nat, s = ((i : Int), (j : Int)) ∧ i ≤ j ∧ j ≤ n.Packets.length ∧ (∀ p (hp : p < n.Packets.length), p < i → n.Packets[p].ID < id) ∧ (∀ p (hp : p < n.Packets.length), j ≤ p → ¬ n.Packets[p].ID < id))
      (fun s => (s.2 - s.1).toNat) ⟨0, n.Packets.length, rfl, Nat.zero_le _, Nat.le_refl _, fun p hp h => by omega, fun p hp h => by omega⟩ ?_
    rintro s ⟨i, j, rfl, hij, hj, hlo, hhi⟩
    simp only [slices_BinarySearchFunc_int.l1]
    by_cases hlt : i < j
    · left
      obtain ⟨h, hh⟩ : ∃ h : Nat, h = (i + j) / 2 := ⟨_, rfl⟩
      have e1 : IntKind.i64.wrap ((i : Int) + (j : Int)) = ((i + j : Nat) : Int) := by rw [w64 (by omega) (by omega)]; omega
      have e2 : shrI .u64 (IntKind.u64.wrap ((i + j : Nat) : Int)) 1 = (h : Int) := by rw [half_eq (by omega) (by omega), hh]; omega
      have hl : h < n.Packets.length := by omega
      rw [if_pos (by simpa using hlt), letV_of, e1, letV_of, e2, w64 (by omega) (by omega), idx_nat hl]
      simp only [Option.bind_some, network_position_1, cmp_eq]
      rw [cmpI_neg]
      by_cases hc : n.Packets[h].ID < id
      · rw [if_pos (by simpa using hc), letV_of, w64n (by omega)]
        refine ⟨_, rfl, ⟨h + 1, j, rfl, by omega, hj, fun p hp hph => ?_, hhi⟩, by omega⟩
        rcases Nat.lt_or_ge p h with h2 | h2
        · have := (List.pairwise_iff_getElem.1 ha) p h hp hl h2
          omega
        · have : p = h := by omega
          subst this
          exact hc
      · rw [if_neg (by simpa using hc)]
        refine ⟨_, rfl, ⟨i, h, rfl, by omega, by omega, hlo, fun p hp hph => ?_⟩, by omega⟩
        rcases Nat.lt_or_ge h p with h2 | h2
        · have := (List.pairwise_iff_getElem.1 ha) h p hl hp h2
          omega
        · have : p = h := by omega
          subst this
          exact hc
    · right
      rw [if_neg (by simpa using hlt)]
      have : i = j := by omega
      subst this
      exact ⟨_, rfl, i, rfl, hj, hlo, hhi⟩
  obtain ⟨b, hb, i, rfl, h2, h3, h4⟩ := key
  refine ⟨i, h2, h3, h4, ?_⟩
  rw [hb]
  simp only [Option.bind_some, slices_BinarySearchFunc_int.j2]
  by_cases hi : i < n.Packets.length
  · rw [if_pos (by simpa using hi), idx_nat hi, List.getElem?_eq_getElem hi]
    simp only [Option.bind_some, network_position_1, cmp_eq, slices_BinarySearchFunc_int.j1, cmpI_zero]
  · rw [if_neg (by simpa using hi), List.getElem?_eq_none (by omega)]
    rfl
theorem position_at (n : network_Network) (k : Nat) (h1 : n.Packets.length ≤ 4096) (ha : Asc n.Packets) (hk : k < n.Packets.length) : network_position n n.Packets[k].ID = some ((k : Int), true) := by
  obtain ⟨i, h2, h3, h4, h5⟩ := position_ex n n.Packets[k].ID h1 ha
  have : i = k := by
    rcases Nat.lt_trichotomy i k with h | h | h
    · have := (List.pairwise_iff_getElem.1 ha) i k (by omega) hk h
      exact absurd this (h4 i (by omega) (Nat.le_refl _))
    · exact h
    · have := h3 k hk h
      omega
  subst this
  rw [h5, List.getElem?_eq_getElem hk]
  simp
theorem remove_eq (n : network_Network) (k : Nat) (h1 : n.Packets.length ≤ 4096) (h2 : n.Sides.length ≤ 4096) (hk : k < n.Packets.length) : network_remove n (k : Int) = some ⟨n.Next, n.Packets.eraseIdx k, n.Sides⟩ := by
  unfold network_remove
  rw [clone_eq ⟨n.Next, n.Packets, n.Sides⟩ h1 h2]
  simp only [Option.bind_some, letV_of]
  rw [cut_of (by omega) (by omega) (by omega), w64n (by omega)]
  simp only [Option.bind_some]
  rw [cut_of (by omega) (by omega) (by omega)]
  simp only [Option.bind_some, Int.toNat_natCast, List.take_length, Int.toNat_zero, List.drop_zero]
  rw [app_of (by simp only [List.length_take, List.length_drop]; omega)]
  simp only [Option.bind_some, List.eraseIdx_eq_take_drop_succ]
def noMsg : api_Message := msg 0 0 0 0
theorem deliver_at (n : network_Network) (k : Nat) (h1 : n.Packets.length ≤ 4096) (h2 : n.Sides.length ≤ 4096) (ha : Asc n.Packets) (hk : k < n.Packets.length) :
    network_Deliver n n.Packets[k].ID = some (if blk n.Sides n.Packets[k].Message.From n.Packets[k].Message.To then (n, noMsg, false) else (⟨n.Next, n.Packets.eraseIdx k, n.Sides⟩, n.Packets[k].Message, true)) := by
  unfold network_Deliver
  rw [position_at n k h1 ha hk]
  simp only [Option.bind_some, Bool.not_true, Bool.false_eq_true, if_false]
  rw [idx_nat hk]
  simp only [Option.bind_some]
  rw [blocked_eq n _ _ h2]
  simp only [Option.bind_some, network_Deliver.j1]
  cases blk n.Sides n.Packets[k].Message.From n.Packets[k].Message.To with
  | true =>
    rw [if_pos rfl, if_pos rfl, clone_eq n h1 h2]
    rfl
  | false =>
    rw [if_neg (by simp), if_neg (by simp), remove_eq n k h1 h2 hk, idx_nat hk]
    rfl
structure Inv (b : Nat) (n : network_Network) : Prop where
  asc : Asc n.Packets
  ids : ∀ p ∈ n.Packets, 1 ≤ p.ID ∧ p.ID < n.Next
  msgs : ∀ p ∈ n.Packets, IsMsg p.Message
  few : n.Packets.length ≤ 3 * b
  len : n.Packets.length ≤ 4096
  sides : n.Sides.length ≤ 4096
  pos : 1 ≤ n.Next
  top : n.Next ≤ 1 + 3 * (b : Int)
theorem Inv.mono {b c : Nat} {n : network_Network} (h : Inv b n) (hbc : b ≤ c) : Inv c n := { h with top := by have := h.top; omega, few := by have := h.few; omega }
theorem Inv.sub {b : Nat} {n : network_Network} {l : List network_Packet} (h : Inv b n) (hl : l.Sublist n.Packets) : Inv b ⟨n.Next, l, n.Sides⟩ where
  asc := List.Pairwise.sublist hl h.asc
  ids p hp := h.ids p (hl.subset hp)
  msgs p hp := h.msgs p (hl.subset hp)
  few := Nat.le_trans hl.length_le h.few
  len := Nat.le_trans hl.length_le h.len
  sides := h.sides
  pos := h.pos
  top := h.top
structure Ext (n n' : network_Network) : Prop where
  le : n.Next ≤ n'.Next
  old : ∀ p ∈ n'.Packets, (∃ q ∈ n.Packets, q.ID = p.ID) ∨ n.Next ≤ p.ID
  new : ∀ i, n.Next ≤ i → i < n'.Next → ∃ p ∈ n'.Packets, p.ID = i
theorem Ext.sub {n : network_Network} {l : List network_Packet} {s : List network_Side} (h : l.Sublist n.Packets) : Ext n ⟨n.Next, l, s⟩ := ⟨Int.le_refl _, fun p hp => .inl ⟨p, h.subset hp, rfl⟩, fun i h1 h2 => by simp only at h2; omega⟩
section
variable {b : Nat} {n : network_Network} (h : Inv b n) (hb : b ≤ 1000)
include h hb
theorem Inv.next : 0 ≤ n.Next ∧ n.Next ≤ 4611686018427387904 := by
  have := h.pos
  have := h.top
  omega
end
end Go.Proofs.YthcohhpmpdijoaaDoor
set_option linter.unusedVariables false
set_option linter.unusedSimpArgs false
namespace Go.Proofs.YthcohhpmpdijoaaDoorL
open Go

theorem lt_of_len {k n : Nat} (h : k < n) : decide ((k : Int) < (n : Int)) = true := by simpa using h
theorem not_lt_len {n : Nat} : decide ((n : Int) < (n : Int)) = false := by simp
theorem wcast {k n : Nat} (hk : k < n) (h : n ≤ 4611686018427387904) : IntKind.i64.wrap ((k : Int) + 1) = ((k + 1 : Nat) : Int) := w64n (by omega)
end Go.Proofs.YthcohhpmpdijoaaDoorL
set_option linter.unusedVariables false
set_option linter.unusedSimpArgs false
namespace Go.Proofs.YthcohhpmpdijoaaDoor
open Go Go.Proofs.YthcohhpmpdijoaaDoorL
structure RK (r : adversary_Rule) : Prop where
  lo : 1 ≤ r.Kind
  hi : r.Kind ≤ 9
  arg : r.Kind ≤ 6 → 1 ≤ r.Arg ∧ r.Arg ≤ 1000
  no : 6 < r.Kind → r.Arg = 0
theorem Validate_ex (l : List adversary_Rule) : ∃ e, adversary_Validate l = some e ∧ (e = 0 ↔ l.length ≤ 16 ∧ ∀ r ∈ l, RK r) := by
  unfold adversary_Validate
  by_cases hl : (16 : Int) < (l.length : Int)
  · rw [if_pos (by simpa using hl)]
    exact ⟨3, rfl, ⟨fun h => absurd h (by decide), fun h => absurd h.1 (by omega)⟩⟩
  rw [if_neg (by simpa using hl)]
  have hlen : l.length ≤ 16 := by omega
  have key : ∃ b, loopO (adversary_Validate.l1 l) 0 = some b ∧ (match b with | .inl _ => ∀ r ∈ l, RK r | .inr e => e ≠ 0 ∧ ¬ ∀ r ∈ l, RK r) := by
    refine loopO_ex (fun k s => s = (k : Int) ∧ ∀ i, i < k → (h : i < l.length) → RK l[i]) l.length ⟨rfl, fun i h => absurd h (by omega)⟩ ?_ ?_
    · rintro k s hk ⟨rfl, hi⟩
      unfold adversary_Validate.l1
      simp only [lt_of_len hk, if_true, idx_nat hk, Option.bind_some]
      obtain ⟨r, hr⟩ : ∃ r, r = l[k] := ⟨_, rfl⟩
      rw [← hr]
      have hm : r ∈ l := by rw [hr]; exact List.getElem_mem hk
      have next : RK r → ∀ i, i < k + 1 → (h : i < l.length) → RK l[i] := by
        intro hg i h1 h2
        by_cases he : i = k
        · subst he; rw [← hr]; exact hg
        · exact hi i (by omega) h2
      have bad : ¬ RK r → ¬ ∀ r ∈ l, RK r := fun h hh => h (hh r hm)
      have j2 : ∀ b, (b = true ↔ ¬ RK r) → (∃ s', adversary_Validate.j2 (k : Int) b = some (.inl s') ∧ s' = ((k + 1 : Nat) : Int) ∧ ∀ i, i < k + 1 → (h : i < l.length) → RK l[i]) ∨ ∃ b', adversary_Validate.j2 (k : Int) b = some (.inr b') ∧ (match b' with | .inl _ => ∀ r ∈ l, RK r | .inr e => e ≠ 0 ∧ ¬ ∀ r ∈ l, RK r) := by
        intro b hb
        unfold adversary_Validate.j2
        cases b with
        | true => exact .inr ⟨_, rfl, by decide, bad (hb.1 rfl)⟩
        | false =>
          rw [if_neg (by simp), letV_of, wcast hk (by omega)]
          exact .inl ⟨_, rfl, rfl, next (Classical.byContradiction fun h => by have := hb.2 h; cases this)⟩
      have j3 : ∀ b, (b = true ↔ ¬ (1 ≤ r.Kind ∧ r.Kind ≤ 9)) → (∃ s', adversary_Validate.j3 (k : Int) r b = some (.inl s') ∧ s' = ((k + 1 : Nat) : Int) ∧ ∀ i, i < k + 1 → (h : i < l.length) → RK l[i]) ∨ ∃ b', adversary_Validate.j3 (k : Int) r b = some (.inr b') ∧ (match b' with | .inl _ => ∀ r ∈ l, RK r | .inr e => e ≠ 0 ∧ ¬ ∀ r ∈ l, RK r) := by
        intro b hb
        unfold adversary_Validate.j3
        cases b with
        | true => exact .inr ⟨_, rfl, by decide, bad fun h => hb.1 rfl ⟨h.lo, h.hi⟩⟩
        | false =>
          have hk19 : 1 ≤ r.Kind ∧ r.Kind ≤ 9 := Classical.byContradiction fun h => by have := hb.2 h; cases this
          rw [if_neg (by simp)]
          by_cases h6 : r.Kind ≤ 6
          · rw [if_pos (by simpa using h6)]
            by_cases ha : r.Arg < 1
            · rw [if_pos (by simpa using ha)]
              exact j2 true ⟨fun _ h => by have := (h.arg h6).1; omega, fun _ => rfl⟩
            · rw [if_neg (by simpa using ha)]
              by_cases hb2 : 1000 < r.Arg
              · rw [if_pos (by simpa using hb2)]
                exact j2 true ⟨fun _ h => by have := (h.arg h6).2; omega, fun _ => rfl⟩
              · rw [if_neg (by simpa using hb2), if_neg (by simp; omega)]
                exact j2 false ⟨(fun h => nomatch h), fun h => absurd ⟨hk19.1, hk19.2, fun _ => by omega, fun _ => by omega⟩ h⟩
          · rw [if_neg (by simpa using h6), if_pos (by simp; omega)]
            refine j2 _ ⟨fun h hr => ?_, fun h => ?_⟩
            · have := hr.no (by omega)
              simp [this] at h
            · rw [bne_iff_ne]
              intro h0
              exact h ⟨hk19.1, hk19.2, fun hh => absurd hh h6, fun _ => h0⟩
      by_cases hk1 : r.Kind < 1
      · rw [if_pos (by simpa using hk1)]
        exact j3 true ⟨fun _ h => by omega, fun _ => rfl⟩
      · rw [if_neg (by simpa using hk1)]
        refine j3 _ ⟨fun h hh => ?_, fun h => ?_⟩
        · have : 9 < r.Kind := by simpa using h
          omega
        · have : 9 < r.Kind := by omega
          simpa using this
    · rintro s ⟨rfl, hi⟩
      unfold adversary_Validate.l1
      simp only [not_lt_len, Bool.false_eq_true, if_false]
      refine ⟨_, rfl, fun r hr => ?_⟩
      obtain ⟨i, h1, rfl⟩ := List.getElem_of_mem hr
      exact hi i h1 h1
  obtain ⟨b, he, hb⟩ := key
  rw [he, Option.bind_some]
  cases b with
  | inl _ => exact ⟨0, rfl, ⟨fun _ => ⟨hlen, hb⟩, fun _ => rfl⟩⟩
  | inr v => exact ⟨v, rfl, ⟨fun h => absurd h hb.1, fun h => absurd h.2 hb.2⟩⟩
def mt (r : adversary_Rule) (m : api_Message) : Bool := if r.Kind = 1 ∨ r.Kind = 4 then m.To == r.Arg else if r.Kind = 2 ∨ r.Kind = 5 then m.From == r.Arg else m.Kind == r.Arg
theorem matches_eq (r : adversary_Rule) (m : api_Message) : adversary_matches r m = some (mt r m) := by
  unfold adversary_matches adversary_matches.j2 adversary_matches.j1 mt
  by_cases h1 : r.Kind = 1
  · simp [h1]
  · by_cases h4 : r.Kind = 4
    · simp [h4]
    · by_cases h2 : r.Kind = 2
      · simp [h2]
      · by_cases h5 : r.Kind = 5
        · simp [h5]
        · simp [h1, h2, h4, h5]
def kp (step : Int) (r : adversary_Rule) (l : List network_Packet) : List network_Packet :=
  if r.Kind = 7 then l.take 1 else if r.Kind = 8 then l.drop (l.length - 1) else if r.Kind = 9 then (l.drop (step % (l.length : Int)).toNat).take 1 else
  if l.filter (fun p => mt r p.Message == decide (r.Kind ≤ 3)) = [] then l else l.filter fun p => mt r p.Message == decide (r.Kind ≤ 3)
theorem kp_ok (step : Int) (r : adversary_Rule) {l : List network_Packet} (h : l ≠ []) : kp step r l ≠ [] ∧ (kp step r l).length ≤ l.length := by
  have hp : 0 < l.length := List.length_pos_iff.2 h
  unfold kp
  split
  · refine ⟨fun h' => ?_, by rw [List.length_take]; omega⟩
    have := congrArg List.length h'
    rw [List.length_take, List.length_nil] at this
    omega
  · split
    · refine ⟨fun h' => ?_, by rw [List.length_drop]; omega⟩
      have := congrArg List.length h'
      rw [List.length_drop, List.length_nil] at this
      omega
    · split
      · have h1 := Int.emod_nonneg step (show (l.length : Int) ≠ 0 by omega)
        have h2 := Int.emod_lt_of_pos step (show 0 < (l.length : Int) by omega)
        obtain ⟨k, hk⟩ : ∃ k : Nat, step % (l.length : Int) = k := ⟨(step % (l.length : Int)).toNat, (Int.toNat_of_nonneg (Int.emod_nonneg step (by omega))).symm⟩
        rw [hk] at h2 ⊢
        refine ⟨fun h' => ?_, by rw [List.length_take, List.length_drop]; omega⟩
        have := congrArg List.length h'
        rw [List.length_take, List.length_drop, List.length_nil, Int.toNat_natCast] at this
        omega
      · split
        · exact ⟨h, Nat.le_refl _⟩
        · rename_i hne
          exact ⟨hne, List.length_filter_le _ _⟩
theorem rot_eq (step : Int) {n : Int} (h1 : 1 ≤ n) : Int.tmod (Int.tmod step n + n) n = step % n := by
  have a1 := Int.tmod_lt_of_pos step (show 0 < n by omega)
  have a2 := Int.lt_tmod_of_pos step (show 0 < n by omega)
  have a3 := Int.tmod_add_mul_tdiv step n
  rw [Int.tmod_eq_emod_of_nonneg (by omega), Int.add_emod_right]
  conv => rhs; rw [← a3]
  rw [Int.add_mul_emod_self_left]
theorem cut_one {l : List network_Packet} {k : Nat} (hk : k < l.length) : cut l (k : Int) ((k + 1 : Nat) : Int) = some ((l.drop k).take 1) := by
  rw [cut_of (by omega) (by omega) (by omega)]
  congr 1
  simp only [Int.toNat_natCast]
  rw [List.take_add, List.drop_append_of_le_length (by rw [List.length_take]; omega), List.drop_of_length_le (by rw [List.length_take]; omega), List.nil_append]
theorem filter_eq {l : List network_Packet} (hl : l.length ≤ 4096) (hne : l ≠ []) (r : adversary_Rule) (step : Int) : adversary_filterOf_1 l r step = some (kp step r l) := by
  have hp : 0 < l.length := List.length_pos_iff.2 hne
  unfold adversary_filterOf_1 kp
  by_cases h7 : r.Kind = 7
  · rw [if_pos (by simpa using h7), if_pos h7, cut_of (Int.le_refl 0) (by decide) (by omega)]
    rfl
  rw [if_neg (by simpa using h7), if_neg h7]
  by_cases h8 : r.Kind = 8
  · rw [if_pos (by simpa using h8), if_pos h8, letV_of, w64 (by omega) (by omega), show (l.length : Int) - 1 = ((l.length - 1 : Nat) : Int) by omega, cut_of (by omega) (by omega) (Int.le_refl _)]
    simp
  rw [if_neg (by simpa using h8), if_neg h8]
  by_cases h9 : r.Kind = 9
  · have a1 := Int.tmod_lt_of_pos step (show 0 < (l.length : Int) by omega)
    have a2 := Int.lt_tmod_of_pos step (show 0 < (l.length : Int) by omega)
    have b1 := Int.emod_nonneg step (show (l.length : Int) ≠ 0 by omega)
    have b2 := Int.emod_lt_of_pos step (show 0 < (l.length : Int) by omega)
    rw [if_pos (by simpa using h9), if_pos h9, if_pos (by omega), letV_of, letV_of, w64 (x := Int.tmod step (l.length : Int) + (l.length : Int)) (by omega) (by omega), if_pos (by omega), letV_of, rot_eq step (by omega), letV_of]
    obtain ⟨k, hk⟩ : ∃ k : Nat, step % (l.length : Int) = k := ⟨(step % (l.length : Int)).toNat, (Int.toNat_of_nonneg (Int.emod_nonneg step (by omega))).symm⟩
    rw [hk] at b2 ⊢
    rw [w64 (x := (k : Int) + 1) (by omega) (by omega), show (k : Int) + 1 = ((k + 1 : Nat) : Int) by omega, cut_one (by omega)]
    rfl
  rw [if_neg (by simpa using h9), if_neg h9]
  obtain ⟨f, hf⟩ : ∃ f : network_Packet → Bool, f = fun p => mt r p.Message == decide (r.Kind ≤ 3) := ⟨_, rfl⟩
  rw [← hf]
  have hlp := loopO_up (step := adversary_filterOf_1.l1 l r) (fun k => ((l.take k).filter f, (k : Int))) l.length (b := l.filter f) (fun k hk => ?_) ?_
  · have hlp : loopO (adversary_filterOf_1.l1 l r) ([], 0) = some (l.filter f) := hlp
    rw [hlp, Option.bind_some]
    unfold adversary_filterOf_1.j1
    by_cases h0 : l.filter f = []
    · rw [if_pos h0, if_pos (by rw [h0]; rfl)]
    · rw [if_neg h0, if_neg (by
        have := List.length_pos_iff.2 h0
        simp only [beq_iff_eq]
        omega)]
  · have hle : ((l.take k).filter f).length ≤ 4096 := Nat.le_trans (List.length_filter_le _ _) (by rw [List.length_take]; omega)
    unfold adversary_filterOf_1.l1
    simp only [lt_of_len hk, if_true, idx_nat hk, Option.bind_some, matches_eq]
    rw [take_snoc hk, List.filter_append]
    have ef : f l[k] = (mt r l[k].Message == decide (r.Kind ≤ 3)) := by rw [hf]
    unfold adversary_filterOf_1.j2
    cases hc : (mt r l[k].Message == decide (r.Kind ≤ 3)) with
    | true =>
      rw [if_pos rfl, app_of (by simp only [List.length_singleton]; omega), Option.bind_some, letV_of, wcast hk (by omega)]
      have : [l[k]].filter f = [l[k]] := by rw [List.filter_cons, ef, hc]; rfl
      rw [this]
    | false =>
      rw [if_neg (by simp), letV_of, wcast hk (by omega)]
      have : [l[k]].filter f = [] := by rw [List.filter_cons, ef, hc]; rfl
      rw [this, List.append_nil]
  · unfold adversary_filterOf_1.l1
    simp only [not_lt_len, Bool.false_eq_true, if_false, List.take_length]
theorem fold_ok (step : Int) : ∀ (rules : List adversary_Rule) {l : List network_Packet}, l ≠ [] → rules.foldl (fun l r => kp step r l) l ≠ [] ∧ (rules.foldl (fun l r => kp step r l) l).length ≤ l.length
  | [], l, h => ⟨h, Nat.le_refl _⟩
  | r :: rules, l, h => by
    obtain ⟨h1, h2⟩ := kp_ok step r h
    obtain ⟨h3, h4⟩ := fold_ok step rules h1
    exact ⟨h3, Nat.le_trans h4 h2⟩
theorem narrow_eq {l : List network_Packet} (hl : l.length ≤ 4096) (hne : l ≠ []) (rules : List adversary_Rule) (hr : rules.length ≤ 4096) (step : Int) :
    adversary_narrow l (rules.map fun r p => adversary_filterOf_1 p r step) = some (rules.foldl (fun l r => kp step r l) l) := by
  unfold adversary_narrow
  have := loopO_up (step := adversary_narrow.l1 (rules.map fun r p => adversary_filterOf_1 p r step)) (fun k => ((rules.take k).foldl (fun l r => kp step r l) l, (k : Int))) rules.length (b := rules.foldl (fun l r => kp step r l) l) (fun k hk => ?_) ?_
  · have this : loopO (adversary_narrow.l1 (rules.map fun r p => adversary_filterOf_1 p r step)) (l, 0) = some (rules.foldl (fun l r => kp step r l) l) := this
    rw [this]
    rfl
  · obtain ⟨h1, h2⟩ := fold_ok step (rules.take k) hne
    unfold adversary_narrow.l1
    have hk2 : k < (rules.map fun r p => adversary_filterOf_1 p r step).length := by rw [List.length_map]; exact hk
    simp only [lt_of_len hk2, if_true, idx_nat hk2, Option.bind_some, List.getElem_map]
    rw [filter_eq (by omega) h1, Option.bind_some, letV_of, wcast hk (by omega), take_snoc hk, List.foldl_append]
    rfl
  · unfold adversary_narrow.l1
    rw [List.take_length]
    dsimp only
    rw [if_neg (by simp)]
def dl (n : network_Network) : List network_Packet := n.Packets.filter fun p => !blk n.Sides p.Message.From p.Message.To
open Classical in
noncomputable def chs (rules : List adversary_Rule) (n : network_Network) (step : Int) : Int × Bool :=
  if dl n = [] ∨ ¬ (rules.length ≤ 16 ∧ ∀ r ∈ rules, RK r) then (0, false) else ((((rules.foldl (fun l r => kp step r l) (dl n)).head?).map (·.ID)).getD 0, true)
theorem find_at (n : network_Network) (h1 : n.Packets.length ≤ 4096) (ha : Asc n.Packets) {p : network_Packet} (hp : p ∈ n.Packets) : network_Find n p.ID = some (p.Message, true) := by
  obtain ⟨k, hk, rfl⟩ := List.getElem_of_mem hp
  unfold network_Find
  rw [position_at n k h1 ha hk]
  simp only [Option.bind_some, Bool.not_true, Bool.false_eq_true, if_false]
  rw [idx_nat hk]
  rfl
theorem Choose_eq (rules : List adversary_Rule) (hr : rules.length ≤ 4096) (n : network_Network) (h1 : n.Packets.length ≤ 4096) (h2 : n.Sides.length ≤ 4096) (ha : Asc n.Packets) (step : Int) : adversary_Choose rules n step = some (chs rules n step) := by
  unfold adversary_Choose
  rw [deliverable_eq n h1 h2, Option.bind_some]
  have hdl : (dl n).length ≤ 4096 := Nat.le_trans (List.length_filter_le _ _) h1
  have hd : dlv n.Sides n.Packets = (dl n).map (·.ID) := rfl
  have hlp := loopO_up (step := adversary_Choose.l2 n (dlv n.Sides n.Packets)) (fun k => ((dl n).take k, (k : Int))) (dl n).length (b := dl n) (fun k hk => ?_) ?_
  · have hlp : loopO (adversary_Choose.l2 n (dlv n.Sides n.Packets)) ([], 0) = some (dl n) := hlp
    rw [hlp, Option.bind_some]
    unfold adversary_Choose.j3 adversary_Choose.j2 chs
    by_cases h0 : dl n = []
    · rw [if_pos (by rw [h0]; rfl), if_pos rfl, if_pos (.inl h0)]
    · rw [if_neg (by
        have := List.length_pos_iff.2 h0
        simp only [beq_iff_eq]
        omega)]
      obtain ⟨e, he, hiff⟩ := Validate_ex rules
      rw [he, Option.bind_some]
      by_cases hv : rules.length ≤ 16 ∧ ∀ r ∈ rules, RK r
      · have he0 := hiff.2 hv
        rw [show (e != 0) = false by simp [he0], if_neg (by simp), if_neg (by rintro (h | h); exact h0 h; exact h hv)]
        have hl2 := loopO_up (step := adversary_Choose.l1 rules step) (fun k => (((rules.take k).map fun r p => adversary_filterOf_1 p r step), (k : Int))) rules.length (b := rules.map fun r p => adversary_filterOf_1 p r step) (fun k hk => ?_) ?_
        · have hl2 : loopO (adversary_Choose.l1 rules step) ([], 0) = some (rules.map fun r p => adversary_filterOf_1 p r step) := hl2
          rw [hl2, Option.bind_some]
          unfold adversary_Choose.j1
          rw [narrow_eq hdl h0 rules hr, Option.bind_some]
          obtain ⟨h3, h4⟩ := fold_ok step rules h0
          obtain ⟨q, t, hq⟩ := List.exists_cons_of_ne_nil h3
          rw [hq]
          rfl
        · unfold adversary_Choose.l1 adversary_filterOf
          simp only [lt_of_len hk, if_true, idx_nat hk, Option.bind_some]
          rw [app_of (by simp only [List.length_map, List.length_take, List.length_singleton]; omega), Option.bind_some, letV_of, wcast hk (by omega), take_snoc hk, List.map_append]
          rfl
        · unfold adversary_Choose.l1
          rw [List.take_length]
          dsimp only
          rw [if_neg (by simp)]
      · have he0 : e ≠ 0 := fun h => hv (hiff.1 h)
        rw [show (e != 0) = true by simpa using he0, if_pos rfl, if_pos (.inr hv)]
  · have hk2 : k < (dlv n.Sides n.Packets).length := by rw [hd, List.length_map]; exact hk
    have hmem : (dl n)[k] ∈ n.Packets := (List.mem_filter.1 (List.getElem_mem hk)).1
    unfold adversary_Choose.l2
    simp only [lt_of_len hk2, if_true, idx_nat hk2, Option.bind_some]
    have e1 : (dlv n.Sides n.Packets)[k] = (dl n)[k].ID := by simp [hd]
    rw [e1, find_at n h1 ha hmem, Option.bind_some]
    simp only []
    rw [app_of (by simp only [List.length_take, List.length_singleton]; omega), Option.bind_some, letV_of, wcast hk (by omega), take_snoc hk]
  · unfold adversary_Choose.l2
    dsimp only
    rw [if_neg (by rw [hd]; simp), List.take_length]
end Go.Proofs.YthcohhpmpdijoaaDoor
set_option linter.unusedVariables false
set_option linter.unusedSimpArgs false
namespace Go.Proofs.YthcohhpmpdijoaaDoor
open Go Go.Proofs.YthcohhpmpdijoaaDoorL
open Go.Lib (itoa decDigits join joinTail)
theorem dec_len : ∀ (f u : Nat), u < 10 ^ (f + 1) → (decDigits u).length ≤ f + 1
  | 0, u, h => by
    rw [decDigits, dif_pos (by omega)]
    simp
  | f + 1, u, h => by
    rw [decDigits]
    split
    · simp
    · rw [List.length_append, List.length_singleton]
      have := dec_len f (u / 10) (by rw [Nat.pow_succ] at h; omega)
      omega
theorem itoa_nat (n : Nat) : itoa (n : Int) = decDigits n := by
  unfold itoa
  rw [if_neg (by omega), Int.toNat_natCast]
theorem join_len {sep : List UInt8} {B : Nat} : ∀ xs : List (List UInt8), (∀ x ∈ xs, x.length ≤ B) → (join xs sep).length ≤ (B + sep.length) * xs.length
  | [], _ => by rw [Go.Lib.join_nil]; simp
  | x :: r, h => by
    have ht : ∀ r : List (List UInt8), (∀ x ∈ r, x.length ≤ B) → (joinTail sep r).length ≤ (B + sep.length) * r.length := by
      intro r
      induction r with
      | nil => intro _; simp [joinTail]
      | cons y r ih =>
        intro h
        have h1 := h y (by simp)
        have h2 := ih fun z hz => h z (by simp [hz])
        unfold joinTail at h2 ⊢
        rw [List.map_cons, List.flatten_cons, List.length_append, List.length_append, List.length_cons, Nat.mul_add, Nat.mul_one]
        omega
    have h1 := h x (by simp)
    have h2 := ht r fun z hz => h z (by simp [hz])
    rw [Go.Lib.join_cons, List.length_append, List.length_cons, Nat.mul_add, Nat.mul_one]
    omega
theorem join_snoc {sep x : List UInt8} : ∀ {xs : List (List UInt8)}, xs ≠ [] → join (xs ++ [x]) sep = join xs sep ++ sep ++ x
  | [], h => absurd rfl h
  | y :: r, _ => by
    rw [List.cons_append, Go.Lib.join_cons, Go.Lib.join_cons]
    unfold joinTail
    rw [List.map_append, List.flatten_append]
    simp
def fm (r : adversary_Rule) : List UInt8 := words_.getD r.Kind.toNat [] ++ (if r.Kind ≤ 6 then 32 :: itoa r.Arg else [])
theorem words_len : ∀ x ∈ words_, x.length ≤ 11 := by decide
theorem word_at {k : Int} (h1 : 1 ≤ k) (h2 : k ≤ 9) : idx words_ k = some (words_.getD k.toNat []) := by
  have hl : k.toNat < words_.length := by show k.toNat < 10; omega
  unfold idx
  rw [if_pos (by omega), List.getElem?_eq_getElem hl]
  simp [hl]
theorem word_len (k : Nat) : (words_.getD k []).length ≤ 11 := by
  by_cases h : k < words_.length
  · have := words_len _ (List.getElem_mem h)
    simpa [h] using this
  · simp [h]
theorem arg_nat {r : adversary_Rule} (h : RK r) : ∃ n : Nat, r.Arg = n ∧ n ≤ 1000 := by
  by_cases h6 : r.Kind ≤ 6
  · have := h.arg h6
    exact ⟨r.Arg.toNat, by omega, by omega⟩
  · exact ⟨0, h.no (by omega), by omega⟩
theorem fm_len {r : adversary_Rule} (h : RK r) : (fm r).length ≤ 20 := by
  unfold fm
  have h1 := word_len r.Kind.toNat
  obtain ⟨n, hn, hn2⟩ := arg_nat h
  have h2 := dec_len 3 n (by omega)
  rw [List.length_append]
  split
  · rw [hn, itoa_nat, List.length_cons]; omega
  · rw [List.length_nil]; omega
theorem cat_of {a b : List UInt8} (h : a.length + b.length ≤ 9223372036854775807) : cat a b = some (a ++ b) := if_pos h
theorem Itoa_eq {r : adversary_Rule} (h : RK r) : strconv_Itoa r.Arg = some (itoa r.Arg) := by
  obtain ⟨n, hn, hn2⟩ := arg_nat h
  unfold strconv_Itoa
  rw [if_pos (by omega)]
theorem itoa_len {r : adversary_Rule} (h : RK r) : (itoa r.Arg).length ≤ 4 := by
  obtain ⟨n, hn, hn2⟩ := arg_nat h
  have h2 := dec_len 3 n (by omega)
  rw [hn, itoa_nat]
  exact h2
open Classical in
noncomputable def fmts (l : List adversary_Rule) : List UInt8 := if l.length ≤ 16 ∧ ∀ r ∈ l, RK r then join (l.map fm) [59, 32] else []
theorem Format_eq (l : List adversary_Rule) : adversary_Format l = some (fmts l) := by
  unfold adversary_Format fmts
  obtain ⟨e, he, hiff⟩ := Validate_ex l
  rw [he, Option.bind_some]
  by_cases hv : l.length ≤ 16 ∧ ∀ r ∈ l, RK r
  · rw [if_pos hv, if_neg (by simp [hiff.2 hv])]
    obtain ⟨hl, hr⟩ := hv
    have := loopO_up (step := adversary_Format.l1 l) (fun k => ((l.take k).map fm, (k : Int))) l.length (b := l.map fm) (fun k hk => ?_) ?_
    · have this : loopO (adversary_Format.l1 l) ([], 0) = some (l.map fm) := this
      rw [this, Option.bind_some]
      unfold adversary_Format.j1 strings_Join
      have hb := join_len (sep := [59, 32]) (B := 20) (l.map fm) (by
        intro x hx
        obtain ⟨r, h1, rfl⟩ := List.mem_map.1 hx
        exact fm_len (hr r h1))
      rw [List.length_map] at hb
      have hb2 : (20 + ([59, 32] : List UInt8).length) * l.length ≤ 400 := by show 22 * l.length ≤ 400; omega
      rw [if_pos ⟨by rw [List.length_map]; omega, by omega⟩]
      rfl
    · have hrk := hr _ (List.getElem_mem hk)
      have w1 := word_len l[k].Kind.toNat
      have i1 := itoa_len hrk
      unfold adversary_Format.l1
      simp only [lt_of_len hk, if_true, idx_nat hk, Option.bind_some]
      rw [word_at hrk.lo hrk.hi, Option.bind_some]
      have j2 : ∀ x : List UInt8, x = fm l[k] → adversary_Format.j2 ((l.take k).map fm) (k : Int) x = some (.inl ((l.take (k + 1)).map fm, ((k + 1 : Nat) : Int))) := by
        rintro x rfl
        unfold adversary_Format.j2
        rw [app_of (by simp only [List.length_map, List.length_take, List.length_singleton]; omega), Option.bind_some, letV_of, wcast hk (by omega), take_snoc hk, List.map_append]
        rfl
      by_cases h6 : l[k].Kind ≤ 6
      · rw [if_pos (by simpa using h6), Itoa_eq hrk, Option.bind_some, cat_of (by simp only [List.length_singleton]; omega), Option.bind_some, cat_of (by simp only [List.length_append, List.length_singleton]; omega), Option.bind_some]
        exact j2 _ (by unfold fm; rw [if_pos h6]; rfl)
      · rw [if_neg (by simpa using h6)]
        exact j2 _ (by unfold fm; rw [if_neg h6, List.append_nil])
    · unfold adversary_Format.l1
      simp only [not_lt_len, Bool.false_eq_true, if_false, List.take_length]
  · rw [if_neg hv, if_pos (by
      have : e ≠ 0 := fun h => hv (hiff.1 h)
      simpa using this)]
theorem decimalF_eq : ∀ (f n : Nat), n < 10 ^ (f + 1) → f ≤ 5 → decimalF (f + 1) (n : Int) = some (decDigits n)
  | 0, n, h, _ => by
    have h10 : n < 10 := by omega
    unfold decimalF
    rw [if_pos (by simp; omega), letV_of, decDigits, dif_pos h10]
    have : ∀ m : Nat, m < 10 → some (bts [IntKind.u8.wrap (IntKind.i64.wrap (48 + (m : Int)))]) = some [UInt8.ofNat (48 + m)] := by decide
    exact this n h10
  | f + 1, n, h, hf => by
    unfold decimalF
    by_cases h10 : n < 10
    · rw [if_pos (by simp; omega), letV_of, decDigits, dif_pos h10]
      have : ∀ m : Nat, m < 10 → some (bts [IntKind.u8.wrap (IntKind.i64.wrap (48 + (m : Int)))]) = some [UInt8.ofNat (48 + m)] := by decide
      exact this n h10
    · have hn : n < 10 ^ (f + 1) * 10 := by rw [← Nat.pow_succ]; exact h
      have hb : n < 10000000 := by
        have : 10 ^ (f + 1 + 1) ≤ 10 ^ 7 := Nat.pow_le_pow_right (by decide) (by omega)
        omega
      rw [if_neg (by simp; omega), letV_of]
      have t1 : Int.tdiv (n : Int) 10 = ((n / 10 : Nat) : Int) := rfl
      have t2 : Int.tmod (n : Int) 10 = ((n % 10 : Nat) : Int) := rfl
      rw [t1, t2, w64 (x := ((n / 10 : Nat) : Int)) (by omega) (by omega), decimalF_eq f (n / 10) (by omega) (by omega), Option.bind_some, decimalF_eq f (n % 10) (by
        have : 10 ^ 1 ≤ 10 ^ (f + 1) := Nat.pow_le_pow_right (by decide) (by omega)
        omega) (by omega), Option.bind_some]
      have l1 := dec_len f (n / 10) (by omega)
      have e2 : decDigits (n % 10) = [UInt8.ofNat (48 + n % 10)] := by rw [decDigits, dif_pos (by omega)]
      rw [e2, cat_of (by rw [List.length_singleton]; omega), Option.bind_some]
      conv => rhs; rw [decDigits, dif_neg h10]
theorem decimal_eq {r : adversary_Rule} (h : RK r) : esref36_decimal r.Arg = some (itoa r.Arg) := by
  obtain ⟨n, hn, hn2⟩ := arg_nat h
  unfold esref36_decimal
  rw [hn, decimalF_eq 5 n (by omega) (by decide), itoa_nat]
theorem refValidate_eq (l : List adversary_Rule) : esref36_ValidateRules l = adversary_Validate l := by
  unfold esref36_ValidateRules adversary_Validate
  have : esref36_ValidateRules.l1 l = adversary_Validate.l1 l := by
    funext s
    unfold esref36_ValidateRules.l1 adversary_Validate.l1
    have j2 : ∀ (s : Int) b, esref36_ValidateRules.j2 s b = adversary_Validate.j2 s b := fun _ _ => rfl
    have j3 : ∀ (s : Int) r b, esref36_ValidateRules.j3 s r b = adversary_Validate.j3 s r b := by
      intro s r b
      unfold esref36_ValidateRules.j3 adversary_Validate.j3
      have : decide (7 ≤ r.Kind) = decide (6 < r.Kind) := by rw [decide_eq_decide]; omega
      simp only [this, j2]
    simp only [j3]
  rw [this]
  rfl
theorem refFormat_eq (l : List adversary_Rule) : esref36_Format l = some (fmts l) := by
  unfold esref36_Format fmts
  rw [refValidate_eq]
  obtain ⟨e, he, hiff⟩ := Validate_ex l
  rw [he, Option.bind_some]
  by_cases hv : l.length ≤ 16 ∧ ∀ r ∈ l, RK r
  · rw [if_pos hv, if_neg (by simp [hiff.2 hv])]
    obtain ⟨hl, hr⟩ := hv
    have := loopO_up (step := esref36_Format.l1 l) (fun k => (join ((l.take k).map fm) [59, 32], (k : Int))) l.length (b := join (l.map fm) [59, 32]) (fun k hk => ?_) ?_
    · have this : loopO (esref36_Format.l1 l) ([], 0) = some (join (l.map fm) [59, 32]) := this
      rw [this]
      rfl
    · have hrk := hr _ (List.getElem_mem hk)
      have w1 := word_len l[k].Kind.toNat
      have i1 := itoa_len hrk
      have hb := join_len (sep := [59, 32]) (B := 20) ((l.take k).map fm) (by
        intro x hx
        obtain ⟨r, h1, rfl⟩ := List.mem_map.1 hx
        exact fm_len (hr r (List.mem_of_mem_take h1)))
      rw [List.length_map, List.length_take] at hb
      have hb2 : (20 + ([59, 32] : List UInt8).length) * min k l.length ≤ 400 := by show 22 * min k l.length ≤ 400; omega
      have j3 : ∀ acc : List UInt8, acc.length ≤ 500 → join ((l.take (k + 1)).map fm) [59, 32] = acc ++ fm l[k] → esref36_Format.j3 l (k : Int) acc = some (.inl (join ((l.take (k + 1)).map fm) [59, 32], ((k + 1 : Nat) : Int))) := by
        intro acc ha hacc
        unfold esref36_Format.j3
        have k1 := hrk.lo
        have k2 := hrk.hi
        simp only [idx_nat hk, Option.bind_some, letV_of]
        rw [w64 (x := l[k].Kind - 1) (by omega) (by omega)]
        have hw : ∀ m : Nat, 1 ≤ m → m ≤ 9 → idx ([([112, 114, 101, 102, 101, 114, 32, 116, 111, 32] : List UInt8), ([112, 114, 101, 102, 101, 114, 32, 102, 114, 111, 109, 32] : List UInt8), ([112, 114, 101, 102, 101, 114, 32, 107, 105, 110, 100, 32] : List UInt8), ([97, 118, 111, 105, 100, 32, 116, 111, 32] : List UInt8), ([97, 118, 111, 105, 100, 32, 102, 114, 111, 109, 32] : List UInt8), ([97, 118, 111, 105, 100, 32, 107, 105, 110, 100, 32] : List UInt8), ([111, 108, 100, 101, 115, 116] : List UInt8), ([110, 101, 119, 101, 115, 116] : List UInt8), ([114, 111, 116, 97, 116, 101] : List UInt8)] : List (List UInt8)) ((m : Int) - 1) = some (words_.getD m [] ++ (if m ≤ 6 then [32] else [])) := by
          intro m h1 h2
          have : ∀ m : Fin 10, 1 ≤ m.val → idx ([([112, 114, 101, 102, 101, 114, 32, 116, 111, 32] : List UInt8), ([112, 114, 101, 102, 101, 114, 32, 102, 114, 111, 109, 32] : List UInt8), ([112, 114, 101, 102, 101, 114, 32, 107, 105, 110, 100, 32] : List UInt8), ([97, 118, 111, 105, 100, 32, 116, 111, 32] : List UInt8), ([97, 118, 111, 105, 100, 32, 102, 114, 111, 109, 32] : List UInt8), ([97, 118, 111, 105, 100, 32, 107, 105, 110, 100, 32] : List UInt8), ([111, 108, 100, 101, 115, 116] : List UInt8), ([110, 101, 119, 101, 115, 116] : List UInt8), ([114, 111, 116, 97, 116, 101] : List UInt8)] : List (List UInt8)) ((m.val : Int) - 1) = some (words_.getD m.val [] ++ (if m.val ≤ 6 then [32] else [])) := by decide
          exact this ⟨m, by omega⟩ h1
        obtain ⟨m, hm⟩ : ∃ m : Nat, l[k].Kind = m := ⟨l[k].Kind.toNat, by omega⟩
        rw [hm] at k1 k2
        have hfm : fm l[k] = words_.getD m [] ++ (if m ≤ 6 then 32 :: itoa l[k].Arg else []) := by
          unfold fm
          rw [hm, Int.toNat_natCast]
          congr 1
          by_cases h6 : m ≤ 6
          · rw [if_pos h6, if_pos (by omega)]
          · rw [if_neg h6, if_neg (by omega)]
        rw [hm, hw m (by omega) (by omega), Option.bind_some]
        have w2 : (words_.getD m []).length ≤ 11 := word_len m
        have j2 : ∀ x, x = acc ++ fm l[k] → esref36_Format.j2 (k : Int) x = some (.inl (join ((l.take (k + 1)).map fm) [59, 32], ((k + 1 : Nat) : Int))) := by
          rintro x rfl
          unfold esref36_Format.j2
          rw [letV_of, wcast hk (by omega), hacc]
        by_cases h6 : m ≤ 6
        · rw [if_pos h6, cat_of (by simp only [List.length_append, List.length_singleton]; omega), Option.bind_some, if_pos (by simp; omega), decimal_eq hrk, Option.bind_some, cat_of (by simp only [List.length_append, List.length_singleton]; omega), Option.bind_some]
          exact j2 _ (by rw [hfm, if_pos h6]; simp)
        · rw [if_neg h6, List.append_nil, cat_of (by omega), Option.bind_some, if_neg (by simp; omega)]
          exact j2 _ (by rw [hfm, if_neg h6, List.append_nil])
      unfold esref36_Format.l1
      simp only [lt_of_len hk, if_true]
      by_cases h0 : 0 < k
      · rw [if_pos (by simp; omega), cat_of (by simp only [List.length_cons, List.length_nil]; omega), Option.bind_some]
        refine j3 _ (by simp only [List.length_append, List.length_cons, List.length_nil]; omega) ?_
        rw [take_snoc hk, List.map_append, List.map_singleton, join_snoc (fun h => by
          have := congrArg List.length h
          rw [List.length_map, List.length_take, List.length_nil] at this
          omega)]
      · have hk0 : k = 0 := by omega
        rw [if_neg (by simp; omega)]
        subst hk0
        refine j3 _ (by simp [Go.Lib.join_nil]) ?_
        rw [take_snoc hk]
        simp [Go.Lib.join_nil, Go.Lib.join_one]
    · unfold esref36_Format.l1
      simp only [not_lt_len, Bool.false_eq_true, if_false, List.take_length]
  · rw [if_neg hv, if_pos (by
      have : e ≠ 0 := fun h => hv (hiff.1 h)
      simpa using this)]
end Go.Proofs.YthcohhpmpdijoaaDoor
set_option linter.unusedVariables false
set_option linter.unusedSimpArgs false
set_option maxRecDepth 4000
namespace Go.Proofs.YthcohhpmpdijoaaDoor
open Go Go.Proofs.YthcohhpmpdijoaaDoorL
abbrev exA : List UInt8 := [112, 114, 101, 102, 101, 114, 32, 107, 105, 110, 100, 32, 50]
abbrev exB : List UInt8 := [110, 101, 119, 101, 115, 116]
abbrev exR : List adversary_Rule := [⟨3, 2⟩, ⟨8, 0⟩]
theorem exR_ok : exR.length ≤ 16 ∧ ∀ r ∈ exR, RK r := by
  refine ⟨by decide, fun r hr => ?_⟩
  simp at hr
  rcases hr with rfl | rfl
  · exact ⟨by decide, by decide, fun _ => by decide, fun h => absurd h (by decide)⟩
  · exact ⟨by decide, by decide, fun h => absurd h (by decide), fun _ => rfl⟩
theorem ex_parseA : adversary_parseRule exA = some ⟨3, 2⟩ := by
  unfold adversary_parseRule
  rw [loopO_next (s' := (2, 0, 0)) (by rfl), loopO_next (s' := (3, 0, 0)) (by rfl), loopO_done (b := .inr ⟨3, 2⟩) (by rfl)]
  rfl
theorem ex_parseB : adversary_parseRule exB = some ⟨8, 0⟩ := by
  unfold adversary_parseRule
  rw [loopO_next (s' := (2, 0, 0)) (by rfl), loopO_next (s' := (3, 0, 0)) (by rfl), loopO_next (s' := (4, 0, 0)) (by rfl), loopO_next (s' := (5, 0, 0)) (by rfl), loopO_next (s' := (6, 0, 0)) (by rfl), loopO_next (s' := (7, 0, 0)) (by rfl), loopO_next (s' := (8, 0, 0)) (by rfl), loopO_done (b := .inr ⟨8, 0⟩) (by rfl)]
  rfl
theorem ex_fmts : fmts exR = exA ++ [59, 32] ++ exB := by
  unfold fmts
  rw [if_pos exR_ok]
  have h1 : fm ⟨3, 2⟩ = exA := by
    unfold fm
    show _ ++ (if (3 : Int) ≤ 6 then 32 :: Go.Lib.itoa ((2 : Nat) : Int) else []) = exA
    rw [show Go.Lib.itoa ((2 : Nat) : Int) = [50] from by rw [itoa_nat, Go.Lib.decDigits, dif_pos (by decide)]; rfl]
    rfl
  have h2 : fm ⟨8, 0⟩ = exB := by rfl
  rw [List.map_cons, List.map_cons, List.map_nil, h1, h2]
  rfl
theorem ex_parse : adversary_Parse (exA ++ [59, 32] ++ exB) = some (exR, 0) := by
  unfold adversary_Parse
  have hs : strings_Split (exA ++ [59, 32] ++ exB) [59, 32] = some [exA, exB] := by
    unfold strings_Split
    rw [if_pos (by decide)]
    congr 1
  rw [if_neg (by decide), hs, Option.bind_some]
  have hl : loopO (adversary_Parse.l1 [exA, exB]) ([], 0) = some exR := by
    rw [loopO_next (s' := ([⟨3, 2⟩], 1)) (by unfold adversary_Parse.l1; dsimp only; rw [if_pos (by decide), show idx [exA, exB] 0 = some exA from rfl, Option.bind_some, ex_parseA]; rfl),
      loopO_next (s' := ([⟨3, 2⟩, ⟨8, 0⟩], 2)) (by unfold adversary_Parse.l1; dsimp only; rw [if_pos (by decide), show idx [exA, exB] 1 = some exB from rfl, Option.bind_some, ex_parseB]; rfl),
      loopO_done (b := exR) (by rfl)]
  rw [hl, Option.bind_some]
  unfold adversary_Parse.j1
  rw [Format_eq, Option.bind_some, ex_fmts, if_neg (by simp)]
abbrev exM : List api_Message := [msg 2 1 2 0, msg 1 2 3 0, msg 2 3 1 0]
abbrev exN : network_Network := ⟨4, [⟨1, msg 2 1 2 0⟩, ⟨2, msg 1 2 3 0⟩, ⟨3, msg 2 3 1 0⟩], []⟩
theorem ex_asc : Asc exN.Packets := by
  unfold Asc
  decide
theorem chs_ex {n : network_Network} {step : Int} {id : Int} (h : dl n ≠ []) (hc : ((exR.foldl (fun l r => kp step r l) (dl n)).head?).map (·.ID) = some id) : chs exR n step = (id, true) := by
  unfold chs
  rw [if_neg (by rintro (h' | h'); exact h h'; exact h' exR_ok), hc]
  rfl
theorem ex_order : adversary_Order exR exN = some [3, 1, 2] := by
  unfold adversary_Order
  have c0 := Choose_eq exR (by decide) exN (by decide) (by decide) ex_asc 0
  rw [chs_ex (id := 3) (by decide) (by decide)] at c0
  have d0 := deliver_at exN 2 (by decide) (by decide) ex_asc (by decide)
  obtain ⟨n1, hn1⟩ : ∃ n1 : network_Network, n1 = ⟨4, [⟨1, msg 2 1 2 0⟩, ⟨2, msg 1 2 3 0⟩], []⟩ := ⟨_, rfl⟩
  obtain ⟨n2, hn2⟩ : ∃ n2 : network_Network, n2 = ⟨4, [⟨2, msg 1 2 3 0⟩], []⟩ := ⟨_, rfl⟩
  obtain ⟨n3, hn3⟩ : ∃ n3 : network_Network, n3 = ⟨4, [], []⟩ := ⟨_, rfl⟩
  have d0 : network_Deliver exN 3 = some (n1, msg 2 3 1 0, true) := by rw [hn1]; exact d0
  have a1 : Asc n1.Packets := by rw [hn1]; unfold Asc; decide
  have a2 : Asc n2.Packets := by rw [hn2]; unfold Asc; decide
  have a3 : Asc n3.Packets := by rw [hn3]; unfold Asc; decide
  have c1 := Choose_eq exR (by decide) n1 (by rw [hn1]; decide) (by rw [hn1]; decide) a1 1
  rw [chs_ex (id := 1) (by rw [hn1]; decide) (by rw [hn1]; decide)] at c1
  have d1 := deliver_at n1 0 (by rw [hn1]; decide) (by rw [hn1]; decide) a1 (by rw [hn1]; decide)
  have d1 : network_Deliver n1 1 = some (n2, msg 2 1 2 0, true) := by subst hn1; rw [hn2]; exact d1
  have c2 := Choose_eq exR (by decide) n2 (by rw [hn2]; decide) (by rw [hn2]; decide) a2 2
  rw [chs_ex (id := 2) (by rw [hn2]; decide) (by rw [hn2]; decide)] at c2
  have d2 := deliver_at n2 0 (by rw [hn2]; decide) (by rw [hn2]; decide) a2 (by rw [hn2]; decide)
  have d2 : network_Deliver n2 2 = some (n3, msg 1 2 3 0, true) := by subst hn2; rw [hn3]; exact d2
  have c3 := Choose_eq exR (by decide) n3 (by rw [hn3]; decide) (by rw [hn3]; decide) a3 3
  have e3 : chs exR n3 3 = (0, false) := by
    unfold chs
    rw [if_pos (.inl (by rw [hn3]; rfl))]
  rw [e3] at c3
  rw [loopO_next (s' := ([3], n1)) (by
      unfold adversary_Order.l1
      dsimp only
      have c0 : adversary_Choose exR exN ((([] : List Int).length : Nat) : Int) = some (3, true) := c0
      rw [c0, Option.bind_some]
      dsimp only
      rw [if_pos rfl, d0]
      rfl),
    loopO_next (s' := ([3, 1], n2)) (by
      unfold adversary_Order.l1
      dsimp only
      have c1 : adversary_Choose exR n1 ((([3] : List Int).length : Nat) : Int) = some (1, true) := c1
      rw [c1, Option.bind_some]
      dsimp only
      rw [if_pos rfl, d1]
      rfl),
    loopO_next (s' := ([3, 1, 2], n3)) (by
      unfold adversary_Order.l1
      dsimp only
      have c2 : adversary_Choose exR n2 ((([3, 1] : List Int).length : Nat) : Int) = some (2, true) := c2
      rw [c2, Option.bind_some]
      dsimp only
      rw [if_pos rfl, d2]
      rfl),
    loopO_done (b := [3, 1, 2]) (by
      unfold adversary_Order.l1
      dsimp only
      have c3 : adversary_Choose exR n3 ((([3, 1, 2] : List Int).length : Nat) : Int) = some (0, false) := c3
      rw [c3, Option.bind_some]
      rfl)]
  rfl
theorem awake_true : eslaw36_awake = some true := by
  unfold eslaw36_awake
  have hN : network_New = some ⟨1, [], []⟩ := rfl
  have hS := send_eq ⟨1, [], []⟩ exM (by decide) (by decide) (by decide) (by decide) (by decide)
  have hS : network_Send (⟨1, [], []⟩ : network_Network) exM = some exN := hS
  have hc := Choose_eq exR (by decide) exN (by decide) (by decide) ex_asc 0
  rw [chs_ex (id := 3) (by decide) (by decide)] at hc
  rw [hN, Option.bind_some]
  have hS' : network_Send (⟨1, [], []⟩ : network_Network) ([(⟨2, 1, 2, (⟨0, 0⟩ : api_AccessID), 0, 0, (⟨[], []⟩ : api_Certificate), (⟨[], []⟩ : api_Certificate), false, (⟨[], []⟩ : api_Certificate), [], [], [], false⟩ : api_Message), (⟨1, 2, 3, (⟨0, 0⟩ : api_AccessID), 0, 0, (⟨[], []⟩ : api_Certificate), (⟨[], []⟩ : api_Certificate), false, (⟨[], []⟩ : api_Certificate), [], [], [], false⟩ : api_Message), (⟨2, 3, 1, (⟨0, 0⟩ : api_AccessID), 0, 0, (⟨[], []⟩ : api_Certificate), (⟨[], []⟩ : api_Certificate), false, (⟨[], []⟩ : api_Certificate), [], [], [], false⟩ : api_Message)]) = some exN := hS
  rw [hS', Option.bind_some]
  have hp : adversary_Parse ([112, 114, 101, 102, 101, 114, 32, 107, 105, 110, 100, 32, 50, 59, 32, 110, 101, 119, 101, 115, 116] : List UInt8) = some (exR, 0) := ex_parse
  rw [hp, Option.bind_some]
  dsimp only
  have hc' : adversary_Choose exR (⟨exN.Next, exN.Packets, exN.Sides⟩ : network_Network) 0 = some (3, true) := hc
  have ho' : adversary_Order exR (⟨exN.Next, exN.Packets, exN.Sides⟩ : network_Network) = some [3, 1, 2] := ex_order
  rw [hc', Option.bind_some]
  dsimp only
  rw [ho', Option.bind_some, if_pos (by decide), if_pos (by decide), if_pos rfl, if_pos (by decide), if_pos (by decide), show idx ([3, 1, 2] : List Int) 1 = some 1 from rfl, Option.bind_some, if_pos (by decide), show idx ([3, 1, 2] : List Int) 2 = some 2 from rfl, Option.bind_some, if_pos (by decide), Format_eq, Option.bind_some, ex_fmts]
  rfl
end Go.Proofs.YthcohhpmpdijoaaDoor
set_option linter.unusedVariables false
set_option linter.unusedSimpArgs false
set_option maxRecDepth 4000
namespace Go.Proofs.YthcohhpmpdijoaaDoor
open Go Go.Proofs.YthcohhpmpdijoaaDoorL
open Go.Lib (itoa decDigits join joinTail index count split splitK)
def sp : List UInt8 → List UInt8 → List (List UInt8)
  | acc, [] => [acc]
  | acc, [c] => [acc ++ [c]]
  | acc, c :: d :: t => if c = 59 ∧ d = 32 then acc :: sp [] t else sp (acc ++ [c]) (d :: t)
theorem sp_hit (acc t : List UInt8) : sp acc (59 :: 32 :: t) = acc :: sp [] t := by
  rw [sp, if_pos ⟨rfl, rfl⟩]
theorem sp_miss (acc : List UInt8) {c d : UInt8} (t : List UInt8) (h : ¬(c = 59 ∧ d = 32)) : sp acc (c :: d :: t) = sp (acc ++ [c]) (d :: t) := by
  rw [sp, if_neg h]
theorem sp_step (acc : List UInt8) {c : UInt8} (h : c ≠ 59) : ∀ l, sp acc (c :: l) = sp (acc ++ [c]) l
  | [] => rfl
  | d :: t => sp_miss acc t fun hc => h hc.1
theorem sp_rec {M : List UInt8 → List UInt8 → Prop} (h0 : ∀ acc, M acc []) (h1 : ∀ acc c, M acc [c]) (h2 : ∀ acc t, M [] t → M acc (59 :: 32 :: t))
    (h3 : ∀ acc c d t, ¬(c = 59 ∧ d = 32) → M (acc ++ [c]) (d :: t) → M acc (c :: d :: t)) : ∀ (n : Nat) (s acc : List UInt8), s.length ≤ n → M acc s
  | _, [], acc, _ => h0 acc
  | _, [c], acc, _ => h1 acc c
  | 0, c :: d :: t, acc, h => by simp at h
  | n + 1, c :: d :: t, acc, h => by
    simp only [List.length_cons] at h
    by_cases hc : c = 59 ∧ d = 32
    · obtain ⟨rfl, rfl⟩ := hc
      exact h2 acc t (sp_rec h0 h1 h2 h3 n t [] (by omega))
    · exact h3 acc c d t hc (sp_rec h0 h1 h2 h3 n (d :: t) _ (by simp only [List.length_cons]; omega))
theorem index_c : ∀ s : List UInt8, index s [59, 32] = -1 ∨ ∃ i : Nat, index s [59, 32] = i
  | [] => .inl rfl
  | b :: l => by
    rw [index]
    split
    · exact .inr ⟨0, rfl⟩
    · split
      · exact .inl rfl
      · rename_i h
        rcases index_c l with h1 | ⟨i, h1⟩
        · exact absurd (beq_iff_eq.2 h1) h
        · exact .inr ⟨i + 1, by rw [h1]; rfl⟩
theorem sp_index (s acc : List UInt8) : (index s [59, 32] = -1 → sp acc s = [acc ++ s]) ∧ ∀ i : Nat, index s [59, 32] = i → sp acc s = (acc ++ s.take i) :: sp [] (s.drop (i + 2)) := by
  refine sp_rec (M := fun acc s => (index s [59, 32] = -1 → sp acc s = [acc ++ s]) ∧ ∀ i : Nat, index s [59, 32] = i → sp acc s = (acc ++ s.take i) :: sp [] (s.drop (i + 2))) ?_ ?_ ?_ ?_ s.length s acc (Nat.le_refl _)
  · intro acc
    refine ⟨fun _ => by simp [sp], fun i h => ?_⟩
    have : (-1 : Int) = (i : Int) := h
    omega
  · intro acc c
    have e : index [c] [59, 32] = -1 := by
      rw [index, if_neg (by simp [List.isPrefixOf])]
      rfl
    refine ⟨fun _ => rfl, fun i h => ?_⟩
    rw [e] at h
    omega
  · intro acc t _
    have e : index (59 :: 32 :: t) [59, 32] = 0 := by
      rw [index, if_pos (by simp [List.isPrefixOf])]
    refine ⟨fun h => ?_, fun i h => ?_⟩
    · rw [e] at h
      cases h
    · rw [e] at h
      obtain rfl : i = 0 := by omega
      rw [sp_hit]
      simp
  · intro acc c d t hc ih
    have hp : ([59, 32] : List UInt8).isPrefixOf (c :: d :: t) = false := by
      simp only [List.isPrefixOf, Bool.and_true, Bool.and_eq_false_iff, beq_eq_false_iff_ne, ne_eq]
      by_cases h : c = 59
      · exact .inr fun h2 => hc ⟨h, h2.symm⟩
      · exact .inl fun h2 => h h2.symm
    rw [index, hp, if_neg (by simp), sp_miss acc t hc]
    by_cases hl : index (d :: t) [59, 32] = -1
    · rw [if_pos (beq_iff_eq.2 hl)]
      refine ⟨fun _ => ?_, fun i h => by omega⟩
      rw [ih.1 hl]
      simp
    · rw [if_neg fun h => hl (beq_iff_eq.1 h)]
      rcases index_c (d :: t) with h1 | ⟨j, h1⟩
      · exact absurd h1 hl
      · refine ⟨fun h => by omega, fun i h => ?_⟩
        obtain rfl : i = j + 1 := by omega
        rw [ih.2 j h1]
        simp
theorem split_sp : ∀ (n : Nat) (s : List UInt8), s.length ≤ n → split s [59, 32] = sp [] s
  | n, s, hn => by
    rcases index_c s with h | ⟨i, h⟩
    · rw [(sp_index s []).1 h]
      unfold split
      rw [Go.Lib.count_miss h]
      rfl
    · rw [(sp_index s []).2 i h]
      unfold split
      rw [Go.Lib.count_hit (by simp) h, Nat.add_comm, splitK, if_neg (by rw [h]; simp), h]
      have hs : s ≠ [] := by
        rintro rfl
        have : (-1 : Int) = (i : Int) := h
        omega
      have hl : 0 < s.length := List.length_pos_iff.2 hs
      cases n with
      | zero => omega
      | succ n =>
        have := split_sp n (s.drop (i + 2)) (by rw [List.length_drop]; omega)
        unfold split at this
        simp only [List.nil_append, Int.toNat_natCast, Nat.add_zero]
        rw [← this]
        rfl
theorem join_cons2 {sep x : List UInt8} : ∀ {l : List (List UInt8)}, l ≠ [] → join (x :: l) sep = x ++ sep ++ join l sep
  | [], h => absurd rfl h
  | y :: r, _ => by
    rw [Go.Lib.join_cons, Go.Lib.join_cons]
    unfold joinTail
    simp
theorem sp_ne (s acc : List UInt8) : sp acc s ≠ [] := by
  refine sp_rec (M := fun acc s => sp acc s ≠ []) (fun acc => by simp [sp]) (fun acc c => by simp [sp]) (fun acc t _ => by rw [sp_hit]; simp) (fun acc c d t hc ih => by rw [sp_miss acc t hc]; exact ih) s.length s acc (Nat.le_refl _)
theorem join_sp (s acc : List UInt8) : join (sp acc s) [59, 32] = acc ++ s := by
  refine sp_rec (M := fun acc s => join (sp acc s) [59, 32] = acc ++ s) (fun acc => ?_) (fun acc c => ?_) (fun acc t ih => ?_) (fun acc c d t hc ih => ?_) s.length s acc (Nat.le_refl _)
  · simp [sp, Go.Lib.join_one]
  · simp [sp, Go.Lib.join_one]
  · rw [sp_hit, join_cons2 (sp_ne _ _), ih]
    simp
  · rw [sp_miss acc t hc, ih]
    simp
theorem sp_part (s acc : List UInt8) : (∀ p ∈ sp acc s, p.length ≤ acc.length + s.length) ∧ (sp acc s).length ≤ s.length + 1 := by
  refine sp_rec (M := fun acc s => (∀ p ∈ sp acc s, p.length ≤ acc.length + s.length) ∧ (sp acc s).length ≤ s.length + 1) (fun acc => ?_) (fun acc c => ?_) (fun acc t ih => ?_) (fun acc c d t hc ih => ?_) s.length s acc (Nat.le_refl _)
  · simp [sp]
  · simp [sp]
  · rw [sp_hit]
    refine ⟨fun p hp => ?_, ?_⟩
    · rcases List.mem_cons.1 hp with rfl | hp
      · omega
      · have := ih.1 p hp
        simp only [List.length_nil, List.length_cons] at this ⊢
        omega
    · have := ih.2
      simp only [List.length_cons]
      omega
  · rw [sp_miss acc t hc]
    refine ⟨fun p hp => ?_, ?_⟩
    · have := ih.1 p hp
      simp only [List.length_append, List.length_cons, List.length_nil] at this ⊢
      omega
    · have := ih.2
      simp only [List.length_cons] at this ⊢
      omega
theorem sp_none : ∀ (x acc : List UInt8), 59 ∉ x → sp acc x = [acc ++ x]
  | [], acc, _ => by simp [sp]
  | c :: x, acc, h => by
    rw [sp_step acc (fun hc => h (by rw [hc]; simp)), sp_none x _ fun hx => h (by simp [hx])]
    simp
theorem sp_app (t : List UInt8) : ∀ (x acc : List UInt8), 59 ∉ x → sp acc (x ++ [59, 32] ++ t) = (acc ++ x) :: sp [] t
  | [], acc, _ => by rw [List.nil_append, List.append_nil]; exact sp_hit acc t
  | c :: x, acc, h => by
    rw [List.cons_append, List.cons_append, sp_step acc (fun hc => h (by rw [hc]; simp)), sp_app t x _ fun hx => h (by simp [hx])]
    simp
theorem sp_join : ∀ {l : List (List UInt8)}, l ≠ [] → (∀ x ∈ l, 59 ∉ x) → sp [] (join l [59, 32]) = l
  | [], h, _ => absurd rfl h
  | [x], _, h => by
    rw [Go.Lib.join_one, sp_none x [] (h x (by simp))]
    rfl
  | x :: y :: r, _, h => by
    rw [join_cons2 (by simp), sp_app _ _ _ (h x (by simp)), sp_join (by simp) fun z hz => h z (by simp [hz])]
    rfl
theorem refsplit_eq (s : List UInt8) (hl : s.length ≤ 4096) : esref36_split s = some (sp [] s) := by
  unfold esref36_split
  have key : ∃ b, loopO (esref36_split.l1 s) ([], 0, 0) = some b ∧ ∃ f : Nat, b.2 = (f : Int) ∧ f ≤ s.length ∧ b.1.length ≤ 4097 ∧ b.1 ++ [s.drop f] = sp [] s := by
    refine loopO_mu (fun st : List (List UInt8) × Int × Int => ∃ f i : Nat, st.2.1 = (f : Int) ∧ st.2.2 = (i : Int) ∧ i ≤ s.length ∧ f ≤ s.length ∧ st.1.length ≤ i ∧
      ((f ≤ i ∧ st.1 ++ sp ((s.take i).drop f) (s.drop i) = sp [] s) ∨ (i + 1 = f ∧ s[i]? = some 32 ∧ st.1 ++ sp [] (s.drop f) = sp [] s))) (fun st => 4097 - st.2.2.toNat) ⟨0, 0, rfl, rfl, by omega, by omega, by simp, .inl ⟨by omega, by simp⟩⟩ ?_
    rintro ⟨out, x, y⟩ ⟨f, i, rfl, rfl, hi, hf, ho, hc⟩
    dsimp only at ho hc ⊢
    unfold esref36_split.l1
    simp only [letV_of]
    rw [w64 (x := (i : Int) + 2) (by omega) (by omega)]
    by_cases h2 : i + 2 ≤ s.length
    · rw [if_pos (by simp; omega), show (i : Int) + 2 = ((i + 2 : Nat) : Int) by omega, cut_of (by omega) (by omega) (by omega), Option.bind_some]
      simp only [Int.toNat_natCast]
      have hd : s.drop i = s[i] :: s[i + 1] :: s.drop (i + 2) := by rw [List.drop_eq_getElem_cons (by omega), List.drop_eq_getElem_cons (show i + 1 < s.length by omega)]
      have h22 : (s.take (i + 2)).drop i = [s[i], s[i + 1]] := by
        rw [List.drop_take, show i + 2 - i = 2 by omega, hd]
        rfl
      simp only [h22]
      have j2 : ∀ (o : List (List UInt8)) (g : Nat), esref36_split.j2 (i : Int) o (g : Int) = some (.inl (o, (g : Int), ((i + 1 : Nat) : Int))) := by
        intro o g
        unfold esref36_split.j2
        rw [letV_of, w64 (x := (i : Int) + 1) (by omega) (by omega)]
        rfl
      by_cases hm : s[i] = 59 ∧ s[i + 1] = 32
      · rw [if_pos (by rw [hm.1, hm.2]; rfl)]
        have h1 : f ≤ i := by
          rcases hc with hc | ⟨h1, h2', _⟩
          · exact hc.1
          · rw [List.getElem?_eq_getElem (by omega), hm.1] at h2'
            exact absurd (Option.some.inj h2') (by decide)
        rw [cut_of (by omega) (by omega) (by omega), Option.bind_some]
        simp only [Int.toNat_natCast]
        rw [app_of (by simp only [List.length_singleton]; omega), Option.bind_some, j2]
        refine .inl ⟨_, rfl, ⟨i + 2, i + 1, rfl, rfl, by omega, by omega, by rw [List.length_append, List.length_singleton]; omega, .inr ⟨by omega, by rw [List.getElem?_eq_getElem (by omega), hm.2], ?_⟩⟩, by dsimp only; omega⟩
        rcases hc with ⟨_, hc⟩ | ⟨h3, _⟩
        · rw [← hc, hd, hm.1, hm.2, sp_hit, List.append_assoc]
          rfl
        · omega
      · rw [if_neg (by
          intro h
          have := beq_iff_eq.1 h
          simp only [List.cons.injEq, and_true] at this
          exact hm this), j2]
        refine .inl ⟨_, rfl, ⟨f, i + 1, rfl, rfl, by omega, hf, by dsimp only; omega, .inl ?_⟩, by dsimp only; omega⟩
        rcases hc with ⟨h1, hc⟩ | ⟨h1, _, hc⟩
        · refine ⟨by omega, ?_⟩
          rw [← hc, hd, sp_miss _ _ hm, take_snoc (by omega), List.drop_append_of_le_length (by rw [List.length_take]; omega)]
          rw [List.drop_eq_getElem_cons (show i + 1 < s.length by omega)]
        · refine ⟨by omega, ?_⟩
          rw [← hc, ← h1]
          have : (s.take (i + 1)).drop (i + 1) = [] := List.drop_eq_nil_of_le (by rw [List.length_take]; omega)
          rw [this]
    · rw [if_neg (by simp; omega)]
      refine .inr ⟨_, rfl, f, rfl, hf, by dsimp only; omega, ?_⟩
      dsimp only
      rcases hc with ⟨h1, hc⟩ | ⟨h1, _, hc⟩
      · rw [← hc]
        have hs : ∀ acc l : List UInt8, l.length ≤ 1 → sp acc l = [acc ++ l] := by
          intro acc l h
          match l, h with
          | [], _ => simp [sp]
          | [c], _ => rfl
        rw [hs _ _ (by rw [List.length_drop]; omega)]
        congr 2
        conv => lhs; rw [← List.take_append_drop i s]
        rw [List.drop_append_of_le_length (by rw [List.length_take]; omega)]
      · rw [← hc]
        have : s.drop f = [] := List.drop_eq_nil_of_le (by omega)
        rw [this]
        rfl
  obtain ⟨⟨out, x⟩, e, f, rfl, hf, ho, hq⟩ := key
  rw [e, Option.bind_some]
  dsimp only at ho hq ⊢
  unfold esref36_split.j1
  rw [cut_of (by omega) (by omega) (by omega), Option.bind_some]
  simp only [Int.toNat_natCast, List.take_length]
  rw [app_of (by simp only [List.length_singleton]; omega), Option.bind_some, hq]
end Go.Proofs.YthcohhpmpdijoaaDoor
set_option linter.unusedVariables false
set_option linter.unusedSimpArgs false
set_option maxRecDepth 4000
namespace Go.Proofs.YthcohhpmpdijoaaDoor
open Go Go.Proofs.YthcohhpmpdijoaaDoorL
open Go.Lib (itoa decDigits join joinTail split parseUint10 parseMag atoiAll)
def isd (c : UInt8) : Prop := 48 ≤ c.toNat ∧ c.toNat ≤ 57
instance (c : UInt8) : Decidable (isd c) := inferInstanceAs (Decidable (_ ∧ _))
def dgF (a : Nat) (l : List UInt8) : Nat := l.foldl (fun a c => if isd c then a * 10 + (c.toNat - 48) else a) a
theorem dgF_app (a : Nat) (l k : List UInt8) : dgF a (l ++ k) = dgF (dgF a l) k := by
  unfold dgF
  rw [List.foldl_append]
theorem dgF_lt : ∀ (l : List UInt8) (a : Nat), dgF a l < (a + 1) * 10 ^ l.length
  | [], a => by
    show a < (a + 1) * 1
    omega
  | c :: l, a => by
    show dgF (if isd c then a * 10 + (c.toNat - 48) else a) l < _
    have hm : (if isd c then a * 10 + (c.toNat - 48) else a) + 1 ≤ (a + 1) * 10 := by
      split
      · rename_i h
        have := h.2
        omega
      · omega
    have := dgF_lt l (if isd c then a * 10 + (c.toNat - 48) else a)
    have h2 := Nat.mul_le_mul_right (10 ^ l.length) hm
    rw [List.length_cons, Nat.pow_succ, Nat.mul_comm (10 ^ l.length) 10, ← Nat.mul_assoc]
    omega
theorem isd_of (m : Nat) (h : m < 10) : isd (UInt8.ofNat (48 + m)) ∧ (UInt8.ofNat (48 + m)).toNat = 48 + m := by
  have : ∀ m : Fin 10, isd (UInt8.ofNat (48 + m.val)) ∧ (UInt8.ofNat (48 + m.val)).toNat = 48 + m.val := by decide
  exact this ⟨m, h⟩
theorem dec_isd : ∀ (f n : Nat), n < 10 ^ (f + 1) → (∀ c ∈ decDigits n, isd c) ∧ dgF 0 (decDigits n) = n
  | 0, n, h => by
    have h10 : n < 10 := by omega
    rw [decDigits, dif_pos h10]
    obtain ⟨h1, h2⟩ := isd_of n h10
    refine ⟨fun c hc => ?_, ?_⟩
    · obtain rfl := List.mem_singleton.1 hc
      exact h1
    · show (if isd (UInt8.ofNat (48 + n)) then 0 * 10 + ((UInt8.ofNat (48 + n)).toNat - 48) else 0) = n
      rw [if_pos h1, h2]
      omega
  | f + 1, n, h => by
    by_cases h10 : n < 10
    · exact dec_isd 0 n (by omega) 
    · rw [decDigits, dif_neg h10]
      obtain ⟨h1, h2⟩ := isd_of (n % 10) (by omega)
      obtain ⟨h3, h4⟩ := dec_isd f (n / 10) (by rw [Nat.pow_succ] at h; omega)
      refine ⟨fun c hc => ?_, ?_⟩
      · rcases List.mem_append.1 hc with hc | hc
        · exact h3 c hc
        · obtain rfl := List.mem_singleton.1 hc
          exact h1
      · rw [dgF_app, h4]
        show (if isd (UInt8.ofNat (48 + n % 10)) then n / 10 * 10 + ((UInt8.ofNat (48 + n % 10)).toNat - 48) else n / 10) = n
        rw [if_pos h1, h2]
        omega
theorem dec_ne (n : Nat) : decDigits n ≠ [] := by
  rw [decDigits]
  split <;> simp
theorem parseU : ∀ (l : List UInt8) (acc k : Nat), (∀ c ∈ l, isd c) → acc < 10 ^ k → l.length + k ≤ 17 → parseUint10 acc l = .ok (dgF acc l)
  | [], acc, k, _, _, _ => rfl
  | c :: l, acc, k, hd, ha, hk => by
    have hc := hd c (by simp)
    rw [List.length_cons] at hk
    have h16 : acc < 10 ^ 16 := Nat.lt_of_lt_of_le ha (Nat.pow_le_pow_right (by decide) (by omega))
    have h2 : acc < 10000000000000000 := h16
    obtain ⟨c1, c2⟩ := hc
    have hacc : acc * 10 + (c.toNat - 48) < 10 ^ (k + 1) := by
      rw [Nat.pow_succ]
      omega
    rw [parseUint10, if_pos ⟨c1, c2⟩, if_neg (by omega), if_neg (by omega), parseU l _ (k + 1) (fun d hd2 => hd d (by simp [hd2])) hacc (by omega)]
    show _ = Go.Lib.NumEnd.ok (dgF (if isd c then acc * 10 + (c.toNat - 48) else acc) l)
    rw [if_pos ⟨c1, c2⟩]
theorem atoi_dec {n : Nat} (h : n ≤ 1000) : atoiAll (decDigits n) = .ok (n : Int) := by
  obtain ⟨h1, h2⟩ := dec_isd 3 n (by omega)
  have hl := dec_len 3 n (by omega)
  have hp := parseU (decDigits n) 0 0 h1 (by decide) (by omega)
  rw [h2] at hp
  cases hd : decDigits n with
  | nil => exact absurd hd (dec_ne n)
  | cons c r =>
    rw [hd] at hp
    have hc := h1 c (by rw [hd]; simp)
    obtain ⟨c1, c2⟩ := hc
    unfold atoiAll
    simp only
    rw [if_neg (by omega)]
    unfold parseMag
    rw [if_neg (by simp), hp]
    simp only
    rw [if_neg (by omega), if_neg (by omega), if_neg (by omega)]
theorem Atoi_dec {n : Nat} (h : n ≤ 1000) : strconv_Atoi (decDigits n) = some ((n : Int), false) := by
  have hl := dec_len 3 n (by omega)
  unfold strconv_Atoi
  rw [if_pos (by omega), atoi_dec h]
theorem Atoi_ex {x : List UInt8} (h : x.length ≤ 4096) : ∃ v e, strconv_Atoi x = some (v, e) := by
  unfold strconv_Atoi
  rw [if_pos (by omega)]
  split
  · exact ⟨_, _, rfl⟩
  · exact ⟨_, _, rfl⟩
  · exact ⟨_, _, rfl⟩
def wd (k : Nat) : List UInt8 := words_.getD k []
def pre (k : Nat) : List UInt8 := wd k ++ (if k ≤ 6 then [32] else [])
theorem pre_uniq (t : List UInt8) (K k : Nat) (h1 : 1 ≤ K) (h2 : K ≤ 9) (h3 : 1 ≤ k) (h4 : k ≤ 9) (h : (pre k).isPrefixOf (wd K ++ (if K ≤ 6 then 32 :: t else [])) = true) : K = k := by
  have hK : K = 1 ∨ K = 2 ∨ K = 3 ∨ K = 4 ∨ K = 5 ∨ K = 6 ∨ K = 7 ∨ K = 8 ∨ K = 9 := by omega
  have hk : k = 1 ∨ k = 2 ∨ k = 3 ∨ k = 4 ∨ k = 5 ∨ k = 6 ∨ k = 7 ∨ k = 8 ∨ k = 9 := by omega
  clear h1 h2 h3 h4
  rcases hK with rfl | rfl | rfl | rfl | rfl | rfl | rfl | rfl | rfl <;> rcases hk with rfl | rfl | rfl | rfl | rfl | rfl | rfl | rfl | rfl <;> first | rfl | exact Bool.noConfusion (show false = true from h)
theorem fm_wd {q : adversary_Rule} (h : RK q) : ∃ K n : Nat, q.Kind = K ∧ q.Arg = n ∧ n ≤ 1000 ∧ 1 ≤ K ∧ K ≤ 9 ∧ (7 ≤ K → n = 0) ∧ fm q = wd K ++ (if K ≤ 6 then 32 :: decDigits n else []) := by
  have h1 := h.lo
  have h2 := h.hi
  obtain ⟨n, hn, hn2⟩ := arg_nat h
  obtain ⟨K, hK⟩ : ∃ K : Nat, q.Kind = K := ⟨q.Kind.toNat, by omega⟩
  refine ⟨K, n, hK, hn, hn2, by omega, by omega, fun h7 => ?_, ?_⟩
  · have := h.no (by omega)
    omega
  · unfold fm wd
    rw [hK, Int.toNat_natCast, hn, itoa_nat]
    congr 1
    by_cases h6 : K ≤ 6
    · rw [if_pos h6, if_pos (by omega)]
    · rw [if_neg h6, if_neg (by omega)]
theorem wd_no (k : Nat) : ∀ c ∈ wd k, c ≠ 59 ∧ ¬isd c := by
  by_cases h : k < 10
  · have : ∀ k : Fin 10, ∀ c ∈ wd k.val, c ≠ 59 ∧ ¬isd c := by decide
    exact this ⟨k, h⟩
  · intro c hc
    unfold wd at hc
    rw [List.getD_eq_getElem?_getD, List.getElem?_eq_none (by show 10 ≤ k; omega)] at hc
    cases hc
theorem fm_no {q : adversary_Rule} (h : RK q) : 59 ∉ fm q := by
  obtain ⟨K, n, _, _, hn, _, _, _, e⟩ := fm_wd h
  rw [e]
  intro hm
  rcases List.mem_append.1 hm with hm | hm
  · exact (wd_no K 59 hm).1 rfl
  · split at hm
    · rcases List.mem_cons.1 hm with hm | hm
      · exact absurd hm (by decide)
      · exact absurd ((dec_isd 3 n (by omega)).1 59 hm) (by decide)
    · cases hm
theorem fm_ne {q : adversary_Rule} (h : RK q) : fm q ≠ [] := by
  obtain ⟨K, n, _, _, hn, h1, h2, _, e⟩ := fm_wd h
  rw [e]
  have : wd K ≠ [] := by
    have : ∀ K : Fin 10, 1 ≤ K.val → wd K.val ≠ [] := by decide
    exact this ⟨K, by omega⟩ h1
  simp [this]
theorem pre_self (l : List UInt8) (t : List UInt8) : l.isPrefixOf (l ++ t) = true := by
  rw [List.isPrefixOf_iff_prefix]
  exact List.prefix_append _ _
theorem parseRule_ex (x : List UInt8) (hx : x.length ≤ 4096) : ∃ r, adversary_parseRule x = some r ∧ ∀ q, RK q → fm q = x → r = q := by
  unfold adversary_parseRule
  have key : ∃ b, loopO (adversary_parseRule.l1 x) (1, 0, 0) = some b ∧ ∀ q, RK q → fm q = x → b = .inr q := by
    refine loopO_mu (fun s : Int × Int × Int => ∃ k : Nat, s = ((k : Int), 0, 0) ∧ 1 ≤ k ∧ k ≤ 10 ∧ ∀ q, RK q → fm q = x → (k : Int) ≤ q.Kind) (fun s => 10 - s.1.toNat) ⟨1, rfl, by omega, by omega, fun q hq _ => hq.lo⟩ ?_
    rintro _ ⟨k, rfl, h1, h2, hq⟩
    unfold adversary_parseRule.l1
    dsimp only
    by_cases h9 : k ≤ 9
    · rw [if_pos (by simp; omega)]
      have hnext : (∀ q, RK q → fm q = x → q.Kind ≠ (k : Int)) → (∃ s', adversary_parseRule.j2 (k : Int) 0 0 = some (.inl s') ∧ (∃ k : Nat, s' = ((k : Int), 0, 0) ∧ 1 ≤ k ∧ k ≤ 10 ∧ ∀ q, RK q → fm q = x → (k : Int) ≤ q.Kind) ∧ 10 - s'.1.toNat < 10 - ((k : Int), (0 : Int), (0 : Int)).1.toNat) := by
        intro hno
        unfold adversary_parseRule.j2
        rw [letV_of, w64 (x := (k : Int) + 1) (by omega) (by omega)]
        refine ⟨_, rfl, ⟨k + 1, rfl, by omega, by omega, fun q a b => ?_⟩, by dsimp only; omega⟩
        have := hq q a b
        have := hno q a b
        omega
      have hw : idx words_ (k : Int) = some (wd k) := by
        have := word_at (k := (k : Int)) (by omega) (by omega)
        rw [this]
        rfl
      by_cases h6 : 6 < k
      · rw [if_pos (by simp; omega), hw, Option.bind_some]
        by_cases hxw : x = wd k
        · rw [if_pos (by rw [hxw]; simp)]
          refine .inr ⟨_, rfl, fun q a b => ?_⟩
          obtain ⟨K, n, e1, e2, e3, e4, e5, e6, e7⟩ := fm_wd a
          have hp : (pre k).isPrefixOf (wd K ++ (if K ≤ 6 then 32 :: decDigits n else [])) = true := by
            rw [← e7, b, hxw]
            unfold pre
            rw [if_neg (by omega), List.append_nil]
            have := pre_self (wd k) []
            rwa [List.append_nil] at this
          obtain rfl := pre_uniq _ K k e4 e5 h1 h9 hp
          have hn0 := e6 (by omega)
          obtain ⟨qk, qa⟩ := q
          dsimp only at e1 e2
          rw [e1, e2, hn0]
          rfl
        · rw [if_neg (by simpa using hxw)]
          refine .inl (hnext fun q a b hk => ?_)
          obtain ⟨K, n, e1, e2, e3, e4, e5, e6, e7⟩ := fm_wd a
          obtain rfl : K = k := by omega
          rw [if_neg (by omega), List.append_nil] at e7
          exact hxw (by rw [← b, e7])
      · rw [if_neg (by simp; omega), hw, Option.bind_some]
        have hwl : (wd k).length ≤ 11 := word_len k
        have hpre : wd k ++ [32] = pre k := by
          unfold pre
          rw [if_pos (by omega)]
        rw [cat_of (by simp only [List.length_singleton]; omega), Option.bind_some, hpre]
        unfold strings_CutPrefix
        rw [Option.bind_some]
        dsimp only
        have hhas : ∀ q, RK q → fm q = x → q.Kind = (k : Int) → ∃ n : Nat, n ≤ 1000 ∧ q.Arg = n ∧ x = pre k ++ decDigits n := by
          intro q a b hk
          obtain ⟨K, n, e1, e2, e3, e4, e5, e6, e7⟩ := fm_wd a
          obtain rfl : K = k := by omega
          refine ⟨n, e3, e2, ?_⟩
          rw [← b, e7, if_pos (by omega), ← hpre]
          simp
        cases hh : Go.Lib.hasPrefix x (pre k)
        · rw [if_neg (by simp)]
          refine .inl (hnext fun q a b hk => ?_)
          obtain ⟨n, _, _, hx2⟩ := hhas q a b hk
          unfold Go.Lib.hasPrefix at hh
          rw [hx2, pre_self] at hh
          cases hh
        · rw [if_pos rfl]
          unfold Go.Lib.trimPrefix
          rw [if_pos hh]
          obtain ⟨v, e, hv⟩ := Atoi_ex (x := x.drop (pre k).length) (by rw [List.length_drop]; omega)
          rw [hv, Option.bind_some]
          dsimp only
          have hfin : ∀ q, RK q → fm q = x → e = false ∧ (⟨(k : Int), v⟩ : adversary_Rule) = q := by
            intro q a b
            have hk : q.Kind = (k : Int) := by
              obtain ⟨K, n, e1, e2, e3, e4, e5, e6, e7⟩ := fm_wd a
              unfold Go.Lib.hasPrefix at hh
              rw [← b, e7] at hh
              have := pre_uniq _ K k e4 e5 h1 h9 hh
              omega
            obtain ⟨n, hn, hn2, hx2⟩ := hhas q a b hk
            rw [hx2, List.drop_left, Atoi_dec hn] at hv
            simp only [Option.some.injEq, Prod.mk.injEq] at hv
            refine ⟨hv.2.symm, ?_⟩
            obtain ⟨qk, qa⟩ := q
            dsimp only at hk hn2
            rw [hk, hn2, hv.1]
          cases e
          · rw [if_neg (by simp)]
            exact .inr ⟨_, rfl, fun q a b => by rw [(hfin q a b).2]⟩
          · rw [if_pos rfl]
            exact .inr ⟨_, rfl, fun q a b => absurd (hfin q a b).1 (by simp)⟩
    · rw [if_neg (by simp; omega)]
      refine .inr ⟨_, rfl, fun q a b => ?_⟩
      have := hq q a b
      have := a.hi
      omega
  obtain ⟨b, e, hb⟩ := key
  rw [e, Option.bind_some]
  cases b with
  | inl y =>
    obtain ⟨a, c⟩ := y
    exact ⟨_, rfl, fun q h1 h2 => by cases hb q h1 h2⟩
  | inr r => exact ⟨r, rfl, fun q h1 h2 => Sum.inr.inj (hb q h1 h2)⟩
theorem dg_fm {K n : Nat} (hn : n ≤ 1000) : dgF 0 ((wd K ++ 32 :: decDigits n).drop ((wd K ++ 32 :: decDigits n).length - 4)) = n := by
  have hl := dec_len 3 n (by omega)
  have e : wd K ++ 32 :: decDigits n = (wd K ++ [32]) ++ decDigits n := by simp
  rw [e, List.length_append, List.drop_append_of_le_length (by omega), dgF_app]
  have h0 : ∀ l : List UInt8, (∀ c ∈ l, ¬isd c) → dgF 0 l = 0 := by
    intro l
    induction l with
    | nil => exact fun _ => rfl
    | cons c l ih =>
      intro h
      show dgF (if isd c then 0 * 10 + (c.toNat - 48) else 0) l = 0
      rw [if_neg (h c (by simp))]
      exact ih fun d hd => h d (by simp [hd])
  rw [h0 _ fun c hc => ?_, (dec_isd 3 n (by omega)).2]
  rcases List.mem_append.1 (List.mem_of_mem_drop hc) with hc | hc
  · exact (wd_no K c hc).2
  · simp at hc
    rw [hc]
    decide
theorem refArg_eq (x : List UInt8) (hx : x.length ≤ 4096) : loopO (esref36_parseRule.l2 x) (0, ((x.length - 4 : Nat) : Int)) = some ((dgF 0 (x.drop (x.length - 4)) : Nat) : Int) := by
  obtain ⟨d, hd⟩ : ∃ d, d = x.length - 4 := ⟨_, rfl⟩
  rw [← hd]
  have hlen : (x.drop d).length = x.length - d := List.length_drop
  have := loopO_up (step := esref36_parseRule.l2 x) (fun k => (((dgF 0 ((x.drop d).take k) : Nat) : Int), ((d + k : Nat) : Int))) (x.length - d) (b := ((dgF 0 (x.drop d) : Nat) : Int)) (fun k hk => ?_) ?_
  · exact this
  · have hi : d + k < x.length := by omega
    have hb := dgF_lt ((x.drop d).take k) 0
    have hkl : ((x.drop d).take k).length ≤ 3 := by rw [List.length_take, hlen]; omega
    have hb2 : (10 : Nat) ^ ((x.drop d).take k).length ≤ 10 ^ 3 := Nat.pow_le_pow_right (by decide) hkl
    have hb3 : dgF 0 ((x.drop d).take k) < 1000 := by omega
    unfold esref36_parseRule.l2
    simp only [lt_of_len hi, if_true, idx_nat hi, Option.bind_some]
    have hk2 : k < (x.drop d).length := by rw [hlen]; exact hk
    have hsn : (x.drop d).take (k + 1) = (x.drop d).take k ++ [x[d + k]] := by
      rw [take_snoc hk2]
      simp
    obtain ⟨c, hc⟩ : ∃ c, c = x[d + k] := ⟨_, rfl⟩
    obtain ⟨a, ha⟩ : ∃ a, a = dgF 0 ((x.drop d).take k) := ⟨_, rfl⟩
    have hnew : dgF 0 ((x.drop d).take (k + 1)) = if isd c then a * 10 + (c.toNat - 48) else a := by
      rw [hsn, dgF_app, ← ha, ← hc]
      rfl
    rw [hnew, ← hc, ← ha]
    have hc2 : x[d + k]? = some c := by rw [hc]; exact List.getElem?_eq_getElem hi
    have j5 : ∀ y : Nat, y = (if isd c then a * 10 + (c.toNat - 48) else a) → esref36_parseRule.j5 ((d + k : Nat) : Int) (y : Int) = some (.inl (((if isd c then a * 10 + (c.toNat - 48) else a : Nat) : Int), ((d + (k + 1) : Nat) : Int))) := by
      rintro y rfl
      unfold esref36_parseRule.j5
      rw [letV_of, wcast hi (by omega)]
      rfl
    by_cases h48 : 48 ≤ c.toNat
    · rw [if_pos (by simp; omega)]
      unfold esref36_parseRule.j6
      by_cases h57 : c.toNat ≤ 57
      · rw [if_pos (by simp; omega)]
        obtain ⟨m, hm⟩ : ∃ m, c.toNat = 48 + m := ⟨c.toNat - 48, by omega⟩
        have hw8 : IntKind.u8.wrap ((c.toNat : Int) - 48) = (m : Int) := by
          have : ∀ m : Fin 10, IntKind.u8.wrap (((48 + m.val : Nat) : Int) - 48) = (m.val : Int) := by decide
          rw [hm]
          exact this ⟨m, by omega⟩
        have hix : idx x ((d + k : Nat) : Int) = some c := by rw [idx_nat hi, hc]
        simp only [letV_of, hix, Option.bind_some]
        rw [hw8, w64 (x := (a : Int) * 10) (by omega) (by omega), w64 (x := (m : Int)) (by omega) (by omega), w64 (x := (a : Int) * 10 + m) (by omega) (by omega)]
        have := j5 (a * 10 + m) (by rw [if_pos ⟨h48, h57⟩]; omega)
        rw [← this]
        congr 1
      · rw [if_neg (by simp; omega)]
        exact j5 a (by rw [if_neg fun h => h57 h.2])
    · rw [if_neg (by simp; omega)]
      unfold esref36_parseRule.j6
      rw [if_neg (by simp)]
      exact j5 a (by rw [if_neg fun h => h48 h.1])
  · unfold esref36_parseRule.l2
    dsimp only
    rw [show d + (x.length - d) = x.length by omega, not_lt_len, if_neg (by simp), List.take_of_length_le (by omega)]
theorem fmts_one (q : adversary_Rule) : fmts [q] ≠ [] → RK q ∧ fmts [q] = fm q := by
  intro h
  unfold fmts at h ⊢
  split at h
  · rename_i hv
    rw [if_pos hv]
    exact ⟨hv.2 q (by simp), by simp [Go.Lib.join_one]⟩
  · exact absurd rfl h
theorem fmts_rk {q : adversary_Rule} (h : RK q) : fmts [q] = fm q := by
  unfold fmts
  rw [if_pos ⟨by simp, fun r hr => by simp at hr; rw [hr]; exact h⟩]
  simp [Go.Lib.join_one]
theorem refParseRule_ex (x : List UInt8) (hx : x.length ≤ 4096) : ∃ r ok, esref36_parseRule x = some (r, ok) ∧ ((ok = true ∧ RK r ∧ fm r = x) ∨ (ok = false ∧ ∀ q, RK q → fm q ≠ x)) := by
  unfold esref36_parseRule
  rw [letV_of, w64 (x := (x.length : Int) - 4) (by omega) (by omega)]
  have hmax : maxI 0 ((x.length : Int) - 4) = ((x.length - 4 : Nat) : Int) := by
    unfold maxI
    split <;> omega
  rw [hmax, refArg_eq x hx, Option.bind_some]
  obtain ⟨a, ha⟩ : ∃ a, a = dgF 0 (x.drop (x.length - 4)) := ⟨_, rfl⟩
  rw [← ha]
  unfold esref36_parseRule.j4
  have key : ∃ b, loopO (esref36_parseRule.l1 x (a : Int)) (1, 0, 0) = some b ∧ ((∃ r, b = .inr (r, true) ∧ RK r ∧ fm r = x) ∨ ((∃ y, b = .inl y) ∧ ∀ q, RK q → fm q ≠ x)) := by
    refine loopO_mu (fun s : Int × Int × Int => ∃ k : Nat, s = ((k : Int), 0, 0) ∧ 1 ≤ k ∧ k ≤ 10 ∧ ∀ q, RK q → fm q = x → (k : Int) ≤ q.Kind) (fun s => 10 - s.1.toNat) ⟨1, rfl, by omega, by omega, fun q hq _ => hq.lo⟩ ?_
    rintro _ ⟨k, rfl, h1, h2, hq⟩
    unfold esref36_parseRule.l1
    dsimp only
    by_cases h9 : k ≤ 9
    · rw [if_pos (by simp; omega)]
      have j3 : ∀ y : Int, (∀ q, RK q → fm q = x → q.Kind = (k : Int) → q.Arg = y) →
          (∃ s', esref36_parseRule.j3 x (k : Int) 0 0 y = some (.inl s') ∧ (∃ k : Nat, s' = ((k : Int), 0, 0) ∧ 1 ≤ k ∧ k ≤ 10 ∧ ∀ q, RK q → fm q = x → (k : Int) ≤ q.Kind) ∧ 10 - s'.1.toNat < 10 - ((k : Int), (0 : Int), (0 : Int)).1.toNat) ∨
          ∃ b, esref36_parseRule.j3 x (k : Int) 0 0 y = some (.inr b) ∧ ((∃ r, b = .inr (r, true) ∧ RK r ∧ fm r = x) ∨ ((∃ y, b = .inl y) ∧ ∀ q, RK q → fm q ≠ x)) := by
        intro y hy
        unfold esref36_parseRule.j3
        rw [refFormat_eq, Option.bind_some]
        have hno : (∀ q, RK q → fm q = x → q.Kind ≠ (k : Int)) → (∃ s', esref36_parseRule.j2 (k : Int) 0 0 y false = some (.inl s') ∧ (∃ k : Nat, s' = ((k : Int), 0, 0) ∧ 1 ≤ k ∧ k ≤ 10 ∧ ∀ q, RK q → fm q = x → (k : Int) ≤ q.Kind) ∧ 10 - s'.1.toNat < 10 - ((k : Int), (0 : Int), (0 : Int)).1.toNat) := by
          intro hno
          unfold esref36_parseRule.j2
          rw [if_neg (by simp), letV_of, w64 (x := (k : Int) + 1) (by omega) (by omega)]
          refine ⟨_, rfl, ⟨k + 1, rfl, by omega, by omega, fun q a b => ?_⟩, by dsimp only; omega⟩
          have := hq q a b
          have := hno q a b
          omega
        have hq2 : ∀ q, RK q → fm q = x → q.Kind = (k : Int) → fmts [⟨(k : Int), y⟩] = x := by
          intro q a b hk
          have e := hy q a b hk
          obtain ⟨qk, qa⟩ := q
          dsimp only at hk e
          subst hk
          subst e
          rw [fmts_rk a, b]
        by_cases hne : fmts [⟨(k : Int), y⟩] = []
        · rw [if_neg (by rw [hne]; simp)]
          refine .inl (hno fun q a b hk => ?_)
          have := hq2 q a b hk
          rw [hne, ← b] at this
          exact fm_ne a this.symm
        · rw [if_pos (by simpa using hne)]
          by_cases hxe : fmts [⟨(k : Int), y⟩] = x
          · rw [show (fmts [⟨(k : Int), y⟩] == x) = true from beq_iff_eq.2 hxe]
            unfold esref36_parseRule.j2
            rw [if_pos rfl]
            obtain ⟨h5, h6⟩ := fmts_one _ hne
            exact .inr ⟨_, rfl, .inl ⟨_, rfl, h5, by rw [← h6, hxe]⟩⟩
          · rw [show (fmts [⟨(k : Int), y⟩] == x) = false from beq_eq_false_iff_ne.2 hxe]
            exact .inl (hno fun q a b hk => hxe (hq2 q a b hk))
      by_cases h7 : 7 ≤ k
      · rw [if_pos (by simp; omega)]
        exact j3 0 fun q a b hk => a.no (by omega)
      · rw [if_neg (by simp; omega)]
        refine j3 _ fun q h3 b hk => ?_
        obtain ⟨K, n, e1, e2, e3, e4, e5, e6, e7⟩ := fm_wd h3
        rw [if_pos (by omega)] at e7
        rw [e2, ha, ← b, e7, dg_fm e3]
    · rw [if_neg (by simp; omega)]
      refine .inr ⟨_, rfl, .inr ⟨⟨_, rfl⟩, fun q h3 b => ?_⟩⟩
      have := hq q h3 b
      have := h3.hi
      omega
  obtain ⟨b, e, hb⟩ := key
  rw [e, Option.bind_some]
  rcases hb with ⟨r, rfl, h1, h2⟩ | ⟨⟨y, rfl⟩, h2⟩
  · exact ⟨_, _, rfl, .inl ⟨rfl, h1, h2⟩⟩
  · exact ⟨_, _, rfl, .inr ⟨rfl, h2⟩⟩
end Go.Proofs.YthcohhpmpdijoaaDoor
set_option linter.unusedVariables false
set_option linter.unusedSimpArgs false
set_option maxRecDepth 4000
namespace Go.Proofs.YthcohhpmpdijoaaDoor
open Go Go.Proofs.YthcohhpmpdijoaaDoorL
open Go.Lib (itoa decDigits join joinTail split)
noncomputable def prs (x : List UInt8) : adversary_Rule := (adversary_parseRule x).getD ⟨0, 0⟩
theorem prs_eq {x : List UInt8} (hx : x.length ≤ 4096) : adversary_parseRule x = some (prs x) := by
  obtain ⟨r, h, _⟩ := parseRule_ex x hx
  unfold prs
  rw [h]
  rfl
theorem prs_fm {q : adversary_Rule} (h : RK q) : prs (fm q) = q := by
  have := fm_len h
  obtain ⟨r, e, hr⟩ := parseRule_ex (fm q) (by omega)
  unfold prs
  rw [e, hr q h rfl]
  rfl
theorem parts_ok {s : List UInt8} (hs : s.length ≤ 4000) : (∀ p ∈ sp [] s, p.length ≤ 4000) ∧ (sp [] s).length ≤ 4001 := by
  obtain ⟨h1, h2⟩ := sp_part s []
  refine ⟨fun p hp => ?_, by omega⟩
  have := h1 p hp
  simp only [List.length_nil] at this
  omega
open Classical in
noncomputable def parsed (s : List UInt8) : List adversary_Rule × Int := if s = [] then ([], 0) else if fmts ((sp [] s).map prs) = s then ((sp [] s).map prs, 0) else ([], 11)
theorem parsed_len {s : List UInt8} (hs : s.length ≤ 4000) : (parsed s).1.length ≤ 4001 := by
  have := (parts_ok hs).2
  unfold parsed
  split
  · simp
  · split
    · rw [List.length_map]
      exact this
    · simp
theorem Parse_eq (s : List UInt8) (hs : s.length ≤ 4000) : adversary_Parse s = some (parsed s) := by
  unfold adversary_Parse parsed
  by_cases h0 : s = []
  · rw [if_pos (by rw [h0]; rfl), if_pos h0]
  · rw [if_neg (by simpa using h0), if_neg h0]
    have hsp : strings_Split s [59, 32] = some (sp [] s) := by
      unfold strings_Split
      rw [if_pos ⟨by simp, by omega⟩, split_sp s.length s (Nat.le_refl _)]
    rw [hsp, Option.bind_some]
    obtain ⟨hp, hn⟩ := parts_ok hs
    obtain ⟨L, hL⟩ : ∃ L, L = sp [] s := ⟨_, rfl⟩
    rw [← hL] at hp hn ⊢
    have := loopO_up (step := adversary_Parse.l1 L) (fun k => ((L.take k).map prs, (k : Int))) L.length (b := L.map prs) (fun k hk => ?_) ?_
    · have this : loopO (adversary_Parse.l1 L) ([], 0) = some (L.map prs) := this
      rw [this, Option.bind_some]
      unfold adversary_Parse.j1
      rw [Format_eq, Option.bind_some]
      by_cases hf : fmts (L.map prs) = s
      · rw [if_neg (by rw [hf]; simp), if_pos hf]
      · rw [if_pos (by simpa using hf), if_neg hf]
    · unfold adversary_Parse.l1
      simp only [lt_of_len hk, if_true, idx_nat hk, Option.bind_some]
      have hl := hp _ (List.getElem_mem hk)
      rw [prs_eq (by omega), Option.bind_some, app_of (by simp only [List.length_map, List.length_take, List.length_singleton]; omega), Option.bind_some, letV_of, wcast hk (by omega), take_snoc hk, List.map_append]
      rfl
    · unfold adversary_Parse.l1
      simp only [not_lt_len, Bool.false_eq_true, if_false, List.take_length]
theorem fmts_valid {l : List adversary_Rule} (h : fmts l ≠ []) : (l.length ≤ 16 ∧ ∀ r ∈ l, RK r) ∧ fmts l = join (l.map fm) [59, 32] := by
  unfold fmts at h ⊢
  split at h
  · rename_i hv
    rw [if_pos hv]
    exact ⟨hv, rfl⟩
  · exact absurd rfl h
theorem fmts_of {l : List adversary_Rule} (h1 : l.length ≤ 16) (h2 : ∀ r ∈ l, RK r) : fmts l = join (l.map fm) [59, 32] := by
  unfold fmts
  rw [if_pos ⟨h1, h2⟩]
theorem sp_fmts {l : List adversary_Rule} (hne : l ≠ []) (h : fmts l ≠ []) : sp [] (fmts l) = l.map fm := by
  obtain ⟨⟨h1, h2⟩, e⟩ := fmts_valid h
  rw [e]
  refine sp_join (by simpa using hne) fun x hx => ?_
  obtain ⟨r, hr, rfl⟩ := List.mem_map.1 hx
  exact fm_no (h2 r hr)
theorem map_prs_fm {l : List adversary_Rule} (h : ∀ r ∈ l, RK r) : (l.map fm).map prs = l := by
  rw [List.map_map]
  conv => rhs; rw [← List.map_id l]
  exact List.map_congr_left fun r hr => prs_fm (h r hr)
theorem parsed_good {s : List UInt8} (h0 : s ≠ []) (h16 : (sp [] s).length ≤ 16) (h : ∀ p ∈ sp [] s, ∃ q, RK q ∧ fm q = p) : parsed s = ((sp [] s).map prs, 0) := by
  unfold parsed
  have hf : ((sp [] s).map prs).map fm = sp [] s := by
    rw [List.map_map]
    conv => rhs; rw [← List.map_id (sp [] s)]
    refine List.map_congr_left fun p hp => ?_
    obtain ⟨q, hq, rfl⟩ := h p hp
    show fm (prs (fm q)) = fm q
    rw [prs_fm hq]
  rw [if_neg h0, if_pos]
  rw [fmts_of (by rw [List.length_map]; exact h16) fun r hr => ?_, hf, join_sp]
  · rfl
  · obtain ⟨p, hp, rfl⟩ := List.mem_map.1 hr
    obtain ⟨q, hq, rfl⟩ := h p hp
    rw [prs_fm hq]
    exact hq
theorem parsed_bad {s : List UInt8} (h0 : s ≠ []) (h : ¬((sp [] s).length ≤ 16 ∧ ∀ p ∈ sp [] s, ∃ q, RK q ∧ fm q = p)) : parsed s = ([], 11) := by
  unfold parsed
  rw [if_neg h0, if_neg]
  intro hf
  have hne : fmts ((sp [] s).map prs) ≠ [] := by rw [hf]; exact h0
  obtain ⟨⟨h1, h2⟩, _⟩ := fmts_valid hne
  have hs := sp_fmts (by simpa using sp_ne s []) hne
  rw [hf] at hs
  refine h ⟨by rw [List.length_map] at h1; exact h1, fun p hp => ?_⟩
  rw [hs] at hp
  obtain ⟨r, hr, rfl⟩ := List.mem_map.1 hp
  exact ⟨r, h2 r hr, rfl⟩
theorem refParse_eq (s : List UInt8) (hs : s.length ≤ 4000) : esref36_Parse s = some (parsed s) := by
  unfold esref36_Parse
  by_cases h0 : s = []
  · rw [if_pos (by rw [h0]; rfl)]
    unfold parsed
    rw [if_pos h0]
  · rw [if_neg (by simpa using h0), refsplit_eq s (by omega), Option.bind_some]
    obtain ⟨hp, hn⟩ := parts_ok hs
    by_cases h16 : (sp [] s).length ≤ 16
    · rw [if_neg (by simp; omega)]
      have key : ∃ b, loopO (esref36_Parse.l1 (sp [] s)) ([], 0) = some b ∧ ((b = .inl ((sp [] s).map prs) ∧ ∀ p ∈ sp [] s, ∃ q, RK q ∧ fm q = p) ∨ (b = .inr ([], 11) ∧ ∃ p ∈ sp [] s, ∀ q, RK q → fm q ≠ p)) := by
        obtain ⟨L, hL⟩ : ∃ L, L = sp [] s := ⟨_, rfl⟩
        rw [← hL] at hp hn ⊢
        refine loopO_ex (fun k st => st = ((L.take k).map prs, (k : Int)) ∧ ∀ p ∈ L.take k, ∃ q, RK q ∧ fm q = p) L.length ⟨rfl, by simp⟩ ?_ ?_
        · rintro k _ hk ⟨rfl, hall⟩
          unfold esref36_Parse.l1
          simp only [lt_of_len hk, if_true, idx_nat hk, Option.bind_some]
          have hl := hp _ (List.getElem_mem hk)
          obtain ⟨r, ok, e, hr⟩ := refParseRule_ex L[k] (by omega)
          rw [e, Option.bind_some]
          dsimp only
          rcases hr with ⟨rfl, h1, h2⟩ | ⟨rfl, h2⟩
          · rw [if_neg (by simp), app_of (by simp only [List.length_map, List.length_take, List.length_singleton]; omega), Option.bind_some, letV_of, wcast hk (by omega)]
            refine .inl ⟨_, rfl, ?_, fun p hp2 => ?_⟩
            · rw [take_snoc hk, List.map_append, List.map_singleton, ← h2, prs_fm h1]
            · rw [take_snoc hk] at hp2
              rcases List.mem_append.1 hp2 with hp2 | hp2
              · exact hall p hp2
              · exact ⟨r, h1, by rw [List.mem_singleton.1 hp2, h2]⟩
          · rw [if_pos (by simp)]
            exact .inr ⟨_, rfl, .inr ⟨rfl, L[k], List.getElem_mem hk, h2⟩⟩
        · rintro _ ⟨rfl, hall⟩
          unfold esref36_Parse.l1
          simp only [not_lt_len, Bool.false_eq_true, if_false, List.take_length]
          rw [List.take_length] at hall
          exact ⟨_, rfl, .inl ⟨rfl, hall⟩⟩
      obtain ⟨b, e, hb⟩ := key
      rw [e, Option.bind_some]
      rcases hb with ⟨rfl, hall⟩ | ⟨rfl, p, hp1, hp2⟩
      · rw [parsed_good h0 h16 hall]
        rfl
      · rw [parsed_bad h0 fun h => by
          obtain ⟨q, h3, h4⟩ := h.2 p hp1
          exact hp2 q h3 h4]
    · rw [if_pos (by simp; omega), parsed_bad h0 fun h => h16 h.1]
theorem Index_ex (n k : Int) (h1 : 1 ≤ k) (h2 : k ≤ 4611686018427387904) : ∃ d, eslaw00_Index n k = some d ∧ 0 ≤ d ∧ d < k := by
  unfold eslaw00_Index
  rw [if_neg (by simp; omega), if_pos (by omega)]
  have e1 : Int.tmod n k < k := Int.tmod_lt_of_pos _ (by omega)
  have e2 : -k < Int.tmod n k := by
    have : Int.tmod (-n) k < k := Int.tmod_lt_of_pos _ (by omega)
    rw [Int.neg_tmod] at this
    omega
  simp only [letV_of]
  rw [w64 (by omega) (by omega), if_pos (by omega)]
  exact ⟨_, rfl, Int.tmod_nonneg _ (by omega), Int.tmod_lt_of_pos _ (by omega)⟩
theorem Digit_ex (n b : Int) (i : Nat) (h1 : 2 ≤ b) (h2 : b ≤ 16) (hi : i ≤ 100000) : ∃ d, eslaw00_Digit n b (i : Int) = some d ∧ 0 ≤ d ∧ d < b := by
  obtain ⟨x, hx, hx0, hx1⟩ := Index_ex n 1099511627776 (by decide) (by decide)
  unfold eslaw00_Digit
  rw [hx]
  simp only [Option.bind_some]
  have key : ∃ r, loopO (eslaw00_Digit.l1 b (i : Int)) (x, 0) = some r ∧ 0 ≤ r := by
    refine loopO_inv (fun k s => ∃ y : Int, s = (y, (k : Int)) ∧ 0 ≤ y ∧ y < 1099511627776) i ⟨x, rfl, hx0, hx1⟩ (fun k s hk hI => ?_) (fun s hI => ?_)
    · obtain ⟨y, rfl, h3, h4⟩ := hI
      simp only [eslaw00_Digit.l1]
      rw [if_pos (by simpa using hk), if_pos (by omega)]
      have h5 : 0 ≤ Int.tdiv y b := Int.tdiv_nonneg h3 (by omega)
      have h6 : Int.tdiv y b ≤ y := by
        rw [Int.tdiv_eq_ediv_of_nonneg h3]
        exact Int.ediv_le_self _ h3
      simp only [letV_of]
      rw [w64 (x := Int.tdiv y b) (by omega) (by omega), wcast hk (by omega)]
      exact ⟨_, rfl, _, rfl, h5, by omega⟩
    · obtain ⟨y, rfl, h3, h4⟩ := hI
      simp only [eslaw00_Digit.l1]
      rw [if_neg (by simp)]
      exact ⟨_, rfl, h3⟩
  obtain ⟨r, hr, hr0⟩ := key
  rw [hr]
  simp only [Option.bind_some, eslaw00_Digit.j1]
  rw [if_pos (by omega)]
  exact ⟨_, rfl, Int.tmod_nonneg _ hr0, Int.tmod_lt_of_pos _ (by omega)⟩
theorem Rules_ex (x1 : List Int) : ∃ r, eslaw36_Rules x1 = some r ∧ r.length ≤ 20 := by
  unfold eslaw36_Rules
  have key : ∃ b, loopO (eslaw36_Rules.l1 x1) ([], 0) = some b ∧ b.length ≤ 20 := by
    refine loopO_mu (fun s : List adversary_Rule × Int => ∃ i : Nat, s.2 = (i : Int) ∧ i ≤ x1.length ∧ i ≤ 20 ∧ s.1.length = i) (fun s => 20 - s.2.toNat) ⟨0, rfl, by omega, by omega, rfl⟩ ?_
    rintro ⟨out, x⟩ ⟨i, rfl, h1, h2, h3⟩
    dsimp only at h3
    unfold eslaw36_Rules.l1
    dsimp only
    by_cases hi : i < x1.length
    · rw [if_pos (by simpa using hi)]
      unfold eslaw36_Rules.j4
      by_cases h20 : i < 20
      · rw [if_pos (by simp; omega)]
        simp only [idx_nat hi, Option.bind_some, letV_of]
        obtain ⟨d1, e1, a1, b1⟩ := Digit_ex x1[i] 9 0 (by decide) (by decide) (by decide)
        obtain ⟨d2, e2, a2, b2⟩ := Digit_ex x1[i] 6 2 (by decide) (by decide) (by decide)
        obtain ⟨d3, e3, a3, b3⟩ := Digit_ex x1[i] 12 1 (by decide) (by decide) (by decide)
        obtain ⟨d4, e4, a4, b4⟩ := Digit_ex x1[i] 16 3 (by decide) (by decide) (by decide)
        obtain ⟨d5, e5, a5, b5⟩ := index_pos x1[i] 61 (by decide) (by decide)
        have e1' : eslaw00_Digit x1[i] 9 0 = some d1 := e1
        have e2' : eslaw00_Digit x1[i] 6 2 = some d2 := e2
        have e3' : eslaw00_Digit x1[i] 12 1 = some d3 := e3
        have e4' : eslaw00_Digit x1[i] 16 3 = some d4 := e4
        simp only [e1', e2', Option.bind_some]
        have j2 : ∀ k a : Int, (∃ s', eslaw36_Rules.j2 out (i : Int) k a = some (.inl s') ∧ (∃ j : Nat, s'.2 = (j : Int) ∧ j ≤ x1.length ∧ j ≤ 20 ∧ s'.1.length = j) ∧ 20 - s'.2.toNat < 20 - (out, (i : Int)).2.toNat) := by
          intro k a
          unfold eslaw36_Rules.j2
          rw [app_of (by simp only [List.length_singleton]; omega), Option.bind_some, letV_of, w64n (by omega)]
          exact ⟨_, rfl, ⟨i + 1, rfl, by omega, by omega, by rw [List.length_append, List.length_singleton, h3]⟩, by dsimp only; omega⟩
        have j3 : ∀ k a : Int, (∃ s', eslaw36_Rules.j3 x1 out (i : Int) k a = some (.inl s') ∧ (∃ j : Nat, s'.2 = (j : Int) ∧ j ≤ x1.length ∧ j ≤ 20 ∧ s'.1.length = j) ∧ 20 - s'.2.toNat < 20 - (out, (i : Int)).2.toNat) := by
          intro k a
          unfold eslaw36_Rules.j3
          simp only [idx_nat hi, Option.bind_some, e5, e3', e4', letV_of]
          split
          · exact j2 _ _
          · exact j2 _ _
        split
        · exact .inl (j3 _ _)
        · exact .inl (j3 _ _)
      · rw [if_neg (by simp; omega)]
        exact .inr ⟨_, rfl, by omega⟩
    · rw [if_neg (by simp; omega)]
      unfold eslaw36_Rules.j4
      rw [if_neg (by simp)]
      exact .inr ⟨_, rfl, by omega⟩
  obtain ⟨b, e, hb⟩ := key
  rw [e]
  exact ⟨b, rfl, hb⟩
theorem fmts_len (l : List adversary_Rule) : (fmts l).length ≤ 400 := by
  by_cases h : fmts l = []
  · rw [h]
    simp
  · obtain ⟨⟨h1, h2⟩, e⟩ := fmts_valid h
    have hb := join_len (sep := [59, 32]) (B := 20) (l.map fm) (by
      intro x hx
      obtain ⟨r, h3, rfl⟩ := List.mem_map.1 hx
      exact fm_len (h2 r h3))
    rw [e]
    rw [List.length_map] at hb
    have hb2 : (20 + ([59, 32] : List UInt8).length) * l.length ≤ 400 := by show 22 * l.length ≤ 400; omega
    omega
theorem text_j3 (s : List UInt8) (hs : s.length ≤ 4000) : eslaw36_AdversaryText.j3 s = some true := by
  unfold eslaw36_AdversaryText.j3
  have hp1 := Parse_eq s hs
  have hp2 := refParse_eq s hs
  have hll := parsed_len hs
  obtain ⟨⟨l, e⟩, h⟩ : ∃ p, p = parsed s := ⟨_, rfl⟩
  rw [← h] at hp1 hp2 hll
  dsimp only at hll
  rw [hp1, Option.bind_some]
  dsimp only
  rw [hp2, Option.bind_some]
  dsimp only
  rw [if_neg (by simp), show ((l.length : Int) != (l.length : Int)) = false by simp]
  unfold eslaw36_AdversaryText.j2
  rw [if_neg (by simp)]
  have := loopO_up (step := eslaw36_AdversaryText.l1 l l) (fun k => (k : Int)) l.length (b := .inl ()) (fun k hk => ?_) ?_
  · have this : loopO (eslaw36_AdversaryText.l1 l l) 0 = some (.inl ()) := this
    rw [this, Option.bind_some]
    dsimp only
    unfold eslaw36_AdversaryText.j1
    rw [awake_true]
    rfl
  · unfold eslaw36_AdversaryText.l1
    simp only [lt_of_len hk, if_true, idx_nat hk, Option.bind_some]
    rw [if_neg (by simp), letV_of, w64n (by omega)]
  · unfold eslaw36_AdversaryText.l1
    simp only [not_lt_len, Bool.false_eq_true, if_false]
theorem text_j4 (x4 x5 : Int) (x6 x19 : List UInt8) (h6 : x6.length ≤ 20) (h19 : x19.length ≤ 400) : eslaw36_AdversaryText.j4 x4 x5 x6 x19 = some true := by
  unfold eslaw36_AdversaryText.j4
  rw [letV_of, w64 (x := (x19.length : Int) + 1) (by omega) (by omega)]
  obtain ⟨k, hk, k0, k1⟩ := index_pos x5 ((x19.length : Int) + 1) (by omega) (by omega)
  obtain ⟨c, hc, _, _⟩ := index_pos x4 4 (by omega) (by omega)
  rw [hk, Option.bind_some, hc, Option.bind_some]
  have c1 : cut x19 0 k = some ((x19.take k.toNat).drop 0) := cut_of (by omega) (by omega) (by omega)
  have c2 : cut x19 k (x19.length : Int) = some ((x19.take (x19.length : Int).toNat).drop k.toNat) := cut_of (by omega) (by omega) (by omega)
  have l1 : ((x19.take k.toNat).drop 0).length ≤ 400 := by rw [List.length_drop, List.length_take]; omega
  have l2 : ((x19.take (x19.length : Int).toNat).drop k.toNat).length ≤ 400 := by rw [List.length_drop, List.length_take]; omega
  have way : ∀ p : List UInt8, p.length ≤ 20 → ((cat ((x19.take k.toNat).drop 0) p).bind fun x116 => (cut x19 k (x19.length : Int)).bind fun x117 => (cat x116 x117).bind fun x118 => eslaw36_AdversaryText.j3 x118) = some true := by
    intro p hp
    rw [cat_of (by omega), Option.bind_some, c2, Option.bind_some, cat_of (by rw [List.length_append]; omega), Option.bind_some]
    exact text_j3 _ (by rw [List.length_append, List.length_append]; omega)
  by_cases h0 : c = 0
  · rw [if_pos (by rw [h0]; rfl), c1, Option.bind_some]
    exact way x6 h6
  · rw [if_neg (by simpa using h0)]
    by_cases h1 : c = 1
    · rw [if_pos (by rw [h1]; rfl), c1, Option.bind_some, letV_of]
      obtain ⟨j, hj, j0, j1⟩ := index_pos (IntKind.i64.wrap (Int.tdiv x4 4)) 6 (by omega) (by omega)
      rw [hj, Option.bind_some]
      have hp : ∃ p : List UInt8, idx ([([48] : List UInt8), ([32] : List UInt8), ([59] : List UInt8), ([59, 32] : List UInt8), ([57] : List UInt8), ([120] : List UInt8)]) j = some p ∧ p.length ≤ 20 := by
        have hj : j = 0 ∨ j = 1 ∨ j = 2 ∨ j = 3 ∨ j = 4 ∨ j = 5 := by omega
        rcases hj with rfl | rfl | rfl | rfl | rfl | rfl <;> exact ⟨_, rfl, by decide⟩
      obtain ⟨p, hp1, hp2⟩ := hp
      rw [hp1, Option.bind_some]
      exact way p hp2
    · rw [if_neg (by simpa using h1)]
      by_cases h2 : c = 2
      · rw [if_pos (by rw [h2]; rfl), c1, Option.bind_some]
        exact text_j3 _ (by omega)
      · rw [if_neg (by simpa using h2)]
        exact text_j3 _ (by omega)
theorem adversaryText_true (x1 : List Int) (x4 x5 : Int) (x6 : List UInt8) : eslaw36_AdversaryText x1 x4 x5 x6 = some true := by
  unfold eslaw36_AdversaryText
  by_cases h20 : (20 : Int) < (x6.length : Int)
  · rw [if_pos (by simpa using h20), awake_true]
    rfl
  · rw [if_neg (by simpa using h20)]
    obtain ⟨r, hr, hrl⟩ := Rules_ex x1
    rw [hr, Option.bind_some, Format_eq, Option.bind_some, refFormat_eq, Option.bind_some, if_neg (by simp), refValidate_eq]
    obtain ⟨e, he, hiff⟩ := Validate_ex r
    have hj4 : eslaw36_AdversaryText.j4 x4 x5 x6 (fmts r) = some true := text_j4 x4 x5 x6 _ (by omega) (fmts_len r)
    rw [he, Option.bind_some]
    by_cases h0 : e = 0
    · rw [if_pos (by rw [h0]; rfl)]
      have hv := hiff.1 h0
      have hl := fmts_len r
      have hp : parsed (fmts r) = (r, 0) := by
        by_cases hn : r = []
        · rw [hn]
          have : fmts [] = [] := by rw [fmts_of (by simp) (by simp)]; rfl
          rw [this]
          unfold parsed
          rw [if_pos rfl]
        · have hne : fmts r ≠ [] := by
            rw [fmts_of hv.1 hv.2]
            intro hx
            have h1 := sp_join (l := r.map fm) (by simpa using hn) (fun x hx2 => by
              obtain ⟨q, hq, rfl⟩ := List.mem_map.1 hx2
              exact fm_no (hv.2 q hq))
            rw [hx] at h1
            cases r with
            | nil => exact hn rfl
            | cons q t =>
              have h2 : ([[]] : List (List UInt8)) = fm q :: t.map fm := h1
              have h3 := (List.cons.inj h2).1
              exact fm_ne (hv.2 q (by simp)) h3.symm
          have hs := sp_fmts hn hne
          unfold parsed
          rw [if_neg hne, hs, map_prs_fm hv.2, if_pos rfl]
      rw [Parse_eq _ (by omega), Option.bind_some, hp]
      dsimp only
      rw [if_neg (by simp), if_neg (by simp), Format_eq, Option.bind_some, show (fmts r != fmts r) = false by simp]
      unfold eslaw36_AdversaryText.j5
      rw [if_neg (by simp)]
      have := loopO_up (step := eslaw36_AdversaryText.l2 r r) (fun k => (k : Int)) r.length (b := .inl ()) (fun k hk => ?_) ?_
      · have this : loopO (eslaw36_AdversaryText.l2 r r) 0 = some (.inl ()) := this
        rw [this, Option.bind_some]
        exact hj4
      · unfold eslaw36_AdversaryText.l2
        simp only [lt_of_len hk, if_true, idx_nat hk, Option.bind_some]
        rw [if_neg (by simp), letV_of, w64n (by omega)]
      · unfold eslaw36_AdversaryText.l2
        simp only [not_lt_len, Bool.false_eq_true, if_false]
    · rw [if_neg (by simpa using h0)]
      exact hj4
end Go.Proofs.YthcohhpmpdijoaaDoor
set_option linter.unusedVariables false
set_option linter.unusedSimpArgs false
namespace Go.Proofs.YthcohhpmpdijoaaDoorL
open Go Go.RowKit Go.ChangeShapes Go.WideShapes Go.ChangeAt
section
variable {H : Type} {enc : TypeId × Value → H}
theorem returns_and_shaped {a : Assume} {C : Checked} {os : Os} {f : FuncId} {fn : Func} {s : ChangeSpec} {conds : List PathCond} {apart fresh handsOn again : Bool} {X : World → Array Value → Prop}
    (hX : ∀ (w w' : World) (args : Array Value), w.heap = w'.heap → X w args → X w' args)
    (own : ownKnob C.prog.godebug = none) (started : os.Started) (noInit : C.prog.inits.idxOf? f = none) (hfn : C.prog.funcs[f]? = some fn)
    (witness : ∃ (w : World) (tape : Tape) (i : Input), w.os = os ∧ (w.forCall tape i).Shaped C.prog ∧ i.vars = [] ∧ Input.okWide C.prog (w.forCall tape i) .any w.heap.size f i ∧
      ((s.pre enc C.prog fn conds apart (w.forCall tape i).memory i.args ∧ X (w.forCall tape i).memory i.args) ∧ sizedMet enc C.prog fn (OpenSpec.ofChange s) apart (w.forCall tape i).memory i.args) ∧ a.holds C.prog (lone (Frame.enter C.prog f i.args .normal) [] (w.forCall tape i)))
    (contract : ∀ (W : World) (base : Nat) (args : Array Value) (ds gs : List (DataW H)) (before : List MemPlace),
      (∀ (j : Nat) t v, fn.params[j]? = some t → args[j]? = some v → Value.okWide C.prog W .any base t v) →
      DataW.Whole enc C.prog fn.params.toList s.vars apart W args.toList ds gs before →
      conds.all (PathCond.test C.prog ⟨fn.params.toList, ds, s.plain.varTypes C.prog, gs⟩) = true →
      (DataW.weightsEach C.prog (fn.params.toList ++ s.plain.varTypes C.prog) (ds ++ gs)).all (· ≤ reachBytes) = true → X W args → W.ShapedOpen C.prog →
      a.holds C.prog (lone (Frame.enter C.prog f args .normal) [] W) →
      Calls C.prog f args W fun e W' => ∃ v, e = .returned v ∧ s.post enc C.prog fn apart fresh handsOn again W args v W') :
    ReturnsInHanded a C os f .any (fun w args => (s.pre enc C.prog fn conds apart w args ∧ X w args) ∧ sizedMet enc C.prog fn (OpenSpec.ofChange s) apart w args) (s.post enc C.prog fn apart fresh handsOn again) := by
  refine returnsInHanded_of_calls own started noInit witness ?_
  intro w tape i _ hsh _ hok hpre hholds
  obtain ⟨_, _, _, fn', hfn', _, _, _, _, hval⟩ := hok
  have e : fn' = fn := Option.some.inj (hfn'.symm.trans hfn)
  subst e
  obtain ⟨⟨⟨ds, gs, before, hw, hc⟩, hx⟩, hz⟩ := hpre
  have hw' := DataW.Whole.of_heap (w' := w.forCall tape i) (by rfl) hw
  refine (contract (w.forCall tape i) w.heap.size i.args ds gs before hval hw' hc (hz.weights hw) (hX _ _ _ (by rfl) hx) hsh hholds).mono fun e W' ⟨v, he, hp⟩ => ?_
  subst he
  exact ChangeSpec.post_blind hp
end
section
variable {P : Program} {W : World}
def LaidAt (P : Program) (W : World) (n : String) (d : DataW Unit) : Prop :=
  ∃ g t cs fuel p, P.globalNamed n = some g ∧ (P.globals[g]?).map (·.type) = some t ∧ W.var? P n = some cs ∧ DataW.trod (fun _ => ()) P W 0 (fun _ => true) false fuel t cs.toList = some (d, p)
theorem laidAt : ∀ {l : List (String × DataW Unit)} {ps : List MemPlace} (_ : DataW.LaidVars P W l ps) (i : Nat) {n : String} {d : DataW Unit}, l[i]? = some (n, d) → LaidAt P W n d
  | [], _, _, _, _, _, h => by simp at h
  | (n, d) :: r, ps, h, 0, n', d', e => by
    obtain ⟨g, t, cs, fuel, p, q, h1, h2, h3, h4, _⟩ := h
    simp only [List.getElem?_cons_zero, Option.some.injEq, Prod.mk.injEq] at e
    obtain ⟨rfl, rfl⟩ := e
    exact ⟨g, t, cs, fuel, p, h1, h2, h3, h4⟩
  | (n, d) :: r, ps, h, i + 1, n', d', e => by
    obtain ⟨g, t, cs, fuel, p, q, h1, h2, h3, h4, h5, _⟩ := h
    exact laidAt h5 i (by simpa using e)
theorem var_place {n : String} {g : Nat} {cs : Array Value} (hg : P.globalNamed n = some g) (h : W.var? P n = some cs) {α : Type} {T : Ty α} {x : α} (hR : T.R (fun b => b < W.heap.size) W x cs.toList) : (pl T x (⟨g, 0, none⟩)).holds (fun b => b < W.heap.size) W := by
  have hlt : g < W.heap.size := by
    simp only [World.var?, hg, Option.bind_some] at h
    split at h
    · rename_i hh
      exact (Array.getElem?_eq_some_iff.1 hh).1
    · cases h
  refine ⟨rfl, hlt, hlt, _, hR, fun i u hu => ?_⟩
  rw [World.var?_cell hg h]
  simpa using hu
theorem laid_tab {n : String} {g : Nat} {t e : TypeId} {k : Nat} {zs : List Int} (hg : P.globalNamed n = some g) (hty : (P.globals[g]?).map (·.type) = some t) (ht : P.underlying t = some (.array k e)) (he : P.underlying e = some (.int .u64)) (hce : P.cellsOf e = 1) (hct : P.cellsOf t = k)
    (h : LaidAt P W n (Go.Lib.tabData .u64 zs)) : (vl (tTab P n g hg zs) () (.int .i64 0)).holds (fun b => b < W.heap.size) W := by
  obtain ⟨g', t', cs, fuel, p, hg', hty', hv, hd⟩ := h
  obtain rfl := Option.some.inj (hg.symm.trans hg')
  obtain rfl := Option.some.inj (hty.symm.trans hty')
  have hlt : g < W.heap.size := by
    simp only [World.var?, hg, Option.bind_some] at hv
    split at hv
    · rename_i hh
      exact (Array.getElem?_eq_some_iff.1 hh).1
    · cases hv
  refine ⟨_, ⟨rfl, hlt, hlt, ?_⟩, rfl⟩
  unfold Go.Lib.TabIs
  rw [hv, ← Go.Lib.cells_of_tab ht he hce hct hd]
theorem laid_err {n : String} {g : Nat} {t : TypeId} {ms : Array (String × TypeId)} {nm : String} {d : DataW Unit} (hg : P.globalNamed n = some g) (hty : (P.globals[g]?).map (·.type) = some t) (ht : P.underlying t = some (.interface ms))
    (h : LaidAt P W n (.iface nm d)) : (pl tErr true (⟨g, 0, none⟩)).holds (fun b => b < W.heap.size) W := by
  obtain ⟨g', t', cs, fuel, p, hg', hty', hv, hd⟩ := h
  obtain rfl := Option.some.inj (hg.symm.trans hg')
  obtain rfl := Option.some.inj (hty.symm.trans hty')
  obtain ⟨_, u, v, e, _⟩ := iface_of_trod ht hd
  exact var_place hg hv ⟨_, e, .inr ⟨rfl, u, v, rfl⟩⟩
theorem laid_strs {n : String} {g : Nat} {t e : TypeId} {ss : List (List UInt8)} (hg : P.globalNamed n = some g) (hty : (P.globals[g]?).map (·.type) = some t) (ht : P.underlying t = some (.slice e)) (he : P.underlying e = some .string) (hce : P.cellsOf e = 1) (hne : ss ≠ [])
    (h : LaidAt P W n (.slice (ss.map fun s => .lit (.string s)) [])) : (pl (tSlice tStr) ss (⟨g, 0, none⟩)).holds (fun b => b < W.heap.size) W := by
  obtain ⟨g', t', cs, fuel, p, hg', hty', hv, hd⟩ := h
  obtain rfl := Option.some.inj (hg.symm.trans hg')
  obtain rfl := Option.some.inj (hty.symm.trans hty')
  refine var_place hg hv ?_
  rcases DataW.trod_slice ht hd with ⟨_, h2⟩ | ⟨a, len, cap, elems, rest, m, rfl, h1, hx, _, hlc, hcm, hel, hget, _⟩
  · simp at h2
  · rw [hce] at hget
    simp only [Prod.mk.injEq, DataW.slice.injEq] at hx
    have hmap := hx.1.1
    have hlen : ss.length = len := by
      have := congrArg List.length hmap
      simp only [List.length_map] at this
      omega
    have step : ∀ j x, ss[j]? = some x → ∃ cs, tStr.R (fun b => b < W.heap.size) W x cs ∧ W.cells? 0 (a.add (j * 1)) 1 = some cs := by
      intro j x hj
      have hjl := (List.getElem?_eq_some_iff.1 hj).1
      have hg := hget j (by omega)
      rw [List.getElem?_eq_getElem (show j < elems.length by omega)] at hg
      obtain ⟨cs', hcs, htr⟩ := Option.bind_eq_some_iff.1 hg
      obtain ⟨s, rfl, hs, _⟩ := DataW.trod_string he htr
      have e2 : (ss.map fun s => (DataW.lit (.string s) : DataW Unit))[j]? = (elems.map (·.1))[j]? := by rw [hmap]
      rw [List.getElem?_map, List.getElem?_map, hj, List.getElem?_eq_getElem (show j < elems.length by omega), hs] at e2
      simp only [Option.map_some, Option.some.injEq, DataW.lit.injEq, Lit.string.injEq] at e2
      refine ⟨_, ?_, hcs⟩
      show [Value.string s] = [bstr x]
      rw [e2]
      simp [bstr]
    refine ⟨some a, cap, by rw [h1, hlen], by omega, .inr ?_⟩
    have h0 : 0 < ss.length := List.length_pos_iff.2 hne
    have hspot : a.spot = none := by
      obtain ⟨cs, hR, hc2⟩ := step 0 _ (List.getElem?_eq_getElem h0)
      have hlen := tStr.len hR
      have hsz : tStr.sz = 1 := rfl
      obtain ⟨_, _, hcell⟩ := World.cells?_some hc2
      have := hcell 0 (by omega)
      rw [List.getElem?_eq_getElem (by omega)] at this
      have h3 := World.cell?_spot this
      rw [Nat.zero_mul] at h3
      revert h3
      unfold Addr.add
      obtain ⟨b, o, sp⟩ := a
      cases sp <;> simp
    obtain ⟨b, off, sp⟩ := a
    simp only at hspot
    subst hspot
    have hlt : b < W.heap.size := by
      obtain ⟨cs, hR, hc2⟩ := step 0 _ (List.getElem?_eq_getElem h0)
      have := World.cells?_block hc2 (by omega)
      rwa [addr_add] at this
    refine ⟨b, off, rfl, hlt, hlt, fun j x hj => ?_⟩
    obtain ⟨cs, hR, hc2⟩ := step j x hj
    refine ⟨cs, hR, fun i u hu => ?_⟩
    obtain ⟨_, _, hcell⟩ := World.cells?_some hc2
    have hi := (List.getElem?_eq_some_iff.1 hu).1
    have hsz : tStr.sz = 1 := rfl
    have := hcell i (by rw [tStr.len hR] at hi; exact hi)
    rw [addr_add, addr_add, hu] at this
    exact this
theorem shaped_int {n : String} {g : Nat} (m : Int) (h : W.cell? ⟨g, 0, none⟩ = some (.int .i64 m)) : (pl (tInt .i64) m (⟨g, 0, none⟩)).holds (fun b => b < W.heap.size) W := by
  have hlt : g < W.heap.size := by
    unfold World.cell? at h
    simp only at h
    cases hh : W.heap[g]? with
    | none => simp [hh] at h
    | some o => exact (Array.getElem?_eq_some_iff.1 hh).1
  refine ⟨rfl, hlt, hlt, [.int .i64 m], rfl, fun i u hu => ?_⟩
  cases i with
  | zero => simp at hu; subst hu; exact h
  | succ i => simp at hu
end
end Go.Proofs.YthcohhpmpdijoaaDoorL
namespace Go.Proofs.YthcohhpmpdijoaaDoor
open Go
set_option maxRecDepth 100000
theorem seatTie1 : Tryd.prog.laidByTextLater [("math/bits.deBruijn32tab", Rows.laid_math_bits_deBruijn32tab), ("math/bits.deBruijn64tab", Rows.laid_math_bits_deBruijn64tab), ("internal/strconv.uint64pow10", Rows.laid_internal_strconv_uint64pow10), ("unicode/utf8.acceptRanges", Rows.laid_unicode_utf8_acceptRanges), ("strconv.ErrRange", Rows.laid_strconv_ErrRange), ("strconv.ErrSyntax", Rows.laid_strconv_ErrSyntax), ("elasticstore/adversary.words", Rows.laid_elasticstore_adversary_words)] [.data, .data, .data, .data, .sentinel, .sentinel, .data] true :=
  Program.laidByTextLater_by_one 77 8 65 (by kernel_rfl) (by kernel_rfl) (by kernel_rfl) (by kernel_rfl) (by kernel_rfl) (by kernel_rfl) (fun _ _ => by kernel_rfl)
theorem pin_laid_unicode_utf8_first : Tryd.pinned.checked.prog.pinnedFits "unicode/utf8.first" = true := by kernel_rfl
theorem noOwnUnsafe : Tryd.pinned.checked.prog.headLifts.contains "ownunsafe" = false := by kernel_rfl
theorem fits1 : Tryd.pinned.checked.prog.listedFits [("math/bits.deBruijn32tab", Rows.laid_math_bits_deBruijn32tab), ("math/bits.deBruijn64tab", Rows.laid_math_bits_deBruijn64tab), ("internal/strconv.uint64pow10", Rows.laid_internal_strconv_uint64pow10), ("unicode/utf8.acceptRanges", Rows.laid_unicode_utf8_acceptRanges), ("strconv.ErrRange", Rows.laid_strconv_ErrRange), ("strconv.ErrSyntax", Rows.laid_strconv_ErrSyntax), ("elasticstore/adversary.words", Rows.laid_elasticstore_adversary_words), ("unicode/utf8.first", Rows.laid_unicode_utf8_first)] = true := by
  unfold Program.listedFits
  rw [noOwnUnsafe]
  kernel_rfl
theorem tie : Tryd.prog.laidByTextLater [("math/bits.deBruijn32tab", Rows.laid_math_bits_deBruijn32tab), ("math/bits.deBruijn64tab", Rows.laid_math_bits_deBruijn64tab), ("internal/strconv.uint64pow10", Rows.laid_internal_strconv_uint64pow10), ("unicode/utf8.acceptRanges", Rows.laid_unicode_utf8_acceptRanges), ("strconv.ErrRange", Rows.laid_strconv_ErrRange), ("strconv.ErrSyntax", Rows.laid_strconv_ErrSyntax), ("elasticstore/adversary.words", Rows.laid_elasticstore_adversary_words)] [.data, .data, .data, .data, .sentinel, .sentinel, .data] true :=
  Program.laidByTextLater.sub seatTie1 ["math/bits.deBruijn32tab", "math/bits.deBruijn64tab", "internal/strconv.uint64pow10", "unicode/utf8.acceptRanges", "strconv.ErrRange", "strconv.ErrSyntax", "elasticstore/adversary.words"] (by kernel_rfl) (by kernel_rfl)
theorem adversaryText_row_tie : Rows.adversaryTextRow.laidByTextAt .later Tryd.pinned [.data, .data, .data, .data, .sentinel, .sentinel, .data, .pinned] true :=
  OpenClaim.laidByTextAt_pinned rfl rfl tie rfl rfl rfl rfl (fun y hy _e => by
    simp only [Rows.adversaryTextRow, List.zip_cons_cons, List.zip_nil_right, List.mem_cons, List.mem_nil_iff, or_false] at hy
    rcases hy with rfl | rfl | rfl | rfl | rfl | rfl | rfl | rfl
    · cases _e
    · cases _e
    · cases _e
    · cases _e
    · cases _e
    · cases _e
    · cases _e
    · exact ⟨pin_laid_unicode_utf8_first, by kernel_rfl⟩) fits1
end Go.Proofs.YthcohhpmpdijoaaDoor
