/- What the row leans on, as few texts. -/
import Derived.Test.YtpfgdjfiimknlaaGreatQIEQ2
import Derived.Test.YtpfgdjfiimknlaaGreatQIEQ3
import Derived.Test.YtpfgdjfiimknlaaGreatQIEQ1
import Derived.Test.YtpfgdjfiimknlaaGreatQIEQ0
set_option linter.unusedVariables false
set_option linter.unusedSimpArgs false
set_option linter.unnecessarySimpa false
namespace Go.Proofs.YtpfgdjfiimknlaaGreat
section
open Go Go.RowKit Go.Proofs.YtpfgdjfiimknlaaGreatL
set_option maxRecDepth 100000
set_option maxHeartbeats 4000000
theorem Y1a.calls {ok : Nat → Prop} {w0 : World} {x1 : Y0f} {x5 : List UInt8} {v2 : Value} {r : Y07} (hf : Y1a x1 x5 = some r) (i0 : (vl Y0g x1 v2).holds ok w0) :
  Calls Tryz.prog 36 #[v2, bstr x5] w0 fun e w' => ∃ v, e = .returned v ∧ ∃ y : (Option Addr × Nat × Nat), v = .agg ([bstr r.Name, .bool r.Register.Set, .int .i64 r.Register.Tag, .int .i64 r.Register.Client, .int .i64 r.Register.Seq, .int .i64 r.Register.N, bstr r.Register.S, .bool r.HasMax, .int .i64 r.Max, .int .i64 r.Sum, .slice y.1 y.2.1 y.2.2, .bool r.Flag] : List Value).toArray ∧ St ok (bz w0) w' [] [own tStr 9 (.slice y.1 y.2.1 y.2.2) r.Elems] := by
 unfold Y1a at hf
 refine Y0t (fn := Tryz.f36) (N := 26) Tryz.func36 rfl Tryz.ntmps36 rfl ?_
 have hs : St ok (bz w0) w0 [vl Y0g x1 v2] [] := St.init (All.cons i0 All.nil)
 clear i0
 obtain ⟨cs3, hl4, rfl⟩ := hs.aggv (n := 2) 0 rfl rfl rfl
 refine W.seqK fun K6 hK6 => ?_
 refine W.region ?_
 refine WL.box (vs := cs3) hs rfl rfl (fun g7 w hs => ?_)
 refine WL.alloc hs ZV86 (fun g8 w hs => ?_)
 refine WL.nil ?_
 refine hK6 _ _ ?_
 refine W.seqK fun K9 hK9 => ?_
 have Jk14 : ∀ (x11 : Y07) (cs12 : List Value) (ρ : Env) (w : World), cs12.length = 12 → ρ 1 = bstr x5 → ρ 4 = .pointer (some ⟨g8, 0, none⟩) → St ok (bz w0) w [vl Y0w x11 (.agg cs12.toArray)] [blk g8 86 cs12] → Y1a.j1 x5 x11 = some r → K9 ρ w := by
  intro x11 cs12 ρ w hl13 h10_1 h10_4 hs hf
  refine hK9 _ _ ?_
  unfold Y1a.j1 at hf
  refine W.seqK fun K15 hK15 => ?_
  refine W.region ?_
  refine WL.move (v := bstr x5) h10_1 ?_
  refine WL.build (vs := [(0, bstr x5)]) (cs := [bstr x5, .bool false, .int .i64 0, .int .i64 0, .int .i64 0, .int .i64 0, bstr [], .bool false, .int .i64 0, .int .i64 0, .slice none 0 0, .bool false]) ⟨⟨rfl, rfl⟩, trivial⟩ (bld PL86 rfl) ?_
  refine WL.storeAll (vs := [bstr x5, .bool false, .int .i64 0, .int .i64 0, .int .i64 0, .int .i64 0, bstr [], .bool false, .int .i64 0, .int .i64 0, .slice none 0 0, .bool false]) hs 0 rfl TI86 h10_4 rfl rfl rfl (Y0P rfl) hl13 (fun w hs => ?_)
  refine WL.nil ?_
  refine hK15 _ _ ?_
  refine W.ret ?_
  have hr := Option.some.inj hf; subst hr
  have hs := hs.ownNil tStr 9
  exact ⟨_, Y0e rfl (Y2B hs 1 rfl TI86 h10_4 rfl), (none, 0, 0), rfl, (hs.mask [true]).pick []⟩
 refine W.seqK fun K16 hK16 => ?_
 refine W.region ?_
 refine WL.fieldAddr (m := 1) rfl Y5H rfl ?_
 refine WL.loadF (z := x1.Fields) Y1Y hs 1 rfl 0 rfl rfl TI39 (.inr rfl) rfl rfl (fun v17 hs => ?_)
 obtain ⟨a18, c19, rfl⟩ := hs.slice 0 rfl
 refine WL.len (v := .slice a18 (x1.Fields).length c19) rfl (Y10 UN39) ?_
 refine WL.move (v := .int .i64 0) rfl ?_
 refine WL.nil ?_
 refine hK16 _ _ ?_
 refine W.block ?_
 obtain ⟨bs25, hbs25, hfs25⟩ := Y0s hf
 have hs := hs.add (it := vl Y0w (⟨[], (⟨false, 0, 0, 0, 0, []⟩ : Y0L), false, 0, 0, [], false⟩ : Y07) (.agg ([bstr [], .bool false, .int .i64 0, .int .i64 0, .int .i64 0, .int .i64 0, bstr [], .bool false, .int .i64 0, .int .i64 0, .slice none 0 0, .bool false]).toArray)) fun ok hA => Y2W (show Y0w.R ok _ _ _ from ⟨([bstr []]), ([.bool false, .int .i64 0, .int .i64 0, .int .i64 0, .int .i64 0, bstr [], .bool false, .int .i64 0, .int .i64 0, .slice none 0 0, .bool false]), rfl, rfl, ⟨([.bool false, .int .i64 0, .int .i64 0, .int .i64 0, .int .i64 0, bstr []]), [.bool false, .int .i64 0, .int .i64 0, .slice none 0 0, .bool false], rfl, ⟨[.bool false], ([.int .i64 0, .int .i64 0, .int .i64 0, .int .i64 0, bstr []]), rfl, rfl, ⟨[.int .i64 0], ([.int .i64 0, .int .i64 0, .int .i64 0, bstr []]), rfl, rfl, ⟨[.int .i64 0], ([.int .i64 0, .int .i64 0, bstr []]), rfl, rfl, ⟨[.int .i64 0], ([.int .i64 0, bstr []]), rfl, rfl, ⟨[.int .i64 0], ([bstr []]), rfl, rfl, rfl⟩⟩⟩⟩⟩, ⟨[.bool false], [.int .i64 0, .int .i64 0, .slice none 0 0, .bool false], rfl, rfl, ⟨[.int .i64 0], [.int .i64 0, .slice none 0 0, .bool false], rfl, rfl, ⟨[.int .i64 0], [.slice none 0 0, .bool false], rfl, rfl, ⟨[.slice none 0 0], [.bool false], rfl, Y7z, rfl⟩⟩⟩⟩⟩⟩) rfl
 have hs := hs.add (it := vl Y0w (⟨[], (⟨false, 0, 0, 0, 0, []⟩ : Y0L), false, 0, 0, [], false⟩ : Y07) (.agg ([bstr [], .bool false, .int .i64 0, .int .i64 0, .int .i64 0, .int .i64 0, bstr [], .bool false, .int .i64 0, .int .i64 0, .slice none 0 0, .bool false]).toArray)) fun ok hA => Y2W (show Y0w.R ok _ _ _ from ⟨([bstr []]), ([.bool false, .int .i64 0, .int .i64 0, .int .i64 0, .int .i64 0, bstr [], .bool false, .int .i64 0, .int .i64 0, .slice none 0 0, .bool false]), rfl, rfl, ⟨([.bool false, .int .i64 0, .int .i64 0, .int .i64 0, .int .i64 0, bstr []]), [.bool false, .int .i64 0, .int .i64 0, .slice none 0 0, .bool false], rfl, ⟨[.bool false], ([.int .i64 0, .int .i64 0, .int .i64 0, .int .i64 0, bstr []]), rfl, rfl, ⟨[.int .i64 0], ([.int .i64 0, .int .i64 0, .int .i64 0, bstr []]), rfl, rfl, ⟨[.int .i64 0], ([.int .i64 0, .int .i64 0, bstr []]), rfl, rfl, ⟨[.int .i64 0], ([.int .i64 0, bstr []]), rfl, rfl, ⟨[.int .i64 0], ([bstr []]), rfl, rfl, rfl⟩⟩⟩⟩⟩, ⟨[.bool false], [.int .i64 0, .int .i64 0, .slice none 0 0, .bool false], rfl, rfl, ⟨[.int .i64 0], [.int .i64 0, .slice none 0 0, .bool false], rfl, rfl, ⟨[.int .i64 0], [.slice none 0 0, .bool false], rfl, rfl, ⟨[.slice none 0 0], [.bool false], rfl, Y7z, rfl⟩⟩⟩⟩⟩⟩) rfl
 refine W.loop hbs25 (fun s ρ w => match s with | (x21, x22) => ∃ (cs23 : List Value), cs23.length = 12 ∧ ρ 1 = bstr x5 ∧ ρ 4 = .pointer (some ⟨g8, 0, none⟩) ∧ ρ 8 = .slice a18 (x1.Fields).length c19 ∧ ρ 9 = .int .i64 ((x1.Fields).length : Int) ∧ ρ 10 = .int .i64 x21 ∧ St ok (bz w0) w [vl (Y0b Y0w) x1.Fields (.slice a18 (x1.Fields).length c19), vl Y0w x22 (.agg cs23.toArray)] [blk g8 86 cs23]) ⟨[bstr [], .bool false, .int .i64 0, .int .i64 0, .int .i64 0, .int .i64 0, bstr [], .bool false, .int .i64 0, .int .i64 0, .slice none 0 0, .bool false], rfl, rfl, rfl, rfl, rfl, rfl, (hs.mask [true]).pick [2, 0]⟩ ?_
 intro s ρ w os25 hI hf hbbs25
 obtain ⟨x21, x22⟩ := s
 obtain ⟨cs23, hl24, h20_1, h20_4, h20_8, h20_9, h20_10, hs⟩ := hI
 unfold Y1a.l1 at hf
 refine W.seqK fun K26 hK26 => ?_
 refine W.region ?_
 refine WL.bin (v := .bool (decide (x21 < ((x1.Fields).length : Int)))) h20_10 h20_9 (Y1n _ _ _) ?_
 refine WL.nil ?_
 refine hK26 _ _ ?_
 refine W.seqK fun K27 hK27 => ?_
 rcases iteE hf with ⟨hc28, hf⟩ | ⟨hc28, hf⟩
 {
 refine W.cond_true (Y02 rfl hc28) ?_
 refine W.skip ?_
 refine hK27 _ _ ?_
 refine W.seqK fun K29 hK29 => ?_
 refine W.block ?_
 refine W.seqK fun K30 hK30 => ?_
 refine W.region ?_
 obtain ⟨x31, hxx31, hf⟩ := Y0s hf
 refine WL.indexAddr hs 0 rfl UN39 TI86 h20_8 h20_10 hxx31 (fun ad32 hs => ?_)
 refine WL.loadP hs 0 rfl TI86 (.inl rfl) rfl (fun v33 hs => ?_)
 obtain ⟨cs34, hl35, rfl⟩ := hs.aggv (n := 12) 0 rfl rfl rfl
 refine WL.alloc hs ZV86 (fun g36 w hs => ?_)
 obtain ⟨a37, c38, rfl⟩ := Y36 hs 0 rfl
 have hs := hs.add (it := vl (Y0b tStr) x31.Elems (.slice a37 (x31.Elems).length c38)) fun ok hA => V_fld Y2n (hA.get 0 rfl) rfl rfl rfl
 refine WL.storeAll (vs := [bstr x31.Name, .bool x31.Register.Set, .int .i64 x31.Register.Tag, .int .i64 x31.Register.Client, .int .i64 x31.Register.Seq, .int .i64 x31.Register.N, bstr x31.Register.S, .bool x31.HasMax, .int .i64 x31.Max, .int .i64 x31.Sum, .slice a37 (x31.Elems).length c38, .bool x31.Flag]) hs 0 rfl TI86 rfl rfl rfl rfl (Y0P rfl) rfl (fun w hs => ?_)
 refine WL.nil ?_
 refine hK30 _ _ ?_
 refine W.seqK fun K39 hK39 => ?_
 refine W.region ?_
 refine WL.fieldAddr (m := 0) rfl Y87 rfl ?_
 refine WL.load1 (v := bstr x31.Name) hs 0 rfl TI9 rfl rfl ?_
 refine WL.move (v := bstr x5) h20_1 ?_
 refine WL.binS (v := .bool (x31.Name == x5)) rfl rfl (Y3N _ _) ?_
 refine WL.nil ?_
 refine hK39 _ _ ?_
 rcases iteE hf with ⟨hc40, hf⟩ | ⟨hc40, hf⟩
 {
 refine W.cond_true (Y02 rfl hc40) ?_
 refine W.seqK fun K41 hK41 => ?_
 refine W.region ?_
 refine WL.fieldAddr (m := 10) rfl Y4b rfl ?_
 refine WL.load1 (v := .slice a37 (x31.Elems).length c38) hs 0 rfl TI56 rfl rfl ?_
 obtain ⟨x42, hxx42, hf⟩ := Y0s hf
 refine WL.call (vs := [.slice a37 (x31.Elems).length c38]) hs FN60 ⟨rfl, trivial⟩ (fun ok hA => Y1k.calls (x1 := x31.Elems) hxx42 (hA.get 0 rfl)) ?_
 rintro ⟨a43, n44, c45⟩ w hs
 refine WL.fieldAddr (m := 10) rfl Y4b rfl ?_
 refine WL.store (vs := [.slice a43 n44 c45]) (cs' := [bstr x31.Name, .bool x31.Register.Set, .int .i64 x31.Register.Tag, .int .i64 x31.Register.Client, .int .i64 x31.Register.Seq, .int .i64 x31.Register.N, bstr x31.Register.S, .bool x31.HasMax, .int .i64 x31.Max, .int .i64 x31.Sum, .slice a43 n44 c45, .bool x31.Flag]) hs 1 rfl TI56 rfl rfl rfl rfl (Y0P rfl) (Nat.le_of_ble_eq_true rfl) rfl (fun w hs => ?_)
 refine WL.nil ?_
 refine hK41 _ _ ?_
 refine W.seqK fun K46 hK46 => ?_
 refine W.region ?_
 refine WL.loadN (vs := [bstr x31.Name, .bool x31.Register.Set, .int .i64 x31.Register.Tag, .int .i64 x31.Register.Client, .int .i64 x31.Register.Seq, .int .i64 x31.Register.N, bstr x31.Register.S, .bool x31.HasMax, .int .i64 x31.Max, .int .i64 x31.Sum, .slice a43 n44 c45, .bool x31.Flag]) hs 1 rfl TI86 rfl rfl rfl ?_
 refine WL.storeAll (vs := [bstr x31.Name, .bool x31.Register.Set, .int .i64 x31.Register.Tag, .int .i64 x31.Register.Client, .int .i64 x31.Register.Seq, .int .i64 x31.Register.N, bstr x31.Register.S, .bool x31.HasMax, .int .i64 x31.Max, .int .i64 x31.Sum, .slice a43 n44 c45, .bool x31.Flag]) hs 2 rfl TI86 h20_4 rfl rfl rfl (Y0P rfl) hl24 (fun w hs => ?_)
 refine WL.nil ?_
 refine hK46 _ _ ?_
 refine W.ret ?_
 have hr := Option.some.inj hf; subst hr
 have hr := hbbs25 _ rfl; subst hr
 have hf := hfs25
 have hr := Option.some.inj hf; subst hr
 exact ⟨_, Y0e rfl (Y2B hs 2 rfl TI86 h20_4 rfl), (a43, n44, c45), rfl, (hs.mask [true]).pick []⟩ }
 {
 refine W.cond_false (Y02 rfl hc40) ?_
 refine W.skip ?_
 refine hK29 _ _ ?_
 refine W.region ?_
 obtain ⟨x47, ex47, hf⟩ := letE hf
 refine WL.bin (v := .int .i64 x47) h20_10 rfl (Y1V ex47 (Y1t _ _ _)) ?_
 refine WL.move (v := .int .i64 x47) rfl ?_
 refine WL.nil ?_
 exact ⟨_, (Option.some.inj hf).symm, cs23, hl24, h20_1, h20_4, h20_8, h20_9, rfl, (hs.mask [false, true]).pick [3, 4]⟩ } }
 {
 refine W.cond_false (Y02 rfl hc28) ?_
 refine W.exit ?_
 have hr := Option.some.inj hf; subst hr
 have hr := hbbs25 _ rfl; subst hr
 have hf := hfs25
 exact Jk14 x22 cs23 _ _ hl24 h20_1 h20_4 ((hs.mask [true]).pick [1]) hf }
theorem Y1Z.calls {ok : Nat → Prop} {w0 : World} {x1 : Y04} {x5 : Y04} {v2 : Value} {v6 : Value} {r : Int} (hf : Y1Z x1 x5 = some r) (i0 : (vl Y09 x1 v2).holds ok w0) (i1 : (vl Y09 x5 v6).holds ok w0) :
  Calls Tryz.prog 38 #[v2, v6] w0 fun e w' => ∃ v, e = .returned v ∧ ∃ y : Unit, v = .int .i64 r ∧ St ok (bz w0) w' [] [] := by
 unfold Y1Z at hf
 refine Y0t (fn := Tryz.f38) (N := 22) Tryz.func38 rfl Tryz.ntmps38 rfl ?_
 have hs : St ok (bz w0) w0 [vl Y09 x1 v2, vl Y09 x5 v6] [] := St.init (All.cons i0 (All.cons i1 All.nil))
 clear i0 i1
 obtain ⟨cs3, hl4, rfl⟩ := hs.aggv (n := 3) 0 rfl rfl rfl
 obtain ⟨cs7, hl8, rfl⟩ := hs.aggv (n := 3) 1 rfl rfl rfl
 refine W.seqK fun K9 hK9 => ?_
 refine W.region ?_
 refine WL.box (vs := cs3) hs rfl rfl (fun g10 w hs => ?_)
 refine WL.box (vs := cs7) hs rfl rfl (fun g11 w hs => ?_)
 refine WL.assign (v := .int .i64 0) rfl ?_
 refine WL.nil ?_
 refine hK9 _ _ ?_
 refine W.seqK fun K12 hK12 => ?_
 obtain ⟨x15, hxx15, hf⟩ := Y0s hf
 obtain ⟨x18, hxx18, hf⟩ := Y0s hf
 obtain ⟨x21, hxx21, hf⟩ := Y0s hf
 obtain ⟨x24, hxx24, hf⟩ := Y0s hf
 refine W.any (by kernel_rfl) 17 1 [true, true, true, true, true, true, true, true, true, true, true, true, true, true, true, true, true, false] rfl rfl (poAt [pv (.pointer (some ⟨g10, 0, none⟩)), pv (.int .i64 x1.f_Type), pv (.pointer (some ⟨g11, 0, none⟩)), pv (.int .i64 x5.f_Type), pv (.int .i64 x15), pv (.pointer (some ⟨g10, 1, none⟩)), pv (.int .i64 x1.N), pv (.pointer (some ⟨g11, 1, none⟩)), pv (.int .i64 x5.N), pv (.int .i64 x18), pv (.pointer (some ⟨g10, 2, none⟩)), pv (bstr x1.S), pv (.pointer (some ⟨g11, 2, none⟩)), pv (bstr x5.S), pv (.int .i64 x21), pq (fun y : (Option Addr × Nat) => .slice y.1 ([x15, x18, x21]).length y.2) (fun v => [vl (Y0b (tInt .i64)) [x15, x18, x21] v]) (fun v => []), pv (.int .i64 x24)]) (Λ := [blk g11 47 cs7, blk g10 47 cs3]) hs (by kernel_rfl) (by kernel_rfl) (by kernel_rfl) ⟨⟨⟨⟨⟨⟨⟨⟨⟨⟨⟨⟨⟨⟨⟨⟨⟨trivial, ?_⟩, ?_⟩, ?_⟩, ?_⟩, ?_⟩, ?_⟩, ?_⟩, ?_⟩, ?_⟩, ?_⟩, ?_⟩, ?_⟩, ?_⟩, ?_⟩, ?_⟩, ?_⟩, ?_⟩ ?_
 {
 intro ρ w Γx Λx hs hu hp
 refine WL.fieldAddr (m := 0) (hu 2 rfl) Y71 rfl ?_
 exact WL.nil ⟨rfl, _, rfl, rfl, hs.cutG 0 0⟩ }
 {
 intro ρ w Γx Λx hs hu hp
 have e25 : ρ 5 = .pointer (some ⟨g10, 0, none⟩) := (hp 0 rfl).1
 refine WL.loadF (z := x1.f_Type) Y2Q hs (Λx.length + 1) (Y0q rfl) (Γx.length + 0) (Y0q rfl) rfl TI3 (.inr rfl) e25 rfl (fun v13 hs => ?_)
 obtain rfl := hs.int 0 rfl
 exact WL.nil ⟨rfl, _, rfl, rfl, hs.cutG 0 1⟩ }
 {
 intro ρ w Γx Λx hs hu hp
 refine WL.fieldAddr (m := 0) (hu 3 rfl) Y71 rfl ?_
 exact WL.nil ⟨rfl, _, rfl, rfl, hs.cutG 0 0⟩ }
 {
 intro ρ w Γx Λx hs hu hp
 have e26 : ρ 7 = .pointer (some ⟨g11, 0, none⟩) := (hp 2 rfl).1
 refine WL.loadF (z := x5.f_Type) Y2Q hs (Λx.length + 0) (Y0q rfl) (Γx.length + 1) (Y0q rfl) rfl TI3 (.inr rfl) e26 rfl (fun v14 hs => ?_)
 obtain rfl := hs.int 0 rfl
 exact WL.nil ⟨rfl, _, rfl, rfl, hs.cutG 0 1⟩ }
 {
 intro ρ w Γx Λx hs hu hp
 have e27 : ρ 6 = .int .i64 x1.f_Type := (hp 1 rfl).1
 have e28 : ρ 8 = .int .i64 x5.f_Type := (hp 3 rfl).1
 refine WL.call (vs := [.int .i64 x1.f_Type, .int .i64 x5.f_Type]) hs FN64 ⟨e27, ⟨e28, trivial⟩⟩ (fun ok hA => Y0W.calls (x1 := x1.f_Type) (x2 := x5.f_Type) hxx15) ?_
 rintro _ w hs
 exact WL.nil ⟨rfl, _, rfl, rfl, hs.cutG 0 0⟩ }
 {
 intro ρ w Γx Λx hs hu hp
 refine WL.fieldAddr (m := 1) (hu 2 rfl) Y70 rfl ?_
 exact WL.nil ⟨rfl, _, rfl, rfl, hs.cutG 0 0⟩ }
 {
 intro ρ w Γx Λx hs hu hp
 have e29 : ρ 10 = .pointer (some ⟨g10, 1, none⟩) := (hp 5 rfl).1
 refine WL.loadF (z := x1.N) Y3H hs (Λx.length + 1) (Y0q rfl) (Γx.length + 0) (Y0q rfl) rfl TI2 (.inr rfl) e29 rfl (fun v16 hs => ?_)
 obtain rfl := hs.int 0 rfl
 exact WL.nil ⟨rfl, _, rfl, rfl, hs.cutG 0 1⟩ }
 {
 intro ρ w Γx Λx hs hu hp
 refine WL.fieldAddr (m := 1) (hu 3 rfl) Y70 rfl ?_
 exact WL.nil ⟨rfl, _, rfl, rfl, hs.cutG 0 0⟩ }
 {
 intro ρ w Γx Λx hs hu hp
 have e30 : ρ 12 = .pointer (some ⟨g11, 1, none⟩) := (hp 7 rfl).1
 refine WL.loadF (z := x5.N) Y3H hs (Λx.length + 0) (Y0q rfl) (Γx.length + 1) (Y0q rfl) rfl TI2 (.inr rfl) e30 rfl (fun v17 hs => ?_)
 obtain rfl := hs.int 0 rfl
 exact WL.nil ⟨rfl, _, rfl, rfl, hs.cutG 0 1⟩ }
 {
 intro ρ w Γx Λx hs hu hp
 have e31 : ρ 11 = .int .i64 x1.N := (hp 6 rfl).1
 have e32 : ρ 13 = .int .i64 x5.N := (hp 8 rfl).1
 refine WL.call (vs := [.int .i64 x1.N, .int .i64 x5.N]) hs FN65 ⟨e31, ⟨e32, trivial⟩⟩ (fun ok hA => Y1e.calls (x1 := x1.N) (x2 := x5.N) hxx18) ?_
 rintro _ w hs
 exact WL.nil ⟨rfl, _, rfl, rfl, hs.cutG 0 0⟩ }
 {
 intro ρ w Γx Λx hs hu hp
 refine WL.fieldAddr (m := 2) (hu 2 rfl) Y6Z rfl ?_
 exact WL.nil ⟨rfl, _, rfl, rfl, hs.cutG 0 0⟩ }
 {
 intro ρ w Γx Λx hs hu hp
 have e33 : ρ 15 = .pointer (some ⟨g10, 2, none⟩) := (hp 10 rfl).1
 refine WL.loadF (z := x1.S) Y3G hs (Λx.length + 1) (Y0q rfl) (Γx.length + 0) (Y0q rfl) rfl TI9 (.inr rfl) e33 rfl (fun v19 hs => ?_)
 obtain rfl := hs.str 0 rfl
 exact WL.nil ⟨rfl, _, rfl, rfl, hs.cutG 0 1⟩ }
 {
 intro ρ w Γx Λx hs hu hp
 refine WL.fieldAddr (m := 2) (hu 3 rfl) Y6Z rfl ?_
 exact WL.nil ⟨rfl, _, rfl, rfl, hs.cutG 0 0⟩ }
 {
 intro ρ w Γx Λx hs hu hp
 have e34 : ρ 17 = .pointer (some ⟨g11, 2, none⟩) := (hp 12 rfl).1
 refine WL.loadF (z := x5.S) Y3G hs (Λx.length + 0) (Y0q rfl) (Γx.length + 1) (Y0q rfl) rfl TI9 (.inr rfl) e34 rfl (fun v20 hs => ?_)
 obtain rfl := hs.str 0 rfl
 exact WL.nil ⟨rfl, _, rfl, rfl, hs.cutG 0 1⟩ }
 {
 intro ρ w Γx Λx hs hu hp
 have e35 : ρ 16 = bstr x1.S := (hp 11 rfl).1
 have e36 : ρ 18 = bstr x5.S := (hp 13 rfl).1
 refine WL.call (vs := [bstr x1.S, bstr x5.S]) hs FN66 ⟨e35, ⟨e36, trivial⟩⟩ (fun ok hA => Y17.calls (x1 := x1.S) (x2 := x5.S) hxx21) ?_
 rintro _ w hs
 exact WL.nil ⟨rfl, _, rfl, rfl, hs.cutG 0 0⟩ }
 {
 intro ρ w Γx Λx hs hu hp
 have e37 : ρ 9 = .int .i64 x15 := (hp 4 rfl).1
 have e38 : ρ 14 = .int .i64 x18 := (hp 9 rfl).1
 have e39 : ρ 19 = .int .i64 x21 := (hp 14 rfl).1
 refine WL.buildSliceB (ys := [x15, x18, x21]) (n := 3) (vs := [(0, .int .i64 x15), (1, .int .i64 x18), (2, .int .i64 x21)]) (cs := [.int .i64 x15, .int .i64 x18, .int .i64 x21]) hs ⟨⟨rfl, e37⟩, ⟨⟨rfl, e38⟩, ⟨⟨rfl, e39⟩, trivial⟩⟩⟩ (bls PS22 (by decide) rfl) (fun ok hA => (Y0U.app (Y0U.one (T := tInt .i64) rfl) (Y0U.app (Y0U.one (T := tInt .i64) rfl) (Y0U.one (T := tInt .i64) rfl)))) rfl (by decide) (fun a23 w hBl hs => ?_)
 have hs := hs.add (it := vl (Y0b (tInt .i64)) [x15, x18, x21] (.slice a23 ([x15, x18, x21]).length 3)) fun ok hA => hA.get 0 rfl
 exact WL.nil ⟨rfl, _, rfl, ⟨(a23, 3), rfl⟩, hs.cutG 1 1⟩ }
 {
 intro ρ w Γx Λx hs hu hp
 obtain ⟨⟨⟨a40, c41⟩, e42r⟩, hm43⟩ := hp 15 rfl
 have e42 : ρ 20 = .slice a40 ([x15, x18, x21]).length c41 := e42r
 rw [e42r] at hm43
 have hs := hs.memo1 (it := vl (Y0b (tInt .i64)) [x15, x18, x21] (.slice a40 ([x15, x18, x21]).length c41)) (List.mem_append.2 (.inl (hm43 _ (List.mem_of_getElem? (i := 0) rfl))))
 refine WL.call (vs := [.slice a40 ([x15, x18, x21]).length c41]) hs FN63 ⟨e42, trivial⟩ (fun ok hA => Y0S.calls (x1 := [x15, x18, x21]) hxx24 (hA.get 0 rfl)) ?_
 rintro _ w hs
 exact WL.nil ⟨rfl, _, rfl, rfl, hs.cutG 0 1⟩ }
 {
 intro ρ w hs hu44 hp
 obtain ⟨⟨⟨⟨⟨⟨⟨⟨⟨⟨⟨⟨⟨⟨⟨⟨⟨_, hp0_⟩, hp1_⟩, hp2_⟩, hp3_⟩, hp4_⟩, hp5_⟩, hp6_⟩, hp7_⟩, hp8_⟩, hp9_⟩, hp10_⟩, hp11_⟩, hp12_⟩, hp13_⟩, hp14_⟩, hp15_⟩, hp16_⟩ := hp
 have hs : St ok (bz w0) w [vl (Y0b (tInt .i64)) [x15, x18, x21] (ρ 20), vl Y09 x1 (.agg cs3.toArray), vl Y09 x5 (.agg cs7.toArray)] [blk g11 47 cs7, blk g10 47 cs3] := hs
 have e45 : ρ 21 = .int .i64 x24 := hp16_
 obtain ⟨⟨a46, c47⟩, e48⟩ := hp15_
 have e48 : ρ 20 = .slice a46 ([x15, x18, x21]).length c47 := e48
 try rw [e48] at hs
 have e49 : ρ 19 = .int .i64 x21 := hp14_
 have e50 : ρ 18 = bstr x5.S := hp13_
 have e51 : ρ 17 = .pointer (some ⟨g11, 2, none⟩) := hp12_
 have e52 : ρ 16 = bstr x1.S := hp11_
 have e53 : ρ 15 = .pointer (some ⟨g10, 2, none⟩) := hp10_
 have e54 : ρ 14 = .int .i64 x18 := hp9_
 have e55 : ρ 13 = .int .i64 x5.N := hp8_
 have e56 : ρ 12 = .pointer (some ⟨g11, 1, none⟩) := hp7_
 have e57 : ρ 11 = .int .i64 x1.N := hp6_
 have e58 : ρ 10 = .pointer (some ⟨g10, 1, none⟩) := hp5_
 have e59 : ρ 9 = .int .i64 x15 := hp4_
 have e60 : ρ 8 = .int .i64 x5.f_Type := hp3_
 have e61 : ρ 7 = .pointer (some ⟨g11, 0, none⟩) := hp2_
 have e62 : ρ 6 = .int .i64 x1.f_Type := hp1_
 have e63 : ρ 5 = .pointer (some ⟨g10, 0, none⟩) := hp0_
 refine WA.step [17] (by kernel_rfl) (by simp) ⟨?_, trivial⟩
 refine WL.assign (v := .int .i64 x24) e45 ?_
 refine WL.nil ⟨rfl, _, rfl, ?_⟩
 refine WA.done (by kernel_rfl) ?_
 refine hK12 _ _ ?_
 refine W.ret ?_
 have hr := Option.some.inj hf; subst hr
 exact ⟨_, Y0e rfl rfl, (), rfl, (hs.mask []).pick []⟩ }
theorem Y0n.calls {ok : Nat → Prop} {w0 : World} {F : Base} {x1 : List Y04} {a2 : Option Addr} {n3 c4 : Nat} {r : List Y04} (hf : Y0n x1 = some r) (hs : St ok F w0 [] [own Y09 47 (.slice a2 n3 c4) x1]) :
  Calls Tryz.prog 39 #[.slice a2 n3 c4] w0 fun e w' => ∃ v, e = .returned v ∧ ∃ y : (Option Addr × Nat × Nat), v = .slice y.1 y.2.1 y.2.2 ∧ St ok F w' [] [own Y09 47 (.slice y.1 y.2.1 y.2.2) r] := by
 unfold Y0n at hf
 refine Y0t (fn := Tryz.f39) (N := 61) Tryz.func39 rfl Tryz.ntmps39 rfl ?_
 refine W.seqK fun K5 hK5 => ?_
 refine W.region ?_
 refine WL.assign (v := .slice none 0 0) rfl ?_
 refine WL.nil ?_
 refine hK5 _ _ ?_
 refine W.seqK fun K6 hK6 => ?_
 refine W.seqK fun K7 hK7 => ?_
 refine W.region ?_
 refine WL.move (v := .slice a2 n3 c4) rfl ?_
 refine WL.len (v := .slice a2 n3 c4) rfl (Y2M hs 0 rfl UN37) ?_
 refine WL.bin (v := .bool (decide ((x1.length : Int) < 2))) rfl rfl (Y1n _ _ _) ?_
 refine WL.nil ?_
 refine hK7 _ _ ?_
 rcases iteE hf with ⟨hc8, hf⟩ | ⟨hc8, hf⟩
 {
 refine W.cond_true (Y02 rfl hc8) ?_
 refine W.seqK fun K9 hK9 => ?_
 refine W.region ?_
 refine WL.move (v := .slice a2 n3 c4) rfl ?_
 refine WL.assign (v := .slice a2 n3 c4) rfl ?_
 refine WL.nil ?_
 refine hK9 _ _ ?_
 refine W.ret ?_
 have hr := Option.some.inj hf; subst hr
 exact ⟨_, Y0e rfl rfl, (a2, n3, c4), rfl, (hs.mask [true]).pick []⟩ }
 {
 refine W.cond_false (Y02 rfl hc8) ?_
 refine W.skip ?_
 refine hK6 _ _ ?_
 refine W.seqK fun K10 hK10 => ?_
 have Jk13 : ∀ (x11 : List Y04) (ρ : Env) (w : World), ρ 0 = .slice a2 n3 c4 → St ok F w [] [own Y09 47 (.slice a2 n3 c4) x11] → Y0n.j1 x11 = some r → K10 ρ w := by
  intro x11 ρ w h12_0 hs hf
  refine hK10 _ _ ?_
  unfold Y0n.j1 at hf
  refine W.seqK fun K14 hK14 => ?_
  refine W.region ?_
  refine WL.move (v := .slice a2 n3 c4) h12_0 ?_
  refine WL.assign (v := .slice a2 n3 c4) rfl ?_
  refine WL.nil ?_
  refine hK14 _ _ ?_
  refine W.ret ?_
  have hr := Option.some.inj hf; subst hr
  exact ⟨_, Y0e rfl rfl, (a2, n3, c4), rfl, (hs.mask [true]).pick []⟩
 refine W.seqK fun K15 hK15 => ?_
 refine W.region ?_
 refine WL.assign (v := .int .i64 1) rfl ?_
 refine WL.nil ?_
 refine hK15 _ _ ?_
 refine W.block ?_
 obtain ⟨bs19, hbs19, hfs19⟩ := Y0s hf
 refine W.loop hbs19 (fun s ρ w => match s with | (x16, x18) => ρ 0 = .slice a2 n3 c4 ∧ ρ 3 = .int .i64 x18 ∧ St ok F w [] [own Y09 47 (.slice a2 n3 c4) x16]) ⟨rfl, rfl, (hs.mask [true]).pick []⟩ ?_
 intro s ρ w os19 hI hf hbbs19
 obtain ⟨x16, x18⟩ := s
 obtain ⟨h17_0, h17_3, hs⟩ := hI
 unfold Y0n.l2 at hf
 refine W.seqK fun K20 hK20 => ?_
 refine W.seqK fun K21 hK21 => ?_
 refine W.region ?_
 refine WL.move (v := .int .i64 x18) h17_3 ?_
 refine WL.move (v := .slice a2 n3 c4) h17_0 ?_
 refine WL.len (v := .slice a2 n3 c4) rfl (Y2M hs 0 rfl UN37) ?_
 refine WL.bin (v := .bool (decide (x18 < (x16.length : Int)))) rfl rfl (Y1n _ _ _) ?_
 refine WL.nil ?_
 refine hK21 _ _ ?_
 rcases iteE hf with ⟨hc22, hf⟩ | ⟨hc22, hf⟩
 {
 refine W.cond_true (Y02 rfl hc22) ?_
 refine W.skip ?_
 refine hK20 _ _ ?_
 refine W.seqK fun K23 hK23 => ?_
 have Jk27 : ∀ (x24 : List Y04) (x26 : Int) (ρ : Env) (w : World), ρ 0 = .slice a2 n3 c4 → ρ 3 = .int .i64 x26 → St ok F w [] [own Y09 47 (.slice a2 n3 c4) x24] → Y0n.j2 x24 x26 = some os19 → K23 ρ w := by
  intro x24 x26 ρ w h25_0 h25_3 hs hf
  refine hK23 _ _ ?_
  unfold Y0n.j2 at hf
  refine W.region ?_
  refine WL.move (v := .int .i64 x26) h25_3 ?_
  obtain ⟨x28, ex28, hf⟩ := letE hf
  refine WL.bin (v := .int .i64 x28) rfl rfl (Y1V ex28 (Y1t _ _ _)) ?_
  refine WL.assign (v := .int .i64 x28) rfl ?_
  refine WL.nil ?_
  exact ⟨_, (Option.some.inj hf).symm, h25_0, rfl, (hs.mask [true]).pick []⟩
 refine W.block ?_
 refine W.seqK fun K29 hK29 => ?_
 obtain ⟨x30, hxx30, hf⟩ := Y0s hf
 obtain ⟨x35, ex35, hf⟩ := letE hf
 obtain ⟨x36, hxx36, hf⟩ := Y0s hf
 refine W.any (by kernel_rfl) 10 0 [true, true, true, true, true, true, true, true, true, true] rfl rfl (poAt [pv (.slice a2 n3 c4), pv (.int .i64 x18), po (fun ad => Go.Proofs.YtpfgdjfiimknlaaGreatL.OwnAt 3 (.slice a2 n3 c4) x18 ad), pq (fun y : List Value => .agg y.toArray) (fun v => [vl Y09 x30 v]) (fun v => []), pv (.slice a2 n3 c4), pv (.int .i64 x18), pv (.int .i64 x35), po (fun ad => Go.Proofs.YtpfgdjfiimknlaaGreatL.OwnAt 3 (.slice a2 n3 c4) x35 ad), pq (fun y : List Value => .agg y.toArray) (fun v => [vl Y09 x36 v]) (fun v => []), pv (.bool (decide ((⟨x30.f_Type, x30.N, x30.S⟩ : Y04) = (⟨x36.f_Type, x36.N, x36.S⟩ : Y04))))]) (Λ := [own Y09 47 (.slice a2 n3 c4) x16]) hs (by kernel_rfl) (by kernel_rfl) (by kernel_rfl) ⟨⟨⟨⟨⟨⟨⟨⟨⟨⟨trivial, ?_⟩, ?_⟩, ?_⟩, ?_⟩, ?_⟩, ?_⟩, ?_⟩, ?_⟩, ?_⟩, ?_⟩ ?_
 {
 intro ρ w Γx Λx hs hu hp
 refine WL.move (v := .slice a2 n3 c4) ((hu 0 rfl).trans h17_0) ?_
 exact WL.nil ⟨rfl, _, rfl, rfl, hs.cutG 0 0⟩ }
 {
 intro ρ w Γx Λx hs hu hp
 refine WL.move (v := .int .i64 x18) ((hu 3 rfl).trans h17_3) ?_
 exact WL.nil ⟨rfl, _, rfl, rfl, hs.cutG 0 0⟩ }
 {
 intro ρ w Γx Λx hs hu hp
 have e41 : ρ 16 = .slice a2 n3 c4 := (hp 0 rfl).1
 have e42 : ρ 17 = .int .i64 x18 := (hp 1 rfl).1
 refine WL.indexAddrO hs (Λx.length + 0) (Y0q rfl) UN37 TI47 e41 e42 hxx30 (fun ad31 hatad31 => ?_)
 exact WL.nil ⟨rfl, _, rfl, ⟨ad31, rfl, hatad31⟩, hs.cutG 0 0⟩ }
 {
 intro ρ w Γx Λx hs hu hp
 obtain ⟨ad44, e43, hatad44⟩ := (hp 2 rfl).1
 have e43 : ρ 18 = .pointer (some ad44) := e43
 refine WL.loadO hs (Λx.length + 0) (Y0q rfl) TI47 (.inl rfl) hatad44 hxx30 e43 (fun v32 hs => ?_)
 obtain ⟨cs33, hl34, rfl⟩ := hs.aggv (n := 3) 0 rfl rfl rfl
 have hs := hs.add (it := vl Y09 x30 (.agg cs33.toArray)) fun ok hA => hA.get 0 rfl
 exact WL.nil ⟨rfl, _, rfl, ⟨cs33, rfl⟩, hs.cutG 1 1⟩ }
 {
 intro ρ w Γx Λx hs hu hp
 refine WL.move (v := .slice a2 n3 c4) ((hu 0 rfl).trans h17_0) ?_
 exact WL.nil ⟨rfl, _, rfl, rfl, hs.cutG 0 0⟩ }
 {
 intro ρ w Γx Λx hs hu hp
 refine WL.move (v := .int .i64 x18) ((hu 3 rfl).trans h17_3) ?_
 exact WL.nil ⟨rfl, _, rfl, rfl, hs.cutG 0 0⟩ }
 {
 intro ρ w Γx Λx hs hu hp
 have e45 : ρ 21 = .int .i64 x18 := (hp 5 rfl).1
 refine WL.bin (v := .int .i64 x35) e45 rfl (Y1V ex35 (Y6D _ _ _)) ?_
 exact WL.nil ⟨rfl, _, rfl, rfl, hs.cutG 0 0⟩ }
 {
 intro ρ w Γx Λx hs hu hp
 have e46 : ρ 20 = .slice a2 n3 c4 := (hp 4 rfl).1
 have e47 : ρ 22 = .int .i64 x35 := (hp 6 rfl).1
 refine WL.indexAddrO hs (Λx.length + 0) (Y0q rfl) UN37 TI47 e46 e47 hxx36 (fun ad37 hatad37 => ?_)
 exact WL.nil ⟨rfl, _, rfl, ⟨ad37, rfl, hatad37⟩, hs.cutG 0 0⟩ }
 {
 intro ρ w Γx Λx hs hu hp
 obtain ⟨ad49, e48, hatad49⟩ := (hp 7 rfl).1
 have e48 : ρ 23 = .pointer (some ad49) := e48
 refine WL.loadO hs (Λx.length + 0) (Y0q rfl) TI47 (.inl rfl) hatad49 hxx36 e48 (fun v38 hs => ?_)
 obtain ⟨cs39, hl40, rfl⟩ := hs.aggv (n := 3) 0 rfl rfl rfl
 have hs := hs.add (it := vl Y09 x36 (.agg cs39.toArray)) fun ok hA => hA.get 0 rfl
 exact WL.nil ⟨rfl, _, rfl, ⟨cs39, rfl⟩, hs.cutG 1 1⟩ }
 {
 intro ρ w Γx Λx hs hu hp
 obtain ⟨⟨cs50, e52r⟩, hm53⟩ := hp 3 rfl
 have e52 : ρ 19 = .agg cs50.toArray := e52r
 rw [e52r] at hm53
 have hs := hs.memo1 (it := vl Y09 x30 (.agg cs50.toArray)) (List.mem_append.2 (.inl (hm53 _ (List.mem_of_getElem? (i := 0) rfl))))
 have hl51 := hs.agglen (n := 3) 0 rfl rfl rfl
 obtain ⟨⟨cs54, e56r⟩, hm57⟩ := hp 8 rfl
 have e56 : ρ 24 = .agg cs54.toArray := e56r
 rw [e56r] at hm57
 have hs := hs.memo1 (it := vl Y09 x36 (.agg cs54.toArray)) (List.mem_cons_of_mem _ (List.mem_append.2 (.inl (hm57 _ (List.mem_of_getElem? (i := 0) rfl)))))
 have hl55 := hs.agglen (n := 3) 0 rfl rfl rfl
 obtain rfl := Y20 hs 1 rfl
 obtain rfl := Y20 hs 0 rfl
 refine WL.eqA e52 e56 EG47 (EQ47 (⟨x30.f_Type, x30.N, x30.S⟩ : Y04) (⟨x36.f_Type, x36.N, x36.S⟩ : Y04)) ?_
 exact WL.nil ⟨rfl, _, rfl, rfl, hs.cutG 0 2⟩ }
 {
 intro ρ w hs hu58 hp
 obtain ⟨⟨⟨⟨⟨⟨⟨⟨⟨⟨_, hp0_⟩, hp1_⟩, hp2_⟩, hp3_⟩, hp4_⟩, hp5_⟩, hp6_⟩, hp7_⟩, hp8_⟩, hp9_⟩ := hp
 have hs : St ok F w [vl Y09 x36 (ρ 24), vl Y09 x30 (ρ 19)] [own Y09 47 (.slice a2 n3 c4) x16] := hs
 have e59 : ρ 25 = .bool (decide ((⟨x30.f_Type, x30.N, x30.S⟩ : Y04) = (⟨x36.f_Type, x36.N, x36.S⟩ : Y04))) := hp9_
 obtain ⟨cs60, e62⟩ := hp8_
 have e62 : ρ 24 = .agg cs60.toArray := e62
 try rw [e62] at hs
 have e63 : ρ 22 = .int .i64 x35 := hp6_
 have e64 : ρ 21 = .int .i64 x18 := hp5_
 have e65 : ρ 20 = .slice a2 n3 c4 := hp4_
 obtain ⟨cs66, e68⟩ := hp3_
 have e68 : ρ 19 = .agg cs66.toArray := e68
 try rw [e68] at hs
 have e69 : ρ 17 = .int .i64 x18 := hp1_
 have e70 : ρ 16 = .slice a2 n3 c4 := hp0_
 have hl67 := hs.agglen (n := 3) 1 rfl rfl rfl
 have hl61 := hs.agglen (n := 3) 0 rfl rfl rfl
 refine WA.done (by kernel_rfl) ?_
 refine hK29 _ _ ?_
 rcases iteE hf with ⟨hc71, hf⟩ | ⟨hc71, hf⟩
 {
 refine W.cond_true (Y02 e59 hc71) ?_
 refine W.seqK fun K72 hK72 => ?_
 refine W.region ?_
 refine WL.move (v := .slice a2 n3 c4) ((hu58 0 rfl).trans h17_0) ?_
 refine WL.move (v := .int .i64 x18) ((hu58 3 rfl).trans h17_3) ?_
 obtain ⟨hn73, hf⟩ := Y2O hf
 refine WL.view_l hs 0 rfl UN37 TI47 rfl rfl hn73 ?_
 refine WL.assign (v := cutv a2 ((x18).toNat) n3 c4 3) rfl ?_
 refine WL.nil ?_
 refine hK72 _ _ ?_
 refine W.seqK fun K74 hK74 => ?_
 have Jk78 : ∀ (x75 : List Y04) (x77 : Int) (ρ : Env) (w : World), ρ 0 = .slice a2 n3 c4 → ρ 3 = .int .i64 x77 → St ok F w [] [own Y09 47 (.slice a2 n3 c4) x75] → Y0n.j3 x75 x77 = some os19 → K74 ρ w := by
  intro x75 x77 ρ w h76_0 h76_3 hs hf
  refine hK74 _ _ ?_
  unfold Y0n.j3 at hf
  refine W.seqK fun K79 hK79 => ?_
  refine W.region ?_
  refine WL.move (v := .slice a2 n3 c4) h76_0 ?_
  refine WL.move (v := .int .i64 x77) h76_3 ?_
  obtain ⟨hn80, hf⟩ := Y2O hf
  refine WL.view_l hs 0 rfl UN37 TI47 rfl rfl hn80 ?_
  obtain ⟨x81, hxx81, hf⟩ := Y0s hf
  refine WL.clearO (l := x77) (z := (⟨0, 0, []⟩)) hs 0 rfl UN37 rfl ZR47 (fun ok => (show Y09.R ok _ (⟨0, 0, []⟩ : Y04) _ from ⟨[.int .i64 0], ([.int .i64 0, bstr []]), rfl, rfl, ⟨[.int .i64 0], ([bstr []]), rfl, rfl, rfl⟩⟩)) (by decide) hxx81 (fun w hs => ?_)
  refine WL.nil ?_
  refine hK79 _ _ ?_
  refine W.seqK fun K82 hK82 => ?_
  refine W.region ?_
  refine WL.move (v := .slice a2 n3 c4) h76_0 ?_
  refine WL.move (v := .int .i64 x77) h76_3 ?_
  obtain ⟨x83, hxx83, hf⟩ := Y0s hf
  refine WL.sliceO_h hs 0 rfl UN37 TI47 rfl rfl hxx83 (fun hs => ?_)
  refine WL.assign (v := .slice a2 x83.length c4) rfl ?_
  refine WL.nil ?_
  refine hK82 _ _ ?_
  refine W.ret ?_
  have hr := Option.some.inj hf; subst hr
  have hr := hbbs19 _ rfl; subst hr
  have hf := hfs19
  have hr := Option.some.inj hf; subst hr
  exact ⟨_, Y0e rfl rfl, (a2, x83.length, c4), rfl, (hs.mask [true]).pick []⟩
 refine W.seqK fun K84 hK84 => ?_
 refine W.region ?_
 refine WL.assign (v := .int .i64 1) rfl ?_
 refine WL.nil ?_
 refine hK84 _ _ ?_
 refine W.block ?_
 obtain ⟨bs89, hbs89, hfs89⟩ := Y0s hf
 refine W.loop hbs89 (fun s ρ w => match s with | (x85, x87, x88) => ρ 0 = .slice a2 n3 c4 ∧ ρ 3 = .int .i64 x87 ∧ ρ 4 = cutv a2 ((x18).toNat) n3 c4 3 ∧ ρ 5 = .int .i64 x88 ∧ St ok F w [] [own Y09 47 (.slice a2 n3 c4) x85]) ⟨((hu58 0 rfl).trans h17_0), ((hu58 3 rfl).trans h17_3), rfl, rfl, (hs.mask [true]).pick []⟩ ?_
 intro s ρ w os89 hI hf hbbs89
 obtain ⟨x85, x87, x88⟩ := s
 obtain ⟨h86_0, h86_3, h86_4, h86_5, hs⟩ := hI
 unfold Y0n.l1 at hf
 refine W.seqK fun K90 hK90 => ?_
 refine W.seqK fun K91 hK91 => ?_
 refine W.region ?_
 refine WL.move (v := .int .i64 x88) h86_5 ?_
 refine WL.move (v := cutv a2 ((x18).toNat) n3 c4 3) h86_4 ?_
 refine WL.len (v := cutv a2 ((x18).toNat) n3 c4 3) rfl (Y6y hs 0 rfl UN37) ?_
 refine WL.bin (v := .bool (decide (x88 < ((x85.length - (x18).toNat : Nat) : Int)))) rfl rfl (Y1n _ _ _) ?_
 refine WL.nil ?_
 refine hK91 _ _ ?_
 rcases iteE hf with ⟨hc92, hf⟩ | ⟨hc92, hf⟩
 {
 refine W.cond_true (Y02 rfl hc92) ?_
 refine W.skip ?_
 refine hK90 _ _ ?_
 refine W.seqK fun K93 hK93 => ?_
 have Jk97 : ∀ (x94 : List Y04) (x96 : Int) (ρ : Env) (w : World), ρ 0 = .slice a2 n3 c4 → ρ 3 = .int .i64 x96 → ρ 4 = cutv a2 ((x18).toNat) n3 c4 3 → ρ 5 = .int .i64 x88 → St ok F w [] [own Y09 47 (.slice a2 n3 c4) x94] → Y0n.j4 x88 x94 x96 = some os89 → K93 ρ w := by
  intro x94 x96 ρ w h95_0 h95_3 h95_4 h95_5 hs hf
  refine hK93 _ _ ?_
  unfold Y0n.j4 at hf
  refine W.region ?_
  refine WL.move (v := .int .i64 x88) h95_5 ?_
  obtain ⟨x98, ex98, hf⟩ := letE hf
  refine WL.bin (v := .int .i64 x98) rfl rfl (Y1V ex98 (Y1t _ _ _)) ?_
  refine WL.assign (v := .int .i64 x98) rfl ?_
  refine WL.nil ?_
  exact ⟨_, (Option.some.inj hf).symm, h95_0, h95_3, h95_4, rfl, (hs.mask [true]).pick []⟩
 refine W.block ?_
 refine W.seqK fun K99 hK99 => ?_
 obtain ⟨x100, hvx100, hf⟩ := Y0s hf; have hxx100 := Y3Z hvx100
 obtain ⟨x105, ex105, hf⟩ := letE hf
 obtain ⟨x106, hvx106, hf⟩ := Y0s hf; have hxx106 := Y3Z hvx106
 refine W.any (by kernel_rfl) 10 0 [true, true, true, true, true, true, true, true, true, true] rfl rfl (poAt [pv (cutv a2 ((x18).toNat) n3 c4 3), pv (.int .i64 x88), po (fun ad => Go.Proofs.YtpfgdjfiimknlaaGreatL.OwnAt 3 (.slice a2 n3 c4) ((((x18).toNat : Nat) : Int) + x88) ad), pq (fun y : List Value => .agg y.toArray) (fun v => [vl Y09 x100 v]) (fun v => []), pv (cutv a2 ((x18).toNat) n3 c4 3), pv (.int .i64 x88), pv (.int .i64 x105), po (fun ad => Go.Proofs.YtpfgdjfiimknlaaGreatL.OwnAt 3 (.slice a2 n3 c4) ((((x18).toNat : Nat) : Int) + x105) ad), pq (fun y : List Value => .agg y.toArray) (fun v => [vl Y09 x106 v]) (fun v => []), pv (.bool (!decide ((⟨x100.f_Type, x100.N, x100.S⟩ : Y04) = (⟨x106.f_Type, x106.N, x106.S⟩ : Y04))))]) (Λ := [own Y09 47 (.slice a2 n3 c4) x85]) hs (by kernel_rfl) (by kernel_rfl) (by kernel_rfl) ⟨⟨⟨⟨⟨⟨⟨⟨⟨⟨trivial, ?_⟩, ?_⟩, ?_⟩, ?_⟩, ?_⟩, ?_⟩, ?_⟩, ?_⟩, ?_⟩, ?_⟩ ?_
 {
 intro ρ w Γx Λx hs hu hp
 refine WL.move (v := cutv a2 ((x18).toNat) n3 c4 3) ((hu 4 rfl).trans h86_4) ?_
 exact WL.nil ⟨rfl, _, rfl, rfl, hs.cutG 0 0⟩ }
 {
 intro ρ w Γx Λx hs hu hp
 refine WL.move (v := .int .i64 x88) ((hu 5 rfl).trans h86_5) ?_
 exact WL.nil ⟨rfl, _, rfl, rfl, hs.cutG 0 0⟩ }
 {
 intro ρ w Γx Λx hs hu hp
 have e111 : ρ 35 = cutv a2 ((x18).toNat) n3 c4 3 := (hp 0 rfl).1
 have e112 : ρ 36 = .int .i64 x88 := (hp 1 rfl).1
 refine WL.indexAddrV (l := (x18).toNat) hs (Λx.length + 0) (Y0q rfl) UN37 TI47 e111 e112 hvx100 (fun ad101 hatad101 => ?_)
 exact WL.nil ⟨rfl, _, rfl, ⟨ad101, rfl, hatad101⟩, hs.cutG 0 0⟩ }
 {
 intro ρ w Γx Λx hs hu hp
 obtain ⟨ad114, e113, hatad114⟩ := (hp 2 rfl).1
 have e113 : ρ 37 = .pointer (some ad114) := e113
 refine WL.loadO hs (Λx.length + 0) (Y0q rfl) TI47 (.inl rfl) hatad114 hxx100 e113 (fun v102 hs => ?_)
 obtain ⟨cs103, hl104, rfl⟩ := hs.aggv (n := 3) 0 rfl rfl rfl
 have hs := hs.add (it := vl Y09 x100 (.agg cs103.toArray)) fun ok hA => hA.get 0 rfl
 exact WL.nil ⟨rfl, _, rfl, ⟨cs103, rfl⟩, hs.cutG 1 1⟩ }
 {
 intro ρ w Γx Λx hs hu hp
 refine WL.move (v := cutv a2 ((x18).toNat) n3 c4 3) ((hu 4 rfl).trans h86_4) ?_
 exact WL.nil ⟨rfl, _, rfl, rfl, hs.cutG 0 0⟩ }
 {
 intro ρ w Γx Λx hs hu hp
 refine WL.move (v := .int .i64 x88) ((hu 5 rfl).trans h86_5) ?_
 exact WL.nil ⟨rfl, _, rfl, rfl, hs.cutG 0 0⟩ }
 {
 intro ρ w Γx Λx hs hu hp
 have e115 : ρ 40 = .int .i64 x88 := (hp 5 rfl).1
 refine WL.bin (v := .int .i64 x105) e115 rfl (Y1V ex105 (Y6D _ _ _)) ?_
 exact WL.nil ⟨rfl, _, rfl, rfl, hs.cutG 0 0⟩ }
 {
 intro ρ w Γx Λx hs hu hp
 have e116 : ρ 39 = cutv a2 ((x18).toNat) n3 c4 3 := (hp 4 rfl).1
 have e117 : ρ 41 = .int .i64 x105 := (hp 6 rfl).1
 refine WL.indexAddrV (l := (x18).toNat) hs (Λx.length + 0) (Y0q rfl) UN37 TI47 e116 e117 hvx106 (fun ad107 hatad107 => ?_)
 exact WL.nil ⟨rfl, _, rfl, ⟨ad107, rfl, hatad107⟩, hs.cutG 0 0⟩ }
 {
 intro ρ w Γx Λx hs hu hp
 obtain ⟨ad119, e118, hatad119⟩ := (hp 7 rfl).1
 have e118 : ρ 42 = .pointer (some ad119) := e118
 refine WL.loadO hs (Λx.length + 0) (Y0q rfl) TI47 (.inl rfl) hatad119 hxx106 e118 (fun v108 hs => ?_)
 obtain ⟨cs109, hl110, rfl⟩ := hs.aggv (n := 3) 0 rfl rfl rfl
 have hs := hs.add (it := vl Y09 x106 (.agg cs109.toArray)) fun ok hA => hA.get 0 rfl
 exact WL.nil ⟨rfl, _, rfl, ⟨cs109, rfl⟩, hs.cutG 1 1⟩ }
 {
 intro ρ w Γx Λx hs hu hp
 obtain ⟨⟨cs120, e122r⟩, hm123⟩ := hp 3 rfl
 have e122 : ρ 38 = .agg cs120.toArray := e122r
 rw [e122r] at hm123
 have hs := hs.memo1 (it := vl Y09 x100 (.agg cs120.toArray)) (List.mem_append.2 (.inl (hm123 _ (List.mem_of_getElem? (i := 0) rfl))))
 have hl121 := hs.agglen (n := 3) 0 rfl rfl rfl
 obtain ⟨⟨cs124, e126r⟩, hm127⟩ := hp 8 rfl
 have e126 : ρ 43 = .agg cs124.toArray := e126r
 rw [e126r] at hm127
 have hs := hs.memo1 (it := vl Y09 x106 (.agg cs124.toArray)) (List.mem_cons_of_mem _ (List.mem_append.2 (.inl (hm127 _ (List.mem_of_getElem? (i := 0) rfl)))))
 have hl125 := hs.agglen (n := 3) 0 rfl rfl rfl
 obtain rfl := Y20 hs 1 rfl
 obtain rfl := Y20 hs 0 rfl
 refine WL.eqA e122 e126 EG47 (NQ47 (⟨x100.f_Type, x100.N, x100.S⟩ : Y04) (⟨x106.f_Type, x106.N, x106.S⟩ : Y04)) ?_
 exact WL.nil ⟨rfl, _, rfl, rfl, hs.cutG 0 2⟩ }
 {
 intro ρ w hs hu128 hp
 obtain ⟨⟨⟨⟨⟨⟨⟨⟨⟨⟨_, hp0_⟩, hp1_⟩, hp2_⟩, hp3_⟩, hp4_⟩, hp5_⟩, hp6_⟩, hp7_⟩, hp8_⟩, hp9_⟩ := hp
 have hs : St ok F w [vl Y09 x106 (ρ 43), vl Y09 x100 (ρ 38)] [own Y09 47 (.slice a2 n3 c4) x85] := hs
 have e129 : ρ 44 = .bool (!decide ((⟨x100.f_Type, x100.N, x100.S⟩ : Y04) = (⟨x106.f_Type, x106.N, x106.S⟩ : Y04))) := hp9_
 obtain ⟨cs130, e132⟩ := hp8_
 have e132 : ρ 43 = .agg cs130.toArray := e132
 try rw [e132] at hs
 have e133 : ρ 41 = .int .i64 x105 := hp6_
 have e134 : ρ 40 = .int .i64 x88 := hp5_
 have e135 : ρ 39 = cutv a2 ((x18).toNat) n3 c4 3 := hp4_
 obtain ⟨cs136, e138⟩ := hp3_
 have e138 : ρ 38 = .agg cs136.toArray := e138
 try rw [e138] at hs
 have e139 : ρ 36 = .int .i64 x88 := hp1_
 have e140 : ρ 35 = cutv a2 ((x18).toNat) n3 c4 3 := hp0_
 have hl137 := hs.agglen (n := 3) 1 rfl rfl rfl
 have hl131 := hs.agglen (n := 3) 0 rfl rfl rfl
 refine WA.done (by kernel_rfl) ?_
 refine hK99 _ _ ?_
 rcases iteE hf with ⟨hc141, hf⟩ | ⟨hc141, hf⟩
 {
 refine W.cond_true (Y02 e129 hc141) ?_
 refine W.seqK fun K142 hK142 => ?_
 refine W.region ?_
 refine WL.move (v := .slice a2 n3 c4) ((hu128 0 rfl).trans h86_0) ?_
 refine WL.move (v := .int .i64 x87) ((hu128 3 rfl).trans h86_3) ?_
 refine WL.move (v := cutv a2 ((x18).toNat) n3 c4 3) ((hu128 4 rfl).trans h86_4) ?_
 refine WL.move (v := .int .i64 x88) ((hu128 5 rfl).trans h86_5) ?_
 obtain ⟨x143, hvx143, hf⟩ := Y0s hf; have hxx143 := Y3Z hvx143
 refine WL.indexAddrV (l := (x18).toNat) hs 0 rfl UN37 TI47 rfl rfl hvx143 (fun ad144 hatad144 => ?_)
 refine WL.loadO hs 0 rfl TI47 (.inl rfl) hatad144 hxx143 rfl (fun v145 hs => ?_)
 obtain ⟨cs146, hl147, rfl⟩ := hs.aggv (n := 3) 0 rfl rfl rfl
 obtain ⟨x148, hxx148, hf⟩ := Y0s hf
 refine WL.indexAddrO hs 0 rfl UN37 TI47 rfl rfl hxx148 (fun ad149 hatad149 => ?_)
 obtain ⟨x150, exx150, hf⟩ := letE hf
 refine WL.storeO (y := x143) (vs := cs146) (zs := x150) hs 0 rfl TI47 hatad149 hxx148 rfl rfl rfl (fun ok hA => (Y3F (hA.get 0 rfl) rfl)) exx150 (fun w hs => ?_)
 refine WL.nil ?_
 refine hK142 _ _ ?_
 refine W.region ?_
 refine WL.move (v := .int .i64 x87) ((hu128 3 rfl).trans h86_3) ?_
 obtain ⟨x151, ex151, hf⟩ := letE hf
 refine WL.bin (v := .int .i64 x151) rfl rfl (Y1V ex151 (Y1t _ _ _)) ?_
 refine WL.assign (v := .int .i64 x151) rfl ?_
 refine WL.nil ?_
 exact Jk97 x150 x151 _ _ ((hu128 0 rfl).trans h86_0) rfl ((hu128 4 rfl).trans h86_4) ((hu128 5 rfl).trans h86_5) ((hs.mask [true]).pick []) hf }
 {
 refine W.cond_false (Y02 e129 hc141) ?_
 refine W.skip ?_
 exact Jk97 x85 x87 _ _ ((hu128 0 rfl).trans h86_0) ((hu128 3 rfl).trans h86_3) ((hu128 4 rfl).trans h86_4) ((hu128 5 rfl).trans h86_5) ((hs.mask [true]).pick []) hf } } }
 {
 refine W.cond_false (Y02 rfl hc92) ?_
 refine W.exit ?_
 have hr := Option.some.inj hf; subst hr
 have hr := hbbs89 _ rfl; subst hr
 have hf := hfs89
 exact Jk78 x85 x87 _ _ h86_0 h86_3 ((hs.mask [true]).pick []) hf } }
 {
 refine W.cond_false (Y02 e59 hc71) ?_
 refine W.skip ?_
 exact Jk27 x16 x18 _ _ ((hu58 0 rfl).trans h17_0) ((hu58 3 rfl).trans h17_3) ((hs.mask [true]).pick []) hf } } }
 {
 refine W.cond_false (Y02 rfl hc22) ?_
 refine W.exit ?_
 have hr := Option.some.inj hf; subst hr
 have hr := hbbs19 _ rfl; subst hr
 have hf := hfs19
 exact Jk13 x16 _ _ h17_0 ((hs.mask [true]).pick []) hf } }
theorem Y0H.calls {ok : Nat → Prop} {w0 : World} {x1 : Y0c} {x5 : Y0f} {v2 : Value} {v6 : Value} {r : List Y04} (hf : Y0H x1 x5 = some r) (i0 : (vl Y08 x1 v2).holds ok w0) (i1 : (vl Y0g x5 v6).holds ok w0) :
  Calls Tryz.prog 13 #[v2, v6] w0 fun e w' => ∃ v, e = .returned v ∧ ∃ y : (Option Addr × Nat × Nat), v = .slice y.1 y.2.1 y.2.2 ∧ St ok (bz w0) w' [] [own Y09 47 (.slice y.1 y.2.1 y.2.2) r] := by
 unfold Y0H at hf
 refine Y0t (fn := Tryz.f13) (N := 80) Tryz.func13 rfl Tryz.ntmps13 rfl ?_
 have hs : St ok (bz w0) w0 [vl Y08 x1 v2, vl Y0g x5 v6] [] := St.init (All.cons i0 (All.cons i1 All.nil))
 clear i0 i1
 obtain ⟨cs3, hl4, rfl⟩ := hs.aggv (n := 4) 0 rfl rfl rfl
 obtain ⟨cs7, hl8, rfl⟩ := hs.aggv (n := 2) 1 rfl rfl rfl
 refine W.seqK fun K9 hK9 => ?_
 refine W.region ?_
 refine WL.box (vs := cs3) hs rfl rfl (fun g10 w hs => ?_)
 refine WL.box (vs := cs7) hs rfl rfl (fun g11 w hs => ?_)
 refine WL.assign (v := .slice none 0 0) rfl ?_
 refine WL.nil ?_
 refine hK9 _ _ ?_
 refine W.seqK fun K12 hK12 => ?_
 refine W.region ?_
 refine WL.loadAll hs 0 rfl TI41 rfl hl8 ?_
 refine WL.fieldAddr (m := 0) rfl Y3K rfl ?_
 refine WL.loadF (z := x1.Name) Y1m hs 1 rfl 0 rfl rfl TI9 (.inr rfl) rfl rfl (fun v13 hs => ?_)
 obtain rfl := hs.str 0 rfl
 obtain ⟨x14, hxx14, hf⟩ := Y0s hf
 refine WL.call (vs := [.agg cs7.toArray, bstr x1.Name]) hs FN36 ⟨rfl, ⟨rfl, trivial⟩⟩ (fun ok hA => Y1a.calls (x1 := x5) (x5 := x1.Name) hxx14 (hA.get 2 rfl)) ?_
 rintro ⟨a15, n16, c17⟩ w hs
 refine WL.alloc hs ZV86 (fun g18 w hs => ?_)
 refine WL.storeAll (vs := [bstr x14.Name, .bool x14.Register.Set, .int .i64 x14.Register.Tag, .int .i64 x14.Register.Client, .int .i64 x14.Register.Seq, .int .i64 x14.Register.N, bstr x14.Register.S, .bool x14.HasMax, .int .i64 x14.Max, .int .i64 x14.Sum, .slice a15 n16 c17, .bool x14.Flag]) hs 0 rfl TI86 rfl rfl rfl rfl (Y0P rfl) rfl (fun w hs => ?_)
 refine WL.nil ?_
 refine hK12 _ _ ?_
 refine W.seqK fun K19 hK19 => ?_
 refine W.region ?_
 refine WL.assign (v := .slice none 0 0) rfl ?_
 refine WL.nil ?_
 refine hK19 _ _ ?_
 refine W.seqK fun K20 hK20 => ?_
 have hs := hs.ownNil Y09 47
 have Jk26 : ∀ (x22 : List Y04) (a23 : Option Addr) (c24 : Nat) (n25 : Nat) (ρ : Env) (w : World), ρ 6 = .slice a23 n25 c24 → St ok (bz w0) w [] [own Y09 47 (.slice a23 n25 c24) x22] → Y0H.j1 x22 = some r → K20 ρ w := by
  intro x22 a23 c24 n25 ρ w h21_6 hs hf
  refine hK20 _ _ ?_
  unfold Y0H.j1 at hf
  refine W.seqK fun K27 hK27 => ?_
  refine W.region ?_
  refine WL.move (v := .slice a23 n25 c24) h21_6 ?_
  obtain ⟨x28, hxx28, hf⟩ := Y0s hf
  have hs := hs.front 0 rfl
  refine WL.callO (vs := [.slice a23 n25 c24, .func (.func 38) #[] #[]]) [own Y09 47 (.slice a23 n25 c24) x22] (Λb := []) hs FN37 ⟨rfl, ⟨rfl, trivial⟩⟩ (fun ok F hs => Y1N.calls (a0 := a23) (n0 := n25) (c0 := c24) (x1 := x22) hxx28 (hs.pick [])) ?_
  rintro _ w hs
  refine WL.nil ?_
  refine hK27 _ _ ?_
  refine W.seqK fun K29 hK29 => ?_
  refine W.region ?_
  refine WL.move (v := .slice a23 n25 c24) h21_6 ?_
  obtain ⟨x30, hxx30, hf⟩ := Y0s hf
  have hs := hs.front 0 rfl
  refine WL.callO (vs := [.slice a23 n25 c24]) [own Y09 47 (.slice a23 n25 c24) x28] (Λb := []) hs FN39 ⟨rfl, trivial⟩ (fun ok F hs => Y0n.calls (a2 := a23) (n3 := n25) (c4 := c24) (x1 := x28) hxx30 (hs.pick [])) ?_
  rintro ⟨a31, n32, c33⟩ w hs
  refine WL.assign (v := .slice a31 n32 c33) rfl ?_
  refine WL.nil ?_
  refine hK29 _ _ ?_
  refine W.ret ?_
  have hr := Option.some.inj hf; subst hr
  exact ⟨_, Y0e rfl rfl, (a31, n32, c33), rfl, (hs.mask [true]).pick []⟩
 refine W.block ?_
 refine W.seqK fun K34 hK34 => ?_
 have Jk37 : ∀ (x36 : Bool) (ρ : Env) (w : World), ρ 2 = .pointer (some ⟨g10, 0, none⟩) → ρ 5 = .pointer (some ⟨g18, 0, none⟩) → ρ 6 = .slice none 0 0 → ρ 13 = .bool x36 → St ok (bz w0) w [vl Y08 x1 (.agg cs3.toArray)] [own Y09 47 (.slice none 0 0) [], blk g18 86 [bstr x14.Name, .bool x14.Register.Set, .int .i64 x14.Register.Tag, .int .i64 x14.Register.Client, .int .i64 x14.Register.Seq, .int .i64 x14.Register.N, bstr x14.Register.S, .bool x14.HasMax, .int .i64 x14.Max, .int .i64 x14.Sum, .slice a15 n16 c17, .bool x14.Flag], own tStr 9 (.slice a15 n16 c17) x14.Elems, blk g10 31 cs3] → Y0H.j3 x1 x14 x36 = some r → K34 ρ w := by
  intro x36 ρ w h35_2 h35_5 h35_6 h35_13 hs hf
  refine hK34 _ _ ?_
  unfold Y0H.j3 at hf
  rcases iteE hf with ⟨hc38, hf⟩ | ⟨hc38, hf⟩
  {
  refine W.cond_true (Y02 h35_13 hc38) ?_
  refine W.region ?_
  refine WL.move (v := .slice none 0 0) h35_6 ?_
  refine WL.fieldAddr (m := 2) h35_2 Y3s rfl ?_
  refine WL.loadF (z := x1.f_Type) Y11 hs 3 rfl 0 rfl rfl TI3 (.inr rfl) rfl rfl (fun v39 hs => ?_)
  obtain rfl := hs.int 0 rfl
  refine WL.fieldAddr (m := 1) h35_5 Y4c rfl ?_
  refine WL.fieldAddr (m := 5) rfl FA84_4 rfl ?_
  refine WL.load1 (v := .int .i64 x14.Register.N) hs 1 rfl TI2 rfl rfl ?_
  refine WL.build (vs := [(0, .int .i64 x1.f_Type), (1, .int .i64 x14.Register.N)]) (cs := [.int .i64 x1.f_Type, .int .i64 x14.Register.N, bstr []]) ⟨⟨rfl, rfl⟩, ⟨⟨rfl, rfl⟩, trivial⟩⟩ (bld PL47 rfl) ?_
  refine WL.buildSlice (n := 1) (vs := [(0, .agg ([.int .i64 x1.f_Type, .int .i64 x14.Register.N, bstr []] : List Value).toArray)]) (cs := [.int .i64 x1.f_Type, .int .i64 x14.Register.N, bstr []]) hs ⟨⟨rfl, rfl⟩, trivial⟩ (bls PS37 (by decide) rfl) (fun g40 w hs => ?_)
  obtain ⟨x41, hxx41, hf⟩ := Y0s hf
  obtain ⟨hbx41, hex41⟩ := appE hxx41
  refine WL.append (ys := [(⟨x1.f_Type, x14.Register.N, []⟩ : Y04)]) (zs := x41) hs 1 rfl 0 rfl UN37 EI47 rfl rfl (fun ok hA => (Y0U.one (T := Y09) (show Y09.R ok _ (⟨x1.f_Type, x14.Register.N, []⟩ : Y04) _ from ⟨[.int .i64 x1.f_Type], ([.int .i64 x14.Register.N, bstr []]), rfl, rfl, ⟨[.int .i64 x14.Register.N], ([bstr []]), rfl, rfl, rfl⟩⟩))) hbx41 (by omega) hex41 (fun v42 w hs => ?_)
  obtain ⟨a43, n45, c44, rfl⟩ := hs.ownv3 1 rfl
  refine WL.assign (v := .slice a43 n45 c44) rfl ?_
  refine WL.nil ?_
  exact Jk26 x41 a43 c44 n45 _ _ rfl ((hs.mask [false, true]).pick []) hf }
  {
  refine W.cond_false (Y02 h35_13 hc38) ?_
  refine W.seqK fun K46 hK46 => ?_
  have Jk49 : ∀ (x48 : Bool) (ρ : Env) (w : World), ρ 2 = .pointer (some ⟨g10, 0, none⟩) → ρ 5 = .pointer (some ⟨g18, 0, none⟩) → ρ 6 = .slice none 0 0 → ρ 36 = .bool x48 → St ok (bz w0) w [vl Y08 x1 (.agg cs3.toArray)] [own Y09 47 (.slice none 0 0) [], blk g18 86 [bstr x14.Name, .bool x14.Register.Set, .int .i64 x14.Register.Tag, .int .i64 x14.Register.Client, .int .i64 x14.Register.Seq, .int .i64 x14.Register.N, bstr x14.Register.S, .bool x14.HasMax, .int .i64 x14.Max, .int .i64 x14.Sum, .slice a15 n16 c17, .bool x14.Flag], own tStr 9 (.slice a15 n16 c17) x14.Elems, blk g10 31 cs3] → Y0H.j2 x1 x14 x48 = some r → K46 ρ w := by
   intro x48 ρ w h47_2 h47_5 h47_6 h47_36 hs hf
   refine hK46 _ _ ?_
   unfold Y0H.j2 at hf
   rcases iteE hf with ⟨hc50, hf⟩ | ⟨hc50, hf⟩
   {
   refine W.cond_true (Y02 h47_36 hc50) ?_
   refine W.region ?_
   refine WL.move (v := .slice none 0 0) h47_6 ?_
   refine WL.fieldAddr (m := 2) h47_2 Y3s rfl ?_
   refine WL.loadF (z := x1.f_Type) Y11 hs 3 rfl 0 rfl rfl TI3 (.inr rfl) rfl rfl (fun v51 hs => ?_)
   obtain rfl := hs.int 0 rfl
   refine WL.fieldAddr (m := 1) h47_5 Y4c rfl ?_
   refine WL.fieldAddr (m := 6) rfl FA84_5 rfl ?_
   refine WL.load1 (v := bstr x14.Register.S) hs 1 rfl TI9 rfl rfl ?_
   refine WL.build (vs := [(0, .int .i64 x1.f_Type), (2, bstr x14.Register.S)]) (cs := [.int .i64 x1.f_Type, .int .i64 0, bstr x14.Register.S]) ⟨⟨rfl, rfl⟩, ⟨⟨rfl, rfl⟩, trivial⟩⟩ (bld PL47 rfl) ?_
   refine WL.buildSlice (n := 1) (vs := [(0, .agg ([.int .i64 x1.f_Type, .int .i64 0, bstr x14.Register.S] : List Value).toArray)]) (cs := [.int .i64 x1.f_Type, .int .i64 0, bstr x14.Register.S]) hs ⟨⟨rfl, rfl⟩, trivial⟩ (bls PS37 (by decide) rfl) (fun g52 w hs => ?_)
   obtain ⟨x53, hxx53, hf⟩ := Y0s hf
   obtain ⟨hbx53, hex53⟩ := appE hxx53
   refine WL.append (ys := [(⟨x1.f_Type, 0, x14.Register.S⟩ : Y04)]) (zs := x53) hs 1 rfl 0 rfl UN37 EI47 rfl rfl (fun ok hA => (Y0U.one (T := Y09) (show Y09.R ok _ (⟨x1.f_Type, 0, x14.Register.S⟩ : Y04) _ from ⟨[.int .i64 x1.f_Type], [.int .i64 0, bstr x14.Register.S], rfl, rfl, ⟨[.int .i64 0], [bstr x14.Register.S], rfl, rfl, rfl⟩⟩))) hbx53 (by omega) hex53 (fun v54 w hs => ?_)
   obtain ⟨a55, n57, c56, rfl⟩ := hs.ownv3 1 rfl
   refine WL.assign (v := .slice a55 n57 c56) rfl ?_
   refine WL.nil ?_
   exact Jk26 x53 a55 c56 n57 _ _ rfl ((hs.mask [false, true]).pick []) hf }
   {
   refine W.cond_false (Y02 h47_36 hc50) ?_
   refine W.seqK fun K58 hK58 => ?_
   refine W.region ?_
   refine WL.fieldAddr (m := 1) h47_2 Y2X rfl ?_
   refine WL.loadF (z := x1.Kind) Y12 hs 3 rfl 0 rfl rfl TI3 (.inr rfl) rfl rfl (fun v59 hs => ?_)
   obtain rfl := hs.int 0 rfl
   refine WL.bin (v := .bool (x1.Kind == 4)) rfl rfl (Y1P _ _ _) ?_
   refine WL.assign (v := .bool (x1.Kind == 4)) rfl ?_
   refine WL.nil ?_
   refine hK58 _ _ ?_
   rcases iteE hf with ⟨hc60, hf⟩ | ⟨hc60, hf⟩
   {
   refine W.cond_true (Y02 rfl hc60) ?_
   refine W.seqK fun K61 hK61 => ?_
   refine W.region ?_
   refine WL.fieldAddr (m := 10) h47_5 Y4b rfl ?_
   refine WL.load1 (v := .slice a15 n16 c17) hs 1 rfl TI56 rfl rfl ?_
   refine WL.len (v := .slice a15 n16 c17) rfl (Y2M hs 2 rfl UN56) ?_
   refine WL.move (v := .int .i64 0) rfl ?_
   refine WL.nil ?_
   refine hK61 _ _ ?_
   refine W.block ?_
   obtain ⟨bs68, hbs68, hfs68⟩ := Y0s hf
   refine W.loop hbs68 (fun s ρ w => match s with | (x63, x67) => ∃ (a64 : Option Addr), ∃ (c65 : Nat), ∃ (n66 : Nat), ρ 6 = .slice a64 n66 c65 ∧ ρ 64 = .slice a15 n16 c17 ∧ ρ 65 = .int .i64 ((x14.Elems).length : Int) ∧ ρ 66 = .int .i64 x67 ∧ St ok (bz w0) w [] [own Y09 47 (.slice a64 n66 c65) x63, own tStr 9 (.slice a15 n16 c17) x14.Elems]) ⟨none, 0, 0, h47_6, rfl, rfl, rfl, (hs.mask [true, false, true]).pick []⟩ ?_
   intro s ρ w os68 hI hf hbbs68
   obtain ⟨x63, x67⟩ := s
   obtain ⟨a64, c65, n66, h62_6, h62_64, h62_65, h62_66, hs⟩ := hI
   unfold Y0H.l1 at hf
   refine W.seqK fun K69 hK69 => ?_
   refine W.region ?_
   refine WL.bin (v := .bool (decide (x67 < ((x14.Elems).length : Int)))) h62_66 h62_65 (Y1n _ _ _) ?_
   refine WL.nil ?_
   refine hK69 _ _ ?_
   refine W.seqK fun K70 hK70 => ?_
   rcases iteE hf with ⟨hc71, hf⟩ | ⟨hc71, hf⟩
   {
   refine W.cond_true (Y02 rfl hc71) ?_
   refine W.skip ?_
   refine hK70 _ _ ?_
   refine W.seqK fun K72 hK72 => ?_
   refine W.block ?_
   refine W.seqK fun K73 hK73 => ?_
   refine W.region ?_
   obtain ⟨x74, hxx74, hf⟩ := Y0s hf
   refine WL.indexAddrO hs 1 rfl UN56 TI9 h62_64 h62_66 hxx74 (fun ad75 hatad75 => ?_)
   refine WL.loadO hs 1 rfl TI9 (.inr rfl) hatad75 hxx74 rfl (fun v76 hs => ?_)
   obtain rfl := hs.str 0 rfl
   refine WL.assign (v := bstr x74) rfl ?_
   refine WL.nil ?_
   refine hK73 _ _ ?_
   refine W.region ?_
   refine WL.move (v := .slice a64 n66 c65) h62_6 ?_
   refine WL.move (v := bstr x74) rfl ?_
   refine WL.build (vs := [(0, .int .i64 2), (2, bstr x74)]) (cs := [.int .i64 2, .int .i64 0, bstr x74]) ⟨⟨rfl, rfl⟩, ⟨⟨rfl, rfl⟩, trivial⟩⟩ (bld PL47 rfl) ?_
   refine WL.buildSlice (n := 1) (vs := [(0, .agg ([.int .i64 2, .int .i64 0, bstr x74] : List Value).toArray)]) (cs := [.int .i64 2, .int .i64 0, bstr x74]) hs ⟨⟨rfl, rfl⟩, trivial⟩ (bls PS37 (by decide) rfl) (fun g77 w hs => ?_)
   obtain ⟨x78, hxx78, hf⟩ := Y0s hf
   obtain ⟨hbx78, hex78⟩ := appE hxx78
   refine WL.append (ys := [(⟨2, 0, x74⟩ : Y04)]) (zs := x78) hs 1 rfl 0 rfl UN37 EI47 rfl rfl (fun ok hA => (Y0U.one (T := Y09) (show Y09.R ok _ (⟨2, 0, x74⟩ : Y04) _ from ⟨[.int .i64 2], [.int .i64 0, bstr x74], rfl, rfl, ⟨[.int .i64 0], [bstr x74], rfl, rfl, rfl⟩⟩))) hbx78 (by omega) hex78 (fun v79 w hs => ?_)
   obtain ⟨a80, n82, c81, rfl⟩ := hs.ownv3 1 rfl
   refine WL.assign (v := .slice a80 n82 c81) rfl ?_
   refine WL.nil ?_
   refine hK72 _ _ ?_
   refine W.region ?_
   obtain ⟨x83, ex83, hf⟩ := letE hf
   refine WL.bin (v := .int .i64 x83) h62_66 rfl (Y1V ex83 (Y1t _ _ _)) ?_
   refine WL.move (v := .int .i64 x83) rfl ?_
   refine WL.nil ?_
   exact ⟨_, (Option.some.inj hf).symm, a80, c81, n82, rfl, h62_64, h62_65, rfl, (hs.mask [false, true, true]).pick []⟩ }
   {
   refine W.cond_false (Y02 rfl hc71) ?_
   refine W.exit ?_
   have hr := Option.some.inj hf; subst hr
   have hr := hbbs68 _ rfl; subst hr
   have hf := hfs68
   exact Jk26 x63 a64 c65 n66 _ _ h62_6 ((hs.mask [true]).pick []) hf } }
   {
   refine W.cond_false (Y02 rfl hc60) ?_
   refine W.skip ?_
   exact Jk26 [] none 0 0 _ _ h47_6 ((hs.mask [true]).pick []) hf } }
  refine W.region ?_
  refine WL.fieldAddr (m := 1) h35_2 Y2X rfl ?_
  refine WL.loadF (z := x1.Kind) Y12 hs 3 rfl 0 rfl rfl TI3 (.inr rfl) rfl rfl (fun v85 hs => ?_)
  obtain rfl := hs.int 0 rfl
  refine WL.bin (v := .bool (x1.Kind == 1)) rfl rfl (Y1P _ _ _) ?_
  refine WL.move (v := .bool (x1.Kind == 1)) rfl ?_
  rcases iteE hf with ⟨hc86, hf⟩ | ⟨hc86, hf⟩
  {
  refine WL.fieldAddr (m := 1) h35_5 Y4c rfl ?_ (hg := (Y01 rfl rfl (Y02 rfl hc86)).trans rfl)
  refine WL.fieldAddr (m := 1) rfl Y61 rfl ?_ (hg := (Y01 rfl rfl (Y02 rfl hc86)).trans rfl)
  refine WL.load1 (v := .bool x14.Register.Set) hs 1 rfl TI4 rfl rfl ?_ (hg := (Y01 rfl rfl (Y02 rfl hc86)).trans rfl)
  refine WL.pickT (v := .bool x14.Register.Set) (Y02 rfl hc86) rfl ?_
  refine WL.move (v := .bool x14.Register.Set) rfl ?_
  rcases iteE hf with ⟨hc87, hf⟩ | ⟨hc87, hf⟩
  {
  refine WL.fieldAddr (m := 2) h35_2 Y3s rfl ?_ (hg := (Y01 rfl rfl (Y02 rfl hc87)).trans rfl)
  refine WL.loadF (z := x1.f_Type) Y11 hs 3 rfl 1 rfl rfl TI3 (.inr rfl) rfl rfl (fun v88 hs => ?_) (hg := (Y01 rfl rfl (Y02 rfl hc87)).trans rfl)
  obtain rfl := hs.int 0 rfl
  refine WL.bin (v := .bool (x1.f_Type == 2)) rfl rfl (Y1P _ _ _) ?_ (hg := (Y01 rfl rfl (Y02 rfl hc87)).trans rfl)
  refine WL.pickT (v := .bool (x1.f_Type == 2)) (Y02 rfl hc87) rfl ?_
  refine WL.assign (v := .bool (x1.f_Type == 2)) rfl ?_
  refine WL.nil ?_
  exact Jk49 (x1.f_Type == 2) _ _ h35_2 h35_5 h35_6 rfl ((hs.mask [true, true, true, true]).pick [2]) hf }
  {
  refine WL.pass ((Y01 rfl rfl (Y02 rfl hc87)).trans rfl) rfl ?_
  refine WL.pass ((Y01 rfl rfl (Y02 rfl hc87)).trans rfl) rfl ?_
  refine WL.pass ((Y01 rfl rfl (Y02 rfl hc87)).trans rfl) rfl ?_
  refine WL.pickF (v := .bool false) (Y02 rfl hc87) rfl ?_
  refine WL.assign (v := .bool false) rfl ?_
  refine WL.nil ?_
  exact Jk49 false _ _ h35_2 h35_5 h35_6 rfl ((hs.mask [true, true, true, true]).pick [1]) hf } }
  {
  refine WL.pass ((Y01 rfl rfl (Y02 rfl hc86)).trans rfl) rfl ?_
  refine WL.pass ((Y01 rfl rfl (Y02 rfl hc86)).trans rfl) rfl ?_
  refine WL.pass ((Y01 rfl rfl (Y02 rfl hc86)).trans rfl) rfl ?_
  refine WL.pickF (v := .bool false) (Y02 rfl hc86) rfl ?_
  refine WL.move (v := .bool false) rfl ?_
  refine WL.pass ((Y01 rfl rfl rfl).trans rfl) rfl ?_
  refine WL.pass ((Y01 rfl rfl rfl).trans rfl) rfl ?_
  refine WL.pass ((Y01 rfl rfl rfl).trans rfl) rfl ?_
  refine WL.pickF (v := .bool false) rfl rfl ?_
  refine WL.assign (v := .bool false) rfl ?_
  refine WL.nil ?_
  exact Jk49 false _ _ h35_2 h35_5 h35_6 rfl ((hs.mask [true, true, true, true]).pick [1]) hf } }
 refine W.region ?_
 refine WL.fieldAddr (m := 1) rfl Y2X rfl ?_
 refine WL.loadF (z := x1.Kind) Y12 hs 4 rfl 1 rfl rfl TI3 (.inr rfl) rfl rfl (fun v89 hs => ?_)
 obtain rfl := hs.int 0 rfl
 refine WL.bin (v := .bool (x1.Kind == 1)) rfl rfl (Y1P _ _ _) ?_
 refine WL.move (v := .bool (x1.Kind == 1)) rfl ?_
 rcases iteE hf with ⟨hc90, hf⟩ | ⟨hc90, hf⟩
 {
 refine WL.fieldAddr (m := 1) rfl Y4c rfl ?_ (hg := (Y01 rfl rfl (Y02 rfl hc90)).trans rfl)
 refine WL.fieldAddr (m := 1) rfl Y61 rfl ?_ (hg := (Y01 rfl rfl (Y02 rfl hc90)).trans rfl)
 refine WL.load1 (v := .bool x14.Register.Set) hs 1 rfl TI4 rfl rfl ?_ (hg := (Y01 rfl rfl (Y02 rfl hc90)).trans rfl)
 refine WL.pickT (v := .bool x14.Register.Set) (Y02 rfl hc90) rfl ?_
 refine WL.move (v := .bool x14.Register.Set) rfl ?_
 rcases iteE hf with ⟨hc91, hf⟩ | ⟨hc91, hf⟩
 {
 refine WL.fieldAddr (m := 2) rfl Y3s rfl ?_ (hg := (Y01 rfl rfl (Y02 rfl hc91)).trans rfl)
 refine WL.loadF (z := x1.f_Type) Y11 hs 4 rfl 2 rfl rfl TI3 (.inr rfl) rfl rfl (fun v92 hs => ?_) (hg := (Y01 rfl rfl (Y02 rfl hc91)).trans rfl)
 obtain rfl := hs.int 0 rfl
 refine WL.bin (v := .bool (x1.f_Type == 1)) rfl rfl (Y1P _ _ _) ?_ (hg := (Y01 rfl rfl (Y02 rfl hc91)).trans rfl)
 refine WL.pickT (v := .bool (x1.f_Type == 1)) (Y02 rfl hc91) rfl ?_
 refine WL.assign (v := .bool (x1.f_Type == 1)) rfl ?_
 refine WL.nil ?_
 exact Jk37 (x1.f_Type == 1) _ _ rfl rfl rfl rfl ((hs.mask [true, true, true, false, true]).pick [3]) hf }
 {
 refine WL.pass ((Y01 rfl rfl (Y02 rfl hc91)).trans rfl) rfl ?_
 refine WL.pass ((Y01 rfl rfl (Y02 rfl hc91)).trans rfl) rfl ?_
 refine WL.pass ((Y01 rfl rfl (Y02 rfl hc91)).trans rfl) rfl ?_
 refine WL.pickF (v := .bool false) (Y02 rfl hc91) rfl ?_
 refine WL.assign (v := .bool false) rfl ?_
 refine WL.nil ?_
 exact Jk37 false _ _ rfl rfl rfl rfl ((hs.mask [true, true, true, false, true]).pick [2]) hf } }
 {
 refine WL.pass ((Y01 rfl rfl (Y02 rfl hc90)).trans rfl) rfl ?_
 refine WL.pass ((Y01 rfl rfl (Y02 rfl hc90)).trans rfl) rfl ?_
 refine WL.pass ((Y01 rfl rfl (Y02 rfl hc90)).trans rfl) rfl ?_
 refine WL.pickF (v := .bool false) (Y02 rfl hc90) rfl ?_
 refine WL.move (v := .bool false) rfl ?_
 refine WL.pass ((Y01 rfl rfl rfl).trans rfl) rfl ?_
 refine WL.pass ((Y01 rfl rfl rfl).trans rfl) rfl ?_
 refine WL.pass ((Y01 rfl rfl rfl).trans rfl) rfl ?_
 refine WL.pickF (v := .bool false) rfl rfl ?_
 refine WL.assign (v := .bool false) rfl ?_
 refine WL.nil ?_
 exact Jk37 false _ _ rfl rfl rfl rfl ((hs.mask [true, true, true, false, true]).pick [2]) hf }
theorem Y0O.calls {ok : Nat → Prop} {w0 : World} {x1 : Y0c} {x5 : List Y0f} {v2 : Value} {a6 : Option Addr} {c7 : Nat} {r : List Y0u} (hf : Y0O x1 x5 = some r) (i0 : (vl Y08 x1 v2).holds ok w0) (i1 : (vl (Y0b Y0g) x5 (.slice a6 x5.length c7)).holds ok w0) :
  Calls Tryz.prog 35 #[v2, .slice a6 x5.length c7] w0 fun e w' => ∃ v, e = .returned v ∧ ∃ y : (Option Addr × Nat × Nat), v = .slice y.1 y.2.1 y.2.2 ∧ St ok (bz w0) w' [] [own Y0v 105 (.slice y.1 y.2.1 y.2.2) r] := by
 unfold Y0O at hf
 refine Y0t (fn := Tryz.f35) (N := 34) Tryz.func35 rfl Tryz.ntmps35 rfl ?_
 have hs : St ok (bz w0) w0 [vl Y08 x1 v2, vl (Y0b Y0g) x5 (.slice a6 x5.length c7)] [] := St.init (All.cons i0 (All.cons i1 All.nil))
 clear i0 i1
 obtain ⟨cs3, hl4, rfl⟩ := hs.aggv (n := 4) 0 rfl rfl rfl
 refine W.seqK fun K8 hK8 => ?_
 refine W.region ?_
 refine WL.box (vs := cs3) hs rfl rfl (fun g9 w hs => ?_)
 refine WL.assign (v := .slice none 0 0) rfl ?_
 refine WL.nil ?_
 refine hK8 _ _ ?_
 refine W.seqK fun K10 hK10 => ?_
 refine W.region ?_
 refine WL.assign (v := .slice none 0 0) rfl ?_
 refine WL.nil ?_
 refine hK10 _ _ ?_
 refine W.seqK fun K11 hK11 => ?_
 have hs := hs.ownNil Y0v 105
 have Jk17 : ∀ (x13 : List Y0u) (a14 : Option Addr) (c15 : Nat) (n16 : Nat) (ρ : Env) (w : World), ρ 5 = .slice a14 n16 c15 → St ok (bz w0) w [] [own Y0v 105 (.slice a14 n16 c15) x13] → Y0O.j1 x13 = some r → K11 ρ w := by
  intro x13 a14 c15 n16 ρ w h12_5 hs hf
  refine hK11 _ _ ?_
  unfold Y0O.j1 at hf
  refine W.seqK fun K18 hK18 => ?_
  refine W.region ?_
  refine WL.move (v := .slice a14 n16 c15) h12_5 ?_
  refine WL.assign (v := .slice a14 n16 c15) rfl ?_
  refine WL.nil ?_
  refine hK18 _ _ ?_
  refine W.ret ?_
  have hr := Option.some.inj hf; subst hr
  exact ⟨_, Y0e rfl rfl, (a14, n16, c15), rfl, (hs.mask [true]).pick []⟩
 refine W.seqK fun K19 hK19 => ?_
 refine W.region ?_
 refine WL.move (v := .slice a6 x5.length c7) rfl ?_
 refine WL.len (v := .slice a6 x5.length c7) rfl (Y10 UN23) ?_
 refine WL.move (v := .int .i64 0) rfl ?_
 refine WL.nil ?_
 refine hK19 _ _ ?_
 refine W.block ?_
 obtain ⟨bs26, hbs26, hfs26⟩ := Y0s hf
 refine W.loop hbs26 (fun s ρ w => match s with | (x21, x25) => ∃ (a22 : Option Addr), ∃ (c23 : Nat), ∃ (n24 : Nat), ρ 2 = .pointer (some ⟨g9, 0, none⟩) ∧ ρ 5 = .slice a22 n24 c23 ∧ ρ 10 = .slice a6 x5.length c7 ∧ ρ 11 = .int .i64 (x5.length : Int) ∧ ρ 12 = .int .i64 x25 ∧ St ok (bz w0) w [vl (Y0b Y0g) x5 (.slice a6 x5.length c7), vl Y08 x1 (.agg cs3.toArray)] [own Y0v 105 (.slice a22 n24 c23) x21, blk g9 31 cs3]) ⟨none, 0, 0, rfl, rfl, rfl, rfl, rfl, (hs.mask [true, true]).pick [1, 0]⟩ ?_
 intro s ρ w os26 hI hf hbbs26
 obtain ⟨x21, x25⟩ := s
 obtain ⟨a22, c23, n24, h20_2, h20_5, h20_10, h20_11, h20_12, hs⟩ := hI
 unfold Y0O.l2 at hf
 refine W.seqK fun K27 hK27 => ?_
 refine W.region ?_
 refine WL.bin (v := .bool (decide (x25 < (x5.length : Int)))) h20_12 h20_11 (Y1n _ _ _) ?_
 refine WL.nil ?_
 refine hK27 _ _ ?_
 refine W.seqK fun K28 hK28 => ?_
 rcases iteE hf with ⟨hc29, hf⟩ | ⟨hc29, hf⟩
 {
 refine W.cond_true (Y02 rfl hc29) ?_
 refine W.skip ?_
 refine hK28 _ _ ?_
 refine W.seqK fun K30 hK30 => ?_
 have Jk36 : ∀ (x32 : List Y0u) (a33 : Option Addr) (c34 : Nat) (n35 : Nat) (ρ : Env) (w : World), ρ 2 = .pointer (some ⟨g9, 0, none⟩) → ρ 5 = .slice a33 n35 c34 → ρ 10 = .slice a6 x5.length c7 → ρ 11 = .int .i64 (x5.length : Int) → ρ 12 = .int .i64 x25 → St ok (bz w0) w [vl (Y0b Y0g) x5 (.slice a6 x5.length c7), vl Y08 x1 (.agg cs3.toArray)] [own Y0v 105 (.slice a33 n35 c34) x32, blk g9 31 cs3] → Y0O.j2 x25 x32 = some os26 → K30 ρ w := by
  intro x32 a33 c34 n35 ρ w h31_2 h31_5 h31_10 h31_11 h31_12 hs hf
  refine hK30 _ _ ?_
  unfold Y0O.j2 at hf
  refine W.region ?_
  obtain ⟨x37, ex37, hf⟩ := letE hf
  refine WL.bin (v := .int .i64 x37) h31_12 rfl (Y1V ex37 (Y1t _ _ _)) ?_
  refine WL.move (v := .int .i64 x37) rfl ?_
  refine WL.nil ?_
  exact ⟨_, (Option.some.inj hf).symm, a33, c34, n35, h31_2, h31_5, h31_10, h31_11, rfl, (hs.mask [true, true]).pick [0, 1]⟩
 refine W.block ?_
 refine W.seqK fun K38 hK38 => ?_
 refine W.region ?_
 obtain ⟨x39, hxx39, hf⟩ := Y0s hf
 refine WL.indexAddr hs 0 rfl UN23 TI41 h20_10 h20_12 hxx39 (fun ad40 hs => ?_)
 refine WL.loadP hs 0 rfl TI41 (.inl rfl) rfl (fun v41 hs => ?_)
 obtain ⟨cs42, hl43, rfl⟩ := hs.aggv (n := 2) 0 rfl rfl rfl
 refine WL.alloc hs ZV41 (fun g44 w hs => ?_)
 refine WL.storeAll (vs := cs42) hs 0 rfl TI41 rfl rfl rfl hl43 (hs.ones 0 rfl rfl) rfl (fun w hs => ?_)
 refine WL.nil ?_
 refine hK38 _ _ ?_
 refine W.seqK fun K45 hK45 => ?_
 refine W.region ?_
 refine WL.loadAll hs 2 rfl TI31 h20_2 hl4 ?_
 refine WL.loadAll hs 0 rfl TI41 rfl hl43 ?_
 obtain ⟨x46, hxx46, hf⟩ := Y0s hf
 refine WL.call (vs := [.agg cs3.toArray, .agg cs42.toArray]) hs FN13 ⟨rfl, ⟨rfl, trivial⟩⟩ (fun ok hA => Y0H.calls (x1 := x1) (x5 := x39) hxx46 (hA.get 3 rfl) (hA.get 0 rfl)) ?_
 rintro ⟨a47, n48, c49⟩ w hs
 refine WL.len (v := .slice a47 n48 c49) rfl (Y2M hs 0 rfl UN37) ?_
 refine WL.move (v := .int .i64 0) rfl ?_
 refine WL.nil ?_
 refine hK45 _ _ ?_
 refine W.block ?_
 obtain ⟨bs56, hbs56, hfs56⟩ := Y0s hf
 refine W.loop hbs56 (fun s ρ w => match s with | (x51, x55) => ∃ (a52 : Option Addr), ∃ (c53 : Nat), ∃ (n54 : Nat), ρ 2 = .pointer (some ⟨g9, 0, none⟩) ∧ ρ 5 = .slice a52 n54 c53 ∧ ρ 7 = .pointer (some ⟨g44, 0, none⟩) ∧ ρ 10 = .slice a6 x5.length c7 ∧ ρ 11 = .int .i64 (x5.length : Int) ∧ ρ 12 = .int .i64 x25 ∧ ρ 18 = .slice a47 n48 c49 ∧ ρ 19 = .int .i64 (x46.length : Int) ∧ ρ 20 = .int .i64 x55 ∧ St ok (bz w0) w [vl (Y0b Y0g) x5 (.slice a6 x5.length c7), vl Y0g x39 (.agg cs42.toArray), vl Y08 x1 (.agg cs3.toArray)] [own Y09 47 (.slice a47 n48 c49) x46, blk g44 41 cs42, own Y0v 105 (.slice a52 n54 c53) x51, blk g9 31 cs3]) ⟨a22, c23, n24, h20_2, h20_5, rfl, h20_10, h20_11, h20_12, rfl, rfl, rfl, (hs.mask [true, true, true, true]).pick [2, 0, 3]⟩ ?_
 intro s ρ w os56 hI hf hbbs56
 obtain ⟨x51, x55⟩ := s
 obtain ⟨a52, c53, n54, h50_2, h50_5, h50_7, h50_10, h50_11, h50_12, h50_18, h50_19, h50_20, hs⟩ := hI
 unfold Y0O.l1 at hf
 refine W.seqK fun K57 hK57 => ?_
 refine W.region ?_
 refine WL.bin (v := .bool (decide (x55 < (x46.length : Int)))) h50_20 h50_19 (Y1n _ _ _) ?_
 refine WL.nil ?_
 refine hK57 _ _ ?_
 refine W.seqK fun K58 hK58 => ?_
 rcases iteE hf with ⟨hc59, hf⟩ | ⟨hc59, hf⟩
 {
 refine W.cond_true (Y02 rfl hc59) ?_
 refine W.skip ?_
 refine hK58 _ _ ?_
 refine W.seqK fun K60 hK60 => ?_
 refine W.block ?_
 refine W.seqK fun K61 hK61 => ?_
 refine W.region ?_
 obtain ⟨x62, hxx62, hf⟩ := Y0s hf
 refine WL.indexAddrO hs 0 rfl UN37 TI47 h50_18 h50_20 hxx62 (fun ad63 hatad63 => ?_)
 refine WL.loadO hs 0 rfl TI47 (.inl rfl) hatad63 hxx62 rfl (fun v64 hs => ?_)
 obtain ⟨cs65, hl66, rfl⟩ := hs.aggv (n := 3) 0 rfl rfl rfl
 refine WL.alloc hs ZV47 (fun g67 w hs => ?_)
 refine WL.storeAll (vs := cs65) hs 0 rfl TI47 rfl rfl rfl hl66 (hs.ones 0 rfl rfl) rfl (fun w hs => ?_)
 refine WL.nil ?_
 refine hK61 _ _ ?_
 refine W.region ?_
 refine WL.move (v := .slice a52 n54 c53) h50_5 ?_
 refine WL.loadAll hs 0 rfl TI47 rfl hl66 ?_
 refine WL.fieldAddr (m := 0) h50_7 Y9f rfl ?_
 refine WL.loadF (z := x39.Name) Y3i hs 2 rfl 2 rfl rfl TI9 (.inr rfl) rfl rfl (fun v68 hs => ?_)
 obtain rfl := hs.str 0 rfl
 refine WL.build (vs := [(0, .agg cs65.toArray), (1, bstr x39.Name)]) (cs := cs65 ++ ([bstr x39.Name] : List Value)) ⟨⟨rfl, rfl⟩, ⟨⟨rfl, rfl⟩, trivial⟩⟩ (bld PL105 (by simp [Y4J, Value.cells, bstr, List.drop_append, hl66])) ?_
 refine WL.buildSlice (n := 1) (vs := [(0, .agg (cs65 ++ ([bstr x39.Name] : List Value) : List Value).toArray)]) (cs := cs65 ++ ([bstr x39.Name] : List Value)) hs ⟨⟨rfl, rfl⟩, trivial⟩ (bls PS81 (by decide) (by simp [Y93, Y4J, Value.cells, hl66])) (fun g69 w hs => ?_)
 obtain ⟨x70, hxx70, hf⟩ := Y0s hf
 obtain ⟨hbx70, hex70⟩ := appE hxx70
 refine WL.append (ys := [(⟨x62, x39.Name⟩ : Y0u)]) (zs := x70) hs 4 rfl 0 rfl UN81 EI105 rfl rfl (fun ok hA => (Y0U.one (T := Y0v) (show Y0v.R ok _ (⟨x62, x39.Name⟩ : Y0u) _ from ⟨cs65, [bstr x39.Name], by simp, (Y3F (hA.get 1 rfl) rfl), rfl⟩))) hbx70 (by omega) hex70 (fun v71 w hs => ?_)
 obtain ⟨a72, n74, c73, rfl⟩ := hs.ownv3 4 rfl
 refine WL.assign (v := .slice a72 n74 c73) rfl ?_
 refine WL.nil ?_
 refine hK60 _ _ ?_
 refine W.region ?_
 obtain ⟨x75, ex75, hf⟩ := letE hf
 refine WL.bin (v := .int .i64 x75) h50_20 rfl (Y1V ex75 (Y1t _ _ _)) ?_
 refine WL.move (v := .int .i64 x75) rfl ?_
 refine WL.nil ?_
 exact ⟨_, (Option.some.inj hf).symm, a72, c73, n74, h50_2, rfl, h50_7, h50_10, h50_11, h50_12, h50_18, h50_19, rfl, (hs.mask [false, false, true, true, true, true]).pick [2, 3, 4]⟩ }
 {
 refine W.cond_false (Y02 rfl hc59) ?_
 refine W.exit ?_
 have hr := Option.some.inj hf; subst hr
 have hr := hbbs56 _ rfl; subst hr
 have hf := hfs56
 exact Jk36 x51 a52 c53 n54 _ _ h50_2 h50_5 h50_10 h50_11 h50_12 ((hs.mask [false, false, true, true]).pick [0, 2]) hf } }
 {
 refine W.cond_false (Y02 rfl hc29) ?_
 refine W.exit ?_
 have hr := Option.some.inj hf; subst hr
 have hr := hbbs26 _ rfl; subst hr
 have hf := hfs26
 exact Jk17 x21 a22 c23 n24 _ _ h20_5 ((hs.mask [true]).pick []) hf }
theorem Y0O.callc {ok : Nat → Prop} {w0 : World} {x1 : Y0c} {x5 : List Y0f} {v2 : Value} {a6 : Option Addr} {c7 : Nat} {r : List Y0u} (hf : Y0O x1 x5 = some r) (i0 : (vl Y08 x1 v2).holds ok w0) (i1 : (vl (Y0b Y0g) x5 (.slice a6 x5.length c7)).holds ok w0) :
  Calls Tryz.prog 35 #[v2, .slice a6 x5.length c7] w0 fun e w' => ∃ v, e = .returned v ∧ ∃ y : (Option Addr × Nat), v = .slice y.1 r.length y.2 ∧ St ok (bz w0) w' [vl (Y0b Y0v) r (.slice y.1 r.length y.2)] [] := by
 refine (Y0O.calls (ok := ok) (w0 := w0) (x1 := x1) (x5 := x5) hf i0 i1).mono ?_
 rintro e w' ⟨v, rfl, ⟨a78, n79, c80⟩, rfl, hs⟩
 obtain rfl := hs.ownLen 0 rfl
 have hs := hs.freezeOwn 0 rfl
 exact ⟨_, rfl, (a78, c80), rfl, hs.pick [0]⟩
theorem Y0z.calls {ok : Nat → Prop} {w0 : World} {x1 : Y0c} {x5 : List Y0u} {v2 : Value} {a6 : Option Addr} {c7 : Nat} {r : Y0Y} (hf : Y0z x1 x5 = some r) (i0 : (vl Y08 x1 v2).holds ok w0) (i1 : (vl (Y0b Y0v) x5 (.slice a6 x5.length c7)).holds ok w0) :
  Calls Tryz.prog 34 #[v2, .slice a6 x5.length c7] w0 fun e w' => ∃ v, e = .returned v ∧ ∃ y : (Option Addr × Nat × Nat), v = .agg ([bstr r.Field.Name, .int .i64 r.Field.Kind, .int .i64 r.Field.f_Type, .int .i64 r.Field.At, .slice y.1 y.2.1 y.2.2] : List Value).toArray ∧ St ok (bz w0) w' [] [own Y0i 65 (.slice y.1 y.2.1 y.2.2) r.Entries] := by
 unfold Y0z at hf
 refine Y0t (fn := Tryz.f34) (N := 51) Tryz.func34 rfl Tryz.ntmps34 rfl ?_
 have hs : St ok (bz w0) w0 [vl Y08 x1 v2, vl (Y0b Y0v) x5 (.slice a6 x5.length c7)] [] := St.init (All.cons i0 (All.cons i1 All.nil))
 clear i0 i1
 obtain ⟨cs3, hl4, rfl⟩ := hs.aggv (n := 4) 0 rfl rfl rfl
 refine W.seqK fun K8 hK8 => ?_
 refine W.region ?_
 refine WL.box (vs := cs3) hs rfl rfl (fun g9 w hs => ?_)
 refine WL.alloc hs ZV35 (fun g10 w hs => ?_)
 refine WL.nil ?_
 refine hK8 _ _ ?_
 refine W.seqK fun K11 hK11 => ?_
 refine W.region ?_
 refine WL.loadAll hs 1 rfl TI31 rfl hl4 ?_
 refine WL.build (vs := [(0, .agg cs3.toArray)]) (cs := cs3 ++ ([.slice none 0 0] : List Value)) ⟨⟨rfl, rfl⟩, trivial⟩ (bld PL35 (by simp [Y4J, Value.cells, hl4])) ?_
 refine WL.alloc hs ZV35 (fun g12 w hs => ?_)
 refine WL.storeAll (vs := cs3 ++ ([.slice none 0 0] : List Value)) hs 0 rfl TI35 rfl rfl rfl (by simp [hl4]) (ones_app (hs.ones 0 rfl rfl) (Y0P (l := [.slice none 0 0]) rfl)) rfl (fun w hs => ?_)
 refine WL.nil ?_
 refine hK11 _ _ ?_
 refine W.seqK fun K13 hK13 => ?_
 obtain rfl := Y2T hs 0 rfl
 have hs := hs.ownNil Y0i 65
 have Jk19 : ∀ (x15 : List Y0a) (a16 : Option Addr) (c17 : Nat) (n18 : Nat) (ρ : Env) (w : World), ρ 4 = .pointer (some ⟨g10, 0, none⟩) → ρ 5 = .pointer (some ⟨g12, 0, none⟩) → St ok (bz w0) w [] [own Y0i 65 (.slice a16 n18 c17) x15, blk g12 35 [bstr x1.Name, .int .i64 x1.Kind, .int .i64 x1.f_Type, .int .i64 x1.At, .slice a16 n18 c17], blk g10 35 ([bstr [], .int .i64 0, .int .i64 0, .int .i64 0, .slice none 0 0])] → Y0z.j1 x1 x15 = some r → K13 ρ w := by
  intro x15 a16 c17 n18 ρ w h14_4 h14_5 hs hf
  refine hK13 _ _ ?_
  unfold Y0z.j1 at hf
  refine W.seqK fun K20 hK20 => ?_
  refine W.region ?_
  refine WL.fieldAddr (m := 4) h14_5 Y4X rfl ?_
  refine WL.load1 (v := .slice a16 n18 c17) hs 1 rfl TI33 rfl rfl ?_
  obtain ⟨x21, hxx21, hf⟩ := Y0s hf
  have hs := hs.front 0 rfl
  refine WL.callO (vs := [.slice a16 n18 c17, .func (.func 59) #[] #[]]) [own Y0i 65 (.slice a16 n18 c17) x15] (Λb := [blk g12 35 [bstr x1.Name, .int .i64 x1.Kind, .int .i64 x1.f_Type, .int .i64 x1.At, .slice a16 n18 c17], blk g10 35 ([bstr [], .int .i64 0, .int .i64 0, .int .i64 0, .slice none 0 0])]) hs FN58 ⟨rfl, ⟨rfl, trivial⟩⟩ (fun ok F hs => Y1h.calls (a0 := a16) (n0 := n18) (c0 := c17) (x1 := x15) hxx21 (hs.pick [])) ?_
  rintro _ w hs
  refine WL.nil ?_
  refine hK20 _ _ ?_
  refine W.seqK fun K22 hK22 => ?_
  refine W.region ?_
  refine WL.loadN (vs := [bstr x1.Name, .int .i64 x1.Kind, .int .i64 x1.f_Type, .int .i64 x1.At, .slice a16 n18 c17]) hs 1 rfl TI35 h14_5 rfl rfl ?_
  refine WL.storeAll (vs := [bstr x1.Name, .int .i64 x1.Kind, .int .i64 x1.f_Type, .int .i64 x1.At, .slice a16 n18 c17]) hs 2 rfl TI35 h14_4 rfl rfl rfl (Y0P rfl) rfl (fun w hs => ?_)
  refine WL.nil ?_
  refine hK22 _ _ ?_
  refine W.ret ?_
  have hr := Option.some.inj hf; subst hr
  exact ⟨_, Y0e rfl (Y2B hs 2 rfl TI35 h14_4 rfl), (a16, n18, c17), rfl, (hs.mask [true]).pick []⟩
 refine W.seqK fun K23 hK23 => ?_
 refine W.region ?_
 refine WL.move (v := .slice a6 x5.length c7) rfl ?_
 obtain ⟨x24, hxx24, hf⟩ := Y0s hf
 refine WL.call (vs := [.slice a6 x5.length c7, .func (.func 57) #[] #[]]) hs FN56 ⟨rfl, ⟨rfl, trivial⟩⟩ (fun ok hA => Y1x.calls (x1 := x5) hxx24 (hA.get 1 rfl)) ?_
 rintro g25 w hs
 have hf := permE hf
 refine WL.range hs 0 rfl UN117 rfl (fun r26 w hs => ?_)
 refine WL.nil ?_
 refine hK23 _ _ ?_
 refine W.block ?_
 refine W.loopR hf (fun lf s ρ w => match s with | x29 => ∃ (a30 : Option Addr), ∃ (c31 : Nat), ∃ (n32 : Nat), ρ 4 = .pointer (some ⟨g10, 0, none⟩) ∧ ρ 5 = .pointer (some ⟨g12, 0, none⟩) ∧ ρ 15 = .pointer (some ⟨r26, 0, none⟩) ∧ St ok (bz w0) w [] [rng Y1C (Y0b Y0v) g25 r26 x24 lf none, own Y0i 65 (.slice a30 n32 c31) x29, blk g12 35 [bstr x1.Name, .int .i64 x1.Kind, .int .i64 x1.f_Type, .int .i64 x1.At, .slice a30 n32 c31], blk g10 35 ([bstr [], .int .i64 0, .int .i64 0, .int .i64 0, .slice none 0 0])]) ⟨none, 0, 0, rfl, rfl, rfl, (hs.mask [true, true, true, true]).pick []⟩ ?_
 intro lf x29 ρ w hI hNs33 hCs33
 obtain ⟨a30, c31, n32, h28_4, h28_5, h28_15, hs⟩ := hI
 refine W.seqK fun K36 hK36 => ?_
 refine W.region ?_
 refine WL.next hs 0 rfl h28_15 (fun hL => ?_) (fun x34 x35 lf2s33 v38 w hPs33 hs => ?_)
 {
 have hf : Y0z.j1 x1 x29 = some r := hNs33 hL
 have hs := hs.unrng 0 rfl
 refine WL.extract (v := .bool false) rfl rfl ?_
 refine WL.nil ?_
 refine hK36 _ _ ?_
 refine W.seqK fun K37 hK37 => ?_
 refine W.cond_false rfl ?_
 refine W.exit ?_
 exact Jk19 x29 a30 c31 n32 _ _ h28_4 h28_5 ((hs.mask [false, true, true, true]).pick []) hf }
 {
 obtain ⟨os33, hSs33, hBs33⟩ := hCs33 _ _ hPs33
 have hf : Y0z.l2 x34 x35 x29 = some os33 := hSs33
 unfold Y0z.l2 at hf
 refine WL.extract (v := .bool true) rfl rfl ?_
 refine WL.nil ?_
 refine hK36 _ _ ?_
 refine W.seqK fun K39 hK39 => ?_
 refine W.cond_true rfl ?_
 refine W.skip ?_
 refine hK39 _ _ ?_
 refine W.block ?_
 refine W.seqK fun K40 hK40 => ?_
 refine W.region ?_
 refine WL.entry hs 0 rfl h28_15 (fun v41 hs => ?_)
 obtain ⟨a42, c43, rfl⟩ := hs.slice 0 rfl
 have hs := hs.rngF 0 rfl
 refine WL.extract (v := .agg ([.int .i64 x34.f_Type, .int .i64 x34.N, bstr x34.S] : List Value).toArray) rfl rfl ?_
 refine WL.extract (v := .slice a42 x35.length c43) rfl rfl ?_
 refine WL.alloc hs ZV47 (fun g44 w hs => ?_)
 refine WL.storeAll (vs := [.int .i64 x34.f_Type, .int .i64 x34.N, bstr x34.S]) hs 0 rfl TI47 rfl rfl rfl rfl (Y0P rfl) rfl (fun w hs => ?_)
 refine WL.assign (v := .slice a42 x35.length c43) rfl ?_
 refine WL.nil ?_
 refine hK40 _ _ ?_
 refine W.seqK fun K45 hK45 => ?_
 refine W.region ?_
 refine WL.loadN (vs := [.int .i64 x34.f_Type, .int .i64 x34.N, bstr x34.S]) hs 0 rfl TI47 rfl rfl rfl ?_
 refine WL.build (vs := [(0, .agg ([.int .i64 x34.f_Type, .int .i64 x34.N, bstr x34.S] : List Value).toArray)]) (cs := [.int .i64 x34.f_Type, .int .i64 x34.N, bstr x34.S, .slice none 0 0]) ⟨⟨rfl, rfl⟩, trivial⟩ (bld PL65 rfl) ?_
 refine WL.alloc hs ZV65 (fun g46 w hs => ?_)
 refine WL.storeAll (vs := [.int .i64 x34.f_Type, .int .i64 x34.N, bstr x34.S, .slice none 0 0]) hs 0 rfl TI65 rfl rfl rfl rfl (Y0P rfl) rfl (fun w hs => ?_)
 refine WL.nil ?_
 refine hK45 _ _ ?_
 refine W.seqK fun K47 hK47 => ?_
 have hs := hs.ownNil tStr 9
 have Jk53 : ∀ (x49 : List (List UInt8)) (a50 : Option Addr) (c51 : Nat) (n52 : Nat) (ρ : Env) (w : World), ρ 4 = .pointer (some ⟨g10, 0, none⟩) → ρ 5 = .pointer (some ⟨g12, 0, none⟩) → ρ 8 = .pointer (some ⟨g46, 0, none⟩) → ρ 15 = .pointer (some ⟨r26, 0, none⟩) → St ok (bz w0) w [] [own tStr 9 (.slice a50 n52 c51) x49, blk g46 65 [.int .i64 x34.f_Type, .int .i64 x34.N, bstr x34.S, .slice a50 n52 c51], rng Y1C (Y0b Y0v) g25 r26 x24 lf2s33 none, own Y0i 65 (.slice a30 n32 c31) x29, blk g12 35 [bstr x1.Name, .int .i64 x1.Kind, .int .i64 x1.f_Type, .int .i64 x1.At, .slice a30 n32 c31], blk g10 35 ([bstr [], .int .i64 0, .int .i64 0, .int .i64 0, .slice none 0 0])] → Y0z.j2 x29 x34 x49 = some os33 → K47 ρ w := by
  intro x49 a50 c51 n52 ρ w h48_4 h48_5 h48_8 h48_15 hs hf
  refine hK47 _ _ ?_
  unfold Y0z.j2 at hf
  refine W.seqK fun K54 hK54 => ?_
  refine W.region ?_
  refine WL.fieldAddr (m := 3) h48_8 Y4V rfl ?_
  refine WL.load1 (v := .slice a50 n52 c51) hs 1 rfl TI56 rfl rfl ?_
  obtain rfl := hs.ownLen 0 rfl
  have hs := hs.freezeOwn 0 rfl
  obtain ⟨x55, hxx55, hf⟩ := Y0s hf
  refine WL.call (vs := [.slice a50 x49.length c51]) hs FN44 ⟨rfl, trivial⟩ (fun ok hA => Y1G.calls (x1 := x49) hxx55 (hA.get 0 rfl)) ?_
  rintro ⟨a56, n57, c58⟩ w hs
  refine WL.fieldAddr (m := 3) h48_8 Y4V rfl ?_
  refine WL.store (vs := [.slice a56 n57 c58]) (cs' := [.int .i64 x34.f_Type, .int .i64 x34.N, bstr x34.S, .slice a56 n57 c58]) hs 1 rfl TI56 rfl rfl rfl rfl (Y0P rfl) (Nat.le_of_ble_eq_true rfl) rfl (fun w hs => ?_)
  refine WL.nil ?_
  refine hK54 _ _ ?_
  refine W.region ?_
  refine WL.fieldAddr (m := 4) h48_5 Y4X rfl ?_
  refine WL.load1 (v := .slice a30 n32 c31) hs 4 rfl TI33 rfl rfl ?_
  refine WL.loadN (vs := [.int .i64 x34.f_Type, .int .i64 x34.N, bstr x34.S, .slice a56 n57 c58]) hs 1 rfl TI65 h48_8 rfl rfl ?_
  refine WL.buildSlice (n := 1) (vs := [(0, .agg ([.int .i64 x34.f_Type, .int .i64 x34.N, bstr x34.S, .slice a56 n57 c58] : List Value).toArray)]) (cs := [.int .i64 x34.f_Type, .int .i64 x34.N, bstr x34.S, .slice a56 n57 c58]) hs ⟨⟨rfl, rfl⟩, trivial⟩ (bls PS33 (by decide) rfl) (fun g59 w hs => ?_)
  obtain rfl := hs.ownLen 1 rfl
  have hs := hs.freezeOwn 1 rfl
  obtain ⟨x60, hxx60, hf⟩ := Y0s hf
  obtain ⟨hbx60, hex60⟩ := appE hxx60
  refine WL.append (ys := [(⟨(⟨x34.f_Type, x34.N, x34.S⟩ : Y04), x55⟩ : Y0a)]) (zs := x60) hs 3 rfl 0 rfl UN33 EI65 rfl rfl (fun ok hA => (Y0U.one (T := Y0i) (show Y0i.R ok _ (⟨(⟨x34.f_Type, x34.N, x34.S⟩ : Y04), x55⟩ : Y0a) _ from ⟨[.int .i64 x34.f_Type, .int .i64 x34.N, bstr x34.S], [.slice a56 x55.length c58], rfl, ⟨[.int .i64 x34.f_Type], [.int .i64 x34.N, bstr x34.S], rfl, rfl, ⟨[.int .i64 x34.N], [bstr x34.S], rfl, rfl, rfl⟩⟩, (Y5M (hA.get 0 rfl))⟩))) hbx60 (by omega) hex60 (fun v61 w hs => ?_)
  obtain ⟨a62, n64, c63, rfl⟩ := hs.ownv3 3 rfl
  refine WL.fieldAddr (m := 4) h48_5 Y4X rfl ?_
  refine WL.store (vs := [.slice a62 n64 c63]) (cs' := [bstr x1.Name, .int .i64 x1.Kind, .int .i64 x1.f_Type, .int .i64 x1.At, .slice a62 n64 c63]) hs 4 rfl TI33 rfl rfl rfl rfl (Y0P rfl) (Nat.le_of_ble_eq_true rfl) rfl (fun w hs => ?_)
  refine WL.nil ?_
  have hr := Option.some.inj hf; subst hr
  exact ⟨_, _, _, hPs33, hSs33, a62, c63, n64, h48_4, h48_5, h48_15, (hs.mask [false, false, true, true, true, true]).pick []⟩
 refine W.seqK fun K65 hK65 => ?_
 refine W.region ?_
 refine WL.move (v := .slice a42 x35.length c43) rfl ?_
 refine WL.len (v := .slice a42 x35.length c43) rfl (Y10 UN81) ?_
 refine WL.move (v := .int .i64 0) rfl ?_
 refine WL.nil ?_
 refine hK65 _ _ ?_
 refine W.block ?_
 obtain ⟨bs72, hbs72, hfs72⟩ := Y0s hf
 refine W.loop hbs72 (fun s ρ w => match s with | (x67, x68) => ∃ (a69 : Option Addr), ∃ (c70 : Nat), ∃ (n71 : Nat), ρ 4 = .pointer (some ⟨g10, 0, none⟩) ∧ ρ 5 = .pointer (some ⟨g12, 0, none⟩) ∧ ρ 8 = .pointer (some ⟨g46, 0, none⟩) ∧ ρ 15 = .pointer (some ⟨r26, 0, none⟩) ∧ ρ 23 = .slice a42 x35.length c43 ∧ ρ 24 = .int .i64 (x35.length : Int) ∧ ρ 25 = .int .i64 x67 ∧ St ok (bz w0) w [vl (Y0b Y0v) x35 (.slice a42 x35.length c43)] [own tStr 9 (.slice a69 n71 c70) x68, blk g46 65 [.int .i64 x34.f_Type, .int .i64 x34.N, bstr x34.S, .slice a69 n71 c70], rng Y1C (Y0b Y0v) g25 r26 x24 lf2s33 none, own Y0i 65 (.slice a30 n32 c31) x29, blk g12 35 [bstr x1.Name, .int .i64 x1.Kind, .int .i64 x1.f_Type, .int .i64 x1.At, .slice a30 n32 c31], blk g10 35 ([bstr [], .int .i64 0, .int .i64 0, .int .i64 0, .slice none 0 0])]) ⟨none, 0, 0, h28_4, h28_5, rfl, h28_15, rfl, rfl, rfl, (hs.mask [true, true, false, true, true, true, true]).pick [0]⟩ ?_
 intro s ρ w os72 hI hf hbbs72
 obtain ⟨x67, x68⟩ := s
 obtain ⟨a69, c70, n71, h66_4, h66_5, h66_8, h66_15, h66_23, h66_24, h66_25, hs⟩ := hI
 unfold Y0z.l1 at hf
 refine W.seqK fun K73 hK73 => ?_
 refine W.region ?_
 refine WL.bin (v := .bool (decide (x67 < (x35.length : Int)))) h66_25 h66_24 (Y1n _ _ _) ?_
 refine WL.nil ?_
 refine hK73 _ _ ?_
 refine W.seqK fun K74 hK74 => ?_
 rcases iteE hf with ⟨hc75, hf⟩ | ⟨hc75, hf⟩
 {
 refine W.cond_true (Y02 rfl hc75) ?_
 refine W.skip ?_
 refine hK74 _ _ ?_
 refine W.seqK fun K76 hK76 => ?_
 refine W.block ?_
 refine W.seqK fun K77 hK77 => ?_
 refine W.region ?_
 obtain ⟨x78, hxx78, hf⟩ := Y0s hf
 refine WL.indexAddr hs 0 rfl UN81 Y6l h66_23 h66_25 hxx78 (fun ad79 hs => ?_)
 refine WL.loadP hs 0 rfl Y6l (.inl rfl) rfl (fun v80 hs => ?_)
 obtain ⟨cs81, hl82, rfl⟩ := hs.aggv (n := 4) 0 rfl rfl rfl
 refine WL.alloc hs ZV105 (fun g83 w hs => ?_)
 refine WL.storeAll (vs := cs81) hs 0 rfl Y6l rfl rfl rfl hl82 (hs.ones 0 rfl rfl) rfl (fun w hs => ?_)
 refine WL.nil ?_
 refine hK77 _ _ ?_
 refine W.region ?_
 refine WL.fieldAddr (m := 3) h66_8 Y4V rfl ?_
 refine WL.load1 (v := .slice a69 n71 c70) hs 2 rfl TI56 rfl rfl ?_
 refine WL.fieldAddr (m := 3) rfl FA105_1 rfl ?_
 refine WL.loadF (z := x78.f_object) Y3V hs 0 rfl 0 rfl rfl TI9 (.inr rfl) rfl rfl (fun v84 hs => ?_)
 obtain rfl := hs.str 0 rfl
 refine WL.buildSlice (n := 1) (vs := [(0, bstr x78.f_object)]) (cs := [bstr x78.f_object]) hs ⟨⟨rfl, rfl⟩, trivial⟩ (bls PS56 (by decide) rfl) (fun g85 w hs => ?_)
 obtain ⟨x86, hxx86, hf⟩ := Y0s hf
 obtain ⟨hbx86, hex86⟩ := appE hxx86
 refine WL.append (ys := [x78.f_object]) (zs := x86) hs 2 rfl 0 rfl UN56 EI9 rfl rfl (fun ok hA => (Y0U.one (T := tStr) rfl)) hbx86 (by omega) hex86 (fun v87 w hs => ?_)
 obtain ⟨a88, n90, c89, rfl⟩ := hs.ownv3 2 rfl
 refine WL.fieldAddr (m := 3) h66_8 Y4V rfl ?_
 refine WL.store (vs := [.slice a88 n90 c89]) (cs' := [.int .i64 x34.f_Type, .int .i64 x34.N, bstr x34.S, .slice a88 n90 c89]) hs 3 rfl TI56 rfl rfl rfl rfl (Y0P rfl) (Nat.le_of_ble_eq_true rfl) rfl (fun w hs => ?_)
 refine WL.nil ?_
 refine hK76 _ _ ?_
 refine W.region ?_
 obtain ⟨x91, ex91, hf⟩ := letE hf
 refine WL.bin (v := .int .i64 x91) h66_25 rfl (Y1V ex91 (Y1t _ _ _)) ?_
 refine WL.move (v := .int .i64 x91) rfl ?_
 refine WL.nil ?_
 exact ⟨_, (Option.some.inj hf).symm, a88, c89, n90, h66_4, h66_5, h66_8, h66_15, h66_23, h66_24, rfl, (hs.mask [false, false, true, true, true, true, true, true]).pick [3]⟩ }
 {
 refine W.cond_false (Y02 rfl hc75) ?_
 refine W.exit ?_
 have hr := Option.some.inj hf; subst hr
 have hr := hbbs72 _ rfl; subst hr
 have hf := hfs72
 exact Jk53 x68 a69 c70 n71 _ _ h66_4 h66_5 h66_8 h66_15 ((hs.mask [true, true, true, true, true, true]).pick []) hf } }
theorem Y0z.callc {ok : Nat → Prop} {w0 : World} {x1 : Y0c} {x5 : List Y0u} {v2 : Value} {a6 : Option Addr} {c7 : Nat} {r : Y0Y} (hf : Y0z x1 x5 = some r) (i0 : (vl Y08 x1 v2).holds ok w0) (i1 : (vl (Y0b Y0v) x5 (.slice a6 x5.length c7)).holds ok w0) :
  Calls Tryz.prog 34 #[v2, .slice a6 x5.length c7] w0 fun e w' => ∃ v, e = .returned v ∧ ∃ y : List Value, v = .agg y.toArray ∧ St ok (bz w0) w' [vl Y0m r (.agg y.toArray)] [] := by
 refine (Y0z.calls (ok := ok) (w0 := w0) (x1 := x1) (x5 := x5) hf i0 i1).mono ?_
 rintro e w' ⟨v, rfl, ⟨a93, n94, c95⟩, rfl, hs⟩
 obtain rfl := hs.ownLen 0 rfl
 have hs := hs.freezeOwn 0 rfl
 have hs := hs.add (it := vl Y0m (⟨(⟨r.Field.Name, r.Field.Kind, r.Field.f_Type, r.Field.At⟩ : Y0c), r.Entries⟩ : Y0Y) (.agg [bstr r.Field.Name, .int .i64 r.Field.Kind, .int .i64 r.Field.f_Type, .int .i64 r.Field.At, .slice a93 (r.Entries).length c95].toArray)) fun ok hA => Y2W (show Y0m.R ok _ _ _ from ⟨[bstr r.Field.Name, .int .i64 r.Field.Kind, .int .i64 r.Field.f_Type, .int .i64 r.Field.At], [.slice a93 (r.Entries).length c95], rfl, ⟨[bstr r.Field.Name], [.int .i64 r.Field.Kind, .int .i64 r.Field.f_Type, .int .i64 r.Field.At], rfl, rfl, ⟨[.int .i64 r.Field.Kind], [.int .i64 r.Field.f_Type, .int .i64 r.Field.At], rfl, rfl, ⟨[.int .i64 r.Field.f_Type], [.int .i64 r.Field.At], rfl, rfl, rfl⟩⟩⟩, (Y5M (hA.get 0 rfl))⟩) rfl
 exact ⟨_, rfl, [bstr r.Field.Name, .int .i64 r.Field.Kind, .int .i64 r.Field.f_Type, .int .i64 r.Field.At, .slice a93 (r.Entries).length c95], rfl, hs.pick [0]⟩
theorem Y1s.calls {ok : Nat → Prop} {w0 : World} {x1 : Y0c} {x5 : Y0N} {v2 : Value} {v6 : Value} {r : Y0Y} (hf : Y1s x1 x5 = some r) (i0 : (vl Y08 x1 v2).holds ok w0) (i1 : (vl Y0p x5 v6).holds ok w0) :
  Calls Tryz.prog 12 #[v2, v6] w0 fun e w' => ∃ v, e = .returned v ∧ ∃ y : List Value, v = .agg y.toArray ∧ St ok (bz w0) w' [vl Y0m r (.agg y.toArray)] [] := by
 unfold Y1s at hf
 refine Y0t (fn := Tryz.f12) (N := 11) Tryz.func12 rfl Tryz.ntmps12 rfl ?_
 have hs : St ok (bz w0) w0 [vl Y08 x1 v2, vl Y0p x5 v6] [] := St.init (All.cons i0 (All.cons i1 All.nil))
 clear i0 i1
 obtain ⟨cs3, hl4, rfl⟩ := hs.aggv (n := 4) 0 rfl rfl rfl
 obtain ⟨cs7, hl8, rfl⟩ := hs.aggv (n := 1) 1 rfl rfl rfl
 refine W.seqK fun K9 hK9 => ?_
 refine W.region ?_
 refine WL.box (vs := cs3) hs rfl rfl (fun g10 w hs => ?_)
 refine WL.box (vs := cs7) hs rfl rfl (fun g11 w hs => ?_)
 refine WL.alloc hs ZV35 (fun g12 w hs => ?_)
 refine WL.nil ?_
 refine hK9 _ _ ?_
 refine W.seqK fun K13 hK13 => ?_
 obtain ⟨x17, hxx17, hf⟩ := Y0s hf
 obtain ⟨x20, hxx20, hf⟩ := Y0s hf
 refine W.any (by kernel_rfl) 6 1 [true, true, true, true, true, true, false] rfl rfl (poAt [pv (.agg cs3.toArray), pv (.agg cs3.toArray), pv (.pointer (some ⟨g11, 0, none⟩)), pq (fun y : (Option Addr × Nat) => .slice y.1 (x5.Objects).length y.2) (fun v => [vl (Y0b Y0g) x5.Objects v]) (fun v => []), pq (fun y : (Option Addr × Nat) => .slice y.1 x17.length y.2) (fun v => [vl (Y0b Y0v) x17 v]) (fun v => []), pq (fun y : List Value => .agg y.toArray) (fun v => [vl Y0m x20 v]) (fun v => [])]) (Λ := [blk g12 35 ([bstr [], .int .i64 0, .int .i64 0, .int .i64 0, .slice none 0 0]), blk g11 25 cs7, blk g10 31 cs3]) hs (by kernel_rfl) (by kernel_rfl) (by kernel_rfl) ⟨⟨⟨⟨⟨⟨trivial, ?_⟩, ?_⟩, ?_⟩, ?_⟩, ?_⟩, ?_⟩ ?_
 {
 intro ρ w Γx Λx hs hu hp
 refine WL.loadAll hs (Λx.length + 2) (Y0q rfl) TI31 (hu 2 rfl) hl4 ?_
 exact WL.nil ⟨rfl, _, rfl, rfl, hs.cutG 0 0⟩ }
 {
 intro ρ w Γx Λx hs hu hp
 refine WL.loadAll hs (Λx.length + 2) (Y0q rfl) TI31 (hu 2 rfl) hl4 ?_
 exact WL.nil ⟨rfl, _, rfl, rfl, hs.cutG 0 0⟩ }
 {
 intro ρ w Γx Λx hs hu hp
 refine WL.fieldAddr (m := 0) (hu 3 rfl) Y5I rfl ?_
 exact WL.nil ⟨rfl, _, rfl, rfl, hs.cutG 0 0⟩ }
 {
 intro ρ w Γx Λx hs hu hp
 have e23 : ρ 7 = .pointer (some ⟨g11, 0, none⟩) := (hp 2 rfl).1
 refine WL.loadF (z := x5.Objects) Y1I hs (Λx.length + 1) (Y0q rfl) (Γx.length + 1) (Y0q rfl) rfl TI23 (.inr rfl) e23 rfl (fun v14 hs => ?_)
 obtain ⟨a15, c16, rfl⟩ := hs.slice 0 rfl
 have hs := hs.add (it := vl (Y0b Y0g) x5.Objects (.slice a15 (x5.Objects).length c16)) fun ok hA => hA.get 0 rfl
 exact WL.nil ⟨rfl, _, rfl, ⟨(a15, c16), rfl⟩, hs.cutG 1 1⟩ }
 {
 intro ρ w Γx Λx hs hu hp
 have e24 : ρ 6 = .agg cs3.toArray := (hp 1 rfl).1
 obtain ⟨⟨⟨a25, c26⟩, e27r⟩, hm28⟩ := hp 3 rfl
 have e27 : ρ 8 = .slice a25 (x5.Objects).length c26 := e27r
 rw [e27r] at hm28
 have hs := hs.memo1 (it := vl (Y0b Y0g) x5.Objects (.slice a25 (x5.Objects).length c26)) (List.mem_append.2 (.inl (hm28 _ (List.mem_of_getElem? (i := 0) rfl))))
 refine WL.call (vs := [.agg cs3.toArray, .slice a25 (x5.Objects).length c26]) hs FN35 ⟨e24, ⟨e27, trivial⟩⟩ (fun ok hA => Y0O.callc (x1 := x1) (x5 := x5.Objects) hxx17 (hA.get (Γx.length + 0 + 1) (Y3k rfl)) (hA.get 0 rfl)) ?_
 rintro ⟨a18, c19⟩ w hs
 have hs := hs.add (it := vl (Y0b Y0v) x17 (.slice a18 x17.length c19)) fun ok hA => hA.get 0 rfl
 exact WL.nil ⟨rfl, _, rfl, ⟨(a18, c19), rfl⟩, hs.cutG 1 2⟩ }
 {
 intro ρ w Γx Λx hs hu hp
 have e29 : ρ 5 = .agg cs3.toArray := (hp 0 rfl).1
 obtain ⟨⟨⟨a30, c31⟩, e32r⟩, hm33⟩ := hp 4 rfl
 have e32 : ρ 9 = .slice a30 x17.length c31 := e32r
 rw [e32r] at hm33
 have hs := hs.memo1 (it := vl (Y0b Y0v) x17 (.slice a30 x17.length c31)) (List.mem_append.2 (.inl (hm33 _ (List.mem_of_getElem? (i := 0) rfl))))
 refine WL.call (vs := [.agg cs3.toArray, .slice a30 x17.length c31]) hs FN34 ⟨e29, ⟨e32, trivial⟩⟩ (fun ok hA => Y0z.callc (x1 := x1) (x5 := x17) hxx20 (hA.get (Γx.length + 0 + 1) (Y3k rfl)) (hA.get 0 rfl)) ?_
 rintro cs21 w hs
 have hl22 := hs.agglen (n := 5) 0 rfl rfl rfl
 have hs := hs.add (it := vl Y0m x20 (.agg cs21.toArray)) fun ok hA => hA.get 0 rfl
 exact WL.nil ⟨rfl, _, rfl, ⟨cs21, rfl⟩, hs.cutG 1 2⟩ }
 {
 intro ρ w hs hu34 hp
 obtain ⟨⟨⟨⟨⟨⟨_, hp0_⟩, hp1_⟩, hp2_⟩, hp3_⟩, hp4_⟩, hp5_⟩ := hp
 have hs : St ok (bz w0) w [vl Y0m x20 (ρ 10), vl (Y0b Y0v) x17 (ρ 9), vl (Y0b Y0g) x5.Objects (ρ 8), vl Y08 x1 (.agg cs3.toArray), vl Y0p x5 (.agg cs7.toArray)] [blk g12 35 ([bstr [], .int .i64 0, .int .i64 0, .int .i64 0, .slice none 0 0]), blk g11 25 cs7, blk g10 31 cs3] := hs
 obtain ⟨cs35, e37⟩ := hp5_
 have e37 : ρ 10 = .agg cs35.toArray := e37
 try rw [e37] at hs
 obtain ⟨⟨a38, c39⟩, e40⟩ := hp4_
 have e40 : ρ 9 = .slice a38 x17.length c39 := e40
 try rw [e40] at hs
 obtain ⟨⟨a41, c42⟩, e43⟩ := hp3_
 have e43 : ρ 8 = .slice a41 (x5.Objects).length c42 := e43
 try rw [e43] at hs
 have e44 : ρ 7 = .pointer (some ⟨g11, 0, none⟩) := hp2_
 have e45 : ρ 6 = .agg cs3.toArray := hp1_
 have e46 : ρ 5 = .agg cs3.toArray := hp0_
 have hl36 := hs.agglen (n := 5) 0 rfl rfl rfl
 refine WA.step [6] (by kernel_rfl) (by simp) ⟨?_, trivial⟩
 refine WL.storeAll (vs := cs35) hs 0 rfl TI35 (hu34 4 rfl) e37 rfl hl36 (hs.ones 0 rfl rfl) rfl (fun w hs => ?_)
 refine WL.nil ⟨rfl, _, rfl, ?_⟩
 refine WA.done (by kernel_rfl) ?_
 refine hK13 _ _ ?_
 refine W.ret ?_
 have hr := Option.some.inj hf; subst hr
 exact ⟨_, Y0e rfl (Y2B hs 0 rfl TI35 (hu34 4 rfl) hl36), cs35, rfl, (hs.mask []).pick [0]⟩ }
theorem Y0J.calls {ok : Nat → Prop} {w0 : World} {x1 : Y0Y} {x5 : Y04} {x9 : Y04} {v2 : Value} {v6 : Value} {v10 : Value} {r : List (List UInt8)} (hf : Y0J x1 x5 x9 = some r) (i0 : (vl Y0m x1 v2).holds ok w0) (i1 : (vl Y09 x5 v6).holds ok w0) (i2 : (vl Y09 x9 v10).holds ok w0) :
  Calls Tryz.prog 24 #[v2, v6, v10] w0 fun e w' => ∃ v, e = .returned v ∧ ∃ y : (Option Addr × Nat × Nat), v = .slice y.1 y.2.1 y.2.2 ∧ St ok (bz w0) w' [] [own tStr 9 (.slice y.1 y.2.1 y.2.2) r] := by
 unfold Y0J at hf
 refine Y0t (fn := Tryz.f24) (N := 36) Tryz.func24 rfl Tryz.ntmps24 rfl ?_
 have hs : St ok (bz w0) w0 [vl Y0m x1 v2, vl Y09 x5 v6, vl Y09 x9 v10] [] := St.init (All.cons i0 (All.cons i1 (All.cons i2 All.nil)))
 clear i0 i1 i2
 obtain ⟨cs3, hl4, rfl⟩ := hs.aggv (n := 5) 0 rfl rfl rfl
 obtain ⟨cs7, hl8, rfl⟩ := hs.aggv (n := 3) 1 rfl rfl rfl
 obtain ⟨cs11, hl12, rfl⟩ := hs.aggv (n := 3) 2 rfl rfl rfl
 refine W.seqK fun K13 hK13 => ?_
 refine W.region ?_
 refine WL.box (vs := cs3) hs rfl rfl (fun g14 w hs => ?_)
 refine WL.box (vs := cs7) hs rfl rfl (fun g15 w hs => ?_)
 refine WL.box (vs := cs11) hs rfl rfl (fun g16 w hs => ?_)
 refine WL.assign (v := .slice none 0 0) rfl ?_
 refine WL.nil ?_
 refine hK13 _ _ ?_
 refine W.seqK fun K17 hK17 => ?_
 refine W.region ?_
 refine WL.assign (v := .slice none 0 0) rfl ?_
 refine WL.nil ?_
 refine hK17 _ _ ?_
 refine W.seqK fun K18 hK18 => ?_
 have hs := hs.ownNil tStr 9
 have Jk24 : ∀ (x20 : List (List UInt8)) (a21 : Option Addr) (c22 : Nat) (n23 : Nat) (ρ : Env) (w : World), ρ 7 = .slice a21 n23 c22 → St ok (bz w0) w [] [own tStr 9 (.slice a21 n23 c22) x20] → Y0J.j1 x20 = some r → K18 ρ w := by
  intro x20 a21 c22 n23 ρ w h19_7 hs hf
  refine hK18 _ _ ?_
  unfold Y0J.j1 at hf
  refine W.seqK fun K25 hK25 => ?_
  refine W.region ?_
  refine WL.move (v := .slice a21 n23 c22) h19_7 ?_
  obtain rfl := hs.ownLen 0 rfl
  have hs := hs.freezeOwn 0 rfl
  obtain ⟨x26, hxx26, hf⟩ := Y0s hf
  refine WL.call (vs := [.slice a21 x20.length c22]) hs FN44 ⟨rfl, trivial⟩ (fun ok hA => Y1G.calls (x1 := x20) hxx26 (hA.get 0 rfl)) ?_
  rintro ⟨a27, n28, c29⟩ w hs
  refine WL.assign (v := .slice a27 n28 c29) rfl ?_
  refine WL.nil ?_
  refine hK25 _ _ ?_
  refine W.ret ?_
  have hr := Option.some.inj hf; subst hr
  exact ⟨_, Y0e rfl rfl, (a27, n28, c29), rfl, (hs.mask [true]).pick []⟩
 refine W.seqK fun K30 hK30 => ?_
 refine W.region ?_
 refine WL.fieldAddr (m := 4) rfl Y4X rfl ?_
 refine WL.loadF (z := x1.Entries) Y1S hs 3 rfl 0 rfl rfl TI33 (.inr rfl) rfl rfl (fun v31 hs => ?_)
 obtain ⟨a32, c33, rfl⟩ := hs.slice 0 rfl
 refine WL.len (v := .slice a32 (x1.Entries).length c33) rfl (Y10 UN33) ?_
 refine WL.move (v := .int .i64 0) rfl ?_
 refine WL.nil ?_
 refine hK30 _ _ ?_
 refine W.block ?_
 obtain ⟨bs40, hbs40, hfs40⟩ := Y0s hf
 refine W.loop hbs40 (fun s ρ w => match s with | (x35, x39) => ∃ (a36 : Option Addr), ∃ (c37 : Nat), ∃ (n38 : Nat), ρ 4 = .pointer (some ⟨g15, 0, none⟩) ∧ ρ 5 = .pointer (some ⟨g16, 0, none⟩) ∧ ρ 7 = .slice a36 n38 c37 ∧ ρ 11 = .slice a32 (x1.Entries).length c33 ∧ ρ 12 = .int .i64 ((x1.Entries).length : Int) ∧ ρ 13 = .int .i64 x39 ∧ St ok (bz w0) w [vl (Y0b Y0i) x1.Entries (.slice a32 (x1.Entries).length c33), vl Y09 x9 (.agg cs11.toArray), vl Y09 x5 (.agg cs7.toArray)] [own tStr 9 (.slice a36 n38 c37) x35, blk g16 47 cs11, blk g15 47 cs7]) ⟨none, 0, 0, rfl, rfl, rfl, rfl, rfl, rfl, (hs.mask [true, true, true]).pick [0, 3, 2]⟩ ?_
 intro s ρ w os40 hI hf hbbs40
 obtain ⟨x35, x39⟩ := s
 obtain ⟨a36, c37, n38, h34_4, h34_5, h34_7, h34_11, h34_12, h34_13, hs⟩ := hI
 unfold Y0J.l1 at hf
 refine W.seqK fun K41 hK41 => ?_
 refine W.region ?_
 refine WL.bin (v := .bool (decide (x39 < ((x1.Entries).length : Int)))) h34_13 h34_12 (Y1n _ _ _) ?_
 refine WL.nil ?_
 refine hK41 _ _ ?_
 refine W.seqK fun K42 hK42 => ?_
 rcases iteE hf with ⟨hc43, hf⟩ | ⟨hc43, hf⟩
 {
 refine W.cond_true (Y02 rfl hc43) ?_
 refine W.skip ?_
 refine hK42 _ _ ?_
 refine W.seqK fun K44 hK44 => ?_
 have Jk50 : ∀ (x46 : List (List UInt8)) (a47 : Option Addr) (c48 : Nat) (n49 : Nat) (ρ : Env) (w : World), ρ 4 = .pointer (some ⟨g15, 0, none⟩) → ρ 5 = .pointer (some ⟨g16, 0, none⟩) → ρ 7 = .slice a47 n49 c48 → ρ 11 = .slice a32 (x1.Entries).length c33 → ρ 12 = .int .i64 ((x1.Entries).length : Int) → ρ 13 = .int .i64 x39 → St ok (bz w0) w [vl (Y0b Y0i) x1.Entries (.slice a32 (x1.Entries).length c33), vl Y09 x9 (.agg cs11.toArray), vl Y09 x5 (.agg cs7.toArray)] [own tStr 9 (.slice a47 n49 c48) x46, blk g16 47 cs11, blk g15 47 cs7] → Y0J.j2 x39 x46 = some os40 → K44 ρ w := by
  intro x46 a47 c48 n49 ρ w h45_4 h45_5 h45_7 h45_11 h45_12 h45_13 hs hf
  refine hK44 _ _ ?_
  unfold Y0J.j2 at hf
  refine W.region ?_
  obtain ⟨x51, ex51, hf⟩ := letE hf
  refine WL.bin (v := .int .i64 x51) h45_13 rfl (Y1V ex51 (Y1t _ _ _)) ?_
  refine WL.move (v := .int .i64 x51) rfl ?_
  refine WL.nil ?_
  exact ⟨_, (Option.some.inj hf).symm, a47, c48, n49, h45_4, h45_5, h45_7, h45_11, h45_12, rfl, (hs.mask [true, true, true]).pick [0, 1, 2]⟩
 refine W.block ?_
 refine W.seqK fun K52 hK52 => ?_
 refine W.region ?_
 obtain ⟨x53, hxx53, hf⟩ := Y0s hf
 refine WL.indexAddr hs 0 rfl UN33 TI65 h34_11 h34_13 hxx53 (fun ad54 hs => ?_)
 refine WL.loadP hs 0 rfl TI65 (.inl rfl) rfl (fun v55 hs => ?_)
 obtain ⟨cs56, hl57, rfl⟩ := hs.aggv (n := 4) 0 rfl rfl rfl
 refine WL.alloc hs ZV65 (fun g58 w hs => ?_)
 refine WL.storeAll (vs := cs56) hs 0 rfl TI65 rfl rfl rfl hl57 (hs.ones 0 rfl rfl) rfl (fun w hs => ?_)
 refine WL.nil ?_
 refine hK52 _ _ ?_
 refine W.seqK fun K59 hK59 => ?_
 have Jk62 : ∀ (x61 : Bool) (ρ : Env) (w : World), ρ 4 = .pointer (some ⟨g15, 0, none⟩) → ρ 5 = .pointer (some ⟨g16, 0, none⟩) → ρ 7 = .slice a36 n38 c37 → ρ 9 = .pointer (some ⟨g58, 0, none⟩) → ρ 11 = .slice a32 (x1.Entries).length c33 → ρ 12 = .int .i64 ((x1.Entries).length : Int) → ρ 13 = .int .i64 x39 → ρ 28 = .bool x61 → St ok (bz w0) w [vl (Y0b Y0i) x1.Entries (.slice a32 (x1.Entries).length c33), vl Y0i x53 (.agg cs56.toArray), vl Y09 x9 (.agg cs11.toArray), vl Y09 x5 (.agg cs7.toArray)] [blk g58 65 cs56, own tStr 9 (.slice a36 n38 c37) x35, blk g16 47 cs11, blk g15 47 cs7] → Y0J.j3 x35 x39 x53 x61 = some os40 → K59 ρ w := by
  intro x61 ρ w h60_4 h60_5 h60_7 h60_9 h60_11 h60_12 h60_13 h60_28 hs hf
  refine hK59 _ _ ?_
  unfold Y0J.j3 at hf
  rcases iteE hf with ⟨hc63, hf⟩ | ⟨hc63, hf⟩
  {
  refine W.cond_true (Y02 h60_28 hc63) ?_
  refine W.region ?_
  refine WL.move (v := .slice a36 n38 c37) h60_7 ?_
  refine WL.fieldAddr (m := 3) h60_9 Y4V rfl ?_
  refine WL.loadF (z := x53.Objects) Y2b hs 0 rfl 1 rfl rfl TI56 (.inr rfl) rfl rfl (fun v64 hs => ?_)
  obtain ⟨a65, c66, rfl⟩ := hs.slice 0 rfl
  obtain ⟨x67, hxx67, hf⟩ := Y0s hf
  obtain ⟨hbx67, hex67⟩ := appE hxx67
  refine WL.appendS (zs := x67) hs 1 rfl 0 rfl UN56 UN56 EI9 rfl rfl hbx67 (by omega) hex67 (fun v68 w hs => ?_)
  obtain ⟨a69, n71, c70, rfl⟩ := hs.ownv3 1 rfl
  refine WL.assign (v := .slice a69 n71 c70) rfl ?_
  refine WL.nil ?_
  exact Jk50 x67 a69 c70 n71 _ _ h60_4 h60_5 rfl h60_11 h60_12 h60_13 ((hs.mask [false, true, true, true]).pick [1, 3, 4]) hf }
  {
  refine W.cond_false (Y02 h60_28 hc63) ?_
  refine W.skip ?_
  exact Jk50 x35 a36 c37 n38 _ _ h60_4 h60_5 h60_7 h60_11 h60_12 h60_13 ((hs.mask [false, true, true, true]).pick [0, 2, 3]) hf }
 refine W.region ?_
 refine WL.loadAll hs 3 rfl TI47 h34_4 hl8 ?_
 refine WL.fieldAddr (m := 0) rfl Y4W rfl ?_
 refine WL.loadF (z := x53.Key) Y24 hs 0 rfl 0 rfl rfl TI47 (.inl rfl) rfl rfl (fun v72 hs => ?_)
 obtain ⟨cs73, hl74, rfl⟩ := hs.aggv (n := 3) 0 rfl rfl rfl
 obtain ⟨x75, hxx75, hf⟩ := Y0s hf
 refine WL.call (vs := [.agg cs7.toArray, .agg cs73.toArray]) hs FN38 ⟨rfl, ⟨rfl, trivial⟩⟩ (fun ok hA => Y1Z.calls (x1 := x5) (x5 := x53.Key) hxx75 (hA.get 5 rfl) (hA.get 0 rfl)) ?_
 rintro _ w hs
 refine WL.bin (v := .bool (decide (x75 ≤ 0))) rfl rfl (Y8X _ _ _) ?_
 refine WL.move (v := .bool (decide (x75 ≤ 0))) rfl ?_
 rcases iteE hf with ⟨hc76, hf⟩ | ⟨hc76, hf⟩
 {
 refine WL.fieldAddr (m := 0) rfl Y4W rfl ?_ (hg := (Y01 rfl rfl (Y02 rfl hc76)).trans rfl)
 refine WL.loadF (z := x53.Key) Y24 hs 0 rfl 1 rfl rfl TI47 (.inl rfl) rfl rfl (fun v77 hs => ?_) (hg := (Y01 rfl rfl (Y02 rfl hc76)).trans rfl)
 obtain ⟨cs78, hl79, rfl⟩ := hs.aggv (n := 3) 0 rfl rfl rfl
 refine WL.loadAll hs 2 rfl TI47 h34_5 hl12 ?_ (hg := (Y01 rfl rfl (Y02 rfl hc76)).trans rfl)
 obtain ⟨x80, hxx80, hf⟩ := Y0s hf
 refine WL.call (vs := [.agg cs78.toArray, .agg cs11.toArray]) hs FN38 ⟨rfl, ⟨rfl, trivial⟩⟩ (fun ok hA => Y1Z.calls (x1 := x53.Key) (x5 := x9) hxx80 (hA.get 0 rfl) (hA.get 5 rfl)) ?_ (hg := (Y01 rfl rfl (Y02 rfl hc76)).trans rfl)
 rintro _ w hs
 refine WL.bin (v := .bool (decide (x80 ≤ 0))) rfl rfl (Y8X _ _ _) ?_ (hg := (Y01 rfl rfl (Y02 rfl hc76)).trans rfl)
 refine WL.pickT (v := .bool (decide (x80 ≤ 0))) (Y02 rfl hc76) rfl ?_
 refine WL.nil ?_
 exact Jk62 (decide (x80 ≤ 0)) _ _ h34_4 h34_5 h34_7 rfl h34_11 h34_12 h34_13 rfl ((hs.mask [true, true, true, true]).pick [4, 2, 5, 6]) hf }
 {
 refine WL.pass ((Y01 rfl rfl (Y02 rfl hc76)).trans rfl) rfl ?_
 refine WL.pass ((Y01 rfl rfl (Y02 rfl hc76)).trans rfl) rfl ?_
 refine WL.pass ((Y01 rfl rfl (Y02 rfl hc76)).trans rfl) rfl ?_
 refine WL.pass ((Y01 rfl rfl (Y02 rfl hc76)).trans rfl) rfl ?_
 refine WL.pass ((Y01 rfl rfl (Y02 rfl hc76)).trans rfl) rfl ?_
 refine WL.pickF (v := .bool false) (Y02 rfl hc76) rfl ?_
 refine WL.nil ?_
 exact Jk62 false _ _ h34_4 h34_5 h34_7 rfl h34_11 h34_12 h34_13 rfl ((hs.mask [true, true, true, true]).pick [3, 1, 4, 5]) hf } }
 {
 refine W.cond_false (Y02 rfl hc43) ?_
 refine W.exit ?_
 have hr := Option.some.inj hf; subst hr
 have hr := hbbs40 _ rfl; subst hr
 have hf := hfs40
 exact Jk24 x35 a36 c37 n38 _ _ h34_7 ((hs.mask [true]).pick []) hf }
theorem Y21.calls {ok : Nat → Prop} {w0 : World} {x1 : Y0Y} {x5 : Y04} {v2 : Value} {v6 : Value} {r : List (List UInt8)} (hf : Y21 x1 x5 = some r) (i0 : (vl Y0m x1 v2).holds ok w0) (i1 : (vl Y09 x5 v6).holds ok w0) :
  Calls Tryz.prog 22 #[v2, v6] w0 fun e w' => ∃ v, e = .returned v ∧ ∃ y : (Option Addr × Nat × Nat), v = .slice y.1 y.2.1 y.2.2 ∧ St ok (bz w0) w' [] [own tStr 9 (.slice y.1 y.2.1 y.2.2) r] := by
 unfold Y21 at hf
 refine Y0t (fn := Tryz.f22) (N := 9) Tryz.func22 rfl Tryz.ntmps22 rfl ?_
 have hs : St ok (bz w0) w0 [vl Y0m x1 v2, vl Y09 x5 v6] [] := St.init (All.cons i0 (All.cons i1 All.nil))
 clear i0 i1
 obtain ⟨cs3, hl4, rfl⟩ := hs.aggv (n := 5) 0 rfl rfl rfl
 obtain ⟨cs7, hl8, rfl⟩ := hs.aggv (n := 3) 1 rfl rfl rfl
 refine W.seqK fun K9 hK9 => ?_
 refine W.region ?_
 refine WL.box (vs := cs3) hs rfl rfl (fun g10 w hs => ?_)
 refine WL.box (vs := cs7) hs rfl rfl (fun g11 w hs => ?_)
 refine WL.assign (v := .slice none 0 0) rfl ?_
 refine WL.nil ?_
 refine hK9 _ _ ?_
 refine W.seqK fun K12 hK12 => ?_
 refine W.region ?_
 refine WL.loadAll hs 1 rfl TI35 rfl hl4 ?_
 refine WL.loadAll hs 0 rfl TI47 rfl hl8 ?_
 refine WL.loadAll hs 0 rfl TI47 rfl hl8 ?_
 obtain ⟨x13, hxx13, hf⟩ := Y0s hf
 refine WL.call (vs := [.agg cs3.toArray, .agg cs7.toArray, .agg cs7.toArray]) hs FN24 ⟨rfl, ⟨rfl, ⟨rfl, trivial⟩⟩⟩ (fun ok hA => Y0J.calls (x1 := x1) (x5 := x5) (x9 := x5) hxx13 (hA.get 0 rfl) (hA.get 1 rfl) (hA.get 1 rfl)) ?_
 rintro ⟨a14, n15, c16⟩ w hs
 refine WL.assign (v := .slice a14 n15 c16) rfl ?_
 refine WL.nil ?_
 refine hK12 _ _ ?_
 refine W.ret ?_
 have hr := Option.some.inj hf; subst hr
 exact ⟨_, Y0e rfl rfl, (a14, n15, c16), rfl, (hs.mask [true]).pick []⟩
end
section
open Go Go.RowKit Go.Proofs.YtpfgdjfiimknlaaGreatL
set_option maxRecDepth 100000
set_option maxHeartbeats 4000000
theorem Y0I.calls {ok : Nat → Prop} {w0 : World}   {r : Bool} (hf : Y0I = some r)  :
  Calls Tryz.prog 18 #[] w0 fun e w' => ∃ v, e = .returned v ∧ ∃ y : Unit, v = .bool r ∧ St ok (bz w0) w' [] [] := by
 unfold Y0I at hf
 refine Y0t (fn := Tryz.f18) (N := 77) Tryz.func18 rfl Tryz.ntmps18 rfl ?_
 have hs : St ok (bz w0) w0 [] [] := St.init All.nil
 refine W.seqK fun K1 hK1 => ?_
 refine W.region ?_
 refine WL.assign (v := .bool false) rfl ?_
 refine WL.nil ?_
 refine hK1 _ _ ?_
 refine W.seqK fun K2 hK2 => ?_
 refine W.region ?_
 refine WL.build (vs := []) (cs := [.slice none 0 0]) trivial (bld PL25 rfl) ?_
 refine WL.alloc hs ZV25 (fun g3 w hs => ?_)
 refine WL.storeAll (vs := [.slice none 0 0]) hs 0 rfl TI25 rfl rfl rfl rfl (Y0P rfl) rfl (fun w hs => ?_)
 refine WL.nil ?_
 refine hK2 _ _ ?_
 refine W.seqK fun K4 hK4 => ?_
 have Jk9 : ∀ (x6 : List Y0f) (a7 : Option Addr) (c8 : Nat) (ρ : Env) (w : World), ρ 1 = .pointer (some ⟨g3, 0, none⟩) → St ok (bz w0) w [vl (Y0b Y0g) x6 (.slice a7 x6.length c8)] [blk g3 25 [.slice a7 x6.length c8]] → Y0I.j2 x6 = some r → K4 ρ w := by
  intro x6 a7 c8 ρ w h5_1 hs hf
  refine hK4 _ _ ?_
  unfold Y0I.j2 at hf
  refine W.seqK fun K10 hK10 => ?_
  refine W.region ?_
  refine WL.build (vs := [(0, bstr ([111, 119, 110, 101, 114] : List UInt8)), (1, .int .i64 1), (2, .int .i64 2)]) (cs := [bstr ([111, 119, 110, 101, 114] : List UInt8), .int .i64 1, .int .i64 2, .int .i64 0]) ⟨⟨rfl, rfl⟩, ⟨⟨rfl, rfl⟩, ⟨⟨rfl, rfl⟩, trivial⟩⟩⟩ (bld PL31 rfl) ?_
  refine WL.loadN (vs := [.slice a7 x6.length c8]) hs 0 rfl TI25 h5_1 rfl rfl ?_
  have hs := hs.add (it := vl Y08 (⟨([111, 119, 110, 101, 114] : List UInt8), 1, 2, 0⟩ : Y0c) (.agg ([bstr ([111, 119, 110, 101, 114] : List UInt8), .int .i64 1, .int .i64 2, .int .i64 0]).toArray)) fun ok hA => Y2W (show Y08.R ok _ _ _ from ⟨([bstr ([111, 119, 110, 101, 114] : List UInt8)]), [.int .i64 1, .int .i64 2, .int .i64 0], rfl, rfl, ⟨[.int .i64 1], [.int .i64 2, .int .i64 0], rfl, rfl, ⟨[.int .i64 2], [.int .i64 0], rfl, rfl, rfl⟩⟩⟩) rfl
  have hs := hs.add (it := vl Y0p (⟨x6⟩ : Y0N) (.agg [.slice a7 x6.length c8].toArray)) fun ok hA => Y2W ((Y5M (hA.get 1 rfl))) rfl
  obtain ⟨x11, hxx11, hf⟩ := Y0s hf
  refine WL.call (vs := [.agg ([bstr ([111, 119, 110, 101, 114] : List UInt8), .int .i64 1, .int .i64 2, .int .i64 0] : List Value).toArray, .agg ([.slice a7 x6.length c8] : List Value).toArray]) hs FN12 ⟨rfl, ⟨rfl, trivial⟩⟩ (fun ok hA => Y1s.calls (x1 := (⟨([111, 119, 110, 101, 114] : List UInt8), 1, 2, 0⟩ : Y0c)) (x5 := (⟨x6⟩ : Y0N)) hxx11 (hA.get 1 rfl) (hA.get 0 rfl)) ?_
  rintro cs12 w hs
  have hl13 := hs.agglen (n := 5) 0 rfl rfl rfl
  refine WL.alloc hs ZV35 (fun g14 w hs => ?_)
  refine WL.storeAll (vs := cs12) hs 0 rfl TI35 rfl rfl rfl hl13 (hs.ones 0 rfl rfl) rfl (fun w hs => ?_)
  refine WL.nil ?_
  refine hK10 _ _ ?_
  refine W.seqK fun K15 hK15 => ?_
  refine W.region ?_
  refine WL.loadAll hs 0 rfl TI35 rfl hl13 ?_
  refine WL.build (vs := [(0, .int .i64 2), (2, bstr ([97, 110, 110] : List UInt8))]) (cs := [.int .i64 2, .int .i64 0, bstr ([97, 110, 110] : List UInt8)]) ⟨⟨rfl, rfl⟩, ⟨⟨rfl, rfl⟩, trivial⟩⟩ (bld PL47 rfl) ?_
  have hs := hs.add (it := vl Y09 (⟨2, 0, ([97, 110, 110] : List UInt8)⟩ : Y04) (.agg ([.int .i64 2, .int .i64 0, bstr ([97, 110, 110] : List UInt8)]).toArray)) fun ok hA => Y2W (show Y09.R ok _ _ _ from ⟨[.int .i64 2], ([.int .i64 0, bstr ([97, 110, 110] : List UInt8)]), rfl, rfl, ⟨[.int .i64 0], ([bstr ([97, 110, 110] : List UInt8)]), rfl, rfl, rfl⟩⟩) rfl
  obtain ⟨x16, hxx16, hf⟩ := Y0s hf
  refine WL.call (vs := [.agg cs12.toArray, .agg ([.int .i64 2, .int .i64 0, bstr ([97, 110, 110] : List UInt8)] : List Value).toArray]) hs FN22 ⟨rfl, ⟨rfl, trivial⟩⟩ (fun ok hA => Y21.calls (x1 := x11) (x5 := (⟨2, 0, ([97, 110, 110] : List UInt8)⟩ : Y04)) hxx16 (hA.get 1 rfl) (hA.get 0 rfl)) ?_
  rintro ⟨a17, n18, c19⟩ w hs
  refine WL.assign (v := .slice a17 n18 c19) rfl ?_
  refine WL.nil ?_
  refine hK15 _ _ ?_
  refine W.seqK fun K20 hK20 => ?_
  refine W.region ?_
  refine WL.loadAll hs 1 rfl TI35 rfl hl13 ?_
  refine WL.build (vs := [(0, .int .i64 2), (2, bstr ([98] : List UInt8))]) (cs := [.int .i64 2, .int .i64 0, bstr ([98] : List UInt8)]) ⟨⟨rfl, rfl⟩, ⟨⟨rfl, rfl⟩, trivial⟩⟩ (bld PL47 rfl) ?_
  refine WL.build (vs := [(0, .int .i64 2), (2, bstr ([99] : List UInt8))]) (cs := [.int .i64 2, .int .i64 0, bstr ([99] : List UInt8)]) ⟨⟨rfl, rfl⟩, ⟨⟨rfl, rfl⟩, trivial⟩⟩ (bld PL47 rfl) ?_
  have hs := hs.add (it := vl Y09 (⟨2, 0, ([98] : List UInt8)⟩ : Y04) (.agg ([.int .i64 2, .int .i64 0, bstr ([98] : List UInt8)]).toArray)) fun ok hA => Y2W (show Y09.R ok _ _ _ from ⟨[.int .i64 2], ([.int .i64 0, bstr ([98] : List UInt8)]), rfl, rfl, ⟨[.int .i64 0], ([bstr ([98] : List UInt8)]), rfl, rfl, rfl⟩⟩) rfl
  have hs := hs.add (it := vl Y09 (⟨2, 0, ([99] : List UInt8)⟩ : Y04) (.agg ([.int .i64 2, .int .i64 0, bstr ([99] : List UInt8)]).toArray)) fun ok hA => Y2W (show Y09.R ok _ _ _ from ⟨[.int .i64 2], ([.int .i64 0, bstr ([99] : List UInt8)]), rfl, rfl, ⟨[.int .i64 0], ([bstr ([99] : List UInt8)]), rfl, rfl, rfl⟩⟩) rfl
  obtain ⟨x21, hxx21, hf⟩ := Y0s hf
  refine WL.call (vs := [.agg cs12.toArray, .agg ([.int .i64 2, .int .i64 0, bstr ([98] : List UInt8)] : List Value).toArray, .agg ([.int .i64 2, .int .i64 0, bstr ([99] : List UInt8)] : List Value).toArray]) hs FN24 ⟨rfl, ⟨rfl, ⟨rfl, trivial⟩⟩⟩ (fun ok hA => Y0J.calls (x1 := x11) (x5 := (⟨2, 0, ([98] : List UInt8)⟩ : Y04)) (x9 := (⟨2, 0, ([99] : List UInt8)⟩ : Y04)) hxx21 (hA.get 3 rfl) (hA.get 1 rfl) (hA.get 0 rfl)) ?_
  rintro ⟨a22, n23, c24⟩ w hs
  refine WL.assign (v := .slice a22 n23 c24) rfl ?_
  refine WL.nil ?_
  refine hK20 _ _ ?_
  refine W.seqK fun K25 hK25 => ?_
  have Jk28 : ∀ (x27 : Bool) (ρ : Env) (w : World), ρ 0 = .bool x27 → St ok (bz w0) w [] [] → Y0I.j1 x27 = some r → K25 ρ w := by
   intro x27 ρ w h26_0 hs hf
   refine hK25 _ _ ?_
   unfold Y0I.j1 at hf
   refine W.ret ?_
   have hr := Option.some.inj hf; subst hr
   exact ⟨_, Y0e rfl h26_0, (), rfl, (hs.mask []).pick []⟩
  refine W.region ?_
  refine WL.fieldAddr (m := 4) rfl Y4X rfl ?_
  refine WL.loadF (z := x11.Entries) Y1S hs 2 rfl 3 rfl rfl TI33 (.inr rfl) rfl rfl (fun v29 hs => ?_)
  obtain ⟨a30, c31, rfl⟩ := hs.slice 0 rfl
  refine WL.len (v := .slice a30 (x11.Entries).length c31) rfl (Y10 UN33) ?_
  refine WL.bin (v := .bool (((x11.Entries).length : Int) == 2)) rfl rfl (Y1P _ _ _) ?_
  refine WL.move (v := .bool (((x11.Entries).length : Int) == 2)) rfl ?_
  rcases iteE hf with ⟨hc32, hf⟩ | ⟨hc32, hf⟩
  {
  refine WL.move (v := .slice a17 n18 c19) rfl ?_ (hg := (Y01 rfl rfl (Y02 rfl hc32)).trans rfl)
  refine WL.len (v := .slice a17 n18 c19) rfl (Y2M hs 1 rfl UN56) ?_ (hg := (Y01 rfl rfl (Y02 rfl hc32)).trans rfl)
  refine WL.bin (v := .bool ((x16.length : Int) == 2)) rfl rfl (Y1P _ _ _) ?_ (hg := (Y01 rfl rfl (Y02 rfl hc32)).trans rfl)
  refine WL.pickT (v := .bool ((x16.length : Int) == 2)) (Y02 rfl hc32) rfl ?_
  refine WL.move (v := .bool ((x16.length : Int) == 2)) rfl ?_
  rcases iteE hf with ⟨hc33, hf⟩ | ⟨hc33, hf⟩
  {
  refine WL.move (v := .slice a17 n18 c19) rfl ?_ (hg := (Y01 rfl rfl (Y02 rfl hc33)).trans rfl)
  obtain ⟨x34, hxx34, hf⟩ := Y0s hf
  refine WL.indexAddrO hs 1 rfl UN56 TI9 rfl rfl hxx34 (fun ad35 hatad35 => ?_) (hg := (Y01 rfl rfl (Y02 rfl hc33)).trans rfl)
  refine WL.loadO hs 1 rfl TI9 (.inr rfl) hatad35 hxx34 rfl (fun v36 hs => ?_) (hg := (Y01 rfl rfl (Y02 rfl hc33)).trans rfl)
  obtain rfl := hs.str 0 rfl
  refine WL.binS (v := .bool (x34 == ([97] : List UInt8))) rfl rfl (Y3N _ _) ?_ (hg := (Y01 rfl rfl (Y02 rfl hc33)).trans rfl)
  refine WL.pickT (v := .bool (x34 == ([97] : List UInt8))) (Y02 rfl hc33) rfl ?_
  refine WL.move (v := .bool (x34 == ([97] : List UInt8))) rfl ?_
  rcases iteE hf with ⟨hc37, hf⟩ | ⟨hc37, hf⟩
  {
  refine WL.move (v := .slice a17 n18 c19) rfl ?_ (hg := (Y01 rfl rfl (Y02 rfl hc37)).trans rfl)
  obtain ⟨x38, hxx38, hf⟩ := Y0s hf
  refine WL.indexAddrO hs 1 rfl UN56 TI9 rfl rfl hxx38 (fun ad39 hatad39 => ?_) (hg := (Y01 rfl rfl (Y02 rfl hc37)).trans rfl)
  refine WL.loadO hs 1 rfl TI9 (.inr rfl) hatad39 hxx38 rfl (fun v40 hs => ?_) (hg := (Y01 rfl rfl (Y02 rfl hc37)).trans rfl)
  obtain rfl := hs.str 0 rfl
  refine WL.binS (v := .bool (x38 == ([98] : List UInt8))) rfl rfl (Y3N _ _) ?_ (hg := (Y01 rfl rfl (Y02 rfl hc37)).trans rfl)
  refine WL.pickT (v := .bool (x38 == ([98] : List UInt8))) (Y02 rfl hc37) rfl ?_
  refine WL.move (v := .bool (x38 == ([98] : List UInt8))) rfl ?_
  rcases iteE hf with ⟨hc41, hf⟩ | ⟨hc41, hf⟩
  {
  refine WL.move (v := .slice a22 n23 c24) rfl ?_ (hg := (Y01 rfl rfl (Y02 rfl hc41)).trans rfl)
  refine WL.len (v := .slice a22 n23 c24) rfl (Y2M hs 0 rfl UN56) ?_ (hg := (Y01 rfl rfl (Y02 rfl hc41)).trans rfl)
  refine WL.bin (v := .bool ((x21.length : Int) == 1)) rfl rfl (Y1P _ _ _) ?_ (hg := (Y01 rfl rfl (Y02 rfl hc41)).trans rfl)
  refine WL.pickT (v := .bool ((x21.length : Int) == 1)) (Y02 rfl hc41) rfl ?_
  refine WL.move (v := .bool ((x21.length : Int) == 1)) rfl ?_
  rcases iteE hf with ⟨hc42, hf⟩ | ⟨hc42, hf⟩
  {
  refine WL.move (v := .slice a22 n23 c24) rfl ?_ (hg := (Y01 rfl rfl (Y02 rfl hc42)).trans rfl)
  obtain ⟨x43, hxx43, hf⟩ := Y0s hf
  refine WL.indexAddrO hs 0 rfl UN56 TI9 rfl rfl hxx43 (fun ad44 hatad44 => ?_) (hg := (Y01 rfl rfl (Y02 rfl hc42)).trans rfl)
  refine WL.loadO hs 0 rfl TI9 (.inr rfl) hatad44 hxx43 rfl (fun v45 hs => ?_) (hg := (Y01 rfl rfl (Y02 rfl hc42)).trans rfl)
  obtain rfl := hs.str 0 rfl
  refine WL.binS (v := .bool (x43 == ([99] : List UInt8))) rfl rfl (Y3N _ _) ?_ (hg := (Y01 rfl rfl (Y02 rfl hc42)).trans rfl)
  refine WL.pickT (v := .bool (x43 == ([99] : List UInt8))) (Y02 rfl hc42) rfl ?_
  refine WL.move (v := .bool (x43 == ([99] : List UInt8))) rfl ?_
  rcases iteE hf with ⟨hc46, hf⟩ | ⟨hc46, hf⟩
  {
  refine WL.loadAll hs 2 rfl TI35 rfl hl13 ?_ (hg := (Y01 rfl rfl (Y02 rfl hc46)).trans rfl)
  refine WL.build (vs := []) (cs := [.int .i64 0, .int .i64 0, bstr []]) trivial (bld PL47 rfl) ?_ (hg := (Y01 rfl rfl (Y02 rfl hc46)).trans rfl)
  have hs := hs.add (it := vl Y09 (⟨0, 0, []⟩ : Y04) (.agg ([.int .i64 0, .int .i64 0, bstr []]).toArray)) fun ok hA => Y2W (show Y09.R ok _ _ _ from ⟨[.int .i64 0], ([.int .i64 0, bstr []]), rfl, rfl, ⟨[.int .i64 0], ([bstr []]), rfl, rfl, rfl⟩⟩) rfl
  obtain ⟨x47, hxx47, hf⟩ := Y0s hf
  refine WL.call (vs := [.agg cs12.toArray, .agg ([.int .i64 0, .int .i64 0, bstr []] : List Value).toArray]) hs FN22 ⟨rfl, ⟨rfl, trivial⟩⟩ (fun ok hA => Y21.calls (x1 := x11) (x5 := (⟨0, 0, []⟩ : Y04)) hxx47 (hA.get 8 rfl) (hA.get 0 rfl)) ?_ (hg := (Y01 rfl rfl (Y02 rfl hc46)).trans rfl)
  rintro ⟨a48, n49, c50⟩ w hs
  refine WL.len (v := .slice a48 n49 c50) rfl (Y2M hs 0 rfl UN56) ?_ (hg := (Y01 rfl rfl (Y02 rfl hc46)).trans rfl)
  refine WL.bin (v := .bool ((x47.length : Int) == 0)) rfl rfl (Y1P _ _ _) ?_ (hg := (Y01 rfl rfl (Y02 rfl hc46)).trans rfl)
  refine WL.pickT (v := .bool ((x47.length : Int) == 0)) (Y02 rfl hc46) rfl ?_
  refine WL.assign (v := .bool ((x47.length : Int) == 0)) rfl ?_
  refine WL.nil ?_
  exact Jk28 ((x47.length : Int) == 0) _ _ rfl ((hs.mask []).pick []) hf }
  {
  refine WL.pass ((Y01 rfl rfl (Y02 rfl hc46)).trans rfl) rfl ?_
  refine WL.pass ((Y01 rfl rfl (Y02 rfl hc46)).trans rfl) rfl ?_
  refine WL.pass ((Y01 rfl rfl (Y02 rfl hc46)).trans rfl) rfl ?_
  refine WL.pass ((Y01 rfl rfl (Y02 rfl hc46)).trans rfl) rfl ?_
  refine WL.pass ((Y01 rfl rfl (Y02 rfl hc46)).trans rfl) rfl ?_
  refine WL.pickF (v := .bool false) (Y02 rfl hc46) rfl ?_
  refine WL.assign (v := .bool false) rfl ?_
  refine WL.nil ?_
  exact Jk28 false _ _ rfl ((hs.mask []).pick []) hf } }
  {
  refine WL.pass ((Y01 rfl rfl (Y02 rfl hc42)).trans rfl) rfl ?_
  refine WL.pass ((Y01 rfl rfl (Y02 rfl hc42)).trans rfl) rfl ?_
  refine WL.pass ((Y01 rfl rfl (Y02 rfl hc42)).trans rfl) rfl ?_
  refine WL.pass ((Y01 rfl rfl (Y02 rfl hc42)).trans rfl) rfl ?_
  refine WL.pickF (v := .bool false) (Y02 rfl hc42) rfl ?_
  refine WL.move (v := .bool false) rfl ?_
  refine WL.pass ((Y01 rfl rfl rfl).trans rfl) rfl ?_
  refine WL.pass ((Y01 rfl rfl rfl).trans rfl) rfl ?_
  refine WL.pass ((Y01 rfl rfl rfl).trans rfl) rfl ?_
  refine WL.pass ((Y01 rfl rfl rfl).trans rfl) rfl ?_
  refine WL.pass ((Y01 rfl rfl rfl).trans rfl) rfl ?_
  refine WL.pickF (v := .bool false) rfl rfl ?_
  refine WL.assign (v := .bool false) rfl ?_
  refine WL.nil ?_
  exact Jk28 false _ _ rfl ((hs.mask []).pick []) hf } }
  {
  refine WL.pass ((Y01 rfl rfl (Y02 rfl hc41)).trans rfl) rfl ?_
  refine WL.pass ((Y01 rfl rfl (Y02 rfl hc41)).trans rfl) rfl ?_
  refine WL.pass ((Y01 rfl rfl (Y02 rfl hc41)).trans rfl) rfl ?_
  refine WL.pickF (v := .bool false) (Y02 rfl hc41) rfl ?_
  refine WL.move (v := .bool false) rfl ?_
  refine WL.pass ((Y01 rfl rfl rfl).trans rfl) rfl ?_
  refine WL.pass ((Y01 rfl rfl rfl).trans rfl) rfl ?_
  refine WL.pass ((Y01 rfl rfl rfl).trans rfl) rfl ?_
  refine WL.pass ((Y01 rfl rfl rfl).trans rfl) rfl ?_
  refine WL.pickF (v := .bool false) rfl rfl ?_
  refine WL.move (v := .bool false) rfl ?_
  refine WL.pass ((Y01 rfl rfl rfl).trans rfl) rfl ?_
  refine WL.pass ((Y01 rfl rfl rfl).trans rfl) rfl ?_
  refine WL.pass ((Y01 rfl rfl rfl).trans rfl) rfl ?_
  refine WL.pass ((Y01 rfl rfl rfl).trans rfl) rfl ?_
  refine WL.pass ((Y01 rfl rfl rfl).trans rfl) rfl ?_
  refine WL.pickF (v := .bool false) rfl rfl ?_
  refine WL.assign (v := .bool false) rfl ?_
  refine WL.nil ?_
  exact Jk28 false _ _ rfl ((hs.mask []).pick []) hf } }
  {
  refine WL.pass ((Y01 rfl rfl (Y02 rfl hc37)).trans rfl) rfl ?_
  refine WL.pass ((Y01 rfl rfl (Y02 rfl hc37)).trans rfl) rfl ?_
  refine WL.pass ((Y01 rfl rfl (Y02 rfl hc37)).trans rfl) rfl ?_
  refine WL.pass ((Y01 rfl rfl (Y02 rfl hc37)).trans rfl) rfl ?_
  refine WL.pickF (v := .bool false) (Y02 rfl hc37) rfl ?_
  refine WL.move (v := .bool false) rfl ?_
  refine WL.pass ((Y01 rfl rfl rfl).trans rfl) rfl ?_
  refine WL.pass ((Y01 rfl rfl rfl).trans rfl) rfl ?_
  refine WL.pass ((Y01 rfl rfl rfl).trans rfl) rfl ?_
  refine WL.pickF (v := .bool false) rfl rfl ?_
  refine WL.move (v := .bool false) rfl ?_
  refine WL.pass ((Y01 rfl rfl rfl).trans rfl) rfl ?_
  refine WL.pass ((Y01 rfl rfl rfl).trans rfl) rfl ?_
  refine WL.pass ((Y01 rfl rfl rfl).trans rfl) rfl ?_
  refine WL.pass ((Y01 rfl rfl rfl).trans rfl) rfl ?_
  refine WL.pickF (v := .bool false) rfl rfl ?_
  refine WL.move (v := .bool false) rfl ?_
  refine WL.pass ((Y01 rfl rfl rfl).trans rfl) rfl ?_
  refine WL.pass ((Y01 rfl rfl rfl).trans rfl) rfl ?_
  refine WL.pass ((Y01 rfl rfl rfl).trans rfl) rfl ?_
  refine WL.pass ((Y01 rfl rfl rfl).trans rfl) rfl ?_
  refine WL.pass ((Y01 rfl rfl rfl).trans rfl) rfl ?_
  refine WL.pickF (v := .bool false) rfl rfl ?_
  refine WL.assign (v := .bool false) rfl ?_
  refine WL.nil ?_
  exact Jk28 false _ _ rfl ((hs.mask []).pick []) hf } }
  {
  refine WL.pass ((Y01 rfl rfl (Y02 rfl hc33)).trans rfl) rfl ?_
  refine WL.pass ((Y01 rfl rfl (Y02 rfl hc33)).trans rfl) rfl ?_
  refine WL.pass ((Y01 rfl rfl (Y02 rfl hc33)).trans rfl) rfl ?_
  refine WL.pass ((Y01 rfl rfl (Y02 rfl hc33)).trans rfl) rfl ?_
  refine WL.pickF (v := .bool false) (Y02 rfl hc33) rfl ?_
  refine WL.move (v := .bool false) rfl ?_
  refine WL.pass ((Y01 rfl rfl rfl).trans rfl) rfl ?_
  refine WL.pass ((Y01 rfl rfl rfl).trans rfl) rfl ?_
  refine WL.pass ((Y01 rfl rfl rfl).trans rfl) rfl ?_
  refine WL.pass ((Y01 rfl rfl rfl).trans rfl) rfl ?_
  refine WL.pickF (v := .bool false) rfl rfl ?_
  refine WL.move (v := .bool false) rfl ?_
  refine WL.pass ((Y01 rfl rfl rfl).trans rfl) rfl ?_
  refine WL.pass ((Y01 rfl rfl rfl).trans rfl) rfl ?_
  refine WL.pass ((Y01 rfl rfl rfl).trans rfl) rfl ?_
  refine WL.pickF (v := .bool false) rfl rfl ?_
  refine WL.move (v := .bool false) rfl ?_
  refine WL.pass ((Y01 rfl rfl rfl).trans rfl) rfl ?_
  refine WL.pass ((Y01 rfl rfl rfl).trans rfl) rfl ?_
  refine WL.pass ((Y01 rfl rfl rfl).trans rfl) rfl ?_
  refine WL.pass ((Y01 rfl rfl rfl).trans rfl) rfl ?_
  refine WL.pickF (v := .bool false) rfl rfl ?_
  refine WL.move (v := .bool false) rfl ?_
  refine WL.pass ((Y01 rfl rfl rfl).trans rfl) rfl ?_
  refine WL.pass ((Y01 rfl rfl rfl).trans rfl) rfl ?_
  refine WL.pass ((Y01 rfl rfl rfl).trans rfl) rfl ?_
  refine WL.pass ((Y01 rfl rfl rfl).trans rfl) rfl ?_
  refine WL.pass ((Y01 rfl rfl rfl).trans rfl) rfl ?_
  refine WL.pickF (v := .bool false) rfl rfl ?_
  refine WL.assign (v := .bool false) rfl ?_
  refine WL.nil ?_
  exact Jk28 false _ _ rfl ((hs.mask []).pick []) hf } }
  {
  refine WL.pass ((Y01 rfl rfl (Y02 rfl hc32)).trans rfl) rfl ?_
  refine WL.pass ((Y01 rfl rfl (Y02 rfl hc32)).trans rfl) rfl ?_
  refine WL.pass ((Y01 rfl rfl (Y02 rfl hc32)).trans rfl) rfl ?_
  refine WL.pickF (v := .bool false) (Y02 rfl hc32) rfl ?_
  refine WL.move (v := .bool false) rfl ?_
  refine WL.pass ((Y01 rfl rfl rfl).trans rfl) rfl ?_
  refine WL.pass ((Y01 rfl rfl rfl).trans rfl) rfl ?_
  refine WL.pass ((Y01 rfl rfl rfl).trans rfl) rfl ?_
  refine WL.pass ((Y01 rfl rfl rfl).trans rfl) rfl ?_
  refine WL.pickF (v := .bool false) rfl rfl ?_
  refine WL.move (v := .bool false) rfl ?_
  refine WL.pass ((Y01 rfl rfl rfl).trans rfl) rfl ?_
  refine WL.pass ((Y01 rfl rfl rfl).trans rfl) rfl ?_
  refine WL.pass ((Y01 rfl rfl rfl).trans rfl) rfl ?_
  refine WL.pass ((Y01 rfl rfl rfl).trans rfl) rfl ?_
  refine WL.pickF (v := .bool false) rfl rfl ?_
  refine WL.move (v := .bool false) rfl ?_
  refine WL.pass ((Y01 rfl rfl rfl).trans rfl) rfl ?_
  refine WL.pass ((Y01 rfl rfl rfl).trans rfl) rfl ?_
  refine WL.pass ((Y01 rfl rfl rfl).trans rfl) rfl ?_
  refine WL.pickF (v := .bool false) rfl rfl ?_
  refine WL.move (v := .bool false) rfl ?_
  refine WL.pass ((Y01 rfl rfl rfl).trans rfl) rfl ?_
  refine WL.pass ((Y01 rfl rfl rfl).trans rfl) rfl ?_
  refine WL.pass ((Y01 rfl rfl rfl).trans rfl) rfl ?_
  refine WL.pass ((Y01 rfl rfl rfl).trans rfl) rfl ?_
  refine WL.pickF (v := .bool false) rfl rfl ?_
  refine WL.move (v := .bool false) rfl ?_
  refine WL.pass ((Y01 rfl rfl rfl).trans rfl) rfl ?_
  refine WL.pass ((Y01 rfl rfl rfl).trans rfl) rfl ?_
  refine WL.pass ((Y01 rfl rfl rfl).trans rfl) rfl ?_
  refine WL.pass ((Y01 rfl rfl rfl).trans rfl) rfl ?_
  refine WL.pass ((Y01 rfl rfl rfl).trans rfl) rfl ?_
  refine WL.pickF (v := .bool false) rfl rfl ?_
  refine WL.assign (v := .bool false) rfl ?_
  refine WL.nil ?_
  exact Jk28 false _ _ rfl ((hs.mask []).pick []) hf }
 refine W.seqK fun K51 hK51 => ?_
 refine W.region ?_
 refine WL.buildSlice (n := 3) (vs := [(0, bstr ([98] : List UInt8)), (1, bstr ([97] : List UInt8)), (2, bstr ([99] : List UInt8))]) (cs := [bstr ([98] : List UInt8), bstr ([97] : List UInt8), bstr ([99] : List UInt8)]) hs ⟨⟨rfl, rfl⟩, ⟨⟨rfl, rfl⟩, ⟨⟨rfl, rfl⟩, trivial⟩⟩⟩ (bls PS56 (by decide) rfl) (fun g52 w hs => ?_)
 refine WL.len (v := .slice (some ⟨g52, 0, none⟩) ([([98] : List UInt8), ([97] : List UInt8), ([99] : List UInt8)]).length 3) rfl (Y10 UN56) ?_
 refine WL.move (v := .int .i64 0) rfl ?_
 refine WL.nil ?_
 refine hK51 _ _ ?_
 refine W.block ?_
 have hs := hs.ownLit (A := tStr) (xs := [([98] : List UInt8), ([97] : List UInt8), ([99] : List UInt8)]) 0 rfl (fun ok hA => (Y0U.app (Y0U.one (T := tStr) rfl) (Y0U.app (Y0U.one (T := tStr) rfl) (Y0U.one (T := tStr) rfl)))) (Nat.le_of_ble_eq_true rfl)
 have hs := hs.freezeOwn 0 rfl
 obtain ⟨bs58, hbs58, hfs58⟩ := Y0s hf
 have hs := hs.add (it := vl (Y0b Y0g) [] (.slice none 0 0)) fun ok hA => V_nil
 refine W.loop hbs58 (fun s ρ w => match s with | (x54, x55) => ∃ (a56 : Option Addr), ∃ (c57 : Nat), ρ 1 = .pointer (some ⟨g3, 0, none⟩) ∧ ρ 8 = .slice (some ⟨g52, 0, none⟩) ([([98] : List UInt8), ([97] : List UInt8), ([99] : List UInt8)]).length 3 ∧ ρ 9 = .int .i64 (([([98] : List UInt8), ([97] : List UInt8), ([99] : List UInt8)]).length : Int) ∧ ρ 10 = .int .i64 x54 ∧ St ok (bz w0) w [vl (Y0b tStr) ([([98] : List UInt8), ([97] : List UInt8), ([99] : List UInt8)]) (.slice (some ⟨g52, 0, none⟩) ([([98] : List UInt8), ([97] : List UInt8), ([99] : List UInt8)]).length 3), vl (Y0b Y0g) x55 (.slice a56 x55.length c57)] [blk g3 25 [.slice a56 x55.length c57]]) ⟨none, 0, rfl, rfl, rfl, rfl, (hs.mask [true]).pick [1, 0]⟩ ?_
 intro s ρ w os58 hI hf hbbs58
 obtain ⟨x54, x55⟩ := s
 obtain ⟨a56, c57, h53_1, h53_8, h53_9, h53_10, hs⟩ := hI
 unfold Y0I.l1 at hf
 refine W.seqK fun K59 hK59 => ?_
 refine W.region ?_
 refine WL.bin (v := .bool (decide (x54 < (([([98] : List UInt8), ([97] : List UInt8), ([99] : List UInt8)]).length : Int)))) h53_10 h53_9 (Y1n _ _ _) ?_
 refine WL.nil ?_
 refine hK59 _ _ ?_
 refine W.seqK fun K60 hK60 => ?_
 rcases iteE hf with ⟨hc61, hf⟩ | ⟨hc61, hf⟩
 {
 refine W.cond_true (Y02 rfl hc61) ?_
 refine W.skip ?_
 refine hK60 _ _ ?_
 refine W.seqK fun K62 hK62 => ?_
 refine W.block ?_
 refine W.seqK fun K63 hK63 => ?_
 refine W.region ?_
 refine WL.move (v := .int .i64 x54) h53_10 ?_
 obtain ⟨x64, hxx64, hf⟩ := Y0s hf
 refine WL.indexAddr hs 0 rfl UN56 TI9 h53_8 h53_10 hxx64 (fun ad65 hs => ?_)
 refine WL.loadP hs 0 rfl TI9 (.inr rfl) rfl (fun v66 hs => ?_)
 obtain rfl := hs.str 0 rfl
 refine WL.assign (v := .int .i64 x54) rfl ?_
 refine WL.assign (v := bstr x64) rfl ?_
 refine WL.nil ?_
 refine hK63 _ _ ?_
 obtain ⟨x67, ex67, hf⟩ := letE hf
 obtain ⟨x70, hxx70, hf⟩ := Y0s hf
 obtain ⟨x75, hxx75, hf⟩ := Y0s hf
 refine W.any (by kernel_rfl) 12 1 [true, true, true, true, true, true, true, true, true, true, true, true, false] rfl rfl (poAt [pv (.agg ([.slice a56 x55.length c57] : List Value).toArray), pv (.int .i64 x54), pv (.int .i64 x67), pv (bstr x64), pq (fun y : (Option Addr × Nat) => .slice y.1 ([([97, 110, 110] : List UInt8), ([97, 110, 110] : List UInt8), ([98, 111, 98] : List UInt8)]).length y.2) (fun v => [vl (Y0b tStr) ([([97, 110, 110] : List UInt8), ([97, 110, 110] : List UInt8), ([98, 111, 98] : List UInt8)]) v]) (fun v => []), pv (.int .i64 x54), pq (fun y : Addr => .pointer (some y)) (fun v => [pl tStr x70 (adOf v)]) (fun v => []), pv (bstr x70), pv (.agg ([.int .i64 1, bstr x64, bstr ([111, 119, 110, 101, 114] : List UInt8), .int .i64 0, bstr x70] : List Value).toArray), pq (fun y : (Option Addr × Nat) => .slice y.1 ([(⟨1, x64, ([111, 119, 110, 101, 114] : List UInt8), 0, x70⟩ : Y0y)]).length y.2) (fun v => [vl (Y0b Y0A) ([(⟨1, x64, ([111, 119, 110, 101, 114] : List UInt8), 0, x70⟩ : Y0y)]) v]) (fun v => []), pn [9] (fun r => .agg ([.int .i64 x67, .int .i64 1, .int .i64 0, r.getD 0 undef] : List Value).toArray), pq (fun y : List Value => .agg y.toArray) (fun v => [vl Y0p x75 v]) (fun v => [])]) (Λ := [blk g3 25 [.slice a56 x55.length c57]]) hs (by kernel_rfl) (by kernel_rfl) (by kernel_rfl) ⟨⟨⟨⟨⟨⟨⟨⟨⟨⟨⟨⟨trivial, ?_⟩, ?_⟩, ?_⟩, ?_⟩, ?_⟩, ?_⟩, ?_⟩, ?_⟩, ?_⟩, ?_⟩, ?_⟩, ?_⟩ ?_
 {
 intro ρ w Γx Λx hs hu hp
 refine WL.loadN (vs := [.slice a56 x55.length c57]) hs (Λx.length + 0) (Y0q rfl) TI25 ((hu 1 rfl).trans h53_1) rfl rfl ?_
 exact WL.nil ⟨rfl, _, rfl, rfl, hs.cutG 0 0⟩ }
 {
 intro ρ w Γx Λx hs hu hp
 refine WL.move (v := .int .i64 x54) (hu 2 rfl) ?_
 exact WL.nil ⟨rfl, _, rfl, rfl, hs.cutG 0 0⟩ }
 {
 intro ρ w Γx Λx hs hu hp
 have e78 : ρ 16 = .int .i64 x54 := (hp 1 rfl).1
 refine WL.bin (v := .int .i64 x67) rfl e78 (Y1V ex67 (Y1t _ _ _)) ?_
 exact WL.nil ⟨rfl, _, rfl, rfl, hs.cutG 0 0⟩ }
 {
 intro ρ w Γx Λx hs hu hp
 refine WL.move (v := bstr x64) (hu 3 rfl) ?_
 exact WL.nil ⟨rfl, _, rfl, rfl, hs.cutG 0 0⟩ }
 {
 intro ρ w Γx Λx hs hu hp
 refine WL.buildSliceB (ys := [([97, 110, 110] : List UInt8), ([97, 110, 110] : List UInt8), ([98, 111, 98] : List UInt8)]) (n := 3) (vs := [(0, bstr ([97, 110, 110] : List UInt8)), (1, bstr ([97, 110, 110] : List UInt8)), (2, bstr ([98, 111, 98] : List UInt8))]) (cs := [bstr ([97, 110, 110] : List UInt8), bstr ([97, 110, 110] : List UInt8), bstr ([98, 111, 98] : List UInt8)]) hs ⟨⟨rfl, rfl⟩, ⟨⟨rfl, rfl⟩, ⟨⟨rfl, rfl⟩, trivial⟩⟩⟩ (bls PS56 (by decide) rfl) (fun ok hA => (Y0U.app (Y0U.one (T := tStr) rfl) (Y0U.app (Y0U.one (T := tStr) rfl) (Y0U.one (T := tStr) rfl)))) rfl (by decide) (fun a69 w hBl hs => ?_)
 have hs := hs.add (it := vl (Y0b tStr) ([([97, 110, 110] : List UInt8), ([97, 110, 110] : List UInt8), ([98, 111, 98] : List UInt8)]) (.slice a69 ([([97, 110, 110] : List UInt8), ([97, 110, 110] : List UInt8), ([98, 111, 98] : List UInt8)]).length 3)) fun ok hA => hA.get 0 rfl
 exact WL.nil ⟨rfl, _, rfl, ⟨(a69, 3), rfl⟩, hs.cutG 1 1⟩ }
 {
 intro ρ w Γx Λx hs hu hp
 refine WL.move (v := .int .i64 x54) (hu 2 rfl) ?_
 exact WL.nil ⟨rfl, _, rfl, rfl, hs.cutG 0 0⟩ }
 {
 intro ρ w Γx Λx hs hu hp
 obtain ⟨⟨⟨a79, c80⟩, e81r⟩, hm82⟩ := hp 4 rfl
 have e81 : ρ 19 = .slice a79 ([([97, 110, 110] : List UInt8), ([97, 110, 110] : List UInt8), ([98, 111, 98] : List UInt8)]).length c80 := e81r
 rw [e81r] at hm82
 have hs := hs.memo1 (it := vl (Y0b tStr) ([([97, 110, 110] : List UInt8), ([97, 110, 110] : List UInt8), ([98, 111, 98] : List UInt8)]) (.slice a79 ([([97, 110, 110] : List UInt8), ([97, 110, 110] : List UInt8), ([98, 111, 98] : List UInt8)]).length c80)) (List.mem_append.2 (.inl (hm82 _ (List.mem_of_getElem? (i := 0) rfl))))
 have e83 : ρ 20 = .int .i64 x54 := (hp 5 rfl).1
 refine WL.indexAddr hs 0 rfl UN56 TI9 e81 e83 hxx70 (fun ad71 hs => ?_)
 have hs := hs.add (it := pl tStr x70 ad71) fun ok hA => hA.get 0 rfl
 exact WL.nil ⟨rfl, _, rfl, ⟨ad71, rfl⟩, hs.cutG 1 2⟩ }
 {
 intro ρ w Γx Λx hs hu hp
 obtain ⟨⟨ad84, e85r⟩, hm86⟩ := hp 6 rfl
 have e85 : ρ 21 = .pointer (some ad84) := e85r
 rw [e85r] at hm86
 have hs := hs.memo1 (it := pl tStr x70 ad84) (List.mem_append.2 (.inl (hm86 _ (List.mem_of_getElem? (i := 0) rfl))))
 refine WL.loadP hs 0 rfl TI9 (.inr rfl) e85 (fun v72 hs => ?_)
 obtain rfl := hs.str 0 rfl
 exact WL.nil ⟨rfl, _, rfl, rfl, hs.cutG 0 2⟩ }
 {
 intro ρ w Γx Λx hs hu hp
 have e87 : ρ 18 = bstr x64 := (hp 3 rfl).1
 have e88 : ρ 22 = bstr x70 := (hp 7 rfl).1
 refine WL.build (vs := [(0, .int .i64 1), (1, bstr x64), (2, bstr ([111, 119, 110, 101, 114] : List UInt8)), (4, bstr x70)]) (cs := [.int .i64 1, bstr x64, bstr ([111, 119, 110, 101, 114] : List UInt8), .int .i64 0, bstr x70]) ⟨⟨rfl, rfl⟩, ⟨⟨rfl, e87⟩, ⟨⟨rfl, rfl⟩, ⟨⟨rfl, e88⟩, trivial⟩⟩⟩⟩ (bld PL96 rfl) ?_
 exact WL.nil ⟨rfl, _, rfl, rfl, hs.cutG 0 0⟩ }
 {
 intro ρ w Γx Λx hs hu hp
 have e89 : ρ 23 = .agg ([.int .i64 1, bstr x64, bstr ([111, 119, 110, 101, 114] : List UInt8), .int .i64 0, bstr x70] : List Value).toArray := (hp 8 rfl).1
 refine WL.buildSliceB (ys := [(⟨1, x64, ([111, 119, 110, 101, 114] : List UInt8), 0, x70⟩ : Y0y)]) (n := 1) (vs := [(0, .agg ([.int .i64 1, bstr x64, bstr ([111, 119, 110, 101, 114] : List UInt8), .int .i64 0, bstr x70] : List Value).toArray)]) (cs := [.int .i64 1, bstr x64, bstr ([111, 119, 110, 101, 114] : List UInt8), .int .i64 0, bstr x70]) hs ⟨⟨rfl, e89⟩, trivial⟩ (bls PS72 (by decide) rfl) (fun ok hA => (Y0U.one (T := Y0A) (show Y0A.R ok _ (⟨1, x64, ([111, 119, 110, 101, 114] : List UInt8), 0, x70⟩ : Y0y) _ from ⟨[.int .i64 1], ([bstr x64, bstr ([111, 119, 110, 101, 114] : List UInt8), .int .i64 0, bstr x70]), rfl, rfl, ⟨[bstr x64], ([bstr ([111, 119, 110, 101, 114] : List UInt8), .int .i64 0, bstr x70]), rfl, rfl, ⟨([bstr ([111, 119, 110, 101, 114] : List UInt8)]), [.int .i64 0, bstr x70], rfl, rfl, ⟨[.int .i64 0], [bstr x70], rfl, rfl, rfl⟩⟩⟩⟩))) rfl (by decide) (fun a74 w hBl hs => ?_)
 have hs := hs.add (it := vl (Y0b Y0A) ([(⟨1, x64, ([111, 119, 110, 101, 114] : List UInt8), 0, x70⟩ : Y0y)]) (.slice a74 ([(⟨1, x64, ([111, 119, 110, 101, 114] : List UInt8), 0, x70⟩ : Y0y)]).length 1)) fun ok hA => hA.get 0 rfl
 exact WL.nil ⟨rfl, _, rfl, ⟨(a74, 1), rfl⟩, hs.cutG 1 1⟩ }
 {
 intro ρ w Γx Λx hs hu hp
 have e90 : ρ 17 = .int .i64 x67 := (hp 2 rfl).1
 obtain ⟨⟨⟨a91, c92⟩, e93r⟩, hm94⟩ := hp 9 rfl
 have e93 : ρ 24 = .slice a91 ([(⟨1, x64, ([111, 119, 110, 101, 114] : List UInt8), 0, x70⟩ : Y0y)]).length c92 := e93r
 rw [e93r] at hm94
 have hs := hs.memo1 (it := vl (Y0b Y0A) ([(⟨1, x64, ([111, 119, 110, 101, 114] : List UInt8), 0, x70⟩ : Y0y)]) (.slice a91 ([(⟨1, x64, ([111, 119, 110, 101, 114] : List UInt8), 0, x70⟩ : Y0y)]).length c92)) (List.mem_append.2 (.inl (hm94 _ (List.mem_of_getElem? (i := 0) rfl))))
 refine WL.build (vs := [(0, .int .i64 x67), (1, .int .i64 1), (3, .slice a91 ([(⟨1, x64, ([111, 119, 110, 101, 114] : List UInt8), 0, x70⟩ : Y0y)]).length c92)]) (cs := [.int .i64 x67, .int .i64 1, .int .i64 0, .slice a91 ([(⟨1, x64, ([111, 119, 110, 101, 114] : List UInt8), 0, x70⟩ : Y0y)]).length c92]) ⟨⟨rfl, e90⟩, ⟨⟨rfl, rfl⟩, ⟨⟨rfl, e93⟩, trivial⟩⟩⟩ (bld PL74 rfl) ?_
 exact WL.nil ⟨rfl, _, rfl, (show (.agg ([.int .i64 x67, .int .i64 1, .int .i64 0, .slice a91 ([(⟨1, x64, ([111, 119, 110, 101, 114] : List UInt8), 0, x70⟩ : Y0y)]).length c92] : List Value).toArray : Value) = (.agg ([.int .i64 x67, .int .i64 1, .int .i64 0, ρ 24] : List Value).toArray : Value) by rw [e93]), hs.cutG 0 1⟩ }
 {
 intro ρ w Γx Λx hs hu hp
 have e95 : ρ 15 = .agg ([.slice a56 x55.length c57] : List Value).toArray := (hp 0 rfl).1
 obtain ⟨⟨⟨a96, c97⟩, e98r⟩, hm99⟩ := hp 9 rfl
 have e98 : ρ 24 = .slice a96 ([(⟨1, x64, ([111, 119, 110, 101, 114] : List UInt8), 0, x70⟩ : Y0y)]).length c97 := e98r
 rw [e98r] at hm99
 have hs := hs.memo1 (it := vl (Y0b Y0A) ([(⟨1, x64, ([111, 119, 110, 101, 114] : List UInt8), 0, x70⟩ : Y0y)]) (.slice a96 ([(⟨1, x64, ([111, 119, 110, 101, 114] : List UInt8), 0, x70⟩ : Y0y)]).length c97)) (List.mem_append.2 (.inl (hm99 _ (List.mem_of_getElem? (i := 0) rfl))))
 have e100 : ρ 25 = .agg ([.int .i64 x67, .int .i64 1, .int .i64 0, ρ 24] : List Value).toArray := (hp 10 rfl).1
 rw [e98] at e100
 have hs := hs.add (it := vl Y0p (⟨x55⟩ : Y0N) (.agg [.slice a56 x55.length c57].toArray)) fun ok hA => Y2W ((Y5M (hA.get (Γx.length + 3 + 1) (Y3k rfl)))) rfl
 have hs := hs.add (it := vl Y0r (⟨x67, 1, 0, [(⟨1, x64, ([111, 119, 110, 101, 114] : List UInt8), 0, x70⟩ : Y0y)]⟩ : Y0l) (.agg ([.int .i64 x67, .int .i64 1, .int .i64 0, .slice a96 ([(⟨1, x64, ([111, 119, 110, 101, 114] : List UInt8), 0, x70⟩ : Y0y)]).length c97]).toArray)) fun ok hA => Y2W (show Y0r.R ok _ _ _ from ⟨[.int .i64 x67], ([.int .i64 1, .int .i64 0, .slice a96 ([(⟨1, x64, ([111, 119, 110, 101, 114] : List UInt8), 0, x70⟩ : Y0y)]).length c97]), rfl, rfl, ⟨[.int .i64 1], ([.int .i64 0, .slice a96 ([(⟨1, x64, ([111, 119, 110, 101, 114] : List UInt8), 0, x70⟩ : Y0y)]).length c97]), rfl, rfl, ⟨[.int .i64 0], ([.slice a96 ([(⟨1, x64, ([111, 119, 110, 101, 114] : List UInt8), 0, x70⟩ : Y0y)]).length c97]), rfl, rfl, (Y5M (hA.get 1 rfl))⟩⟩⟩) rfl
 refine WL.call (vs := [.agg ([.slice a56 x55.length c57] : List Value).toArray, .agg ([.int .i64 x67, .int .i64 1, .int .i64 0, .slice a96 ([(⟨1, x64, ([111, 119, 110, 101, 114] : List UInt8), 0, x70⟩ : Y0y)]).length c97] : List Value).toArray]) hs FN42 ⟨e95, ⟨e100, trivial⟩⟩ (fun ok hA => Y2m.calls (x1 := (⟨x55⟩ : Y0N)) (x2 := (⟨x67, 1, 0, [(⟨1, x64, ([111, 119, 110, 101, 114] : List UInt8), 0, x70⟩ : Y0y)]⟩ : Y0l)) hxx75 (hA.get 1 rfl) (hA.get 0 rfl)) ?_
 rintro cs76 w hs
 have hl77 := hs.agglen (n := 1) 0 rfl rfl rfl
 have hs := hs.add (it := vl Y0p x75 (.agg cs76.toArray)) fun ok hA => hA.get 0 rfl
 exact WL.nil ⟨rfl, _, rfl, ⟨cs76, rfl⟩, hs.cutG 1 4⟩ }
 {
 intro ρ w hs hu101 hp
 obtain ⟨⟨⟨⟨⟨⟨⟨⟨⟨⟨⟨⟨_, hp0_⟩, hp1_⟩, hp2_⟩, hp3_⟩, hp4_⟩, hp5_⟩, hp6_⟩, hp7_⟩, hp8_⟩, hp9_⟩, hp10_⟩, hp11_⟩ := hp
 have hs : St ok (bz w0) w [vl Y0p x75 (ρ 26), vl (Y0b Y0A) ([(⟨1, x64, ([111, 119, 110, 101, 114] : List UInt8), 0, x70⟩ : Y0y)]) (ρ 24), pl tStr x70 (adOf (ρ 21)), vl (Y0b tStr) ([([97, 110, 110] : List UInt8), ([97, 110, 110] : List UInt8), ([98, 111, 98] : List UInt8)]) (ρ 19), vl tStr x64 (bstr x64), pl tStr x64 ad65, vl (Y0b tStr) ([([98] : List UInt8), ([97] : List UInt8), ([99] : List UInt8)]) (.slice (some ⟨g52, 0, none⟩) ([([98] : List UInt8), ([97] : List UInt8), ([99] : List UInt8)]).length 3), vl (Y0b Y0g) x55 (.slice a56 x55.length c57)] [blk g3 25 [.slice a56 x55.length c57]] := hs
 obtain ⟨cs102, e104⟩ := hp11_
 have e104 : ρ 26 = .agg cs102.toArray := e104
 try rw [e104] at hs
 obtain ⟨⟨a105, c106⟩, e107⟩ := hp9_
 have e107 : ρ 24 = .slice a105 ([(⟨1, x64, ([111, 119, 110, 101, 114] : List UInt8), 0, x70⟩ : Y0y)]).length c106 := e107
 try rw [e107] at hs
 have e108 : ρ 23 = .agg ([.int .i64 1, bstr x64, bstr ([111, 119, 110, 101, 114] : List UInt8), .int .i64 0, bstr x70] : List Value).toArray := hp8_
 have e109 : ρ 22 = bstr x70 := hp7_
 obtain ⟨ad110, e111⟩ := hp6_
 have e111 : ρ 21 = .pointer (some ad110) := e111
 try rw [e111] at hs
 have e112 : ρ 20 = .int .i64 x54 := hp5_
 obtain ⟨⟨a113, c114⟩, e115⟩ := hp4_
 have e115 : ρ 19 = .slice a113 ([([97, 110, 110] : List UInt8), ([97, 110, 110] : List UInt8), ([98, 111, 98] : List UInt8)]).length c114 := e115
 try rw [e115] at hs
 have e116 : ρ 18 = bstr x64 := hp3_
 have e117 : ρ 17 = .int .i64 x67 := hp2_
 have e118 : ρ 16 = .int .i64 x54 := hp1_
 have e119 : ρ 15 = .agg ([.slice a56 x55.length c57] : List Value).toArray := hp0_
 have e120 : ρ 25 = .agg ([.int .i64 x67, .int .i64 1, .int .i64 0, ρ 24] : List Value).toArray := hp10_
 rw [e107] at e120
 have hl103 := hs.agglen (n := 1) 0 rfl rfl rfl
 refine WA.step [12] (by kernel_rfl) (by simp) ⟨?_, trivial⟩
 refine WL.storeAll (vs := cs102) hs 0 rfl TI25 ((hu101 1 rfl).trans h53_1) e104 rfl hl103 (hs.ones 0 rfl rfl) rfl (fun w hs => ?_)
 refine WL.nil ⟨rfl, _, rfl, ?_⟩
 refine WA.done (by kernel_rfl) ?_
 refine hK62 _ _ ?_
 refine W.region ?_
 obtain ⟨x121, ex121, hf⟩ := letE hf
 refine WL.bin (v := .int .i64 x121) ((hu101 10 rfl).trans h53_10) rfl (Y1V ex121 (Y1t _ _ _)) ?_
 refine WL.move (v := .int .i64 x121) rfl ?_
 refine WL.nil ?_
 obtain ⟨a124, c125, rfl⟩ := Y5f hs 0 rfl
 have hs := hs.add (it := vl (Y0b Y0g) x75.Objects (.slice a124 (x75.Objects).length c125)) fun ok hA => V_fld Y1I (hA.get 0 rfl) rfl rfl rfl
 exact ⟨_, (Option.some.inj hf).symm, a124, c125, ((hu101 1 rfl).trans h53_1), ((hu101 8 rfl).trans h53_8), ((hu101 9 rfl).trans h53_9), rfl, (hs.mask [true]).pick [7, 0]⟩ } }
 {
 refine W.cond_false (Y02 rfl hc61) ?_
 refine W.exit ?_
 have hr := Option.some.inj hf; subst hr
 have hr := hbbs58 _ rfl; subst hr
 have hf := hfs58
 exact Jk9 x55 a56 c57 _ _ h53_1 ((hs.mask [true]).pick [1]) hf }
end
section
open Go Go.RowKit Go.Proofs.YtpfgdjfiimknlaaGreatL
set_option maxRecDepth 100000
set_option maxHeartbeats 4000000
theorem Y1p.calls {ok : Nat → Prop} {w0 : World} {x1 : Int} {x2 : Int}  {r : Int} (hf : Y1p x1 x2 = some r)  :
  Calls Tryz.prog 33 #[.int .i64 x1, .int .i64 x2] w0 fun e w' => ∃ v, e = .returned v ∧ ∃ y : Unit, v = .int .i64 r ∧ St ok (bz w0) w' [] [] := by
 unfold Y1p at hf
 refine Y0t (fn := Tryz.f33) (N := 14) Tryz.func33 rfl Tryz.ntmps33 rfl ?_
 have hs : St ok (bz w0) w0 [] [] := St.init All.nil
 refine W.seqK fun K3 hK3 => ?_
 refine W.region ?_
 refine WL.assign (v := .int .i64 0) rfl ?_
 refine WL.nil ?_
 refine hK3 _ _ ?_
 refine W.seqK fun K4 hK4 => ?_
 refine W.seqK fun K5 hK5 => ?_
 refine W.region ?_
 refine WL.move (v := .int .i64 x2) rfl ?_
 refine WL.bin (v := .bool (decide (x2 < 1))) rfl rfl (Y1n _ _ _) ?_
 refine WL.nil ?_
 refine hK5 _ _ ?_
 rcases iteE hf with ⟨hc6, hf⟩ | ⟨hc6, hf⟩
 {
 refine W.cond_true (Y02 rfl hc6) ?_
 refine W.seqK fun K7 hK7 => ?_
 refine W.region ?_
 refine WL.assign (v := .int .i64 0) rfl ?_
 refine WL.nil ?_
 refine hK7 _ _ ?_
 refine W.ret ?_
 have hr := Option.some.inj hf; subst hr
 exact ⟨_, Y0e rfl rfl, (), rfl, (hs.mask []).pick []⟩ }
 {
 refine W.cond_false (Y02 rfl hc6) ?_
 refine W.skip ?_
 refine hK4 _ _ ?_
 refine W.seqK fun K8 hK8 => ?_
 refine W.region ?_
 refine WL.move (v := .int .i64 x1) rfl ?_
 refine WL.move (v := .int .i64 x2) rfl ?_
 obtain ⟨hn9, hf⟩ := Y2O hf
 refine WL.bin (v := .int .i64 (Int.tmod x1 x2)) rfl rfl (Y8V _ _ _ hn9) ?_
 refine WL.move (v := .int .i64 x2) rfl ?_
 obtain ⟨x10, ex10, hf⟩ := letE hf
 refine WL.bin (v := .int .i64 x10) rfl rfl (Y1V ex10 (Y1t _ _ _)) ?_
 refine WL.move (v := .int .i64 x2) rfl ?_
 obtain ⟨hn11, hf⟩ := Y2O hf
 refine WL.bin (v := .int .i64 (Int.tmod x10 x2)) rfl rfl (Y8V _ _ _ hn11) ?_
 refine WL.assign (v := .int .i64 (Int.tmod x10 x2)) rfl ?_
 refine WL.nil ?_
 refine hK8 _ _ ?_
 refine W.ret ?_
 have hr := Option.some.inj hf; subst hr
 exact ⟨_, Y0e rfl rfl, (), rfl, (hs.mask []).pick []⟩ }
theorem Y0h.calls {ok : Nat → Prop} {w0 : World} {x1 : Int} {x2 : Int} {x3 : Int}  {r : Int} (hf : Y0h x1 x2 x3 = some r)  :
  Calls Tryz.prog 31 #[.int .i64 x1, .int .i64 x2, .int .i64 x3] w0 fun e w' => ∃ v, e = .returned v ∧ ∃ y : Unit, v = .int .i64 r ∧ St ok (bz w0) w' [] [] := by
 unfold Y0h at hf
 refine Y0t (fn := Tryz.f31) (N := 22) Tryz.func31 rfl Tryz.ntmps31 rfl ?_
 have hs : St ok (bz w0) w0 [] [] := St.init All.nil
 refine W.seqK fun K4 hK4 => ?_
 refine W.region ?_
 refine WL.assign (v := .int .i64 0) rfl ?_
 refine WL.nil ?_
 refine hK4 _ _ ?_
 refine W.seqK fun K5 hK5 => ?_
 refine W.region ?_
 refine WL.move (v := .int .i64 x1) rfl ?_
 obtain ⟨x6, hxx6, hf⟩ := Y0s hf
 refine WL.call (vs := [.int .i64 x1, .int .i64 1099511627776]) hs FN33 ⟨rfl, ⟨rfl, trivial⟩⟩ (fun ok hA => Y1p.calls (x1 := x1) (x2 := 1099511627776) hxx6) ?_
 rintro _ w hs
 refine WL.assign (v := .int .i64 x6) rfl ?_
 refine WL.nil ?_
 refine hK5 _ _ ?_
 refine W.seqK fun K7 hK7 => ?_
 have Jk10 : ∀ (x9 : Int) (ρ : Env) (w : World), ρ 1 = .int .i64 x2 → ρ 7 = .int .i64 x9 → St ok (bz w0) w [] [] → Y0h.j1 x2 x9 = some r → K7 ρ w := by
  intro x9 ρ w h8_1 h8_7 hs hf
  refine hK7 _ _ ?_
  unfold Y0h.j1 at hf
  refine W.seqK fun K11 hK11 => ?_
  refine W.region ?_
  refine WL.move (v := .int .i64 x9) h8_7 ?_
  refine WL.move (v := .int .i64 x2) h8_1 ?_
  obtain ⟨hn12, hf⟩ := Y2O hf
  refine WL.bin (v := .int .i64 (Int.tmod x9 x2)) rfl rfl (Y8V _ _ _ hn12) ?_
  refine WL.assign (v := .int .i64 (Int.tmod x9 x2)) rfl ?_
  refine WL.nil ?_
  refine hK11 _ _ ?_
  refine W.ret ?_
  have hr := Option.some.inj hf; subst hr
  exact ⟨_, Y0e rfl rfl, (), rfl, (hs.mask []).pick []⟩
 refine W.seqK fun K13 hK13 => ?_
 refine W.region ?_
 refine WL.assign (v := .int .i64 0) rfl ?_
 refine WL.nil ?_
 refine hK13 _ _ ?_
 refine W.block ?_
 obtain ⟨bs17, hbs17, hfs17⟩ := Y0s hf
 refine W.loop hbs17 (fun s ρ w => match s with | (x15, x16) => ρ 1 = .int .i64 x2 ∧ ρ 2 = .int .i64 x3 ∧ ρ 7 = .int .i64 x15 ∧ ρ 8 = .int .i64 x16 ∧ St ok (bz w0) w [] []) ⟨rfl, rfl, rfl, rfl, (hs.mask []).pick []⟩ ?_
 intro s ρ w os17 hI hf hbbs17
 obtain ⟨x15, x16⟩ := s
 obtain ⟨h14_1, h14_2, h14_7, h14_8, hs⟩ := hI
 unfold Y0h.l1 at hf
 refine W.seqK fun K18 hK18 => ?_
 refine W.seqK fun K19 hK19 => ?_
 refine W.region ?_
 refine WL.move (v := .int .i64 x16) h14_8 ?_
 refine WL.move (v := .int .i64 x3) h14_2 ?_
 refine WL.bin (v := .bool (decide (x16 < x3))) rfl rfl (Y1n _ _ _) ?_
 refine WL.nil ?_
 refine hK19 _ _ ?_
 rcases iteE hf with ⟨hc20, hf⟩ | ⟨hc20, hf⟩
 {
 refine W.cond_true (Y02 rfl hc20) ?_
 refine W.skip ?_
 refine hK18 _ _ ?_
 refine W.seqK fun K21 hK21 => ?_
 refine W.block ?_
 refine W.region ?_
 refine WL.move (v := .int .i64 x15) h14_7 ?_
 refine WL.move (v := .int .i64 x2) h14_1 ?_
 obtain ⟨hn23, hf⟩ := Y2O hf
 obtain ⟨x22, ex22, hf⟩ := letE hf
 refine WL.bin (v := .int .i64 x22) rfl rfl (Y1V ex22 (Y8W _ _ _ hn23)) ?_
 refine WL.assign (v := .int .i64 x22) rfl ?_
 refine WL.nil ?_
 refine hK21 _ _ ?_
 refine W.region ?_
 refine WL.move (v := .int .i64 x16) h14_8 ?_
 obtain ⟨x24, ex24, hf⟩ := letE hf
 refine WL.bin (v := .int .i64 x24) rfl rfl (Y1V ex24 (Y1t _ _ _)) ?_
 refine WL.assign (v := .int .i64 x24) rfl ?_
 refine WL.nil ?_
 exact ⟨_, (Option.some.inj hf).symm, h14_1, h14_2, rfl, rfl, (hs.mask []).pick []⟩ }
 {
 refine W.cond_false (Y02 rfl hc20) ?_
 refine W.exit ?_
 have hr := Option.some.inj hf; subst hr
 have hr := hbbs17 _ rfl; subst hr
 have hf := hfs17
 exact Jk10 x15 _ _ h14_1 h14_7 ((hs.mask []).pick []) hf }
theorem Y0V.calls {ok : Nat → Prop} {w0 : World} {x1 : Int}  {r : Y0c} (hf : Y0V x1 = some r)  :
  Calls Tryz.prog 11 #[.int .i64 x1] w0 fun e w' => ∃ v, e = .returned v ∧ ∃ y : List Value, v = .agg y.toArray ∧ St ok (bz w0) w' [vl Y08 r (.agg y.toArray)] [] := by
 unfold Y0V at hf
 refine Y0t (fn := Tryz.f11) (N := 30) Tryz.func11 rfl Tryz.ntmps11 rfl ?_
 have hs : St ok (bz w0) w0 [] [] := St.init All.nil
 refine W.seqK fun K2 hK2 => ?_
 refine W.region ?_
 refine WL.alloc hs ZV31 (fun g3 w hs => ?_)
 refine WL.nil ?_
 refine hK2 _ _ ?_
 refine W.seqK fun K4 hK4 => ?_
 obtain ⟨x7, hxx7, hf⟩ := Y0s hf
 obtain ⟨x8, hxx8, hf⟩ := Y0s hf
 obtain ⟨x11, hxx11, hf⟩ := Y0s hf
 obtain ⟨x12, ex12, hf⟩ := letE hf
 refine W.any (by kernel_rfl) 10 1 [true, true, true, true, true, true, true, true, true, true, false] rfl rfl (poAt [pq (fun y : (Option Addr × Nat) => .slice y.1 ([([97] : List UInt8), ([98] : List UInt8), ([99] : List UInt8), ([120, 49] : List UInt8), ([110, 111, 110, 101] : List UInt8)]).length y.2) (fun v => [vl (Y0b tStr) ([([97] : List UInt8), ([98] : List UInt8), ([99] : List UInt8), ([120, 49] : List UInt8), ([110, 111, 110, 101] : List UInt8)]) v]) (fun v => []), pv (.int .i64 x1), pv (.int .i64 x7), pq (fun y : Addr => .pointer (some y)) (fun v => [pl tStr x8 (adOf v)]) (fun v => []), pv (bstr x8), pv (.int .i64 x1), pv (.int .i64 x11), pv (.int .i64 x12), pv (.agg ([bstr x8, .int .i64 x12, .int .i64 0, .int .i64 0] : List Value).toArray), pq (fun y : Nat => .pointer (some ⟨y, 0, none⟩)) (fun v => []) (fun v => [blk (gOf v) 31 ([bstr [], .int .i64 0, .int .i64 0, .int .i64 0])])]) (Λ := [blk g3 31 ([bstr [], .int .i64 0, .int .i64 0, .int .i64 0])]) hs (by kernel_rfl) (by kernel_rfl) (by kernel_rfl) ⟨⟨⟨⟨⟨⟨⟨⟨⟨⟨trivial, ?_⟩, ?_⟩, ?_⟩, ?_⟩, ?_⟩, ?_⟩, ?_⟩, ?_⟩, ?_⟩, ?_⟩ ?_
 {
 intro ρ w Γx Λx hs hu hp
 refine WL.buildSliceB (ys := [([97] : List UInt8), ([98] : List UInt8), ([99] : List UInt8), ([120, 49] : List UInt8), ([110, 111, 110, 101] : List UInt8)]) (n := 5) (vs := [(0, bstr ([97] : List UInt8)), (1, bstr ([98] : List UInt8)), (2, bstr ([99] : List UInt8)), (3, bstr ([120, 49] : List UInt8)), (4, bstr ([110, 111, 110, 101] : List UInt8))]) (cs := [bstr ([97] : List UInt8), bstr ([98] : List UInt8), bstr ([99] : List UInt8), bstr ([120, 49] : List UInt8), bstr ([110, 111, 110, 101] : List UInt8)]) hs ⟨⟨rfl, rfl⟩, ⟨⟨rfl, rfl⟩, ⟨⟨rfl, rfl⟩, ⟨⟨rfl, rfl⟩, ⟨⟨rfl, rfl⟩, trivial⟩⟩⟩⟩⟩ (bls PS56 (by decide) rfl) (fun ok hA => (Y0U.app (Y0U.one (T := tStr) rfl) (Y0U.app (Y0U.one (T := tStr) rfl) (Y0U.app (Y0U.one (T := tStr) rfl) (Y0U.app (Y0U.one (T := tStr) rfl) (Y0U.one (T := tStr) rfl)))))) rfl (by decide) (fun a6 w hBl hs => ?_)
 have hs := hs.add (it := vl (Y0b tStr) ([([97] : List UInt8), ([98] : List UInt8), ([99] : List UInt8), ([120, 49] : List UInt8), ([110, 111, 110, 101] : List UInt8)]) (.slice a6 ([([97] : List UInt8), ([98] : List UInt8), ([99] : List UInt8), ([120, 49] : List UInt8), ([110, 111, 110, 101] : List UInt8)]).length 5)) fun ok hA => hA.get 0 rfl
 exact WL.nil ⟨rfl, _, rfl, ⟨(a6, 5), rfl⟩, hs.cutG 1 1⟩ }
 {
 intro ρ w Γx Λx hs hu hp
 refine WL.move (v := .int .i64 x1) (hu 0 rfl) ?_
 exact WL.nil ⟨rfl, _, rfl, rfl, hs.cutG 0 0⟩ }
 {
 intro ρ w Γx Λx hs hu hp
 have e14 : ρ 5 = .int .i64 x1 := (hp 1 rfl).1
 refine WL.call (vs := [.int .i64 x1, .int .i64 5, .int .i64 0]) hs FN31 ⟨e14, ⟨rfl, ⟨rfl, trivial⟩⟩⟩ (fun ok hA => Y0h.calls (x1 := x1) (x2 := 5) (x3 := 0) hxx7) ?_
 rintro _ w hs
 exact WL.nil ⟨rfl, _, rfl, rfl, hs.cutG 0 0⟩ }
 {
 intro ρ w Γx Λx hs hu hp
 obtain ⟨⟨⟨a15, c16⟩, e17r⟩, hm18⟩ := hp 0 rfl
 have e17 : ρ 4 = .slice a15 ([([97] : List UInt8), ([98] : List UInt8), ([99] : List UInt8), ([120, 49] : List UInt8), ([110, 111, 110, 101] : List UInt8)]).length c16 := e17r
 rw [e17r] at hm18
 have hs := hs.memo1 (it := vl (Y0b tStr) ([([97] : List UInt8), ([98] : List UInt8), ([99] : List UInt8), ([120, 49] : List UInt8), ([110, 111, 110, 101] : List UInt8)]) (.slice a15 ([([97] : List UInt8), ([98] : List UInt8), ([99] : List UInt8), ([120, 49] : List UInt8), ([110, 111, 110, 101] : List UInt8)]).length c16)) (List.mem_append.2 (.inl (hm18 _ (List.mem_of_getElem? (i := 0) rfl))))
 have e19 : ρ 6 = .int .i64 x7 := (hp 2 rfl).1
 refine WL.indexAddr hs 0 rfl UN56 TI9 e17 e19 hxx8 (fun ad9 hs => ?_)
 have hs := hs.add (it := pl tStr x8 ad9) fun ok hA => hA.get 0 rfl
 exact WL.nil ⟨rfl, _, rfl, ⟨ad9, rfl⟩, hs.cutG 1 2⟩ }
 {
 intro ρ w Γx Λx hs hu hp
 obtain ⟨⟨ad20, e21r⟩, hm22⟩ := hp 3 rfl
 have e21 : ρ 7 = .pointer (some ad20) := e21r
 rw [e21r] at hm22
 have hs := hs.memo1 (it := pl tStr x8 ad20) (List.mem_append.2 (.inl (hm22 _ (List.mem_of_getElem? (i := 0) rfl))))
 refine WL.loadP hs 0 rfl TI9 (.inr rfl) e21 (fun v10 hs => ?_)
 obtain rfl := hs.str 0 rfl
 exact WL.nil ⟨rfl, _, rfl, rfl, hs.cutG 0 2⟩ }
 {
 intro ρ w Γx Λx hs hu hp
 refine WL.move (v := .int .i64 x1) (hu 0 rfl) ?_
 exact WL.nil ⟨rfl, _, rfl, rfl, hs.cutG 0 0⟩ }
 {
 intro ρ w Γx Λx hs hu hp
 have e23 : ρ 9 = .int .i64 x1 := (hp 5 rfl).1
 refine WL.call (vs := [.int .i64 x1, .int .i64 5, .int .i64 1]) hs FN31 ⟨e23, ⟨rfl, ⟨rfl, trivial⟩⟩⟩ (fun ok hA => Y0h.calls (x1 := x1) (x2 := 5) (x3 := 1) hxx11) ?_
 rintro _ w hs
 exact WL.nil ⟨rfl, _, rfl, rfl, hs.cutG 0 0⟩ }
 {
 intro ρ w Γx Λx hs hu hp
 have e24 : ρ 10 = .int .i64 x11 := (hp 6 rfl).1
 refine WL.bin (v := .int .i64 x12) rfl e24 (Y1V ex12 (Y1t _ _ _)) ?_
 exact WL.nil ⟨rfl, _, rfl, rfl, hs.cutG 0 0⟩ }
 {
 intro ρ w Γx Λx hs hu hp
 have e25 : ρ 8 = bstr x8 := (hp 4 rfl).1
 have e26 : ρ 11 = .int .i64 x12 := (hp 7 rfl).1
 refine WL.build (vs := [(0, bstr x8), (1, .int .i64 x12)]) (cs := [bstr x8, .int .i64 x12, .int .i64 0, .int .i64 0]) ⟨⟨rfl, e25⟩, ⟨⟨rfl, e26⟩, trivial⟩⟩ (bld PL31 rfl) ?_
 exact WL.nil ⟨rfl, _, rfl, rfl, hs.cutG 0 0⟩ }
 {
 intro ρ w Γx Λx hs hu hp
 refine WL.alloc hs ZV31 (fun g13 w hs => ?_)
 exact WL.nil ⟨rfl, _, rfl, ⟨g13, rfl⟩, hs.cutG 0 0⟩ }
 {
 intro ρ w hs hu27 hp
 obtain ⟨⟨⟨⟨⟨⟨⟨⟨⟨⟨_, hp0_⟩, hp1_⟩, hp2_⟩, hp3_⟩, hp4_⟩, hp5_⟩, hp6_⟩, hp7_⟩, hp8_⟩, hp9_⟩ := hp
 have hs : St ok (bz w0) w [pl tStr x8 (adOf (ρ 7)), vl (Y0b tStr) ([([97] : List UInt8), ([98] : List UInt8), ([99] : List UInt8), ([120, 49] : List UInt8), ([110, 111, 110, 101] : List UInt8)]) (ρ 4)] [blk (gOf ((ρ 3))) 31 ([bstr [], .int .i64 0, .int .i64 0, .int .i64 0]), blk g3 31 ([bstr [], .int .i64 0, .int .i64 0, .int .i64 0])] := hs
 obtain ⟨g28, e29⟩ := hp9_
 have e29 : ρ 3 = .pointer (some ⟨g28, 0, none⟩) := e29
 try rw [e29] at hs
 have e30 : ρ 12 = .agg ([bstr x8, .int .i64 x12, .int .i64 0, .int .i64 0] : List Value).toArray := hp8_
 have e31 : ρ 11 = .int .i64 x12 := hp7_
 have e32 : ρ 10 = .int .i64 x11 := hp6_
 have e33 : ρ 9 = .int .i64 x1 := hp5_
 have e34 : ρ 8 = bstr x8 := hp4_
 obtain ⟨ad35, e36⟩ := hp3_
 have e36 : ρ 7 = .pointer (some ad35) := e36
 try rw [e36] at hs
 have e37 : ρ 6 = .int .i64 x7 := hp2_
 have e38 : ρ 5 = .int .i64 x1 := hp1_
 obtain ⟨⟨a39, c40⟩, e41⟩ := hp0_
 have e41 : ρ 4 = .slice a39 ([([97] : List UInt8), ([98] : List UInt8), ([99] : List UInt8), ([120, 49] : List UInt8), ([110, 111, 110, 101] : List UInt8)]).length c40 := e41
 try rw [e41] at hs
 refine WA.step [10] (by kernel_rfl) (by simp) ⟨?_, trivial⟩
 refine WL.storeAll (vs := [bstr x8, .int .i64 x12, .int .i64 0, .int .i64 0]) hs 0 rfl TI31 e29 e30 rfl rfl (Y0P rfl) rfl (fun w hs => ?_)
 refine WL.nil ⟨rfl, _, rfl, ?_⟩
 refine WA.done (by kernel_rfl) ?_
 refine hK4 _ _ ?_
 refine W.seqK fun K42 hK42 => ?_
 have Jk45 : ∀ (x44 : Int) (ρ : Env) (w : World), ρ 0 = .int .i64 x1 → ρ 2 = .pointer (some ⟨g3, 0, none⟩) → ρ 3 = .pointer (some ⟨g28, 0, none⟩) → St ok (bz w0) w [] [blk g28 31 [bstr x8, .int .i64 x44, .int .i64 0, .int .i64 0], blk g3 31 ([bstr [], .int .i64 0, .int .i64 0, .int .i64 0])] → Y0V.j2 x1 x8 x44 = some r → K42 ρ w := by
  intro x44 ρ w h43_0 h43_2 h43_3 hs hf
  refine hK42 _ _ ?_
  unfold Y0V.j2 at hf
  refine W.seqK fun K46 hK46 => ?_
  have Jk49 : ∀ (x48 : Int) (ρ : Env) (w : World), ρ 2 = .pointer (some ⟨g3, 0, none⟩) → ρ 3 = .pointer (some ⟨g28, 0, none⟩) → St ok (bz w0) w [] [blk g28 31 [bstr x8, .int .i64 x44, .int .i64 x48, .int .i64 0], blk g3 31 ([bstr [], .int .i64 0, .int .i64 0, .int .i64 0])] → Y0V.j1 x8 x44 x48 = some r → K46 ρ w := by
   intro x48 ρ w h47_2 h47_3 hs hf
   refine hK46 _ _ ?_
   unfold Y0V.j1 at hf
   refine W.seqK fun K50 hK50 => ?_
   refine W.region ?_
   refine WL.loadN (vs := [bstr x8, .int .i64 x44, .int .i64 x48, .int .i64 0]) hs 0 rfl TI31 h47_3 rfl rfl ?_
   refine WL.storeAll (vs := [bstr x8, .int .i64 x44, .int .i64 x48, .int .i64 0]) hs 1 rfl TI31 h47_2 rfl rfl rfl (Y0P rfl) rfl (fun w hs => ?_)
   refine WL.nil ?_
   refine hK50 _ _ ?_
   refine W.ret ?_
   have hr := Option.some.inj hf; subst hr
   have hs := hs.add (it := vl Y08 (⟨x8, x44, x48, 0⟩ : Y0c) (.agg [bstr x8, .int .i64 x44, .int .i64 x48, .int .i64 0].toArray)) fun ok hA => Y2W (show Y08.R ok _ _ _ from ⟨[bstr x8], [.int .i64 x44, .int .i64 x48, .int .i64 0], rfl, rfl, ⟨[.int .i64 x44], [.int .i64 x48, .int .i64 0], rfl, rfl, ⟨[.int .i64 x48], [.int .i64 0], rfl, rfl, rfl⟩⟩⟩) rfl
   exact ⟨_, Y0e rfl (Y2B hs 1 rfl TI31 h47_2 rfl), [bstr x8, .int .i64 x44, .int .i64 x48, .int .i64 0], rfl, (hs.mask []).pick [0]⟩
  refine W.seqK fun K51 hK51 => ?_
  refine W.region ?_
  refine WL.fieldAddr (m := 1) h43_3 Y2X rfl ?_
  refine WL.load1 (v := .int .i64 x44) hs 0 rfl TI3 rfl rfl ?_
  refine WL.bin (v := .bool (x44 == 1)) rfl rfl (Y1P _ _ _) ?_
  refine WL.nil ?_
  refine hK51 _ _ ?_
  rcases iteE hf with ⟨hc52, hf⟩ | ⟨hc52, hf⟩
  {
  refine W.cond_true (Y02 rfl hc52) ?_
  refine W.region ?_
  refine WL.move (v := .int .i64 x1) h43_0 ?_
  obtain ⟨x53, hxx53, hf⟩ := Y0s hf
  refine WL.call (vs := [.int .i64 x1, .int .i64 2, .int .i64 8]) hs FN31 ⟨rfl, ⟨rfl, ⟨rfl, trivial⟩⟩⟩ (fun ok hA => Y0h.calls (x1 := x1) (x2 := 2) (x3 := 8) hxx53) ?_
  rintro _ w hs
  obtain ⟨x54, ex54, hf⟩ := letE hf
  refine WL.bin (v := .int .i64 x54) rfl rfl (Y1V ex54 (Y1t _ _ _)) ?_
  refine WL.fieldAddr (m := 2) h43_3 Y3s rfl ?_
  refine WL.store (vs := [.int .i64 x54]) (cs' := [bstr x8, .int .i64 x44, .int .i64 x54, .int .i64 0]) hs 0 rfl TI3 rfl rfl rfl rfl (Y0P rfl) (Nat.le_of_ble_eq_true rfl) rfl (fun w hs => ?_)
  refine WL.nil ?_
  exact Jk49 x54 _ _ h43_2 h43_3 ((hs.mask [true, true]).pick []) hf }
  {
  refine W.cond_false (Y02 rfl hc52) ?_
  refine W.skip ?_
  exact Jk49 0 _ _ h43_2 h43_3 ((hs.mask [true, true]).pick []) hf }
 refine W.seqK fun K55 hK55 => ?_
 refine W.region ?_
 refine WL.move (v := .int .i64 x1) (hu27 0 rfl) ?_
 obtain ⟨x56, hxx56, hf⟩ := Y0s hf
 refine WL.call (vs := [.int .i64 x1, .int .i64 3, .int .i64 4]) hs FN31 ⟨rfl, ⟨rfl, ⟨rfl, trivial⟩⟩⟩ (fun ok hA => Y0h.calls (x1 := x1) (x2 := 3) (x3 := 4) hxx56) ?_
 rintro _ w hs
 refine WL.bin (v := .bool (decide (0 < x56))) rfl rfl (Y5X _ _ _) ?_
 refine WL.nil ?_
 refine hK55 _ _ ?_
 rcases iteE hf with ⟨hc57, hf⟩ | ⟨hc57, hf⟩
 {
 refine W.cond_true (Y02 rfl hc57) ?_
 refine W.region ?_
 refine WL.buildSlice (n := 2) (vs := [(0, .int .i64 1), (1, .int .i64 4)]) (cs := [.int .i64 1, .int .i64 4]) hs ⟨⟨rfl, rfl⟩, ⟨⟨rfl, rfl⟩, trivial⟩⟩ (bls PS22 (by decide) rfl) (fun g58 w hs => ?_)
 refine WL.move (v := .int .i64 x1) (hu27 0 rfl) ?_
 obtain ⟨x59, hxx59, hf⟩ := Y0s hf
 refine WL.call (vs := [.int .i64 x1, .int .i64 2, .int .i64 6]) hs FN31 ⟨rfl, ⟨rfl, ⟨rfl, trivial⟩⟩⟩ (fun ok hA => Y0h.calls (x1 := x1) (x2 := 2) (x3 := 6) hxx59) ?_
 rintro _ w hs
 have hs := hs.ownLit (A := tInt .i64) (xs := [1, 4]) 0 rfl (fun ok hA => (Y0U.app (Y0U.one (T := tInt .i64) rfl) (Y0U.one (T := tInt .i64) rfl))) (Nat.le_of_ble_eq_true rfl)
 have hs := hs.freezeOwn 0 rfl
 obtain ⟨x60, hxx60, hf⟩ := Y0s hf
 refine WL.indexAddr hs 0 rfl UN22 TI3 rfl rfl hxx60 (fun ad61 hs => ?_)
 refine WL.loadP hs 0 rfl TI3 (.inr rfl) rfl (fun v62 hs => ?_)
 obtain rfl := hs.int 0 rfl
 refine WL.fieldAddr (m := 1) e29 Y2X rfl ?_
 refine WL.store (vs := [.int .i64 x60]) (cs' := [bstr x8, .int .i64 x60, .int .i64 0, .int .i64 0]) hs 0 rfl TI3 rfl rfl rfl rfl (Y0P rfl) (Nat.le_of_ble_eq_true rfl) rfl (fun w hs => ?_)
 refine WL.nil ?_
 exact Jk45 x60 _ _ (hu27 0 rfl) (hu27 2 rfl) e29 ((hs.mask [true, true]).pick []) hf }
 {
 refine W.cond_false (Y02 rfl hc57) ?_
 refine W.skip ?_
 exact Jk45 x12 _ _ (hu27 0 rfl) (hu27 2 rfl) e29 ((hs.mask [true, true]).pick []) hf } }
theorem Y1E.calls {ok : Nat → Prop} {w0 : World} {x1 : Int}  {r : List UInt8} (hf : Y1E x1 = some r)  :
  Calls Tryz.prog 79 #[.int .i64 x1] w0 fun e w' => ∃ v, e = .returned v ∧ ∃ y : Unit, v = bstr r ∧ St ok (bz w0) w' [] [] := by
 unfold Y1E at hf
 refine Y0t (fn := Tryz.f79) (N := 8) Tryz.func79 rfl Tryz.ntmps79 rfl ?_
 have hs : St ok (bz w0) w0 [] [] := St.init All.nil
 refine W.seqK fun K2 hK2 => ?_
 refine W.region ?_
 refine WL.assign (v := bstr ([] : List UInt8)) rfl ?_
 refine WL.nil ?_
 refine hK2 _ _ ?_
 refine W.seqK fun K3 hK3 => ?_
 refine W.region ?_
 refine WL.buildSlice (n := 4) (vs := [(0, bstr ([97] : List UInt8)), (1, bstr ([98] : List UInt8)), (2, bstr ([99] : List UInt8)), (3, bstr ([120, 49] : List UInt8))]) (cs := [bstr ([97] : List UInt8), bstr ([98] : List UInt8), bstr ([99] : List UInt8), bstr ([120, 49] : List UInt8)]) hs ⟨⟨rfl, rfl⟩, ⟨⟨rfl, rfl⟩, ⟨⟨rfl, rfl⟩, ⟨⟨rfl, rfl⟩, trivial⟩⟩⟩⟩ (bls PS56 (by decide) rfl) (fun g4 w hs => ?_)
 refine WL.move (v := .int .i64 x1) rfl ?_
 obtain ⟨x5, hxx5, hf⟩ := Y0s hf
 refine WL.call (vs := [.int .i64 x1, .int .i64 4]) hs FN33 ⟨rfl, ⟨rfl, trivial⟩⟩ (fun ok hA => Y1p.calls (x1 := x1) (x2 := 4) hxx5) ?_
 rintro _ w hs
 have hs := hs.ownLit (A := tStr) (xs := [([97] : List UInt8), ([98] : List UInt8), ([99] : List UInt8), ([120, 49] : List UInt8)]) 0 rfl (fun ok hA => (Y0U.app (Y0U.one (T := tStr) rfl) (Y0U.app (Y0U.one (T := tStr) rfl) (Y0U.app (Y0U.one (T := tStr) rfl) (Y0U.one (T := tStr) rfl))))) (Nat.le_of_ble_eq_true rfl)
 have hs := hs.freezeOwn 0 rfl
 obtain ⟨x6, hxx6, hf⟩ := Y0s hf
 refine WL.indexAddr hs 0 rfl UN56 TI9 rfl rfl hxx6 (fun ad7 hs => ?_)
 refine WL.loadP hs 0 rfl TI9 (.inr rfl) rfl (fun v8 hs => ?_)
 obtain rfl := hs.str 0 rfl
 refine WL.assign (v := bstr x6) rfl ?_
 refine WL.nil ?_
 refine hK3 _ _ ?_
 refine W.ret ?_
 have hr := Option.some.inj hf; subst hr
 exact ⟨_, Y0e rfl rfl, (), rfl, (hs.mask []).pick []⟩
theorem Y0X.calls {ok : Nat → Prop} {w0 : World} {x1 : Int} {x2 : Bool}  {r : Y0y} (hf : Y0X x1 x2 = some r)  :
  Calls Tryz.prog 55 #[.int .i64 x1, .bool x2] w0 fun e w' => ∃ v, e = .returned v ∧ ∃ y : List Value, v = .agg y.toArray ∧ St ok (bz w0) w' [vl Y0A r (.agg y.toArray)] [] := by
 unfold Y0X at hf
 refine Y0t (fn := Tryz.f55) (N := 51) Tryz.func55 rfl Tryz.ntmps55 rfl ?_
 have hs : St ok (bz w0) w0 [] [] := St.init All.nil
 refine W.seqK fun K3 hK3 => ?_
 refine W.region ?_
 refine WL.alloc hs ZV96 (fun g4 w hs => ?_)
 refine WL.nil ?_
 refine hK3 _ _ ?_
 refine W.seqK fun K5 hK5 => ?_
 refine W.region ?_
 refine WL.move (v := .int .i64 x1) rfl ?_
 obtain ⟨x6, hxx6, hf⟩ := Y0s hf
 refine WL.call (vs := [.int .i64 x1, .int .i64 4, .int .i64 1]) hs FN31 ⟨rfl, ⟨rfl, ⟨rfl, trivial⟩⟩⟩ (fun ok hA => Y0h.calls (x1 := x1) (x2 := 4) (x3 := 1) hxx6) ?_
 rintro _ w hs
 obtain ⟨x7, hxx7, hf⟩ := Y0s hf
 refine WL.call (vs := [.int .i64 x6]) hs FN79 ⟨rfl, trivial⟩ (fun ok hA => Y1E.calls (x1 := x6) hxx7) ?_
 rintro _ w hs
 refine WL.move (v := .int .i64 x1) rfl ?_
 obtain ⟨x8, hxx8, hf⟩ := Y0s hf
 refine WL.call (vs := [.int .i64 x1, .int .i64 4, .int .i64 2]) hs FN31 ⟨rfl, ⟨rfl, ⟨rfl, trivial⟩⟩⟩ (fun ok hA => Y0h.calls (x1 := x1) (x2 := 4) (x3 := 2) hxx8) ?_
 rintro _ w hs
 obtain ⟨x9, hxx9, hf⟩ := Y0s hf
 refine WL.call (vs := [.int .i64 x8]) hs FN79 ⟨rfl, trivial⟩ (fun ok hA => Y1E.calls (x1 := x8) hxx9) ?_
 rintro _ w hs
 refine WL.build (vs := [(1, bstr x7), (2, bstr x9)]) (cs := [.int .i64 0, bstr x7, bstr x9, .int .i64 0, bstr []]) ⟨⟨rfl, rfl⟩, ⟨⟨rfl, rfl⟩, trivial⟩⟩ (bld PL96 rfl) ?_
 refine WL.alloc hs ZV96 (fun g10 w hs => ?_)
 refine WL.storeAll (vs := [.int .i64 0, bstr x7, bstr x9, .int .i64 0, bstr []]) hs 0 rfl TI96 rfl rfl rfl rfl (Y0P rfl) rfl (fun w hs => ?_)
 refine WL.nil ?_
 refine hK5 _ _ ?_
 refine W.seqK fun K11 hK11 => ?_
 refine W.region ?_
 refine WL.move (v := .int .i64 x1) rfl ?_
 obtain ⟨x12, hxx12, hf⟩ := Y0s hf
 refine WL.call (vs := [.int .i64 x1, .int .i64 16, .int .i64 3]) hs FN31 ⟨rfl, ⟨rfl, ⟨rfl, trivial⟩⟩⟩ (fun ok hA => Y0h.calls (x1 := x1) (x2 := 16) (x3 := 3) hxx12) ?_
 rintro _ w hs
 obtain ⟨x13, ex13, hf⟩ := letE hf
 refine WL.bin (v := .int .i64 x13) rfl rfl (Y1V ex13 (Y6D _ _ _)) ?_
 refine WL.assign (v := .int .i64 x13) rfl ?_
 refine WL.nil ?_
 refine hK11 _ _ ?_
 refine W.seqK fun K14 hK14 => ?_
 have Jk19 : ∀ (x16 : Int) (x17 : Int) (x18 : List UInt8) (ρ : Env) (w : World), ρ 4 = .pointer (some ⟨g4, 0, none⟩) → ρ 5 = .pointer (some ⟨g10, 0, none⟩) → St ok (bz w0) w [] [blk g10 96 [.int .i64 x16, bstr x7, bstr x9, .int .i64 x17, bstr x18], blk g4 96 ([.int .i64 0, bstr [], bstr [], .int .i64 0, bstr []])] → Y0X.j1 x7 x9 x16 x17 x18 = some r → K14 ρ w := by
  intro x16 x17 x18 ρ w h15_4 h15_5 hs hf
  refine hK14 _ _ ?_
  unfold Y0X.j1 at hf
  refine W.seqK fun K20 hK20 => ?_
  refine W.region ?_
  refine WL.loadN (vs := [.int .i64 x16, bstr x7, bstr x9, .int .i64 x17, bstr x18]) hs 0 rfl TI96 h15_5 rfl rfl ?_
  refine WL.storeAll (vs := [.int .i64 x16, bstr x7, bstr x9, .int .i64 x17, bstr x18]) hs 1 rfl TI96 h15_4 rfl rfl rfl (Y0P rfl) rfl (fun w hs => ?_)
  refine WL.nil ?_
  refine hK20 _ _ ?_
  refine W.ret ?_
  have hr := Option.some.inj hf; subst hr
  have hs := hs.add (it := vl Y0A (⟨x16, x7, x9, x17, x18⟩ : Y0y) (.agg [.int .i64 x16, bstr x7, bstr x9, .int .i64 x17, bstr x18].toArray)) fun ok hA => Y2W (show Y0A.R ok _ _ _ from ⟨[.int .i64 x16], [bstr x7, bstr x9, .int .i64 x17, bstr x18], rfl, rfl, ⟨[bstr x7], [bstr x9, .int .i64 x17, bstr x18], rfl, rfl, ⟨[bstr x9], [.int .i64 x17, bstr x18], rfl, rfl, ⟨[.int .i64 x17], [bstr x18], rfl, rfl, rfl⟩⟩⟩⟩) rfl
  exact ⟨_, Y0e rfl (Y2B hs 1 rfl TI96 h15_4 rfl), [.int .i64 x16, bstr x7, bstr x9, .int .i64 x17, bstr x18], rfl, (hs.mask []).pick [0]⟩
 refine W.block ?_
 refine W.seqK fun K21 hK21 => ?_
 refine W.region ?_
 refine WL.move (v := .bool x2) rfl ?_
 refine WL.assign (v := .bool x2) rfl ?_
 refine WL.nil ?_
 refine hK21 _ _ ?_
 rcases iteE hf with ⟨hc22, hf⟩ | ⟨hc22, hf⟩
 {
 refine W.cond_true (Y02 rfl hc22) ?_
 refine W.seqK fun K23 hK23 => ?_
 refine W.region ?_
 refine WL.fieldAddr (m := 0) rfl Y60 rfl ?_
 refine WL.store (vs := [.int .i64 1]) (cs' := [.int .i64 1, bstr x7, bstr x9, .int .i64 0, bstr []]) hs 0 rfl TI3 rfl rfl rfl rfl (Y0P rfl) (Nat.le_of_ble_eq_true rfl) rfl (fun w hs => ?_)
 refine WL.nil ?_
 refine hK23 _ _ ?_
 refine W.seqK fun K24 hK24 => ?_
 refine W.region ?_
 refine WL.move (v := .int .i64 x13) rfl ?_
 refine WL.fieldAddr (m := 3) rfl Y5G rfl ?_
 refine WL.store (vs := [.int .i64 x13]) (cs' := [.int .i64 1, bstr x7, bstr x9, .int .i64 x13, bstr []]) hs 0 rfl TI2 rfl rfl rfl rfl (Y0P rfl) (Nat.le_of_ble_eq_true rfl) rfl (fun w hs => ?_)
 refine WL.nil ?_
 refine hK24 _ _ ?_
 refine W.region ?_
 refine WL.move (v := .int .i64 x1) rfl ?_
 obtain ⟨x25, hxx25, hf⟩ := Y0s hf
 refine WL.call (vs := [.int .i64 x1, .int .i64 4, .int .i64 5]) hs FN31 ⟨rfl, ⟨rfl, ⟨rfl, trivial⟩⟩⟩ (fun ok hA => Y0h.calls (x1 := x1) (x2 := 4) (x3 := 5) hxx25) ?_
 rintro _ w hs
 obtain ⟨x26, hxx26, hf⟩ := Y0s hf
 refine WL.call (vs := [.int .i64 x25]) hs FN79 ⟨rfl, trivial⟩ (fun ok hA => Y1E.calls (x1 := x25) hxx26) ?_
 rintro _ w hs
 refine WL.fieldAddr (m := 4) rfl Y6Y rfl ?_
 refine WL.store (vs := [bstr x26]) (cs' := [.int .i64 1, bstr x7, bstr x9, .int .i64 x13, bstr x26]) hs 0 rfl TI9 rfl rfl rfl rfl (Y0P rfl) (Nat.le_of_ble_eq_true rfl) rfl (fun w hs => ?_)
 refine WL.nil ?_
 exact Jk19 1 x13 x26 _ _ rfl rfl ((hs.mask [true, true]).pick []) hf }
 {
 refine W.cond_false (Y02 rfl hc22) ?_
 refine W.seqK fun K27 hK27 => ?_
 refine W.region ?_
 refine WL.move (v := .int .i64 x1) rfl ?_
 obtain ⟨x28, hxx28, hf⟩ := Y0s hf
 refine WL.call (vs := [.int .i64 x1, .int .i64 4, .int .i64 0]) hs FN31 ⟨rfl, ⟨rfl, ⟨rfl, trivial⟩⟩⟩ (fun ok hA => Y0h.calls (x1 := x1) (x2 := 4) (x3 := 0) hxx28) ?_
 rintro _ w hs
 refine WL.bin (v := .bool (x28 == 0)) rfl rfl (Y1P _ _ _) ?_
 refine WL.assign (v := .bool (x28 == 0)) rfl ?_
 refine WL.nil ?_
 refine hK27 _ _ ?_
 rcases iteE hf with ⟨hc29, hf⟩ | ⟨hc29, hf⟩
 {
 refine W.cond_true (Y02 rfl hc29) ?_
 refine W.seqK fun K30 hK30 => ?_
 refine W.region ?_
 refine WL.fieldAddr (m := 0) rfl Y60 rfl ?_
 refine WL.store (vs := [.int .i64 2]) (cs' := [.int .i64 2, bstr x7, bstr x9, .int .i64 0, bstr []]) hs 0 rfl TI3 rfl rfl rfl rfl (Y0P rfl) (Nat.le_of_ble_eq_true rfl) rfl (fun w hs => ?_)
 refine WL.nil ?_
 refine hK30 _ _ ?_
 refine W.region ?_
 refine WL.move (v := .int .i64 x13) rfl ?_
 refine WL.fieldAddr (m := 3) rfl Y5G rfl ?_
 refine WL.store (vs := [.int .i64 x13]) (cs' := [.int .i64 2, bstr x7, bstr x9, .int .i64 x13, bstr []]) hs 0 rfl TI2 rfl rfl rfl rfl (Y0P rfl) (Nat.le_of_ble_eq_true rfl) rfl (fun w hs => ?_)
 refine WL.nil ?_
 exact Jk19 2 x13 [] _ _ rfl rfl ((hs.mask [true, true]).pick []) hf }
 {
 refine W.cond_false (Y02 rfl hc29) ?_
 refine W.seqK fun K31 hK31 => ?_
 refine W.region ?_
 refine WL.move (v := .int .i64 x1) rfl ?_
 obtain ⟨x32, hxx32, hf⟩ := Y0s hf
 refine WL.call (vs := [.int .i64 x1, .int .i64 4, .int .i64 0]) hs FN31 ⟨rfl, ⟨rfl, ⟨rfl, trivial⟩⟩⟩ (fun ok hA => Y0h.calls (x1 := x1) (x2 := 4) (x3 := 0) hxx32) ?_
 rintro _ w hs
 refine WL.bin (v := .bool (x32 == 1)) rfl rfl (Y1P _ _ _) ?_
 refine WL.assign (v := .bool (x32 == 1)) rfl ?_
 refine WL.nil ?_
 refine hK31 _ _ ?_
 rcases iteE hf with ⟨hc33, hf⟩ | ⟨hc33, hf⟩
 {
 refine W.cond_true (Y02 rfl hc33) ?_
 refine W.seqK fun K34 hK34 => ?_
 refine W.region ?_
 refine WL.fieldAddr (m := 0) rfl Y60 rfl ?_
 refine WL.store (vs := [.int .i64 3]) (cs' := [.int .i64 3, bstr x7, bstr x9, .int .i64 0, bstr []]) hs 0 rfl TI3 rfl rfl rfl rfl (Y0P rfl) (Nat.le_of_ble_eq_true rfl) rfl (fun w hs => ?_)
 refine WL.nil ?_
 refine hK34 _ _ ?_
 refine W.region ?_
 refine WL.move (v := .int .i64 x13) rfl ?_
 refine WL.fieldAddr (m := 3) rfl Y5G rfl ?_
 refine WL.store (vs := [.int .i64 x13]) (cs' := [.int .i64 3, bstr x7, bstr x9, .int .i64 x13, bstr []]) hs 0 rfl TI2 rfl rfl rfl rfl (Y0P rfl) (Nat.le_of_ble_eq_true rfl) rfl (fun w hs => ?_)
 refine WL.nil ?_
 exact Jk19 3 x13 [] _ _ rfl rfl ((hs.mask [true, true]).pick []) hf }
 {
 refine W.cond_false (Y02 rfl hc33) ?_
 refine W.seqK fun K35 hK35 => ?_
 refine W.region ?_
 refine WL.move (v := .int .i64 x1) rfl ?_
 obtain ⟨x36, hxx36, hf⟩ := Y0s hf
 refine WL.call (vs := [.int .i64 x1, .int .i64 4, .int .i64 0]) hs FN31 ⟨rfl, ⟨rfl, ⟨rfl, trivial⟩⟩⟩ (fun ok hA => Y0h.calls (x1 := x1) (x2 := 4) (x3 := 0) hxx36) ?_
 rintro _ w hs
 refine WL.bin (v := .bool (x36 == 2)) rfl rfl (Y1P _ _ _) ?_
 refine WL.assign (v := .bool (x36 == 2)) rfl ?_
 refine WL.nil ?_
 refine hK35 _ _ ?_
 rcases iteE hf with ⟨hc37, hf⟩ | ⟨hc37, hf⟩
 {
 refine W.cond_true (Y02 rfl hc37) ?_
 refine W.seqK fun K38 hK38 => ?_
 refine W.region ?_
 refine WL.fieldAddr (m := 0) rfl Y60 rfl ?_
 refine WL.store (vs := [.int .i64 4]) (cs' := [.int .i64 4, bstr x7, bstr x9, .int .i64 0, bstr []]) hs 0 rfl TI3 rfl rfl rfl rfl (Y0P rfl) (Nat.le_of_ble_eq_true rfl) rfl (fun w hs => ?_)
 refine WL.nil ?_
 refine hK38 _ _ ?_
 refine W.region ?_
 refine WL.move (v := .int .i64 x1) rfl ?_
 obtain ⟨x39, hxx39, hf⟩ := Y0s hf
 refine WL.call (vs := [.int .i64 x1, .int .i64 4, .int .i64 5]) hs FN31 ⟨rfl, ⟨rfl, ⟨rfl, trivial⟩⟩⟩ (fun ok hA => Y0h.calls (x1 := x1) (x2 := 4) (x3 := 5) hxx39) ?_
 rintro _ w hs
 obtain ⟨x40, hxx40, hf⟩ := Y0s hf
 refine WL.call (vs := [.int .i64 x39]) hs FN79 ⟨rfl, trivial⟩ (fun ok hA => Y1E.calls (x1 := x39) hxx40) ?_
 rintro _ w hs
 refine WL.fieldAddr (m := 4) rfl Y6Y rfl ?_
 refine WL.store (vs := [bstr x40]) (cs' := [.int .i64 4, bstr x7, bstr x9, .int .i64 0, bstr x40]) hs 0 rfl TI9 rfl rfl rfl rfl (Y0P rfl) (Nat.le_of_ble_eq_true rfl) rfl (fun w hs => ?_)
 refine WL.nil ?_
 exact Jk19 4 0 x40 _ _ rfl rfl ((hs.mask [true, true]).pick []) hf }
 {
 refine W.cond_false (Y02 rfl hc37) ?_
 refine W.region ?_
 refine WL.fieldAddr (m := 0) rfl Y60 rfl ?_
 refine WL.store (vs := [.int .i64 5]) (cs' := [.int .i64 5, bstr x7, bstr x9, .int .i64 0, bstr []]) hs 0 rfl TI3 rfl rfl rfl rfl (Y0P rfl) (Nat.le_of_ble_eq_true rfl) rfl (fun w hs => ?_)
 refine WL.nil ?_
 exact Jk19 5 0 [] _ _ rfl rfl ((hs.mask [true, true]).pick []) hf } } } }
theorem Y15.calls {ok : Nat → Prop} {w0 : World} {x1 : Int} {x2 : Int} {x3 : Int}  {r : Y0l} (hf : Y15 x1 x2 x3 = some r)  :
  Calls Tryz.prog 32 #[.int .i64 x1, .int .i64 x2, .int .i64 x3] w0 fun e w' => ∃ v, e = .returned v ∧ ∃ y : (Option Addr × Nat × Nat), v = .agg ([.int .i64 r.Client, .int .i64 r.Seq, .int .i64 r.Tag, .slice y.1 y.2.1 y.2.2] : List Value).toArray ∧ St ok (bz w0) w' [] [own Y0A 96 (.slice y.1 y.2.1 y.2.2) r.Effects] := by
 unfold Y15 at hf
 refine Y0t (fn := Tryz.f32) (N := 41) Tryz.func32 rfl Tryz.ntmps32 rfl ?_
 have hs : St ok (bz w0) w0 [] [] := St.init All.nil
 refine W.seqK fun K4 hK4 => ?_
 refine W.region ?_
 refine WL.alloc hs ZV74 (fun g5 w hs => ?_)
 refine WL.nil ?_
 refine hK4 _ _ ?_
 refine W.seqK fun K6 hK6 => ?_
 refine W.region ?_
 refine WL.move (v := .int .i64 x1) rfl ?_
 refine WL.move (v := .int .i64 x2) rfl ?_
 refine WL.build (vs := [(0, .int .i64 x1), (1, .int .i64 x2)]) (cs := [.int .i64 x1, .int .i64 x2, .int .i64 0, .slice none 0 0]) ⟨⟨rfl, rfl⟩, ⟨⟨rfl, rfl⟩, trivial⟩⟩ (bld PL74 rfl) ?_
 refine WL.alloc hs ZV74 (fun g7 w hs => ?_)
 refine WL.storeAll (vs := [.int .i64 x1, .int .i64 x2, .int .i64 0, .slice none 0 0]) hs 0 rfl TI74 rfl rfl rfl rfl (Y0P rfl) rfl (fun w hs => ?_)
 refine WL.nil ?_
 refine hK6 _ _ ?_
 refine W.seqK fun K8 hK8 => ?_
 refine W.seqK fun K9 hK9 => ?_
 refine W.region ?_
 refine WL.move (v := .int .i64 x3) rfl ?_
 obtain ⟨x10, hxx10, hf⟩ := Y0s hf
 refine WL.call (vs := [.int .i64 x3, .int .i64 3, .int .i64 8]) hs FN31 ⟨rfl, ⟨rfl, ⟨rfl, trivial⟩⟩⟩ (fun ok hA => Y0h.calls (x1 := x3) (x2 := 3) (x3 := 8) hxx10) ?_
 rintro _ w hs
 refine WL.bin (v := .bool (x10 == 0)) rfl rfl (Y1P _ _ _) ?_
 refine WL.nil ?_
 refine hK9 _ _ ?_
 rcases iteE hf with ⟨hc11, hf⟩ | ⟨hc11, hf⟩
 {
 refine W.cond_true (Y02 rfl hc11) ?_
 refine W.seqK fun K12 hK12 => ?_
 refine W.region ?_
 refine WL.move (v := .int .i64 x3) rfl ?_
 obtain ⟨x13, hxx13, hf⟩ := Y0s hf
 refine WL.call (vs := [.int .i64 x3, .int .i64 16, .int .i64 4]) hs FN31 ⟨rfl, ⟨rfl, ⟨rfl, trivial⟩⟩⟩ (fun ok hA => Y0h.calls (x1 := x3) (x2 := 16) (x3 := 4) hxx13) ?_
 rintro _ w hs
 refine WL.fieldAddr (m := 2) rfl Y9e rfl ?_
 refine WL.store (vs := [.int .i64 x13]) (cs' := [.int .i64 x1, .int .i64 x2, .int .i64 x13, .slice none 0 0]) hs 0 rfl TI3 rfl rfl rfl rfl (Y0P rfl) (Nat.le_of_ble_eq_true rfl) rfl (fun w hs => ?_)
 refine WL.nil ?_
 refine hK12 _ _ ?_
 refine W.seqK fun K14 hK14 => ?_
 refine W.region ?_
 refine WL.move (v := .int .i64 x3) rfl ?_
 obtain ⟨x15, hxx15, hf⟩ := Y0s hf
 refine WL.call (vs := [.int .i64 x3, .bool true]) hs FN55 ⟨rfl, ⟨rfl, trivial⟩⟩ (fun ok hA => Y0X.calls (x1 := x3) (x2 := true) hxx15) ?_
 rintro cs16 w hs
 have hl17 := hs.agglen (n := 5) 0 rfl rfl rfl
 refine WL.buildSlice (n := 1) (vs := [(0, .agg cs16.toArray)]) (cs := cs16) hs ⟨⟨rfl, rfl⟩, trivial⟩ (bls PS72 (by decide) (by simp [Y93, Y4J, Value.cells, hl17])) (fun g18 w hs => ?_)
 refine WL.fieldAddr (m := 3) rfl Y88 rfl ?_
 refine WL.store (vs := [.slice (some ⟨g18, 0, none⟩) ([x15]).length 1]) (cs' := [.int .i64 x1, .int .i64 x2, .int .i64 x13, .slice (some ⟨g18, 0, none⟩) ([x15]).length 1]) hs 1 rfl TI72 rfl rfl rfl rfl (Y0P rfl) (Nat.le_of_ble_eq_true rfl) rfl (fun w hs => ?_)
 refine WL.nil ?_
 refine hK14 _ _ ?_
 refine W.seqK fun K19 hK19 => ?_
 refine W.region ?_
 refine WL.loadN (vs := [.int .i64 x1, .int .i64 x2, .int .i64 x13, .slice (some ⟨g18, 0, none⟩) ([x15]).length 1]) hs 1 rfl TI74 rfl rfl rfl ?_
 refine WL.storeAll (vs := [.int .i64 x1, .int .i64 x2, .int .i64 x13, .slice (some ⟨g18, 0, none⟩) ([x15]).length 1]) hs 2 rfl TI74 rfl rfl rfl rfl (Y0P rfl) rfl (fun w hs => ?_)
 have hs := hs.ownLit (A := Y0A) (xs := [x15]) 0 rfl (fun ok hA => (Y0U.one (T := Y0A) (Y3F (hA.get 0 rfl) rfl))) (Nat.le_of_ble_eq_true rfl)
 refine WL.nil ?_
 refine hK19 _ _ ?_
 refine W.ret ?_
 have hr := Option.some.inj hf; subst hr
 exact ⟨_, Y0e rfl (Y2B hs 2 rfl TI74 rfl rfl), ((some ⟨g18, 0, none⟩), ([x15]).length, 1), rfl, (hs.mask [true]).pick []⟩ }
 {
 refine W.cond_false (Y02 rfl hc11) ?_
 refine W.skip ?_
 refine hK8 _ _ ?_
 refine W.seqK fun K20 hK20 => ?_
 have hs := hs.ownNil Y0A 96
 have Jk26 : ∀ (x22 : List Y0y) (a23 : Option Addr) (c24 : Nat) (n25 : Nat) (ρ : Env) (w : World), ρ 6 = .pointer (some ⟨g5, 0, none⟩) → ρ 7 = .pointer (some ⟨g7, 0, none⟩) → St ok (bz w0) w [] [own Y0A 96 (.slice a23 n25 c24) x22, blk g7 74 [.int .i64 x1, .int .i64 x2, .int .i64 0, .slice a23 n25 c24], blk g5 74 [.int .i64 0, .int .i64 0, .int .i64 0, .slice none 0 0]] → Y15.j1 x1 x2 x22 = some r → K20 ρ w := by
  intro x22 a23 c24 n25 ρ w h21_6 h21_7 hs hf
  refine hK20 _ _ ?_
  unfold Y15.j1 at hf
  refine W.seqK fun K27 hK27 => ?_
  refine W.region ?_
  refine WL.loadN (vs := [.int .i64 x1, .int .i64 x2, .int .i64 0, .slice a23 n25 c24]) hs 1 rfl TI74 h21_7 rfl rfl ?_
  refine WL.storeAll (vs := [.int .i64 x1, .int .i64 x2, .int .i64 0, .slice a23 n25 c24]) hs 2 rfl TI74 h21_6 rfl rfl rfl (Y0P rfl) rfl (fun w hs => ?_)
  refine WL.nil ?_
  refine hK27 _ _ ?_
  refine W.ret ?_
  have hr := Option.some.inj hf; subst hr
  exact ⟨_, Y0e rfl (Y2B hs 2 rfl TI74 h21_6 rfl), (a23, n25, c24), rfl, (hs.mask [true]).pick []⟩
 refine W.seqK fun K28 hK28 => ?_
 refine W.region ?_
 refine WL.assign (v := .int .i64 0) rfl ?_
 refine WL.nil ?_
 refine hK28 _ _ ?_
 refine W.block ?_
 obtain ⟨bs35, hbs35, hfs35⟩ := Y0s hf
 refine W.loop hbs35 (fun s ρ w => match s with | (x30, x31) => ∃ (a32 : Option Addr), ∃ (c33 : Nat), ∃ (n34 : Nat), ρ 2 = .int .i64 x3 ∧ ρ 6 = .pointer (some ⟨g5, 0, none⟩) ∧ ρ 7 = .pointer (some ⟨g7, 0, none⟩) ∧ ρ 8 = .int .i64 x30 ∧ St ok (bz w0) w [] [own Y0A 96 (.slice a32 n34 c33) x31, blk g7 74 [.int .i64 x1, .int .i64 x2, .int .i64 0, .slice a32 n34 c33], blk g5 74 [.int .i64 0, .int .i64 0, .int .i64 0, .slice none 0 0]]) ⟨none, 0, 0, rfl, rfl, rfl, rfl, (hs.mask [true, true, true]).pick []⟩ ?_
 intro s ρ w os35 hI hf hbbs35
 obtain ⟨x30, x31⟩ := s
 obtain ⟨a32, c33, n34, h29_2, h29_6, h29_7, h29_8, hs⟩ := hI
 unfold Y15.l1 at hf
 refine W.seqK fun K36 hK36 => ?_
 refine W.seqK fun K37 hK37 => ?_
 refine W.region ?_
 refine WL.move (v := .int .i64 x30) h29_8 ?_
 refine WL.move (v := .int .i64 x3) h29_2 ?_
 obtain ⟨x38, hxx38, hf⟩ := Y0s hf
 refine WL.call (vs := [.int .i64 x3, .int .i64 3, .int .i64 9]) hs FN31 ⟨rfl, ⟨rfl, ⟨rfl, trivial⟩⟩⟩ (fun ok hA => Y0h.calls (x1 := x3) (x2 := 3) (x3 := 9) hxx38) ?_
 rintro _ w hs
 refine WL.bin (v := .bool (decide (x30 ≤ x38))) rfl rfl (Y8X _ _ _) ?_
 refine WL.nil ?_
 refine hK37 _ _ ?_
 rcases iteE hf with ⟨hc39, hf⟩ | ⟨hc39, hf⟩
 {
 refine W.cond_true (Y02 rfl hc39) ?_
 refine W.skip ?_
 refine hK36 _ _ ?_
 refine W.seqK fun K40 hK40 => ?_
 refine W.block ?_
 obtain ⟨x41, hxx41, hf⟩ := Y0s hf
 obtain ⟨x42, ex42, hf⟩ := letE hf
 obtain ⟨hn44, hf⟩ := Y2O hf
 obtain ⟨x43, ex43, hf⟩ := letE hf
 obtain ⟨x45, hxx45, hf⟩ := Y0s hf
 refine W.any (by kernel_rfl) 9 3 [true, true, true, true, true, true, true, true, true, false, false, false] rfl rfl (poAt [pv (.pointer (some ⟨g7, 3, none⟩)), pv (.slice a32 n34 c33), pv (.int .i64 x3), pv (.int .i64 x41), pv (.int .i64 x30), pv (.int .i64 x42), pv (.int .i64 x43), pq (fun y : List Value => .agg y.toArray) (fun v => [vl Y0A x45 v]) (fun v => []), pq (fun y : (Option Addr × Nat) => .slice y.1 ([x45]).length y.2) (fun v => [vl (Y0b Y0A) [x45] v]) (fun v => [])]) (Λ := [own Y0A 96 (.slice a32 n34 c33) x31, blk g7 74 [.int .i64 x1, .int .i64 x2, .int .i64 0, .slice a32 n34 c33], blk g5 74 [.int .i64 0, .int .i64 0, .int .i64 0, .slice none 0 0]]) hs (by kernel_rfl) (by kernel_rfl) (by kernel_rfl) ⟨⟨⟨⟨⟨⟨⟨⟨⟨trivial, ?_⟩, ?_⟩, ?_⟩, ?_⟩, ?_⟩, ?_⟩, ?_⟩, ?_⟩, ?_⟩ ?_
 {
 intro ρ w Γx Λx hs hu hp
 refine WL.fieldAddr (m := 3) ((hu 7 rfl).trans h29_7) Y88 rfl ?_
 exact WL.nil ⟨rfl, _, rfl, rfl, hs.cutG 0 0⟩ }
 {
 intro ρ w Γx Λx hs hu hp
 have e50 : ρ 29 = .pointer (some ⟨g7, 3, none⟩) := (hp 0 rfl).1
 refine WL.load1 (v := .slice a32 n34 c33) hs (Λx.length + 1) (Y0q rfl) TI72 e50 rfl ?_
 exact WL.nil ⟨rfl, _, rfl, rfl, hs.cutG 0 0⟩ }
 {
 intro ρ w Γx Λx hs hu hp
 refine WL.move (v := .int .i64 x3) ((hu 2 rfl).trans h29_2) ?_
 exact WL.nil ⟨rfl, _, rfl, rfl, hs.cutG 0 0⟩ }
 {
 intro ρ w Γx Λx hs hu hp
 have e51 : ρ 31 = .int .i64 x3 := (hp 2 rfl).1
 refine WL.call (vs := [.int .i64 x3, .int .i64 1099511627776]) hs FN33 ⟨e51, ⟨rfl, trivial⟩⟩ (fun ok hA => Y1p.calls (x1 := x3) (x2 := 1099511627776) hxx41) ?_
 rintro _ w hs
 exact WL.nil ⟨rfl, _, rfl, rfl, hs.cutG 0 0⟩ }
 {
 intro ρ w Γx Λx hs hu hp
 refine WL.move (v := .int .i64 x30) ((hu 8 rfl).trans h29_8) ?_
 exact WL.nil ⟨rfl, _, rfl, rfl, hs.cutG 0 0⟩ }
 {
 intro ρ w Γx Λx hs hu hp
 have e52 : ρ 33 = .int .i64 x30 := (hp 4 rfl).1
 refine WL.bin (v := .int .i64 x42) e52 rfl (Y1V ex42 (Y1t _ _ _)) ?_
 exact WL.nil ⟨rfl, _, rfl, rfl, hs.cutG 0 0⟩ }
 {
 intro ρ w Γx Λx hs hu hp
 have e53 : ρ 32 = .int .i64 x41 := (hp 3 rfl).1
 have e54 : ρ 34 = .int .i64 x42 := (hp 5 rfl).1
 refine WL.bin (v := .int .i64 x43) e53 e54 (Y1V ex43 (Y8W _ _ _ hn44)) ?_
 exact WL.nil ⟨rfl, _, rfl, rfl, hs.cutG 0 0⟩ }
 {
 intro ρ w Γx Λx hs hu hp
 have e55 : ρ 35 = .int .i64 x43 := (hp 6 rfl).1
 refine WL.call (vs := [.int .i64 x43, .bool false]) hs FN55 ⟨e55, ⟨rfl, trivial⟩⟩ (fun ok hA => Y0X.calls (x1 := x43) (x2 := false) hxx45) ?_
 rintro cs46 w hs
 have hl47 := hs.agglen (n := 5) 0 rfl rfl rfl
 have hs := hs.add (it := vl Y0A x45 (.agg cs46.toArray)) fun ok hA => hA.get 0 rfl
 exact WL.nil ⟨rfl, _, rfl, ⟨cs46, rfl⟩, hs.cutG 1 1⟩ }
 {
 intro ρ w Γx Λx hs hu hp
 obtain ⟨⟨cs56, e58r⟩, hm59⟩ := hp 7 rfl
 have e58 : ρ 36 = .agg cs56.toArray := e58r
 rw [e58r] at hm59
 have hs := hs.memo1 (it := vl Y0A x45 (.agg cs56.toArray)) (List.mem_append.2 (.inl (hm59 _ (List.mem_of_getElem? (i := 0) rfl))))
 have hl57 := hs.agglen (n := 5) 0 rfl rfl rfl
 refine WL.buildSliceB (ys := [x45]) (n := 1) (vs := [(0, .agg cs56.toArray)]) (cs := cs56) hs ⟨⟨rfl, e58⟩, trivial⟩ (bls PS72 (by decide) (by simp [Y93, Y4J, Value.cells, hl57])) (fun ok hA => (Y0U.one (T := Y0A) (Y3F (hA.get 0 rfl) rfl))) rfl (by decide) (fun a49 w hBl hs => ?_)
 have hs := hs.add (it := vl (Y0b Y0A) [x45] (.slice a49 ([x45]).length 1)) fun ok hA => hA.get 0 rfl
 exact WL.nil ⟨rfl, _, rfl, ⟨(a49, 1), rfl⟩, hs.cutG 1 2⟩ }
 {
 intro ρ w hs hu60 hp
 obtain ⟨⟨⟨⟨⟨⟨⟨⟨⟨_, hp0_⟩, hp1_⟩, hp2_⟩, hp3_⟩, hp4_⟩, hp5_⟩, hp6_⟩, hp7_⟩, hp8_⟩ := hp
 have hs : St ok (bz w0) w [vl (Y0b Y0A) [x45] (ρ 37), vl Y0A x45 (ρ 36)] [own Y0A 96 (.slice a32 n34 c33) x31, blk g7 74 [.int .i64 x1, .int .i64 x2, .int .i64 0, .slice a32 n34 c33], blk g5 74 [.int .i64 0, .int .i64 0, .int .i64 0, .slice none 0 0]] := hs
 obtain ⟨⟨a61, c62⟩, e63⟩ := hp8_
 have e63 : ρ 37 = .slice a61 ([x45]).length c62 := e63
 try rw [e63] at hs
 obtain ⟨cs64, e66⟩ := hp7_
 have e66 : ρ 36 = .agg cs64.toArray := e66
 try rw [e66] at hs
 have e67 : ρ 35 = .int .i64 x43 := hp6_
 have e68 : ρ 34 = .int .i64 x42 := hp5_
 have e69 : ρ 33 = .int .i64 x30 := hp4_
 have e70 : ρ 32 = .int .i64 x41 := hp3_
 have e71 : ρ 31 = .int .i64 x3 := hp2_
 have e72 : ρ 30 = .slice a32 n34 c33 := hp1_
 have e73 : ρ 29 = .pointer (some ⟨g7, 3, none⟩) := hp0_
 have hl65 := hs.agglen (n := 5) 1 rfl rfl rfl
 refine WA.step [9] (by kernel_rfl) (by simp) ⟨?_, trivial⟩
 obtain ⟨x74, hxx74, hf⟩ := Y0s hf
 obtain ⟨hbx74, hex74⟩ := appE hxx74
 refine WL.appendS (zs := x74) hs 0 rfl 0 rfl UN72 UN72 EI96 e72 e63 hbx74 (by omega) hex74 (fun v75 w hs => ?_)
 obtain ⟨a76, n78, c77, rfl⟩ := hs.ownv3 0 rfl
 refine WL.nil ⟨rfl, _, rfl, ?_⟩
 refine WA.step [10] (by kernel_rfl) (by simp) ⟨?_, trivial⟩
 refine WL.fieldAddr (m := 3) ((hu60 7 rfl).trans h29_7) Y88 rfl ?_
 refine WL.nil ⟨rfl, _, rfl, ?_⟩
 refine WA.step [11] (by kernel_rfl) (by simp) ⟨?_, trivial⟩
 refine WL.store (vs := [.slice a76 n78 c77]) (cs' := [.int .i64 x1, .int .i64 x2, .int .i64 0, .slice a76 n78 c77]) hs 1 rfl TI72 rfl rfl rfl rfl (Y0P rfl) (Nat.le_of_ble_eq_true rfl) rfl (fun w hs => ?_)
 refine WL.nil ⟨rfl, _, rfl, ?_⟩
 refine WA.done (by kernel_rfl) ?_
 refine hK40 _ _ ?_
 refine W.region ?_
 refine WL.move (v := .int .i64 x30) ((hu60 8 rfl).trans h29_8) ?_
 obtain ⟨x79, ex79, hf⟩ := letE hf
 refine WL.bin (v := .int .i64 x79) rfl rfl (Y1V ex79 (Y1t _ _ _)) ?_
 refine WL.assign (v := .int .i64 x79) rfl ?_
 refine WL.nil ?_
 exact ⟨_, (Option.some.inj hf).symm, a76, c77, n78, ((hu60 2 rfl).trans h29_2), ((hu60 6 rfl).trans h29_6), ((hu60 7 rfl).trans h29_7), rfl, (hs.mask [true, true, true]).pick []⟩ } }
 {
 refine W.cond_false (Y02 rfl hc39) ?_
 refine W.exit ?_
 have hr := Option.some.inj hf; subst hr
 have hr := hbbs35 _ rfl; subst hr
 have hf := hfs35
 exact Jk26 x31 a32 c33 n34 _ _ h29_6 h29_7 ((hs.mask [true, true, true]).pick []) hf } }
theorem Y0k.calls {ok : Nat → Prop} {w0 : World} {x1 : List Int} {a2 : Option Addr} {c3 : Nat} {r : List Y0l} (hf : Y0k x1 = some r) (i0 : (vl (Y0b (tInt .i64)) x1 (.slice a2 x1.length c3)).holds ok w0) :
  Calls Tryz.prog 10 #[.slice a2 x1.length c3] w0 fun e w' => ∃ v, e = .returned v ∧ ∃ y : (Option Addr × Nat × Nat), v = .slice y.1 y.2.1 y.2.2 ∧ St ok (bz w0) w' [] [own Y0r 74 (.slice y.1 y.2.1 y.2.2) r] := by
 unfold Y0k at hf
 refine Y0t (fn := Tryz.f10) (N := 48) Tryz.func10 rfl Tryz.ntmps10 rfl ?_
 have hs : St ok (bz w0) w0 [vl (Y0b (tInt .i64)) x1 (.slice a2 x1.length c3)] [] := St.init (All.cons i0 All.nil)
 clear i0
 refine W.seqK fun K4 hK4 => ?_
 refine W.region ?_
 refine WL.assign (v := .slice none 0 0) rfl ?_
 refine WL.nil ?_
 refine hK4 _ _ ?_
 refine W.seqK fun K5 hK5 => ?_
 refine W.region ?_
 refine WL.assign (v := .slice none 0 0) rfl ?_
 refine WL.nil ?_
 refine hK5 _ _ ?_
 refine W.seqK fun K6 hK6 => ?_
 have hs := hs.ownNil Y0r 74
 have Jk12 : ∀ (x8 : List Y0l) (a9 : Option Addr) (c10 : Nat) (n11 : Nat) (ρ : Env) (w : World), ρ 3 = .slice a9 n11 c10 → St ok (bz w0) w [] [own Y0r 74 (.slice a9 n11 c10) x8] → Y0k.j1 x8 = some r → K6 ρ w := by
  intro x8 a9 c10 n11 ρ w h7_3 hs hf
  refine hK6 _ _ ?_
  unfold Y0k.j1 at hf
  refine W.seqK fun K13 hK13 => ?_
  refine W.region ?_
  refine WL.move (v := .slice a9 n11 c10) h7_3 ?_
  refine WL.assign (v := .slice a9 n11 c10) rfl ?_
  refine WL.nil ?_
  refine hK13 _ _ ?_
  refine W.ret ?_
  have hr := Option.some.inj hf; subst hr
  exact ⟨_, Y0e rfl rfl, (a9, n11, c10), rfl, (hs.mask [true]).pick []⟩
 refine W.seqK fun K14 hK14 => ?_
 refine W.region ?_
 refine WL.assign (v := .int .i64 0) rfl ?_
 refine WL.nil ?_
 refine hK14 _ _ ?_
 refine W.block ?_
 obtain ⟨bs21, hbs21, hfs21⟩ := Y0s hf
 refine W.loop hbs21 (fun s ρ w => match s with | (x16, x20) => ∃ (a17 : Option Addr), ∃ (c18 : Nat), ∃ (n19 : Nat), ρ 0 = .slice a2 x1.length c3 ∧ ρ 3 = .slice a17 n19 c18 ∧ ρ 4 = .int .i64 x20 ∧ St ok (bz w0) w [vl (Y0b (tInt .i64)) x1 (.slice a2 x1.length c3)] [own Y0r 74 (.slice a17 n19 c18) x16]) ⟨none, 0, 0, rfl, rfl, rfl, (hs.mask [true]).pick [0]⟩ ?_
 intro s ρ w os21 hI hf hbbs21
 obtain ⟨x16, x20⟩ := s
 obtain ⟨a17, c18, n19, h15_0, h15_3, h15_4, hs⟩ := hI
 unfold Y0k.l2 at hf
 refine W.seqK fun K22 hK22 => ?_
 refine W.seqK fun K23 hK23 => ?_
 refine W.region ?_
 refine WL.move (v := .int .i64 x20) h15_4 ?_
 refine WL.bin (v := .bool (decide (x20 < 3))) rfl rfl (Y1n _ _ _) ?_
 refine WL.nil ?_
 refine hK23 _ _ ?_
 rcases iteE hf with ⟨hc24, hf⟩ | ⟨hc24, hf⟩
 {
 refine W.cond_true (Y02 rfl hc24) ?_
 refine W.skip ?_
 refine hK22 _ _ ?_
 refine W.seqK fun K25 hK25 => ?_
 have Jk31 : ∀ (x27 : List Y0l) (a28 : Option Addr) (c29 : Nat) (n30 : Nat) (ρ : Env) (w : World), ρ 0 = .slice a2 x1.length c3 → ρ 3 = .slice a28 n30 c29 → ρ 4 = .int .i64 x20 → St ok (bz w0) w [vl (Y0b (tInt .i64)) x1 (.slice a2 x1.length c3)] [own Y0r 74 (.slice a28 n30 c29) x27] → Y0k.j2 x20 x27 = some os21 → K25 ρ w := by
  intro x27 a28 c29 n30 ρ w h26_0 h26_3 h26_4 hs hf
  refine hK25 _ _ ?_
  unfold Y0k.j2 at hf
  refine W.region ?_
  refine WL.move (v := .int .i64 x20) h26_4 ?_
  obtain ⟨x32, ex32, hf⟩ := letE hf
  refine WL.bin (v := .int .i64 x32) rfl rfl (Y1V ex32 (Y1t _ _ _)) ?_
  refine WL.assign (v := .int .i64 x32) rfl ?_
  refine WL.nil ?_
  exact ⟨_, (Option.some.inj hf).symm, a28, c29, n30, h26_0, h26_3, rfl, (hs.mask [true]).pick [0]⟩
 refine W.block ?_
 refine W.seqK fun K33 hK33 => ?_
 refine W.region ?_
 refine WL.assign (v := .int .i64 0) rfl ?_
 refine WL.nil ?_
 refine hK33 _ _ ?_
 refine W.seqK fun K34 hK34 => ?_
 refine W.region ?_
 refine WL.assign (v := .int .i64 0) rfl ?_
 refine WL.nil ?_
 refine hK34 _ _ ?_
 refine W.block ?_
 obtain ⟨bs42, hbs42, hfs42⟩ := Y0s hf
 refine W.loop hbs42 (fun s ρ w => match s with | (x36, x40, x41) => ∃ (a37 : Option Addr), ∃ (c38 : Nat), ∃ (n39 : Nat), ρ 0 = .slice a2 x1.length c3 ∧ ρ 3 = .slice a37 n39 c38 ∧ ρ 4 = .int .i64 x20 ∧ ρ 5 = .int .i64 x40 ∧ ρ 6 = .int .i64 x41 ∧ St ok (bz w0) w [vl (Y0b (tInt .i64)) x1 (.slice a2 x1.length c3)] [own Y0r 74 (.slice a37 n39 c38) x36]) ⟨a17, c18, n19, h15_0, h15_3, h15_4, rfl, rfl, (hs.mask [true]).pick [0]⟩ ?_
 intro s ρ w os42 hI hf hbbs42
 obtain ⟨x36, x40, x41⟩ := s
 obtain ⟨a37, c38, n39, h35_0, h35_3, h35_4, h35_5, h35_6, hs⟩ := hI
 unfold Y0k.l1 at hf
 refine W.seqK fun K43 hK43 => ?_
 refine W.seqK fun K44 hK44 => ?_
 have Jk47 : ∀ (x46 : Bool) (ρ : Env) (w : World), ρ 0 = .slice a2 x1.length c3 → ρ 3 = .slice a37 n39 c38 → ρ 4 = .int .i64 x20 → ρ 5 = .int .i64 x40 → ρ 6 = .int .i64 x41 → ρ 18 = .bool x46 → St ok (bz w0) w [vl (Y0b (tInt .i64)) x1 (.slice a2 x1.length c3)] [own Y0r 74 (.slice a37 n39 c38) x36] → Y0k.j5 x1 x20 x36 x40 x41 x46 = some os42 → K44 ρ w := by
  intro x46 ρ w h45_0 h45_3 h45_4 h45_5 h45_6 h45_18 hs hf
  refine hK44 _ _ ?_
  unfold Y0k.j5 at hf
  rcases iteE hf with ⟨hc48, hf⟩ | ⟨hc48, hf⟩
  {
  refine W.cond_true (Y02 h45_18 hc48) ?_
  refine W.skip ?_
  refine hK43 _ _ ?_
  refine W.seqK fun K49 hK49 => ?_
  have Jk56 : ∀ (x51 : List Y0l) (x55 : Int) (a52 : Option Addr) (c53 : Nat) (n54 : Nat) (ρ : Env) (w : World), ρ 0 = .slice a2 x1.length c3 → ρ 3 = .slice a52 n54 c53 → ρ 4 = .int .i64 x20 → ρ 5 = .int .i64 x55 → ρ 6 = .int .i64 x41 → St ok (bz w0) w [vl (Y0b (tInt .i64)) x1 (.slice a2 x1.length c3)] [own Y0r 74 (.slice a52 n54 c53) x51] → Y0k.j3 x41 x51 x55 = some os42 → K49 ρ w := by
   intro x51 x55 a52 c53 n54 ρ w h50_0 h50_3 h50_4 h50_5 h50_6 hs hf
   refine hK49 _ _ ?_
   unfold Y0k.j3 at hf
   refine W.region ?_
   refine WL.move (v := .int .i64 x41) h50_6 ?_
   obtain ⟨x57, ex57, hf⟩ := letE hf
   refine WL.bin (v := .int .i64 x57) rfl rfl (Y1V ex57 (Y1t _ _ _)) ?_
   refine WL.assign (v := .int .i64 x57) rfl ?_
   refine WL.nil ?_
   exact ⟨_, (Option.some.inj hf).symm, a52, c53, n54, h50_0, h50_3, h50_4, h50_5, rfl, (hs.mask [true]).pick [0]⟩
  refine W.block ?_
  refine W.seqK fun K58 hK58 => ?_
  have Jk61 : ∀ (x60 : Bool) (ρ : Env) (w : World), ρ 0 = .slice a2 x1.length c3 → ρ 3 = .slice a37 n39 c38 → ρ 4 = .int .i64 x20 → ρ 5 = .int .i64 x40 → ρ 6 = .int .i64 x41 → ρ 31 = .bool x60 → St ok (bz w0) w [vl (Y0b (tInt .i64)) x1 (.slice a2 x1.length c3)] [own Y0r 74 (.slice a37 n39 c38) x36] → Y0k.j4 x1 x20 x36 x40 x41 x60 = some os42 → K58 ρ w := by
   intro x60 ρ w h59_0 h59_3 h59_4 h59_5 h59_6 h59_31 hs hf
   refine hK58 _ _ ?_
   unfold Y0k.j4 at hf
   rcases iteE hf with ⟨hc62, hf⟩ | ⟨hc62, hf⟩
   {
   refine W.cond_true (Y02 h59_31 hc62) ?_
   refine W.seqK fun K63 hK63 => ?_
   refine W.region ?_
   refine WL.move (v := .int .i64 x40) h59_5 ?_
   obtain ⟨x64, ex64, hf⟩ := letE hf
   refine WL.bin (v := .int .i64 x64) rfl rfl (Y1V ex64 (Y1t _ _ _)) ?_
   refine WL.assign (v := .int .i64 x64) rfl ?_
   refine WL.nil ?_
   refine hK63 _ _ ?_
   refine W.region ?_
   refine WL.move (v := .slice a37 n39 c38) h59_3 ?_
   refine WL.move (v := .int .i64 x20) h59_4 ?_
   obtain ⟨x65, ex65, hf⟩ := letE hf
   refine WL.bin (v := .int .i64 x65) rfl rfl (Y1V ex65 (Y1t _ _ _)) ?_
   refine WL.move (v := .int .i64 x64) rfl ?_
   refine WL.move (v := .slice a2 x1.length c3) h59_0 ?_
   refine WL.move (v := .int .i64 x41) h59_6 ?_
   obtain ⟨x66, hxx66, hf⟩ := Y0s hf
   refine WL.indexAddr hs 0 rfl UN22 TI3 rfl rfl hxx66 (fun ad67 hs => ?_)
   refine WL.loadP hs 0 rfl TI3 (.inr rfl) rfl (fun v68 hs => ?_)
   obtain rfl := hs.int 0 rfl
   obtain ⟨x69, hxx69, hf⟩ := Y0s hf
   refine WL.call (vs := [.int .i64 x66, .int .i64 1099511627776]) hs FN33 ⟨rfl, ⟨rfl, trivial⟩⟩ (fun ok hA => Y1p.calls (x1 := x66) (x2 := 1099511627776) hxx69) ?_
   rintro _ w hs
   obtain ⟨x70, ex70, hf⟩ := letE hf
   refine WL.bin (v := .int .i64 x70) rfl rfl (Y1V ex70 (Y8W _ _ _ (by decide))) ?_
   obtain ⟨x71, hxx71, hf⟩ := Y0s hf
   refine WL.call (vs := [.int .i64 x65, .int .i64 x64, .int .i64 x70]) hs FN32 ⟨rfl, ⟨rfl, ⟨rfl, trivial⟩⟩⟩ (fun ok hA => Y15.calls (x1 := x65) (x2 := x64) (x3 := x70) hxx71) ?_
   rintro ⟨a72, n73, c74⟩ w hs
   refine WL.buildSlice (n := 1) (vs := [(0, .agg ([.int .i64 x71.Client, .int .i64 x71.Seq, .int .i64 x71.Tag, .slice a72 n73 c74] : List Value).toArray)]) (cs := [.int .i64 x71.Client, .int .i64 x71.Seq, .int .i64 x71.Tag, .slice a72 n73 c74]) hs ⟨⟨rfl, rfl⟩, trivial⟩ (bls PS28 (by decide) rfl) (fun g75 w hs => ?_)
   obtain rfl := hs.ownLen 1 rfl
   have hs := hs.freezeOwn 1 rfl
   obtain ⟨x76, hxx76, hf⟩ := Y0s hf
   obtain ⟨hbx76, hex76⟩ := appE hxx76
   refine WL.append (ys := [(⟨x71.Client, x71.Seq, x71.Tag, x71.Effects⟩ : Y0l)]) (zs := x76) hs 1 rfl 0 rfl UN28 EI74 rfl rfl (fun ok hA => (Y0U.one (T := Y0r) (show Y0r.R ok _ (⟨x71.Client, x71.Seq, x71.Tag, x71.Effects⟩ : Y0l) _ from ⟨[.int .i64 x71.Client], [.int .i64 x71.Seq, .int .i64 x71.Tag, .slice a72 (x71.Effects).length c74], rfl, rfl, ⟨[.int .i64 x71.Seq], [.int .i64 x71.Tag, .slice a72 (x71.Effects).length c74], rfl, rfl, ⟨[.int .i64 x71.Tag], [.slice a72 (x71.Effects).length c74], rfl, rfl, (Y5M (hA.get 0 rfl))⟩⟩⟩))) hbx76 (by omega) hex76 (fun v77 w hs => ?_)
   obtain ⟨a78, n80, c79, rfl⟩ := hs.ownv3 1 rfl
   refine WL.assign (v := .slice a78 n80 c79) rfl ?_
   refine WL.nil ?_
   exact Jk56 x76 x64 a78 c79 n80 _ _ h59_0 rfl h59_4 rfl h59_6 ((hs.mask [false, true]).pick [3]) hf }
   {
   refine W.cond_false (Y02 h59_31 hc62) ?_
   refine W.skip ?_
   exact Jk56 x36 x40 a37 c38 n39 _ _ h59_0 h59_3 h59_4 h59_5 h59_6 ((hs.mask [true]).pick [0]) hf }
  refine W.region ?_
  refine WL.move (v := .slice a2 x1.length c3) h45_0 ?_
  refine WL.move (v := .int .i64 x41) h45_6 ?_
  obtain ⟨x81, hxx81, hf⟩ := Y0s hf
  refine WL.indexAddr hs 0 rfl UN22 TI3 rfl rfl hxx81 (fun ad82 hs => ?_)
  refine WL.loadP hs 0 rfl TI3 (.inr rfl) rfl (fun v83 hs => ?_)
  obtain rfl := hs.int 0 rfl
  obtain ⟨x84, hxx84, hf⟩ := Y0s hf
  refine WL.call (vs := [.int .i64 x81, .int .i64 3, .int .i64 0]) hs FN31 ⟨rfl, ⟨rfl, ⟨rfl, trivial⟩⟩⟩ (fun ok hA => Y0h.calls (x1 := x81) (x2 := 3) (x3 := 0) hxx84) ?_
  rintro _ w hs
  refine WL.move (v := .int .i64 x20) h45_4 ?_
  refine WL.bin (v := .bool (x84 == x20)) rfl rfl (Y1P _ _ _) ?_
  refine WL.move (v := .bool (x84 == x20)) rfl ?_
  rcases iteE hf with ⟨hc85, hf⟩ | ⟨hc85, hf⟩
  {
  refine WL.move (v := .int .i64 x40) h45_5 ?_ (hg := (Y01 rfl rfl (Y02 rfl hc85)).trans rfl)
  refine WL.bin (v := .bool (decide (x40 < 8))) rfl rfl (Y1n _ _ _) ?_ (hg := (Y01 rfl rfl (Y02 rfl hc85)).trans rfl)
  refine WL.pickT (v := .bool (decide (x40 < 8))) (Y02 rfl hc85) rfl ?_
  refine WL.nil ?_
  exact Jk61 (decide (x40 < 8)) _ _ h45_0 h45_3 h45_4 h45_5 h45_6 rfl ((hs.mask [true]).pick [2]) hf }
  {
  refine WL.pass ((Y01 rfl rfl (Y02 rfl hc85)).trans rfl) rfl ?_
  refine WL.pass ((Y01 rfl rfl (Y02 rfl hc85)).trans rfl) rfl ?_
  refine WL.pickF (v := .bool false) (Y02 rfl hc85) rfl ?_
  refine WL.nil ?_
  exact Jk61 false _ _ h45_0 h45_3 h45_4 h45_5 h45_6 rfl ((hs.mask [true]).pick [2]) hf } }
  {
  refine W.cond_false (Y02 h45_18 hc48) ?_
  refine W.exit ?_
  have hr := Option.some.inj hf; subst hr
  have hr := hbbs42 _ rfl; subst hr
  have hf := hfs42
  exact Jk31 x36 a37 c38 n39 _ _ h45_0 h45_3 h45_4 ((hs.mask [true]).pick [0]) hf }
 refine W.region ?_
 refine WL.move (v := .int .i64 x41) h35_6 ?_
 refine WL.move (v := .slice a2 x1.length c3) h35_0 ?_
 refine WL.len (v := .slice a2 x1.length c3) rfl (Y10 UN22) ?_
 refine WL.bin (v := .bool (decide (x41 < (x1.length : Int)))) rfl rfl (Y1n _ _ _) ?_
 refine WL.move (v := .bool (decide (x41 < (x1.length : Int)))) rfl ?_
 rcases iteE hf with ⟨hc86, hf⟩ | ⟨hc86, hf⟩
 {
 refine WL.move (v := .int .i64 x41) h35_6 ?_ (hg := (Y01 rfl rfl (Y02 rfl hc86)).trans rfl)
 refine WL.bin (v := .bool (decide (x41 < 24))) rfl rfl (Y1n _ _ _) ?_ (hg := (Y01 rfl rfl (Y02 rfl hc86)).trans rfl)
 refine WL.pickT (v := .bool (decide (x41 < 24))) (Y02 rfl hc86) rfl ?_
 refine WL.nil ?_
 exact Jk47 (decide (x41 < 24)) _ _ h35_0 h35_3 h35_4 h35_5 h35_6 rfl ((hs.mask [true]).pick [0]) hf }
 {
 refine WL.pass ((Y01 rfl rfl (Y02 rfl hc86)).trans rfl) rfl ?_
 refine WL.pass ((Y01 rfl rfl (Y02 rfl hc86)).trans rfl) rfl ?_
 refine WL.pickF (v := .bool false) (Y02 rfl hc86) rfl ?_
 refine WL.nil ?_
 exact Jk47 false _ _ h35_0 h35_3 h35_4 h35_5 h35_6 rfl ((hs.mask [true]).pick [0]) hf } }
 {
 refine W.cond_false (Y02 rfl hc24) ?_
 refine W.exit ?_
 have hr := Option.some.inj hf; subst hr
 have hr := hbbs21 _ rfl; subst hr
 have hf := hfs21
 exact Jk12 x16 a17 c18 n19 _ _ h15_3 ((hs.mask [true]).pick []) hf }
theorem Y26.calls {ok : Nat → Prop} {w0 : World} {x1 : Y04} {v2 : Value} {r : Y00} (hf : Y26 x1 = some r) (i0 : (vl Y09 x1 v2).holds ok w0) :
  Calls Tryz.prog 15 #[v2] w0 fun e w' => ∃ v, e = .returned v ∧ ∃ y : List Value, v = .agg y.toArray ∧ St ok (bz w0) w' [vl Y03 r (.agg y.toArray)] [] := by
 unfold Y26 at hf
 refine Y0t (fn := Tryz.f15) (N := 10) Tryz.func15 rfl Tryz.ntmps15 rfl ?_
 have hs : St ok (bz w0) w0 [vl Y09 x1 v2] [] := St.init (All.cons i0 All.nil)
 clear i0
 obtain ⟨cs3, hl4, rfl⟩ := hs.aggv (n := 3) 0 rfl rfl rfl
 refine W.seqK fun K5 hK5 => ?_
 refine W.region ?_
 refine WL.box (vs := cs3) hs rfl rfl (fun g6 w hs => ?_)
 refine WL.alloc hs ZV45 (fun g7 w hs => ?_)
 refine WL.nil ?_
 refine hK5 _ _ ?_
 refine W.seqK fun K8 hK8 => ?_
 refine W.region ?_
 refine WL.fieldAddr (m := 0) rfl Y71 rfl ?_
 refine WL.loadF (z := x1.f_Type) Y2Q hs 1 rfl 0 rfl rfl TI3 (.inr rfl) rfl rfl (fun v9 hs => ?_)
 obtain rfl := hs.int 0 rfl
 refine WL.fieldAddr (m := 1) rfl Y70 rfl ?_
 refine WL.loadF (z := x1.N) Y3H hs 1 rfl 1 rfl rfl TI2 (.inr rfl) rfl rfl (fun v10 hs => ?_)
 obtain rfl := hs.int 0 rfl
 refine WL.fieldAddr (m := 2) rfl Y6Z rfl ?_
 refine WL.loadF (z := x1.S) Y3G hs 1 rfl 2 rfl rfl TI9 (.inr rfl) rfl rfl (fun v11 hs => ?_)
 obtain rfl := hs.str 0 rfl
 refine WL.build (vs := [(0, .int .i64 x1.f_Type), (1, .int .i64 x1.N), (2, bstr x1.S)]) (cs := [.int .i64 x1.f_Type, .int .i64 x1.N, bstr x1.S]) ⟨⟨rfl, rfl⟩, ⟨⟨rfl, rfl⟩, ⟨⟨rfl, rfl⟩, trivial⟩⟩⟩ (bld PL45 rfl) ?_
 refine WL.storeAll (vs := [.int .i64 x1.f_Type, .int .i64 x1.N, bstr x1.S]) hs 0 rfl TI45 rfl rfl rfl rfl (Y0P rfl) rfl (fun w hs => ?_)
 refine WL.nil ?_
 refine hK8 _ _ ?_
 refine W.ret ?_
 have hr := Option.some.inj hf; subst hr
 have hs := hs.add (it := vl Y03 (⟨x1.f_Type, x1.N, x1.S⟩ : Y00) (.agg [.int .i64 x1.f_Type, .int .i64 x1.N, bstr x1.S].toArray)) fun ok hA => Y2W (show Y03.R ok _ _ _ from ⟨[.int .i64 x1.f_Type], [.int .i64 x1.N, bstr x1.S], rfl, rfl, ⟨[.int .i64 x1.N], [bstr x1.S], rfl, rfl, rfl⟩⟩) rfl
 exact ⟨_, Y0e rfl (Y2B hs 0 rfl TI45 rfl rfl), [.int .i64 x1.f_Type, .int .i64 x1.N, bstr x1.S], rfl, (hs.mask []).pick [0]⟩
theorem Y0M.calls {ok : Nat → Prop} {w0 : World} {x1 : Y00} {x5 : Y00} {v2 : Value} {v6 : Value} {r : Int} (hf : Y0M x1 x5 = some r) (i0 : (vl Y03 x1 v2).holds ok w0) (i1 : (vl Y03 x5 v6).holds ok w0) :
  Calls Tryz.prog 41 #[v2, v6] w0 fun e w' => ∃ v, e = .returned v ∧ ∃ y : Unit, v = .int .i64 r ∧ St ok (bz w0) w' [] [] := by
 unfold Y0M at hf
 refine Y0t (fn := Tryz.f41) (N := 43) Tryz.func41 rfl Tryz.ntmps41 rfl ?_
 have hs : St ok (bz w0) w0 [vl Y03 x1 v2, vl Y03 x5 v6] [] := St.init (All.cons i0 (All.cons i1 All.nil))
 clear i0 i1
 obtain ⟨cs3, hl4, rfl⟩ := hs.aggv (n := 3) 0 rfl rfl rfl
 obtain ⟨cs7, hl8, rfl⟩ := hs.aggv (n := 3) 1 rfl rfl rfl
 refine W.seqK fun K9 hK9 => ?_
 refine W.region ?_
 refine WL.box (vs := cs3) hs rfl rfl (fun g10 w hs => ?_)
 refine WL.box (vs := cs7) hs rfl rfl (fun g11 w hs => ?_)
 refine WL.assign (v := .int .i64 0) rfl ?_
 refine WL.nil ?_
 refine hK9 _ _ ?_
 refine W.seqK fun K12 hK12 => ?_
 refine W.block ?_
 refine W.seqK fun K13 hK13 => ?_
 have Jk16 : ∀ (x15 : Bool) (ρ : Env) (w : World), ρ 2 = .pointer (some ⟨g10, 0, none⟩) → ρ 3 = .pointer (some ⟨g11, 0, none⟩) → ρ 5 = .bool x15 → St ok (bz w0) w [vl Y03 x5 (.agg cs7.toArray), vl Y03 x1 (.agg cs3.toArray)] [blk g11 45 cs7, blk g10 45 cs3] → Y0M.j1 x1 x5 x15 = some r → K13 ρ w := by
  intro x15 ρ w h14_2 h14_3 h14_5 hs hf
  refine hK13 _ _ ?_
  unfold Y0M.j1 at hf
  rcases iteE hf with ⟨hc17, hf⟩ | ⟨hc17, hf⟩
  {
  refine W.cond_true (Y02 h14_5 hc17) ?_
  refine W.seqK fun K18 hK18 => ?_
  refine W.region ?_
  refine WL.assign (v := .int .i64 (-1)) rfl ?_
  refine WL.nil ?_
  refine hK18 _ _ ?_
  refine W.ret ?_
  have hr := Option.some.inj hf; subst hr
  exact ⟨_, Y0e rfl rfl, (), rfl, (hs.mask []).pick []⟩ }
  {
  refine W.cond_false (Y02 h14_5 hc17) ?_
  refine W.seqK fun K19 hK19 => ?_
  refine W.region ?_
  refine WL.loadAll hs 1 rfl TI45 h14_2 hl4 ?_
  refine WL.loadAll hs 0 rfl TI45 h14_3 hl8 ?_
  obtain rfl := Y0Z hs 1 rfl
  obtain rfl := Y0Z hs 0 rfl
  refine WL.eqA rfl rfl EG45 (EQ45 (⟨x1.f_Type, x1.N, x1.S⟩ : Y00) (⟨x5.f_Type, x5.N, x5.S⟩ : Y00)) ?_
  refine WL.assign (v := .bool (decide ((⟨x1.f_Type, x1.N, x1.S⟩ : Y00) = (⟨x5.f_Type, x5.N, x5.S⟩ : Y00)))) rfl ?_
  refine WL.nil ?_
  refine hK19 _ _ ?_
  rcases iteE hf with ⟨hc20, hf⟩ | ⟨hc20, hf⟩
  {
  refine W.cond_true (Y02 rfl hc20) ?_
  refine W.seqK fun K21 hK21 => ?_
  refine W.region ?_
  refine WL.assign (v := .int .i64 0) rfl ?_
  refine WL.nil ?_
  refine hK21 _ _ ?_
  refine W.ret ?_
  have hr := Option.some.inj hf; subst hr
  exact ⟨_, Y0e rfl rfl, (), rfl, (hs.mask []).pick []⟩ }
  {
  refine W.cond_false (Y02 rfl hc20) ?_
  refine W.skip ?_
  refine hK12 _ _ ?_
  refine W.seqK fun K22 hK22 => ?_
  refine W.region ?_
  refine WL.assign (v := .int .i64 1) rfl ?_
  refine WL.nil ?_
  refine hK22 _ _ ?_
  refine W.ret ?_
  have hr := Option.some.inj hf; subst hr
  exact ⟨_, Y0e rfl rfl, (), rfl, (hs.mask []).pick []⟩ } }
 refine W.region ?_
 refine WL.fieldAddr (m := 0) rfl Y8a rfl ?_
 refine WL.loadF (z := x1.f_Type) Y1v hs 1 rfl 0 rfl rfl TI3 (.inr rfl) rfl rfl (fun v23 hs => ?_)
 obtain rfl := hs.int 0 rfl
 refine WL.fieldAddr (m := 0) rfl Y8a rfl ?_
 refine WL.loadF (z := x5.f_Type) Y1v hs 0 rfl 2 rfl rfl TI3 (.inr rfl) rfl rfl (fun v24 hs => ?_)
 obtain rfl := hs.int 0 rfl
 refine WL.bin (v := .bool (decide (x1.f_Type < x5.f_Type))) rfl rfl (Y1n _ _ _) ?_
 refine WL.move (v := .bool (decide (x1.f_Type < x5.f_Type))) rfl ?_
 rcases iteE hf with ⟨hc25, hf⟩ | ⟨hc25, hf⟩
 {
 refine WL.pass ((Y01 rfl rfl (Y02 rfl hc25)).trans rfl) rfl ?_
 refine WL.pass ((Y01 rfl rfl (Y02 rfl hc25)).trans rfl) rfl ?_
 refine WL.pass ((Y01 rfl rfl (Y02 rfl hc25)).trans rfl) rfl ?_
 refine WL.pass ((Y01 rfl rfl (Y02 rfl hc25)).trans rfl) rfl ?_
 refine WL.pass ((Y01 rfl rfl (Y02 rfl hc25)).trans rfl) rfl ?_
 refine WL.pass ((Y01 rfl rfl (Y02 rfl hc25)).trans rfl) rfl ?_
 refine WL.pass (Y0D rfl rfl rfl) rfl ?_
 refine WL.pass (Y0D rfl rfl rfl) rfl ?_
 refine WL.pass (Y0D rfl rfl rfl) rfl ?_
 refine WL.pass (Y0D rfl rfl rfl) rfl ?_
 refine WL.pass (Y0D rfl rfl rfl) rfl ?_
 refine WL.pass (Y0D rfl rfl rfl) rfl ?_
 refine WL.pass (Y0D rfl rfl rfl) rfl ?_
 refine WL.pass (Y0D rfl rfl rfl) rfl ?_
 refine WL.pass (Y0D rfl rfl rfl) rfl ?_
 refine WL.pass (Y0D rfl rfl rfl) rfl ?_
 refine WL.pass (Y0D rfl rfl rfl) rfl ?_
 refine WL.pass (Y0D rfl rfl rfl) rfl ?_
 refine WL.pass (Y0D rfl rfl rfl) rfl ?_
 refine WL.pass (Y0D rfl rfl rfl) rfl ?_
 refine WL.pass (Y0D rfl rfl rfl) rfl ?_
 refine WL.pass (Y0D rfl rfl rfl) rfl ?_
 refine WL.pass (Y0D rfl rfl rfl) rfl ?_
 refine WL.pass (Y0D rfl rfl rfl) rfl ?_
 refine WL.pass (Y0D rfl rfl rfl) rfl ?_
 refine WL.pass ((Y01 rfl rfl (Y02 rfl hc25)).trans rfl) rfl ?_
 refine WL.pickT (v := .bool true) (Y02 rfl hc25) rfl ?_
 refine WL.assign (v := .bool true) rfl ?_
 refine WL.nil ?_
 exact Jk16 true _ _ rfl rfl rfl ((hs.mask [true, true]).pick [3, 2]) hf }
 {
 refine WL.fieldAddr (m := 0) rfl Y8a rfl ?_ (hg := (Y01 rfl rfl (Y02 rfl hc25)).trans rfl)
 refine WL.loadF (z := x1.f_Type) Y1v hs 1 rfl 2 rfl rfl TI3 (.inr rfl) rfl rfl (fun v26 hs => ?_) (hg := (Y01 rfl rfl (Y02 rfl hc25)).trans rfl)
 obtain rfl := hs.int 0 rfl
 refine WL.fieldAddr (m := 0) rfl Y8a rfl ?_ (hg := (Y01 rfl rfl (Y02 rfl hc25)).trans rfl)
 refine WL.loadF (z := x5.f_Type) Y1v hs 0 rfl 4 rfl rfl TI3 (.inr rfl) rfl rfl (fun v27 hs => ?_) (hg := (Y01 rfl rfl (Y02 rfl hc25)).trans rfl)
 obtain rfl := hs.int 0 rfl
 refine WL.bin (v := .bool (x1.f_Type == x5.f_Type)) rfl rfl (Y1P _ _ _) ?_ (hg := (Y01 rfl rfl (Y02 rfl hc25)).trans rfl)
 refine WL.move (v := .bool (x1.f_Type == x5.f_Type)) rfl ?_ (hg := (Y01 rfl rfl (Y02 rfl hc25)).trans rfl)
 rcases iteE hf with ⟨hc28, hf⟩ | ⟨hc28, hf⟩
 {
 refine WL.fieldAddr (m := 1) rfl Y89 rfl ?_ (hg := (Y01 rfl rfl (Y02 rfl hc28)).trans rfl)
 refine WL.loadF (z := x1.N) Y1R hs 1 rfl 4 rfl rfl TI2 (.inr rfl) rfl rfl (fun v29 hs => ?_) (hg := (Y01 rfl rfl (Y02 rfl hc28)).trans rfl)
 obtain rfl := hs.int 0 rfl
 refine WL.fieldAddr (m := 1) rfl Y89 rfl ?_ (hg := (Y01 rfl rfl (Y02 rfl hc28)).trans rfl)
 refine WL.loadF (z := x5.N) Y1R hs 0 rfl 6 rfl rfl TI2 (.inr rfl) rfl rfl (fun v30 hs => ?_) (hg := (Y01 rfl rfl (Y02 rfl hc28)).trans rfl)
 obtain rfl := hs.int 0 rfl
 refine WL.bin (v := .bool (decide (x1.N < x5.N))) rfl rfl (Y1n _ _ _) ?_ (hg := (Y01 rfl rfl (Y02 rfl hc28)).trans rfl)
 refine WL.move (v := .bool (decide (x1.N < x5.N))) rfl ?_ (hg := (Y01 rfl rfl (Y02 rfl hc28)).trans rfl)
 rcases iteE hf with ⟨hc31, hf⟩ | ⟨hc31, hf⟩
 {
 refine WL.pass ((Y01 rfl rfl (Y02 rfl hc31)).trans rfl) rfl ?_
 refine WL.pass ((Y01 rfl rfl (Y02 rfl hc31)).trans rfl) rfl ?_
 refine WL.pass ((Y01 rfl rfl (Y02 rfl hc31)).trans rfl) rfl ?_
 refine WL.pass ((Y01 rfl rfl (Y02 rfl hc31)).trans rfl) rfl ?_
 refine WL.pass ((Y01 rfl rfl (Y02 rfl hc31)).trans rfl) rfl ?_
 refine WL.pass ((Y01 rfl rfl (Y02 rfl hc31)).trans rfl) rfl ?_
 refine WL.pass (Y0D rfl rfl rfl) rfl ?_
 refine WL.pass (Y0D rfl rfl rfl) rfl ?_
 refine WL.pass (Y0D rfl rfl rfl) rfl ?_
 refine WL.pass (Y0D rfl rfl rfl) rfl ?_
 refine WL.pass (Y0D rfl rfl rfl) rfl ?_
 refine WL.pass ((Y01 rfl rfl (Y02 rfl hc31)).trans rfl) rfl ?_
 refine WL.pickT (v := .bool true) (Y02 rfl hc31) rfl ?_ (hg := (Y01 rfl rfl (Y02 rfl hc28)).trans rfl)
 refine WL.pickT (v := .bool true) (Y02 rfl hc28) rfl ?_ (hg := (Y01 rfl rfl (Y02 rfl hc25)).trans rfl)
 refine WL.pickF (v := .bool true) (Y02 rfl hc25) rfl ?_
 refine WL.assign (v := .bool true) rfl ?_
 refine WL.nil ?_
 exact Jk16 true _ _ rfl rfl rfl ((hs.mask [true, true]).pick [7, 6]) hf }
 {
 refine WL.fieldAddr (m := 1) rfl Y89 rfl ?_ (hg := (Y01 rfl rfl (Y02 rfl hc31)).trans rfl)
 refine WL.loadF (z := x1.N) Y1R hs 1 rfl 6 rfl rfl TI2 (.inr rfl) rfl rfl (fun v32 hs => ?_) (hg := (Y01 rfl rfl (Y02 rfl hc31)).trans rfl)
 obtain rfl := hs.int 0 rfl
 refine WL.fieldAddr (m := 1) rfl Y89 rfl ?_ (hg := (Y01 rfl rfl (Y02 rfl hc31)).trans rfl)
 refine WL.loadF (z := x5.N) Y1R hs 0 rfl 8 rfl rfl TI2 (.inr rfl) rfl rfl (fun v33 hs => ?_) (hg := (Y01 rfl rfl (Y02 rfl hc31)).trans rfl)
 obtain rfl := hs.int 0 rfl
 refine WL.bin (v := .bool (x1.N == x5.N)) rfl rfl (Y1P _ _ _) ?_ (hg := (Y01 rfl rfl (Y02 rfl hc31)).trans rfl)
 refine WL.move (v := .bool (x1.N == x5.N)) rfl ?_ (hg := (Y01 rfl rfl (Y02 rfl hc31)).trans rfl)
 rcases iteE hf with ⟨hc34, hf⟩ | ⟨hc34, hf⟩
 {
 refine WL.fieldAddr (m := 2) rfl FA45_2 rfl ?_ (hg := (Y01 rfl rfl (Y02 rfl hc34)).trans rfl)
 refine WL.loadF (z := x1.S) Y2x hs 1 rfl 8 rfl rfl TI9 (.inr rfl) rfl rfl (fun v35 hs => ?_) (hg := (Y01 rfl rfl (Y02 rfl hc34)).trans rfl)
 obtain rfl := hs.str 0 rfl
 refine WL.fieldAddr (m := 2) rfl FA45_2 rfl ?_ (hg := (Y01 rfl rfl (Y02 rfl hc34)).trans rfl)
 refine WL.loadF (z := x5.S) Y2x hs 0 rfl 10 rfl rfl TI9 (.inr rfl) rfl rfl (fun v36 hs => ?_) (hg := (Y01 rfl rfl (Y02 rfl hc34)).trans rfl)
 obtain rfl := hs.str 0 rfl
 refine WL.binS (v := .bool (Op.bytesLess x1.S x5.S)) rfl rfl (Y8z _ _) ?_ (hg := (Y01 rfl rfl (Y02 rfl hc34)).trans rfl)
 refine WL.pickT (v := .bool (Op.bytesLess x1.S x5.S)) (Y02 rfl hc34) rfl ?_ (hg := (Y01 rfl rfl (Y02 rfl hc31)).trans rfl)
 refine WL.pickF (v := .bool (Op.bytesLess x1.S x5.S)) (Y02 rfl hc31) rfl ?_ (hg := (Y01 rfl rfl (Y02 rfl hc28)).trans rfl)
 refine WL.pickT (v := .bool (Op.bytesLess x1.S x5.S)) (Y02 rfl hc28) rfl ?_ (hg := (Y01 rfl rfl (Y02 rfl hc25)).trans rfl)
 refine WL.pickF (v := .bool (Op.bytesLess x1.S x5.S)) (Y02 rfl hc25) rfl ?_
 refine WL.assign (v := .bool (Op.bytesLess x1.S x5.S)) rfl ?_
 refine WL.nil ?_
 exact Jk16 (Op.bytesLess x1.S x5.S) _ _ rfl rfl rfl ((hs.mask [true, true]).pick [11, 10]) hf }
 {
 refine WL.pass ((Y01 rfl rfl (Y02 rfl hc34)).trans rfl) rfl ?_
 refine WL.pass ((Y01 rfl rfl (Y02 rfl hc34)).trans rfl) rfl ?_
 refine WL.pass ((Y01 rfl rfl (Y02 rfl hc34)).trans rfl) rfl ?_
 refine WL.pass ((Y01 rfl rfl (Y02 rfl hc34)).trans rfl) rfl ?_
 refine WL.pass ((Y01 rfl rfl (Y02 rfl hc34)).trans rfl) rfl ?_
 refine WL.pickF (v := .bool false) (Y02 rfl hc34) rfl ?_ (hg := (Y01 rfl rfl (Y02 rfl hc31)).trans rfl)
 refine WL.pickF (v := .bool false) (Y02 rfl hc31) rfl ?_ (hg := (Y01 rfl rfl (Y02 rfl hc28)).trans rfl)
 refine WL.pickT (v := .bool false) (Y02 rfl hc28) rfl ?_ (hg := (Y01 rfl rfl (Y02 rfl hc25)).trans rfl)
 refine WL.pickF (v := .bool false) (Y02 rfl hc25) rfl ?_
 refine WL.assign (v := .bool false) rfl ?_
 refine WL.nil ?_
 exact Jk16 false _ _ rfl rfl rfl ((hs.mask [true, true]).pick [9, 8]) hf } } }
 {
 refine WL.pass ((Y01 rfl rfl (Y02 rfl hc28)).trans rfl) rfl ?_
 refine WL.pass ((Y01 rfl rfl (Y02 rfl hc28)).trans rfl) rfl ?_
 refine WL.pass ((Y01 rfl rfl (Y02 rfl hc28)).trans rfl) rfl ?_
 refine WL.pass ((Y01 rfl rfl (Y02 rfl hc28)).trans rfl) rfl ?_
 refine WL.pass ((Y01 rfl rfl (Y02 rfl hc28)).trans rfl) rfl ?_
 refine WL.pass ((Y01 rfl rfl (Y02 rfl hc28)).trans rfl) rfl ?_
 refine WL.pass (Y0D rfl rfl rfl) rfl ?_
 refine WL.pass (Y0D rfl rfl rfl) rfl ?_
 refine WL.pass (Y0D rfl rfl rfl) rfl ?_
 refine WL.pass (Y0D rfl rfl rfl) rfl ?_
 refine WL.pass (Y0D rfl rfl rfl) rfl ?_
 refine WL.pass (Y0D rfl rfl rfl) rfl ?_
 refine WL.pass (Y0D rfl rfl rfl) rfl ?_
 refine WL.pass (Y0D rfl rfl rfl) rfl ?_
 refine WL.pass (Y0D rfl rfl rfl) rfl ?_
 refine WL.pass (Y0D rfl rfl rfl) rfl ?_
 refine WL.pass (Y0D rfl rfl rfl) rfl ?_
 refine WL.pass (Y0D rfl rfl rfl) rfl ?_
 refine WL.pass ((Y01 rfl rfl (Y02 rfl hc28)).trans rfl) rfl ?_
 refine WL.pickF (v := .bool false) (Y02 rfl hc28) rfl ?_ (hg := (Y01 rfl rfl (Y02 rfl hc25)).trans rfl)
 refine WL.pickF (v := .bool false) (Y02 rfl hc25) rfl ?_
 refine WL.assign (v := .bool false) rfl ?_
 refine WL.nil ?_
 exact Jk16 false _ _ rfl rfl rfl ((hs.mask [true, true]).pick [5, 4]) hf } }
end
end Go.Proofs.YtpfgdjfiimknlaaGreat
namespace Go.Proofs.YtpfgdjfiimknlaaGreatL
section
open Go Go.RowKit
section
variable {P : Program} {N : Nat} {ops : Array Oper} {Q : QE} {ρ : Env} {w : World} {w0 : Base} {rest : List Oper} {d : Option Tmp} {ty : TypeId} {pos : String} {aft : Array Edge} {gd : Option (Nat × Bool)} {ok0 : Nat → Prop} {Γ : List It} {Λ : List LObj}
def Y4B (sz off : Nat) (v : Value) (i : Int) (ad : Addr) : Prop := ∃ g n c, v = .slice (some ⟨g, 0, none⟩) n c ∧ ad = ⟨g, i.toNat * sz + off, none⟩
theorem OwnAt.f {sz : Nat} {v : Value} {i : Int} {ad : Addr} (h : OwnAt sz v i ad) : Y4B sz 0 v i ad := h
theorem WL.fieldAddrO {sz o1 : Nat} {v : Value} {i : Int} {ad : Addr} {T : TypeId} {x : Operand} {j off o2 : Nat} (hat : Y4B sz o1 v i ad) (hx : ρ.ev x = .pointer (some ad)) (hf : FA P T j off) (ho : o1 + off = o2)
  (K : ∀ ad', Y4B sz o2 v i ad' → WL P N ops Q rest (putE ρ d (.pointer (some ad'))) w)
  (hg : Y0C ops ρ ⟨d, .fieldAddr T x j, ty, pos, aft, gd⟩ = true := by rfl) (hd : fits N d = true := by rfl) :
  WL P N ops Q (⟨d, .fieldAddr T x j, ty, pos, aft, gd⟩ :: rest) ρ w := by
 obtain ⟨g, n, c, rfl, rfl⟩ := hat
 exact WL.fieldAddr hx hf rfl (K _ ⟨g, n, c, rfl, by rw [Nat.add_assoc, ho]⟩) hg hd
theorem WL.loadOF {α β : Type} {A : Ty α} {F : Ty β} {off : Nat} {get : α → β} {set : α → β → α} (hf : Fld A F off get set) {xs : List α} {y : α} {t E : TypeId} {x : Operand} {v : Value} {i : Int} {ad : Addr} (hs : St ok0 w0 w Γ Λ) (m : Nat) (hm : Λ[m]? = some (own A E v xs))
  (ht : TI P t F.agg F.sz) (h1 : F.agg = true ∨ F.sz = 1) (hat : Y4B A.sz off v i ad) (hi : idx xs i = some y) (hx : ρ.ev x = .pointer (some ad)) {z : β} (hz : get y = z) (K : ∀ u, St ok0 w0 w (vl F z u :: Γ) Λ → WL P N ops Q rest (putE ρ d u) w)
  (hg : Y0C ops ρ ⟨d, .load t x, ty, pos, aft, gd⟩ = true := by rfl) (hd : fits N d = true := by rfl) :
  WL P N ops Q (⟨d, .load t x, ty, pos, aft, gd⟩ :: rest) ρ w := by
 subst hz
 obtain ⟨h0, hlt, h2⟩ := Y3h hi
 obtain ⟨g, n, c, rfl, rfl⟩ := hat
 obtain ⟨hB, bss, hN, hltb, hO, hA⟩ := hs
 obtain ⟨l1, bs, l2, rfl, hl, ho, hput⟩ := Own.split m hO hm
 obtain ⟨g', c', cur, e, hb, hg', hc, hmx, hsz, hC⟩ := Y2Z ho (by omega)
 cases e
 have hR := hf.get_ (hC.2 _ _ h2)
 generalize hvs : ((((cur.toList.take (xs.length * A.sz)).drop (i.toNat * A.sz)).take A.sz).drop off).take F.sz = vs at hR
 have hlen := F.len hR
 have hcell : ∀ k u, vs[k]? = some u → w.cell? ⟨g, i.toNat * A.sz + off + k, none⟩ = some u := by
  intro k u hu
  rw [← hvs, List.getElem?_take] at hu
  split at hu
  ·rw [List.getElem?_drop, List.getElem?_take] at hu
   split at hu
   ·rw [List.getElem?_drop, List.getElem?_take] at hu
    split at hu
    ·simp only [World.cell?, hg']
     rw [Nat.add_assoc]
     simpa using hu
    ·cases hu
   ·cases hu
  ·cases hu
 have hload : (loadVar t ⟨g, i.toNat * A.sz + off, none⟩).run P w = .ok (bif F.agg then .agg vs.toArray else vs.getD 0 undef) w := by
  rcases hag : F.agg with _ | _
  ·have hsz1 := h1.resolve_left (by simp [hag])
   rw [hag] at ht
   match vs, hlen, hcell with
   | [], hl, _ => simp [hsz1] at hl
   | c :: cs', hl, hc => exact Y2F ht (hc 0 c rfl)
  ·rw [hag] at ht
   exact Y2g ht hlen hcell
 exact WL.load_ hx hload (K _ ⟨hB, _, hN, hltb, hO, fun it hit => by
  rcases List.mem_cons.1 hit with rfl | hit
  ·exact V_one hR
  ·exact hA it hit⟩) hg hd
theorem setAt_in (cs vs : List Value) (p off sz : Nat) (h1 : off + vs.length ≤ sz) (h2 : p + sz ≤ cs.length) :
  Y2K cs (p + off) vs = Y2K cs p (((cs.drop p).take sz).take off ++ vs ++ ((cs.drop p).take sz).drop (off + vs.length)) := by
 have hl : (((cs.drop p).take sz).take off ++ vs ++ ((cs.drop p).take sz).drop (off + vs.length)).length = sz := by
  simp only [List.length_append, List.length_take, List.length_drop]
  omega
 rw [Y2r _ _ _ (by omega), Y2r _ _ _ (by omega), hl]
 rw [List.take_take, Nat.min_eq_left (by omega), List.drop_take, List.drop_drop]
 have e1 : cs.take (p + off) = cs.take p ++ (cs.drop p).take off := by rw [List.take_add]
 have e2 : cs.drop (p + off + vs.length) = (cs.drop (p + (off + vs.length))).take (sz - (off + vs.length)) ++ cs.drop (p + sz) := by
  have := (List.take_append_drop (sz - (off + vs.length)) (cs.drop (p + (off + vs.length)))).symm
  rw [List.drop_drop, show p + (off + vs.length) + (sz - (off + vs.length)) = p + sz by omega] at this
  rw [Nat.add_assoc]
  exact this
 rw [e1, e2]
 simp only [List.append_assoc]
theorem WL.storeOF {α β : Type} {A : Ty α} {F : Ty β} {off : Nat} {get : α → β} {set : α → β → α} (hf : Fld A F off get set) {xs zs : List α} {yo : α} {z : β} {t E : TypeId} {a x : Operand} {v u : Value} {i : Int} {ad : Addr} {vs : List Value} {agg : Bool} (hs : St ok0 w0 w Γ Λ) (m : Nat) (hm : Λ[m]? = some (own A E v xs))
  (ht : TI P t agg F.sz) (hat : Y4B A.sz off v i ad) (hi : idx xs i = some yo) (ha : ρ.ev a = .pointer (some ad)) (hx : ρ.ev x = u) (hu : u.cells = vs.toArray) (hR : ∀ ok, All ok w Γ → F.R ok w z vs) (hz : xs.set i.toNat (set yo z) = zs)
  (K : ∀ w', St ok0 w0 w' Γ (Λ.set m (own A E v zs)) → WL P N ops Q rest (putE ρ d undef) w')
  (hg : Y0C ops ρ ⟨d, .store t a x, ty, pos, aft, gd⟩ = true := by rfl) (hd : fits N d = true := by rfl) :
  WL P N ops Q (⟨d, .store t a x, ty, pos, aft, gd⟩ :: rest) ρ w := by
 obtain ⟨h0, hlt, h2⟩ := Y3h hi
 obtain ⟨g, n, c, rfl, rfl⟩ := hat
 obtain ⟨ok, bs, ho, hA, hn, hbs, hput⟩ := hs.split m hm
 obtain ⟨g', c', cur, e, hb, hg', hc, hmx, hsz, hC⟩ := Y2Z ho (by omega)
 cases e
 have hy := hR ok hA
 have hl := F.len hy
 have hle := hf.le
 have hbd : (i.toNat + 1) * A.sz ≤ xs.length * A.sz := Nat.mul_le_mul_right _ hlt
 rw [Nat.add_mul, Nat.one_mul] at hbd
 have hcur : xs.length * A.sz ≤ cur.size := by rw [hsz]; exact Nat.mul_le_mul_right _ hc
 have hrun := Y3O (P := P) ht (g := g) (j := i.toNat * A.sz + off) (cs := cur.toList) (T := E) (by simpa using hg') hu hl (F.one hy) (by rw [Array.length_toList]; omega)
 refine WL.unit hg hd (w' := setCells w g (i.toNat * A.sz + off) vs) (by
  show (do Instr.storeAt t (ρ.ev a) (ρ.ev x); pure Next.skip : Sem Next).run P w = _
  rw [ha, hx]
  exact Y6J ((Y0o (by rfl)).trans hrun)) (K _ ?_)
 have hnew := Y2Y hg' (i.toNat * A.sz + off) vs
 refine hput _ [g] _ (by rw [hb]; exact Y1J g vs w _) (by simp) (fun b hb' => ?_) fun ok' hm' => ?_
 ·simp only [List.mem_singleton] at hb'
  subst hb'
  exact ⟨.inl (by rw [hb]; simp), Y0K hnew⟩
 ·have hel := hC.2 _ _ h2
  have hnewR := hf.set_ hel hy
  have hC2 := (hC.set hnewR i.toNat hlt).move hm'
  rw [hz] at hC2
  have hzl : zs.length = xs.length := by rw [← hz, List.length_set]
  have hcl : (cur.toList.take (xs.length * A.sz)).length = xs.length * A.sz := by rw [List.length_take, Array.length_toList (xs := cur)]; omega
  have eq := setAt_in (cur.toList.take (xs.length * A.sz)) vs (i.toNat * A.sz) off A.sz (by omega) (by rw [hcl]; exact hbd)
  have hin : i.toNat * A.sz + off + vs.length ≤ xs.length * A.sz := by omega
  rw [hl] at eq
  rw [← eq] at hC2
  refine .inr ⟨by show 0 < c; omega, _, by simp [Value.ownBlock], ⟨hC2.1, .inr ⟨g, c, _, by rw [hzl], Nat.zero_le _, hnew, by rw [hzl]; exact hc, hmx, by simp [Y2E, hsz], ?_⟩⟩, hC2⟩
  rw [hzl, List.toList_toArray, Y3W _ _ _ _ hin]
end
end
end Go.Proofs.YtpfgdjfiimknlaaGreatL
