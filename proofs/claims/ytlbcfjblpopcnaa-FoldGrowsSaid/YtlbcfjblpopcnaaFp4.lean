import Derived.Test.YtlbcfjblpopcnaaFh
import Derived.Test.YtlbcfjblpopcnaaLz
import Derived.Test.YtlbcfjblpopcnaaFp3
set_option linter.unusedVariables false
set_option linter.unusedSimpArgs false
namespace Go.Proofs.Ytlbcfjblpopcnaa
open Go Go.RowKit Go.Proofs.YtlbcfjblpopcnaaL
set_option maxRecDepth 100000
set_option maxHeartbeats 4000000
/-! elasticstore/fold.appendField: function 39 -/
theorem fold_appendField.calls {ok : Nat → Prop} {w0 : World} {x1 : List Int} {x4 : List UInt8} {x5 : fold_Field} {a2 : Option Addr} {c3 : Nat} {v6 : Value} {r : List Int} (hf : fold_appendField x1 x4 x5 = some r) (i0 : (vl (tSlice (tInt .u8)) x1 (.slice a2 x1.length c3)).holds ok w0) (i1 : (vl t_fold_Field x5 v6).holds ok w0) :
    Calls Try.prog 39 #[.slice a2 x1.length c3, bstr x4, v6] w0 fun e w' => ∃ v, e = .returned v ∧ ∃ y : (Option Addr × Nat × Nat), v = .slice y.1 y.2.1 y.2.2 ∧ St ok (bz w0) w' [] [own (tInt .u8) 5 (.slice y.1 y.2.1 y.2.2) r] := by
  unfold fold_appendField at hf
  refine calls_of_W (fn := Try.f39) (N := 84) Try.func39 rfl Try.ntmps39 rfl ?_
  have hs : St ok (bz w0) w0 [vl (tSlice (tInt .u8)) x1 (.slice a2 x1.length c3), vl t_fold_Field x5 v6] [] := St.init (All.cons i0 (All.cons i1 All.nil))
  clear i0 i1
  obtain ⟨cs7, hl8, rfl⟩ := hs.aggv (n := 12) 1 rfl rfl rfl
  refine W.seqK fun K9 hK9 => ?_
  refine W.region ?_
  refine WL.box (vs := cs7) hs rfl rfl (fun g10 w hs => ?_)
  refine WL.assign (v := .slice none 0 0) rfl ?_
  refine WL.nil ?_
  refine hK9 _ _ ?_
  refine W.seqK fun K11 hK11 => ?_
  refine W.region ?_
  refine WL.move (v := .slice a2 x1.length c3) rfl ?_
  refine WL.move (v := bstr x4) rfl ?_
  obtain ⟨x12, hxx12, hf⟩ := bindE hf
  refine WL.call (vs := [.slice a2 x1.length c3, bstr x4]) hs FN63 ⟨rfl, ⟨rfl, trivial⟩⟩ (fun ok hA => wire_AppendString.calls (x1 := x1) (x4 := x4) hxx12 (hA.get 0 rfl)) ?_
  rintro ⟨a13, n14, c15⟩ w hs
  refine WL.assign (v := .slice a13 n14 c15) rfl ?_
  refine WL.nil ?_
  refine hK11 _ _ ?_
  refine W.seqK fun K16 hK16 => ?_
  refine W.region ?_
  refine WL.move (v := .slice a13 n14 c15) rfl ?_
  refine WL.fieldAddr (m := 0) rfl FA57_0 rfl ?_
  refine WL.loadF (z := x5.Name) F_fold_Field_Name hs 1 rfl 1 rfl rfl TI9 (.inr rfl) rfl rfl (fun v17 hs => ?_)
  obtain rfl := hs.str 0 rfl
  obtain rfl := hs.ownLen 0 rfl
  have hs := hs.freezeOwn 0 rfl
  obtain ⟨x18, hxx18, hf⟩ := bindE hf
  refine WL.call (vs := [.slice a13 x12.length c15, bstr x5.Name]) hs FN63 ⟨rfl, ⟨rfl, trivial⟩⟩ (fun ok hA => wire_AppendString.calls (x1 := x12) (x4 := x5.Name) hxx18 (hA.get 0 rfl)) ?_
  rintro ⟨a19, n20, c21⟩ w hs
  refine WL.assign (v := .slice a19 n20 c21) rfl ?_
  refine WL.nil ?_
  refine hK16 _ _ ?_
  refine W.seqK fun K22 hK22 => ?_
  refine W.region ?_
  refine WL.move (v := .slice a19 n20 c21) rfl ?_
  refine WL.fieldAddr (m := 1) rfl FA57_1 rfl ?_
  refine WL.fieldAddr (m := 1) rfl FA54_0 rfl ?_
  refine WL.loadF (z := x5.Register.Set) (F_fold_Field_Register.comp F_fold_Register_Set) hs 1 rfl 3 rfl rfl TI4 (.inr rfl) rfl rfl (fun v23 hs => ?_)
  obtain rfl := hs.bool 0 rfl
  obtain rfl := hs.ownLen 0 rfl
  have hs := hs.freezeOwn 0 rfl
  obtain ⟨x24, hxx24, hf⟩ := bindE hf
  refine WL.call (vs := [.slice a19 x18.length c21, .bool x5.Register.Set]) hs FN64 ⟨rfl, ⟨rfl, trivial⟩⟩ (fun ok hA => wire_AppendBool.calls (x1 := x18) (x4 := x5.Register.Set) hxx24 (hA.get 0 rfl)) ?_
  rintro ⟨a25, n26, c27⟩ w hs
  refine WL.assign (v := .slice a25 n26 c27) rfl ?_
  refine WL.nil ?_
  refine hK22 _ _ ?_
  refine W.seqK fun K28 hK28 => ?_
  have Jk33 : ∀ (x30 : List Int) (a31 : Option Addr) (c32 : Nat) (ρ : Env) (w : World), ρ 0 = .slice a31 x30.length c32 → ρ 5 = .pointer (some ⟨g10, 0, none⟩) → St ok (bz w0) w [vl (tSlice (tInt .u8)) x30 (.slice a31 x30.length c32), vl t_fold_Field x5 (.agg cs7.toArray)] [blk g10 57 cs7] → fold_appendField.j2 x5 x30 = some r → K28 ρ w := by
    intro x30 a31 c32 ρ w h29_0 h29_5 hs hf
    refine hK28 _ _ ?_
    unfold fold_appendField.j2 at hf
    refine W.seqK fun K34 hK34 => ?_
    refine W.region ?_
    refine WL.move (v := .slice a31 x30.length c32) h29_0 ?_
    refine WL.fieldAddr (m := 1) h29_5 FA57_1 rfl ?_
    refine WL.fieldAddr (m := 5) rfl FA54_4 rfl ?_
    refine WL.loadF (z := x5.Register.N) (F_fold_Field_Register.comp F_fold_Register_N) hs 0 rfl 1 rfl rfl TI2 (.inr rfl) rfl rfl (fun v35 hs => ?_)
    obtain rfl := hs.int 0 rfl
    obtain ⟨x36, hxx36, hf⟩ := bindE hf
    refine WL.call (vs := [.slice a31 x30.length c32, .int .i64 x5.Register.N]) hs FN66 ⟨rfl, ⟨rfl, trivial⟩⟩ (fun ok hA => wire_AppendInt.calls (x1 := x30) (x4 := x5.Register.N) hxx36 (hA.get 1 rfl)) ?_
    rintro ⟨a37, n38, c39⟩ w hs
    refine WL.assign (v := .slice a37 n38 c39) rfl ?_
    refine WL.nil ?_
    refine hK34 _ _ ?_
    refine W.seqK fun K40 hK40 => ?_
    refine W.region ?_
    refine WL.move (v := .slice a37 n38 c39) rfl ?_
    refine WL.fieldAddr (m := 1) h29_5 FA57_1 rfl ?_
    refine WL.fieldAddr (m := 6) rfl FA54_5 rfl ?_
    refine WL.loadF (z := x5.Register.S) (F_fold_Field_Register.comp F_fold_Register_S) hs 1 rfl 2 rfl rfl TI9 (.inr rfl) rfl rfl (fun v41 hs => ?_)
    obtain rfl := hs.str 0 rfl
    obtain rfl := hs.ownLen 0 rfl
    have hs := hs.freezeOwn 0 rfl
    obtain ⟨x42, hxx42, hf⟩ := bindE hf
    refine WL.call (vs := [.slice a37 x36.length c39, bstr x5.Register.S]) hs FN63 ⟨rfl, ⟨rfl, trivial⟩⟩ (fun ok hA => wire_AppendString.calls (x1 := x36) (x4 := x5.Register.S) hxx42 (hA.get 0 rfl)) ?_
    rintro ⟨a43, n44, c45⟩ w hs
    refine WL.assign (v := .slice a43 n44 c45) rfl ?_
    refine WL.nil ?_
    refine hK40 _ _ ?_
    refine W.seqK fun K46 hK46 => ?_
    refine W.region ?_
    refine WL.move (v := .slice a43 n44 c45) rfl ?_
    refine WL.fieldAddr (m := 7) h29_5 FA57_2 rfl ?_
    refine WL.loadF (z := x5.HasMax) F_fold_Field_HasMax hs 1 rfl 4 rfl rfl TI4 (.inr rfl) rfl rfl (fun v47 hs => ?_)
    obtain rfl := hs.bool 0 rfl
    obtain rfl := hs.ownLen 0 rfl
    have hs := hs.freezeOwn 0 rfl
    obtain ⟨x48, hxx48, hf⟩ := bindE hf
    refine WL.call (vs := [.slice a43 x42.length c45, .bool x5.HasMax]) hs FN64 ⟨rfl, ⟨rfl, trivial⟩⟩ (fun ok hA => wire_AppendBool.calls (x1 := x42) (x4 := x5.HasMax) hxx48 (hA.get 0 rfl)) ?_
    rintro ⟨a49, n50, c51⟩ w hs
    refine WL.assign (v := .slice a49 n50 c51) rfl ?_
    refine WL.nil ?_
    refine hK46 _ _ ?_
    refine W.seqK fun K52 hK52 => ?_
    refine W.region ?_
    refine WL.move (v := .slice a49 n50 c51) rfl ?_
    refine WL.fieldAddr (m := 8) h29_5 FA57_3 rfl ?_
    refine WL.loadF (z := x5.Max) F_fold_Field_Max hs 1 rfl 6 rfl rfl TI2 (.inr rfl) rfl rfl (fun v53 hs => ?_)
    obtain rfl := hs.int 0 rfl
    obtain rfl := hs.ownLen 0 rfl
    have hs := hs.freezeOwn 0 rfl
    obtain ⟨x54, hxx54, hf⟩ := bindE hf
    refine WL.call (vs := [.slice a49 x48.length c51, .int .i64 x5.Max]) hs FN66 ⟨rfl, ⟨rfl, trivial⟩⟩ (fun ok hA => wire_AppendInt.calls (x1 := x48) (x4 := x5.Max) hxx54 (hA.get 0 rfl)) ?_
    rintro ⟨a55, n56, c57⟩ w hs
    refine WL.assign (v := .slice a55 n56 c57) rfl ?_
    refine WL.nil ?_
    refine hK52 _ _ ?_
    refine W.seqK fun K58 hK58 => ?_
    refine W.region ?_
    refine WL.move (v := .slice a55 n56 c57) rfl ?_
    refine WL.fieldAddr (m := 9) h29_5 FA57_4 rfl ?_
    refine WL.loadF (z := x5.Sum) F_fold_Field_Sum hs 1 rfl 8 rfl rfl TI2 (.inr rfl) rfl rfl (fun v59 hs => ?_)
    obtain rfl := hs.int 0 rfl
    obtain rfl := hs.ownLen 0 rfl
    have hs := hs.freezeOwn 0 rfl
    obtain ⟨x60, hxx60, hf⟩ := bindE hf
    refine WL.call (vs := [.slice a55 x54.length c57, .int .i64 x5.Sum]) hs FN66 ⟨rfl, ⟨rfl, trivial⟩⟩ (fun ok hA => wire_AppendInt.calls (x1 := x54) (x4 := x5.Sum) hxx60 (hA.get 0 rfl)) ?_
    rintro ⟨a61, n62, c63⟩ w hs
    refine WL.assign (v := .slice a61 n62 c63) rfl ?_
    refine WL.nil ?_
    refine hK58 _ _ ?_
    refine W.seqK fun K64 hK64 => ?_
    refine W.region ?_
    refine WL.move (v := .slice a61 n62 c63) rfl ?_
    refine WL.fieldAddr (m := 10) h29_5 FA57_5 rfl ?_
    refine WL.loadF (z := x5.Elems) F_fold_Field_Elems hs 1 rfl 10 rfl rfl TI55 (.inr rfl) rfl rfl (fun v65 hs => ?_)
    obtain ⟨a66, c67, rfl⟩ := hs.slice 0 rfl
    refine WL.len (v := .slice a66 (x5.Elems).length c67) rfl (len_slice UN55) ?_
    obtain ⟨x68, ex68, hf⟩ := letE hf
    refine WL.convI_ UN3 UN32 rfl ex68 ?_
    obtain rfl := hs.ownLen 0 rfl
    have hs := hs.freezeOwn 0 rfl
    obtain ⟨x69, hxx69, hf⟩ := bindE hf
    refine WL.call (vs := [.slice a61 x60.length c63, .int .u64 x68]) hs FN65 ⟨rfl, ⟨rfl, trivial⟩⟩ (fun ok hA => wire_AppendUint.calls (x1 := x60) (x4 := x68) hxx69 (hA.get 0 rfl)) ?_
    rintro ⟨a70, n71, c72⟩ w hs
    refine WL.assign (v := .slice a70 n71 c72) rfl ?_
    refine WL.nil ?_
    refine hK64 _ _ ?_
    refine W.seqK fun K73 hK73 => ?_
    have Jk78 : ∀ (x75 : List Int) (a76 : Option Addr) (c77 : Nat) (ρ : Env) (w : World), ρ 0 = .slice a76 x75.length c77 → ρ 5 = .pointer (some ⟨g10, 0, none⟩) → St ok (bz w0) w [vl (tSlice (tInt .u8)) x75 (.slice a76 x75.length c77), vl t_fold_Field x5 (.agg cs7.toArray)] [blk g10 57 cs7] → fold_appendField.j1 x5 x75 = some r → K73 ρ w := by
      intro x75 a76 c77 ρ w h74_0 h74_5 hs hf
      refine hK73 _ _ ?_
      unfold fold_appendField.j1 at hf
      refine W.seqK fun K79 hK79 => ?_
      refine W.region ?_
      refine WL.move (v := .slice a76 x75.length c77) h74_0 ?_
      refine WL.fieldAddr (m := 11) h74_5 FA57_6 rfl ?_
      refine WL.loadF (z := x5.Flag) F_fold_Field_Flag hs 0 rfl 1 rfl rfl TI4 (.inr rfl) rfl rfl (fun v80 hs => ?_)
      obtain rfl := hs.bool 0 rfl
      obtain ⟨x81, hxx81, hf⟩ := bindE hf
      refine WL.call (vs := [.slice a76 x75.length c77, .bool x5.Flag]) hs FN64 ⟨rfl, ⟨rfl, trivial⟩⟩ (fun ok hA => wire_AppendBool.calls (x1 := x75) (x4 := x5.Flag) hxx81 (hA.get 1 rfl)) ?_
      rintro ⟨a82, n83, c84⟩ w hs
      refine WL.assign (v := .slice a82 n83 c84) rfl ?_
      refine WL.nil ?_
      refine hK79 _ _ ?_
      refine W.ret ?_
      have hr := Option.some.inj hf; subst hr
      exact ⟨_, resOk_one rfl rfl, (a82, n83, c84), rfl, (hs.mask [true]).pick []⟩
    refine W.seqK fun K85 hK85 => ?_
    refine W.region ?_
    refine WL.fieldAddr (m := 10) h29_5 FA57_5 rfl ?_
    refine WL.loadF (z := x5.Elems) F_fold_Field_Elems hs 1 rfl 12 rfl rfl TI55 (.inr rfl) rfl rfl (fun v86 hs => ?_)
    obtain ⟨a87, c88, rfl⟩ := hs.slice 0 rfl
    refine WL.len (v := .slice a87 (x5.Elems).length c88) rfl (len_slice UN55) ?_
    refine WL.move (v := .int .i64 0) rfl ?_
    refine WL.nil ?_
    refine hK85 _ _ ?_
    refine W.block ?_
    obtain ⟨bs94, hbs94, hfs94⟩ := bindE hf
    obtain rfl := hs.ownLen 0 rfl
    have hs := hs.freezeOwn 0 rfl
    refine W.loop hbs94 (fun s ρ w => match s with | (x90, x93) => ∃ (a91 : Option Addr), ∃ (c92 : Nat), ρ 0 = .slice a91 x90.length c92 ∧ ρ 5 = .pointer (some ⟨g10, 0, none⟩) ∧ ρ 70 = .slice a87 (x5.Elems).length c88 ∧ ρ 71 = .int .i64 ((x5.Elems).length : Int) ∧ ρ 72 = .int .i64 x93 ∧ St ok (bz w0) w [vl (tSlice (tInt .u8)) x90 (.slice a91 x90.length c92), vl (tSlice tStr) x5.Elems (.slice a87 (x5.Elems).length c88), vl t_fold_Field x5 (.agg cs7.toArray)] [blk g10 57 cs7]) ⟨a70, c72, rfl, h29_5, rfl, rfl, rfl, (hs.mask [true]).pick [0, 1, 14]⟩ ?_
    intro s ρ w os94 hI hf hbbs94
    obtain ⟨x90, x93⟩ := s
    obtain ⟨a91, c92, h89_0, h89_5, h89_70, h89_71, h89_72, hs⟩ := hI
    unfold fold_appendField.l1 at hf
    refine W.seqK fun K95 hK95 => ?_
    refine W.region ?_
    refine WL.bin (v := .bool (decide (x93 < ((x5.Elems).length : Int)))) h89_72 h89_71 (ib_lss _ _ _) ?_
    refine WL.nil ?_
    refine hK95 _ _ ?_
    refine W.seqK fun K96 hK96 => ?_
    rcases iteE hf with ⟨hc97, hf⟩ | ⟨hc97, hf⟩
    · refine W.cond_true (bool_tr rfl hc97) ?_
      refine W.skip ?_
      refine hK96 _ _ ?_
      refine W.seqK fun K98 hK98 => ?_
      refine W.block ?_
      refine W.seqK fun K99 hK99 => ?_
      refine W.region ?_
      obtain ⟨x100, hxx100, hf⟩ := bindE hf
      refine WL.indexAddr hs 1 rfl UN55 TI9 h89_70 h89_72 hxx100 (fun ad101 hs => ?_)
      refine WL.loadP hs 0 rfl TI9 (.inr rfl) rfl (fun v102 hs => ?_)
      obtain rfl := hs.str 0 rfl
      refine WL.assign (v := bstr x100) rfl ?_
      refine WL.nil ?_
      refine hK99 _ _ ?_
      refine W.region ?_
      refine WL.move (v := .slice a91 x90.length c92) h89_0 ?_
      refine WL.move (v := bstr x100) rfl ?_
      obtain ⟨x103, hxx103, hf⟩ := bindE hf
      refine WL.call (vs := [.slice a91 x90.length c92, bstr x100]) hs FN63 ⟨rfl, ⟨rfl, trivial⟩⟩ (fun ok hA => wire_AppendString.calls (x1 := x90) (x4 := x100) hxx103 (hA.get 2 rfl)) ?_
      rintro ⟨a104, n105, c106⟩ w hs
      refine WL.assign (v := .slice a104 n105 c106) rfl ?_
      refine WL.nil ?_
      refine hK98 _ _ ?_
      refine W.region ?_
      obtain ⟨x107, ex107, hf⟩ := letE hf
      refine WL.bin (v := .int .i64 x107) h89_72 rfl (ib_as ex107 (ib_add _ _ _)) ?_
      refine WL.move (v := .int .i64 x107) rfl ?_
      refine WL.nil ?_
      obtain rfl := hs.ownLen 0 rfl
      have hs := hs.freezeOwn 0 rfl
      exact ⟨_, (Option.some.inj hf).symm, a104, c106, rfl, h89_5, h89_70, h89_71, rfl, (hs.mask [true]).pick [0, 4, 5]⟩
    · refine W.cond_false (bool_tr rfl hc97) ?_
      refine W.exit ?_
      have hr := Option.some.inj hf; subst hr
      have hr := hbbs94 _ rfl; subst hr
      have hf := hfs94
      exact Jk78 x90 a91 c92 _ _ h89_0 h89_5 ((hs.mask [true]).pick [0, 2]) hf
  refine W.seqK fun K109 hK109 => ?_
  refine W.region ?_
  refine WL.fieldAddr (m := 1) rfl FA57_1 rfl ?_
  refine WL.fieldAddr (m := 2) rfl FA54_1 rfl ?_
  refine WL.loadF (z := x5.Register.Tag) (F_fold_Field_Register.comp F_fold_Register_Tag) hs 1 rfl 5 rfl rfl TI3 (.inr rfl) rfl rfl (fun v110 hs => ?_)
  obtain rfl := hs.int 0 rfl
  refine WL.fieldAddr (m := 1) rfl FA57_1 rfl ?_
  refine WL.fieldAddr (m := 3) rfl FA54_2 rfl ?_
  refine WL.loadF (z := x5.Register.Client) (F_fold_Field_Register.comp F_fold_Register_Client) hs 1 rfl 6 rfl rfl TI3 (.inr rfl) rfl rfl (fun v111 hs => ?_)
  obtain rfl := hs.int 0 rfl
  refine WL.fieldAddr (m := 1) rfl FA57_1 rfl ?_
  refine WL.fieldAddr (m := 4) rfl FA54_3 rfl ?_
  refine WL.loadF (z := x5.Register.Seq) (F_fold_Field_Register.comp F_fold_Register_Seq) hs 1 rfl 7 rfl rfl TI3 (.inr rfl) rfl rfl (fun v112 hs => ?_)
  obtain rfl := hs.int 0 rfl
  refine WL.build (vs := [(0, .int .i64 x5.Register.Tag), (1, .int .i64 x5.Register.Client), (2, .int .i64 x5.Register.Seq)]) (cs := [.int .i64 x5.Register.Tag, .int .i64 x5.Register.Client, .int .i64 x5.Register.Seq]) ⟨⟨rfl, rfl⟩, ⟨⟨rfl, rfl⟩, ⟨⟨rfl, rfl⟩, trivial⟩⟩⟩ (bldA (places := [(0, 1), (1, 1), (2, 1)]) (zero := [.int .i64 0, .int .i64 0, .int .i64 0]) UN102 TI3 ZA102 rfl rfl rfl) ?_
  refine WL.move (v := .int .i64 0) rfl ?_
  refine WL.nil ?_
  refine hK109 _ _ ?_
  refine W.block ?_
  obtain ⟨bs118, hbs118, hfs118⟩ := bindE hf
  obtain rfl := hs.ownLen 0 rfl
  have hs := hs.freezeOwn 0 rfl
  refine W.loop hbs118 (fun s ρ w => match s with | (x114, x117) => ∃ (a115 : Option Addr), ∃ (c116 : Nat), ρ 0 = .slice a115 x114.length c116 ∧ ρ 5 = .pointer (some ⟨g10, 0, none⟩) ∧ ρ 32 = .agg ([.int .i64 x5.Register.Tag, .int .i64 x5.Register.Client, .int .i64 x5.Register.Seq] : List Value).toArray ∧ ρ 33 = .int .i64 x117 ∧ St ok (bz w0) w [vl (tSlice (tInt .u8)) x114 (.slice a115 x114.length c116), vl t_fold_Field x5 (.agg cs7.toArray)] [blk g10 57 cs7]) ⟨a25, c27, rfl, rfl, rfl, rfl, (hs.mask [true]).pick [0, 9]⟩ ?_
  intro s ρ w os118 hI hf hbbs118
  obtain ⟨x114, x117⟩ := s
  obtain ⟨a115, c116, h113_0, h113_5, h113_32, h113_33, hs⟩ := hI
  unfold fold_appendField.l2 at hf
  refine W.seqK fun K119 hK119 => ?_
  refine W.region ?_
  refine WL.bin (v := .bool (decide (x117 < 3))) h113_33 rfl (ib_lss _ _ _) ?_
  refine WL.nil ?_
  refine hK119 _ _ ?_
  refine W.seqK fun K120 hK120 => ?_
  rcases iteE hf with ⟨hc121, hf⟩ | ⟨hc121, hf⟩
  · refine W.cond_true (bool_tr rfl hc121) ?_
    refine W.skip ?_
    refine hK120 _ _ ?_
    refine W.seqK fun K122 hK122 => ?_
    refine W.block ?_
    refine W.seqK fun K123 hK123 => ?_
    refine W.region ?_
    obtain ⟨x124, hxx124, hf⟩ := bindE hf
    refine WL.indexA (xs := ([x5.Register.Tag, x5.Register.Client, x5.Register.Seq] : List Int)) (enc := (fun x => Value.int .i64 x)) UN102 TI3 rfl h113_32 h113_33 hxx124 ?_
    refine WL.assign (v := .int .i64 x124) rfl ?_
    refine WL.nil ?_
    refine hK123 _ _ ?_
    refine W.region ?_
    refine WL.move (v := .slice a115 x114.length c116) h113_0 ?_
    refine WL.move (v := .int .i64 x124) rfl ?_
    refine WL.convI UN3 UN32 rfl ?_
    obtain ⟨x125, hxx125, hf⟩ := bindE hf
    refine WL.call (vs := [.slice a115 x114.length c116, .int .u64 (IntKind.u64.wrap x124)]) hs FN65 ⟨rfl, ⟨rfl, trivial⟩⟩ (fun ok hA => wire_AppendUint.calls (x1 := x114) (x4 := (IntKind.u64.wrap x124)) hxx125 (hA.get 0 rfl)) ?_
    rintro ⟨a126, n127, c128⟩ w hs
    refine WL.assign (v := .slice a126 n127 c128) rfl ?_
    refine WL.nil ?_
    refine hK122 _ _ ?_
    refine W.region ?_
    obtain ⟨x129, ex129, hf⟩ := letE hf
    refine WL.bin (v := .int .i64 x129) h113_33 rfl (ib_as ex129 (ib_add _ _ _)) ?_
    refine WL.move (v := .int .i64 x129) rfl ?_
    refine WL.nil ?_
    obtain rfl := hs.ownLen 0 rfl
    have hs := hs.freezeOwn 0 rfl
    exact ⟨_, (Option.some.inj hf).symm, a126, c128, rfl, h113_5, h113_32, rfl, (hs.mask [true]).pick [0, 2]⟩
  · refine W.cond_false (bool_tr rfl hc121) ?_
    refine W.exit ?_
    have hr := Option.some.inj hf; subst hr
    have hr := hbbs118 _ rfl; subst hr
    have hf := hfs118
    exact Jk33 x114 a115 c116 _ _ h113_0 h113_5 ((hs.mask [true]).pick [0, 1]) hf
theorem fold_appendField.callc {ok : Nat → Prop} {w0 : World} {x1 : List Int} {x4 : List UInt8} {x5 : fold_Field} {a2 : Option Addr} {c3 : Nat} {v6 : Value} {r : List Int} (hf : fold_appendField x1 x4 x5 = some r) (i0 : (vl (tSlice (tInt .u8)) x1 (.slice a2 x1.length c3)).holds ok w0) (i1 : (vl t_fold_Field x5 v6).holds ok w0) :
    Calls Try.prog 39 #[.slice a2 x1.length c3, bstr x4, v6] w0 fun e w' => ∃ v, e = .returned v ∧ ∃ y : (Option Addr × Nat), v = .slice y.1 r.length y.2 ∧ St ok (bz w0) w' [vl (tSlice (tInt .u8)) r (.slice y.1 r.length y.2)] [] := by
  refine (fold_appendField.calls (ok := ok) (w0 := w0) (x1 := x1) (x4 := x4) (x5 := x5) hf i0 i1).mono ?_
  rintro e w' ⟨v, rfl, ⟨a131, n132, c133⟩, rfl, hs⟩
  obtain rfl := hs.ownLen 0 rfl
  have hs := hs.freezeOwn 0 rfl
  exact ⟨_, rfl, (a131, c133), rfl, hs.pick [0]⟩
/-! elasticstore/fold.Hash: function 16 -/
theorem fold_Hash.calls {ok : Nat → Prop} {w0 : World} {x1 : fold_Store} {v2 : Value} {r : Int} (hf : fold_Hash x1 = some r) (i0 : (vl t_fold_Store x1 v2).holds ok w0) :
    Calls Try.prog 16 #[v2] w0 fun e w' => ∃ v, e = .returned v ∧ ∃ y : Unit, v = .int .u64 r ∧ St ok (bz w0) w' [] [] := by
  unfold fold_Hash at hf
  refine calls_of_W (fn := Try.f16) (N := 42) Try.func16 rfl Try.ntmps16 rfl ?_
  have hs : St ok (bz w0) w0 [vl t_fold_Store x1 v2] [] := St.init (All.cons i0 All.nil)
  clear i0
  obtain ⟨cs3, hl4, rfl⟩ := hs.aggv (n := 1) 0 rfl rfl rfl
  refine W.seqK fun K5 hK5 => ?_
  refine W.region ?_
  refine WL.box (vs := cs3) hs rfl rfl (fun g6 w hs => ?_)
  refine WL.assign (v := .int .u64 0) rfl ?_
  refine WL.nil ?_
  refine hK5 _ _ ?_
  refine W.seqK fun K7 hK7 => ?_
  refine W.region ?_
  refine WL.assign (v := .int .u64 14695981039346656037) rfl ?_
  refine WL.nil ?_
  refine hK7 _ _ ?_
  refine W.seqK fun K8 hK8 => ?_
  have Jk11 : ∀ (x10 : Int) (ρ : Env) (w : World), ρ 3 = .int .u64 x10 → St ok (bz w0) w [] [] → fold_Hash.j1 x10 = some r → K8 ρ w := by
    intro x10 ρ w h9_3 hs hf
    refine hK8 _ _ ?_
    unfold fold_Hash.j1 at hf
    refine W.seqK fun K12 hK12 => ?_
    refine W.region ?_
    refine WL.move (v := .int .u64 x10) h9_3 ?_
    refine WL.assign (v := .int .u64 x10) rfl ?_
    refine WL.nil ?_
    refine hK12 _ _ ?_
    refine W.ret ?_
    have hr := Option.some.inj hf; subst hr
    exact ⟨_, resOk_one rfl rfl, (), rfl, (hs.mask []).pick []⟩
  refine W.seqK fun K13 hK13 => ?_
  refine W.region ?_
  refine WL.fieldAddr (m := 0) rfl FA29_0 rfl ?_
  refine WL.loadF (z := x1.Objects) F_fold_Store_Objects hs 0 rfl 0 rfl rfl TI27 (.inr rfl) rfl rfl (fun v14 hs => ?_)
  obtain ⟨a15, c16, rfl⟩ := hs.slice 0 rfl
  refine WL.len (v := .slice a15 (x1.Objects).length c16) rfl (len_slice UN27) ?_
  refine WL.move (v := .int .i64 0) rfl ?_
  refine WL.nil ?_
  refine hK13 _ _ ?_
  refine W.block ?_
  obtain ⟨bs20, hbs20, hfs20⟩ := bindE hf
  refine W.loop hbs20 (fun s ρ w => match s with | (x18, x19) => ρ 3 = .int .u64 x18 ∧ ρ 11 = .slice a15 (x1.Objects).length c16 ∧ ρ 12 = .int .i64 ((x1.Objects).length : Int) ∧ ρ 13 = .int .i64 x19 ∧ St ok (bz w0) w [vl (tSlice t_fold_Object) x1.Objects (.slice a15 (x1.Objects).length c16)] []) ⟨rfl, rfl, rfl, rfl, (hs.mask []).pick [0]⟩ ?_
  intro s ρ w os20 hI hf hbbs20
  obtain ⟨x18, x19⟩ := s
  obtain ⟨h17_3, h17_11, h17_12, h17_13, hs⟩ := hI
  unfold fold_Hash.l3 at hf
  refine W.seqK fun K21 hK21 => ?_
  refine W.region ?_
  refine WL.bin (v := .bool (decide (x19 < ((x1.Objects).length : Int)))) h17_13 h17_12 (ib_lss _ _ _) ?_
  refine WL.nil ?_
  refine hK21 _ _ ?_
  refine W.seqK fun K22 hK22 => ?_
  rcases iteE hf with ⟨hc23, hf⟩ | ⟨hc23, hf⟩
  · refine W.cond_true (bool_tr rfl hc23) ?_
    refine W.skip ?_
    refine hK22 _ _ ?_
    refine W.seqK fun K24 hK24 => ?_
    have Jk27 : ∀ (x26 : Int) (ρ : Env) (w : World), ρ 3 = .int .u64 x26 → ρ 11 = .slice a15 (x1.Objects).length c16 → ρ 12 = .int .i64 ((x1.Objects).length : Int) → ρ 13 = .int .i64 x19 → St ok (bz w0) w [vl (tSlice t_fold_Object) x1.Objects (.slice a15 (x1.Objects).length c16)] [] → fold_Hash.j2 x19 x26 = some os20 → K24 ρ w := by
      intro x26 ρ w h25_3 h25_11 h25_12 h25_13 hs hf
      refine hK24 _ _ ?_
      unfold fold_Hash.j2 at hf
      refine W.region ?_
      obtain ⟨x28, ex28, hf⟩ := letE hf
      refine WL.bin (v := .int .i64 x28) h25_13 rfl (ib_as ex28 (ib_add _ _ _)) ?_
      refine WL.move (v := .int .i64 x28) rfl ?_
      refine WL.nil ?_
      exact ⟨_, (Option.some.inj hf).symm, h25_3, h25_11, h25_12, rfl, (hs.mask []).pick [0]⟩
    refine W.block ?_
    refine W.seqK fun K29 hK29 => ?_
    refine W.region ?_
    obtain ⟨x30, hxx30, hf⟩ := bindE hf
    refine WL.indexAddr hs 0 rfl UN27 TI51 h17_11 h17_13 hxx30 (fun ad31 hs => ?_)
    refine WL.loadP hs 0 rfl TI51 (.inl rfl) rfl (fun v32 hs => ?_)
    obtain ⟨cs33, hl34, rfl⟩ := hs.aggv (n := 2) 0 rfl rfl rfl
    refine WL.alloc hs ZV51 (fun g35 w hs => ?_)
    refine WL.storeAll (vs := cs33) hs 0 rfl TI51 rfl rfl rfl hl34 (hs.ones 0 rfl rfl) rfl (fun w hs => ?_)
    refine WL.nil ?_
    refine hK29 _ _ ?_
    refine W.seqK fun K36 hK36 => ?_
    refine W.region ?_
    refine WL.fieldAddr (m := 1) rfl FA51_1 rfl ?_
    refine WL.loadF (z := x30.Fields) F_fold_Object_Fields hs 0 rfl 0 rfl rfl TI49 (.inr rfl) rfl rfl (fun v37 hs => ?_)
    obtain ⟨a38, c39, rfl⟩ := hs.slice 0 rfl
    refine WL.len (v := .slice a38 (x30.Fields).length c39) rfl (len_slice UN49) ?_
    refine WL.move (v := .int .i64 0) rfl ?_
    refine WL.nil ?_
    refine hK36 _ _ ?_
    refine W.block ?_
    obtain ⟨bs43, hbs43, hfs43⟩ := bindE hf
    refine W.loop hbs43 (fun s ρ w => match s with | (x41, x42) => ρ 3 = .int .u64 x41 ∧ ρ 5 = .pointer (some ⟨g35, 0, none⟩) ∧ ρ 11 = .slice a15 (x1.Objects).length c16 ∧ ρ 12 = .int .i64 ((x1.Objects).length : Int) ∧ ρ 13 = .int .i64 x19 ∧ ρ 18 = .slice a38 (x30.Fields).length c39 ∧ ρ 19 = .int .i64 ((x30.Fields).length : Int) ∧ ρ 20 = .int .i64 x42 ∧ St ok (bz w0) w [vl (tSlice t_fold_Object) x1.Objects (.slice a15 (x1.Objects).length c16), vl (tSlice t_fold_Field) x30.Fields (.slice a38 (x30.Fields).length c39), vl t_fold_Object x30 (.agg cs33.toArray)] [blk g35 51 cs33]) ⟨h17_3, rfl, h17_11, h17_12, h17_13, rfl, rfl, rfl, (hs.mask [true]).pick [3, 0, 1]⟩ ?_
    intro s ρ w os43 hI hf hbbs43
    obtain ⟨x41, x42⟩ := s
    obtain ⟨h40_3, h40_5, h40_11, h40_12, h40_13, h40_18, h40_19, h40_20, hs⟩ := hI
    unfold fold_Hash.l2 at hf
    refine W.seqK fun K44 hK44 => ?_
    refine W.region ?_
    refine WL.bin (v := .bool (decide (x42 < ((x30.Fields).length : Int)))) h40_20 h40_19 (ib_lss _ _ _) ?_
    refine WL.nil ?_
    refine hK44 _ _ ?_
    refine W.seqK fun K45 hK45 => ?_
    rcases iteE hf with ⟨hc46, hf⟩ | ⟨hc46, hf⟩
    · refine W.cond_true (bool_tr rfl hc46) ?_
      refine W.skip ?_
      refine hK45 _ _ ?_
      refine W.seqK fun K47 hK47 => ?_
      have Jk50 : ∀ (x49 : Int) (ρ : Env) (w : World), ρ 3 = .int .u64 x49 → ρ 5 = .pointer (some ⟨g35, 0, none⟩) → ρ 11 = .slice a15 (x1.Objects).length c16 → ρ 12 = .int .i64 ((x1.Objects).length : Int) → ρ 13 = .int .i64 x19 → ρ 18 = .slice a38 (x30.Fields).length c39 → ρ 19 = .int .i64 ((x30.Fields).length : Int) → ρ 20 = .int .i64 x42 → St ok (bz w0) w [vl (tSlice t_fold_Object) x1.Objects (.slice a15 (x1.Objects).length c16), vl (tSlice t_fold_Field) x30.Fields (.slice a38 (x30.Fields).length c39), vl t_fold_Object x30 (.agg cs33.toArray)] [blk g35 51 cs33] → fold_Hash.j3 x42 x49 = some os43 → K47 ρ w := by
        intro x49 ρ w h48_3 h48_5 h48_11 h48_12 h48_13 h48_18 h48_19 h48_20 hs hf
        refine hK47 _ _ ?_
        unfold fold_Hash.j3 at hf
        refine W.region ?_
        obtain ⟨x51, ex51, hf⟩ := letE hf
        refine WL.bin (v := .int .i64 x51) h48_20 rfl (ib_as ex51 (ib_add _ _ _)) ?_
        refine WL.move (v := .int .i64 x51) rfl ?_
        refine WL.nil ?_
        exact ⟨_, (Option.some.inj hf).symm, h48_3, h48_5, h48_11, h48_12, h48_13, h48_18, h48_19, rfl, (hs.mask [true]).pick [0, 1, 2]⟩
      refine W.block ?_
      refine W.seqK fun K52 hK52 => ?_
      refine W.region ?_
      obtain ⟨x53, hxx53, hf⟩ := bindE hf
      refine WL.indexAddr hs 1 rfl UN49 TI57 h40_18 h40_20 hxx53 (fun ad54 hs => ?_)
      refine WL.loadP hs 0 rfl TI57 (.inl rfl) rfl (fun v55 hs => ?_)
      obtain ⟨cs56, hl57, rfl⟩ := hs.aggv (n := 12) 0 rfl rfl rfl
      refine WL.alloc hs ZV57 (fun g58 w hs => ?_)
      refine WL.storeAll (vs := cs56) hs 0 rfl TI57 rfl rfl rfl hl57 (hs.ones 0 rfl rfl) rfl (fun w hs => ?_)
      refine WL.nil ?_
      refine hK52 _ _ ?_
      refine W.seqK fun K59 hK59 => ?_
      refine W.region ?_
      refine WL.fieldAddr (m := 0) h40_5 FA51_0 rfl ?_
      refine WL.loadF (z := x30.Name) F_fold_Object_Name hs 1 rfl 4 rfl rfl TI9 (.inr rfl) rfl rfl (fun v60 hs => ?_)
      obtain rfl := hs.str 0 rfl
      refine WL.loadAll hs 0 rfl TI57 rfl hl57 ?_
      have hs := hs.add (it := vl (tSlice (tInt .u8)) [] (.slice none 0 0)) fun ok hA => V_nil
      obtain ⟨x61, hxx61, hf⟩ := bindE hf
      refine WL.call (vs := [.slice none 0 0, bstr x30.Name, .agg cs56.toArray]) hs FN39 ⟨rfl, ⟨rfl, ⟨rfl, trivial⟩⟩⟩ (fun ok hA => fold_appendField.calls (a2 := none) (c3 := 0) (x1 := []) (x4 := x30.Name) (x5 := x53) hxx61 (hA.get 0 rfl) (hA.get 2 rfl)) ?_
      rintro ⟨a62, n63, c64⟩ w hs
      refine WL.len (v := .slice a62 n63 c64) rfl (len_own hs 0 rfl UN72) ?_
      refine WL.move (v := .int .i64 0) rfl ?_
      refine WL.nil ?_
      refine hK59 _ _ ?_
      refine W.block ?_
      obtain ⟨bs68, hbs68, hfs68⟩ := bindE hf
      refine W.loop hbs68 (fun s ρ w => match s with | (x66, x67) => ρ 3 = .int .u64 x66 ∧ ρ 5 = .pointer (some ⟨g35, 0, none⟩) ∧ ρ 11 = .slice a15 (x1.Objects).length c16 ∧ ρ 12 = .int .i64 ((x1.Objects).length : Int) ∧ ρ 13 = .int .i64 x19 ∧ ρ 18 = .slice a38 (x30.Fields).length c39 ∧ ρ 19 = .int .i64 ((x30.Fields).length : Int) ∧ ρ 20 = .int .i64 x42 ∧ ρ 27 = .slice a62 n63 c64 ∧ ρ 28 = .int .i64 (x61.length : Int) ∧ ρ 29 = .int .i64 x67 ∧ St ok (bz w0) w [vl (tSlice t_fold_Object) x1.Objects (.slice a15 (x1.Objects).length c16), vl (tSlice t_fold_Field) x30.Fields (.slice a38 (x30.Fields).length c39), vl t_fold_Object x30 (.agg cs33.toArray)] [own (tInt .u8) 5 (.slice a62 n63 c64) x61, blk g35 51 cs33]) ⟨h40_3, h40_5, h40_11, h40_12, h40_13, h40_18, h40_19, h40_20, rfl, rfl, rfl, (hs.mask [true, false, true]).pick [4, 5, 6]⟩ ?_
      intro s ρ w os68 hI hf hbbs68
      obtain ⟨x66, x67⟩ := s
      obtain ⟨h65_3, h65_5, h65_11, h65_12, h65_13, h65_18, h65_19, h65_20, h65_27, h65_28, h65_29, hs⟩ := hI
      unfold fold_Hash.l1 at hf
      refine W.seqK fun K69 hK69 => ?_
      refine W.region ?_
      refine WL.bin (v := .bool (decide (x67 < (x61.length : Int)))) h65_29 h65_28 (ib_lss _ _ _) ?_
      refine WL.nil ?_
      refine hK69 _ _ ?_
      refine W.seqK fun K70 hK70 => ?_
      rcases iteE hf with ⟨hc71, hf⟩ | ⟨hc71, hf⟩
      · refine W.cond_true (bool_tr rfl hc71) ?_
        refine W.skip ?_
        refine hK70 _ _ ?_
        refine W.seqK fun K72 hK72 => ?_
        refine W.block ?_
        refine W.seqK fun K73 hK73 => ?_
        refine W.region ?_
        obtain ⟨x74, hxx74, hf⟩ := bindE hf
        refine WL.indexAddrO hs 0 rfl UN72 TI5 h65_27 h65_29 hxx74 (fun ad75 hatad75 => ?_)
        refine WL.loadO hs 0 rfl TI5 (.inr rfl) hatad75 hxx74 rfl (fun v76 hs => ?_)
        obtain rfl := hs.int 0 rfl
        refine WL.assign (v := .int .u8 x74) rfl ?_
        refine WL.nil ?_
        refine hK73 _ _ ?_
        refine W.region ?_
        refine WL.move (v := .int .u64 x66) h65_3 ?_
        refine WL.move (v := .int .u8 x74) rfl ?_
        refine WL.convI UN5 UN32 rfl ?_
        obtain ⟨x77, ex77, hf⟩ := letE hf
        refine WL.bin (v := .int .u64 x77) rfl rfl (ib_as ex77 (ib_xor _ _ _)) ?_
        obtain ⟨x78, ex78, hf⟩ := letE hf
        refine WL.bin (v := .int .u64 x78) rfl rfl (ib_as ex78 (ib_mul _ _ _)) ?_
        refine WL.assign (v := .int .u64 x78) rfl ?_
        refine WL.nil ?_
        refine hK72 _ _ ?_
        refine W.region ?_
        obtain ⟨x79, ex79, hf⟩ := letE hf
        refine WL.bin (v := .int .i64 x79) h65_29 rfl (ib_as ex79 (ib_add _ _ _)) ?_
        refine WL.move (v := .int .i64 x79) rfl ?_
        refine WL.nil ?_
        exact ⟨_, (Option.some.inj hf).symm, rfl, h65_5, h65_11, h65_12, h65_13, h65_18, h65_19, h65_20, h65_27, h65_28, rfl, (hs.mask [true, true]).pick [1, 2, 3]⟩
      · refine W.cond_false (bool_tr rfl hc71) ?_
        refine W.exit ?_
        have hr := Option.some.inj hf; subst hr
        have hr := hbbs68 _ rfl; subst hr
        have hf := hfs68
        exact Jk50 x66 _ _ h65_3 h65_5 h65_11 h65_12 h65_13 h65_18 h65_19 h65_20 ((hs.mask [false, true]).pick [0, 1, 2]) hf
    · refine W.cond_false (bool_tr rfl hc46) ?_
      refine W.exit ?_
      have hr := Option.some.inj hf; subst hr
      have hr := hbbs43 _ rfl; subst hr
      have hf := hfs43
      exact Jk27 x41 _ _ h40_3 h40_11 h40_12 h40_13 ((hs.mask []).pick [0]) hf
  · refine W.cond_false (bool_tr rfl hc23) ?_
    refine W.exit ?_
    have hr := Option.some.inj hf; subst hr
    have hr := hbbs20 _ rfl; subst hr
    have hf := hfs20
    exact Jk11 x18 _ _ h17_3 ((hs.mask []).pick []) hf
end Go.Proofs.Ytlbcfjblpopcnaa
