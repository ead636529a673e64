import Derived.Test.YtlbcfjblpopcnaaFh
import Derived.Test.YtlbcfjblpopcnaaLz
set_option linter.unusedVariables false
set_option linter.unusedSimpArgs false
namespace Go.Proofs.Ytlbcfjblpopcnaa
open Go Go.RowKit Go.Proofs.YtlbcfjblpopcnaaL
set_option maxRecDepth 100000
set_option maxHeartbeats 4000000
/-! elasticstore/elasticstoreref32.FieldOf: function 34 -/
theorem esref32_FieldOf.calls {ok : Nat → Prop} {w0 : World} {x1 : fold_Object} {x5 : List UInt8} {v2 : Value} {r : fold_Field} (hf : esref32_FieldOf x1 x5 = some r) (i0 : (vl t_fold_Object x1 v2).holds ok w0) :
    Calls Try.prog 34 #[v2, bstr x5] w0 fun e w' => ∃ v, e = .returned v ∧ ∃ y : List Value, v = .agg y.toArray ∧ St ok (bz w0) w' [vl t_fold_Field r (.agg y.toArray)] [] := by
  unfold esref32_FieldOf at hf
  refine calls_of_W (fn := Try.f34) (N := 28) Try.func34 rfl Try.ntmps34 rfl ?_
  have hs : St ok (bz w0) w0 [vl t_fold_Object x1 v2] [] := St.init (All.cons i0 All.nil)
  clear i0
  obtain ⟨cs3, hl4, rfl⟩ := hs.aggv (n := 2) 0 rfl rfl rfl
  refine W.seqK fun K6 hK6 => ?_
  refine W.region ?_
  refine WL.box (vs := cs3) hs rfl rfl (fun g7 w hs => ?_)
  refine WL.alloc hs ZV57 (fun g8 w hs => ?_)
  refine WL.nil ?_
  refine hK6 _ _ ?_
  refine W.seqK fun K9 hK9 => ?_
  have Jk14 : ∀ (x11 : fold_Field) (cs12 : List Value) (ρ : Env) (w : World), cs12.length = 12 → ρ 1 = bstr x5 → ρ 4 = .pointer (some ⟨g8, 0, none⟩) → St ok (bz w0) w [vl t_fold_Field x11 (.agg cs12.toArray)] [blk g8 57 cs12] → esref32_FieldOf.j1 x5 x11 = some r → K9 ρ w := by
    intro x11 cs12 ρ w hl13 h10_1 h10_4 hs hf
    refine hK9 _ _ ?_
    unfold esref32_FieldOf.j1 at hf
    refine W.seqK fun K15 hK15 => ?_
    refine W.region ?_
    refine WL.move (v := bstr x5) h10_1 ?_
    refine WL.build (vs := [(0, bstr x5)]) (cs := [bstr x5, .bool false, .int .i64 0, .int .i64 0, .int .i64 0, .int .i64 0, bstr [], .bool false, .int .i64 0, .int .i64 0, .slice none 0 0, .bool false]) ⟨⟨rfl, rfl⟩, trivial⟩ (bld PL57 rfl) ?_
    refine WL.storeAll (vs := [bstr x5, .bool false, .int .i64 0, .int .i64 0, .int .i64 0, .int .i64 0, bstr [], .bool false, .int .i64 0, .int .i64 0, .slice none 0 0, .bool false]) hs 0 rfl TI57 h10_4 rfl rfl rfl (ones_of rfl) hl13 (fun w hs => ?_)
    refine WL.nil ?_
    refine hK15 _ _ ?_
    refine W.ret ?_
    have hr := Option.some.inj hf; subst hr
    have hs := hs.add (it := vl t_fold_Field (⟨x5, (⟨false, 0, 0, 0, 0, []⟩ : fold_Register), false, 0, 0, [], false⟩ : fold_Field) (.agg ([bstr x5, .bool false, .int .i64 0, .int .i64 0, .int .i64 0, .int .i64 0, bstr [], .bool false, .int .i64 0, .int .i64 0, .slice none 0 0, .bool false]).toArray)) fun ok hA => V_agg (show t_fold_Field.R ok _ _ _ from ⟨[bstr x5], ([.bool false, .int .i64 0, .int .i64 0, .int .i64 0, .int .i64 0, bstr [], .bool false, .int .i64 0, .int .i64 0, .slice none 0 0, .bool false]), rfl, rfl, ⟨([.bool false, .int .i64 0, .int .i64 0, .int .i64 0, .int .i64 0, bstr []]), [.bool false, .int .i64 0, .int .i64 0, .slice none 0 0, .bool false], rfl, ⟨[.bool false], ([.int .i64 0, .int .i64 0, .int .i64 0, .int .i64 0, bstr []]), rfl, rfl, ⟨[.int .i64 0], ([.int .i64 0, .int .i64 0, .int .i64 0, bstr []]), rfl, rfl, ⟨[.int .i64 0], ([.int .i64 0, .int .i64 0, bstr []]), rfl, rfl, ⟨[.int .i64 0], ([.int .i64 0, bstr []]), rfl, rfl, ⟨[.int .i64 0], ([bstr []]), rfl, rfl, rfl⟩⟩⟩⟩⟩, ⟨[.bool false], [.int .i64 0, .int .i64 0, .slice none 0 0, .bool false], rfl, rfl, ⟨[.int .i64 0], [.int .i64 0, .slice none 0 0, .bool false], rfl, rfl, ⟨[.int .i64 0], [.slice none 0 0, .bool false], rfl, rfl, ⟨[.slice none 0 0], [.bool false], rfl, R_nil, rfl⟩⟩⟩⟩⟩⟩) rfl
    exact ⟨_, resOk_one rfl (res_all hs 0 rfl TI57 h10_4 rfl), [bstr x5, .bool false, .int .i64 0, .int .i64 0, .int .i64 0, .int .i64 0, bstr [], .bool false, .int .i64 0, .int .i64 0, .slice none 0 0, .bool false], rfl, (hs.mask []).pick [0]⟩
  refine W.seqK fun K16 hK16 => ?_
  refine W.region ?_
  refine WL.assign (v := .int .i64 0) rfl ?_
  refine WL.nil ?_
  refine hK16 _ _ ?_
  refine W.block ?_
  obtain ⟨bs22, hbs22, hfs22⟩ := bindE hf
  have hs := hs.add (it := vl t_fold_Field (⟨[], (⟨false, 0, 0, 0, 0, []⟩ : fold_Register), false, 0, 0, [], false⟩ : fold_Field) (.agg ([bstr [], .bool false, .int .i64 0, .int .i64 0, .int .i64 0, .int .i64 0, bstr [], .bool false, .int .i64 0, .int .i64 0, .slice none 0 0, .bool false]).toArray)) fun ok hA => V_agg (show t_fold_Field.R ok _ _ _ from ⟨([bstr []]), ([.bool false, .int .i64 0, .int .i64 0, .int .i64 0, .int .i64 0, bstr [], .bool false, .int .i64 0, .int .i64 0, .slice none 0 0, .bool false]), rfl, rfl, ⟨([.bool false, .int .i64 0, .int .i64 0, .int .i64 0, .int .i64 0, bstr []]), [.bool false, .int .i64 0, .int .i64 0, .slice none 0 0, .bool false], rfl, ⟨[.bool false], ([.int .i64 0, .int .i64 0, .int .i64 0, .int .i64 0, bstr []]), rfl, rfl, ⟨[.int .i64 0], ([.int .i64 0, .int .i64 0, .int .i64 0, bstr []]), rfl, rfl, ⟨[.int .i64 0], ([.int .i64 0, .int .i64 0, bstr []]), rfl, rfl, ⟨[.int .i64 0], ([.int .i64 0, bstr []]), rfl, rfl, ⟨[.int .i64 0], ([bstr []]), rfl, rfl, rfl⟩⟩⟩⟩⟩, ⟨[.bool false], [.int .i64 0, .int .i64 0, .slice none 0 0, .bool false], rfl, rfl, ⟨[.int .i64 0], [.int .i64 0, .slice none 0 0, .bool false], rfl, rfl, ⟨[.int .i64 0], [.slice none 0 0, .bool false], rfl, rfl, ⟨[.slice none 0 0], [.bool false], rfl, R_nil, rfl⟩⟩⟩⟩⟩⟩) rfl
  have hs := hs.add (it := vl t_fold_Field (⟨[], (⟨false, 0, 0, 0, 0, []⟩ : fold_Register), false, 0, 0, [], false⟩ : fold_Field) (.agg ([bstr [], .bool false, .int .i64 0, .int .i64 0, .int .i64 0, .int .i64 0, bstr [], .bool false, .int .i64 0, .int .i64 0, .slice none 0 0, .bool false]).toArray)) fun ok hA => V_agg (show t_fold_Field.R ok _ _ _ from ⟨([bstr []]), ([.bool false, .int .i64 0, .int .i64 0, .int .i64 0, .int .i64 0, bstr [], .bool false, .int .i64 0, .int .i64 0, .slice none 0 0, .bool false]), rfl, rfl, ⟨([.bool false, .int .i64 0, .int .i64 0, .int .i64 0, .int .i64 0, bstr []]), [.bool false, .int .i64 0, .int .i64 0, .slice none 0 0, .bool false], rfl, ⟨[.bool false], ([.int .i64 0, .int .i64 0, .int .i64 0, .int .i64 0, bstr []]), rfl, rfl, ⟨[.int .i64 0], ([.int .i64 0, .int .i64 0, .int .i64 0, bstr []]), rfl, rfl, ⟨[.int .i64 0], ([.int .i64 0, .int .i64 0, bstr []]), rfl, rfl, ⟨[.int .i64 0], ([.int .i64 0, bstr []]), rfl, rfl, ⟨[.int .i64 0], ([bstr []]), rfl, rfl, rfl⟩⟩⟩⟩⟩, ⟨[.bool false], [.int .i64 0, .int .i64 0, .slice none 0 0, .bool false], rfl, rfl, ⟨[.int .i64 0], [.int .i64 0, .slice none 0 0, .bool false], rfl, rfl, ⟨[.int .i64 0], [.slice none 0 0, .bool false], rfl, rfl, ⟨[.slice none 0 0], [.bool false], rfl, R_nil, rfl⟩⟩⟩⟩⟩⟩) rfl
  refine W.loop hbs22 (fun s ρ w => match s with | (x18, x19) => ∃ (cs20 : List Value), cs20.length = 12 ∧ ρ 1 = bstr x5 ∧ ρ 2 = .pointer (some ⟨g7, 0, none⟩) ∧ ρ 4 = .pointer (some ⟨g8, 0, none⟩) ∧ ρ 5 = .int .i64 x18 ∧ St ok (bz w0) w [vl t_fold_Field x19 (.agg cs20.toArray), vl t_fold_Object x1 (.agg cs3.toArray)] [blk g8 57 cs20, blk g7 51 cs3]) ⟨[bstr [], .bool false, .int .i64 0, .int .i64 0, .int .i64 0, .int .i64 0, bstr [], .bool false, .int .i64 0, .int .i64 0, .slice none 0 0, .bool false], rfl, rfl, rfl, rfl, rfl, (hs.mask [true, true]).pick [0, 2]⟩ ?_
  intro s ρ w os22 hI hf hbbs22
  obtain ⟨x18, x19⟩ := s
  obtain ⟨cs20, hl21, h17_1, h17_2, h17_4, h17_5, hs⟩ := hI
  unfold esref32_FieldOf.l1 at hf
  refine W.seqK fun K23 hK23 => ?_
  refine W.seqK fun K24 hK24 => ?_
  refine W.region ?_
  refine WL.move (v := .int .i64 x18) h17_5 ?_
  refine WL.fieldAddr (m := 1) h17_2 FA51_1 rfl ?_
  refine WL.loadF (z := x1.Fields) F_fold_Object_Fields hs 1 rfl 1 rfl rfl TI49 (.inr rfl) rfl rfl (fun v25 hs => ?_)
  obtain ⟨a26, c27, rfl⟩ := hs.slice 0 rfl
  refine WL.len (v := .slice a26 (x1.Fields).length c27) rfl (len_slice UN49) ?_
  refine WL.bin (v := .bool (decide (x18 < ((x1.Fields).length : Int)))) rfl rfl (ib_lss _ _ _) ?_
  refine WL.nil ?_
  refine hK24 _ _ ?_
  rcases iteE hf with ⟨hc28, hf⟩ | ⟨hc28, hf⟩
  · refine W.cond_true (bool_tr rfl hc28) ?_
    refine W.skip ?_
    refine hK23 _ _ ?_
    refine W.seqK fun K29 hK29 => ?_
    refine W.block ?_
    refine W.seqK fun K30 hK30 => ?_
    refine W.region ?_
    refine WL.fieldAddr (m := 1) h17_2 FA51_1 rfl ?_
    refine WL.loadF (z := x1.Fields) F_fold_Object_Fields hs 1 rfl 2 rfl rfl TI49 (.inr rfl) rfl rfl (fun v31 hs => ?_)
    obtain ⟨a32, c33, rfl⟩ := hs.slice 0 rfl
    refine WL.move (v := .int .i64 x18) h17_5 ?_
    obtain ⟨x34, hxx34, hf⟩ := bindE hf
    refine WL.indexAddr hs 0 rfl UN49 TI57 rfl rfl hxx34 (fun ad35 hs => ?_)
    refine WL.fieldAddrP (z := x34.Name) F_fold_Field_Name hs 0 rfl rfl FA57_0 rfl (fun ad36 hs => ?_)
    refine WL.loadP hs 0 rfl TI9 (.inr rfl) rfl (fun v37 hs => ?_)
    obtain rfl := hs.str 0 rfl
    refine WL.move (v := bstr x5) h17_1 ?_
    refine WL.binS (v := .bool (x34.Name == x5)) rfl rfl (sb_eql _ _) ?_
    refine WL.nil ?_
    refine hK30 _ _ ?_
    rcases iteE hf with ⟨hc38, hf⟩ | ⟨hc38, hf⟩
    · refine W.cond_true (bool_tr rfl hc38) ?_
      refine W.seqK fun K39 hK39 => ?_
      refine W.region ?_
      refine WL.fieldAddr (m := 1) h17_2 FA51_1 rfl ?_
      refine WL.loadF (z := x1.Fields) F_fold_Object_Fields hs 1 rfl 6 rfl rfl TI49 (.inr rfl) rfl rfl (fun v40 hs => ?_)
      obtain ⟨a41, c42, rfl⟩ := hs.slice 0 rfl
      refine WL.move (v := .int .i64 x18) h17_5 ?_
      obtain ⟨x43, hxx43, hf⟩ := bindE hf
      refine WL.indexAddr hs 0 rfl UN49 TI57 rfl rfl hxx43 (fun ad44 hs => ?_)
      refine WL.loadP hs 0 rfl TI57 (.inl rfl) rfl (fun v45 hs => ?_)
      obtain ⟨cs46, hl47, rfl⟩ := hs.aggv (n := 12) 0 rfl rfl rfl
      refine WL.storeAll (vs := cs46) hs 0 rfl TI57 h17_4 rfl rfl hl47 (hs.ones 0 rfl rfl) hl21 (fun w hs => ?_)
      refine WL.nil ?_
      refine hK39 _ _ ?_
      refine W.ret ?_
      have hr := Option.some.inj hf; subst hr
      have hr := hbbs22 _ rfl; subst hr
      have hf := hfs22
      have hr := Option.some.inj hf; subst hr
      exact ⟨_, resOk_one rfl (res_all hs 0 rfl TI57 h17_4 hl47), cs46, rfl, (hs.mask []).pick [0]⟩
    · refine W.cond_false (bool_tr rfl hc38) ?_
      refine W.skip ?_
      refine hK29 _ _ ?_
      refine W.region ?_
      refine WL.move (v := .int .i64 x18) h17_5 ?_
      obtain ⟨x48, ex48, hf⟩ := letE hf
      refine WL.bin (v := .int .i64 x48) rfl rfl (ib_as ex48 (ib_add _ _ _)) ?_
      refine WL.assign (v := .int .i64 x48) rfl ?_
      refine WL.nil ?_
      exact ⟨_, (Option.some.inj hf).symm, cs20, hl21, h17_1, h17_2, h17_4, rfl, (hs.mask [true, true]).pick [5, 6]⟩
  · refine W.cond_false (bool_tr rfl hc28) ?_
    refine W.exit ?_
    have hr := Option.some.inj hf; subst hr
    have hr := hbbs22 _ rfl; subst hr
    have hf := hfs22
    exact Jk14 x19 cs20 _ _ hl21 h17_1 h17_4 ((hs.mask [true]).pick [1]) hf
end Go.Proofs.Ytlbcfjblpopcnaa
