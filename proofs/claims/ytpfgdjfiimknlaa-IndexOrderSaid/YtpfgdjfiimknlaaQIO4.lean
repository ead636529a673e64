/- What the row leans on, as few texts. -/
import Derived.Test.YtpfgdjfiimknlaaQIO2
import Derived.Test.YtpfgdjfiimknlaaQIO3
import Derived.Test.YtpfgdjfiimknlaaQIO0
import Derived.Test.YtpfgdjfiimknlaaQIO1
set_option linter.unusedVariables false
set_option linter.unusedSimpArgs false
namespace Go.Proofs.Ytpfgdjfiimknlaa
open Go Go.RowKit Go.Proofs.YtpfgdjfiimknlaaL
set_option maxRecDepth 100000
set_option maxHeartbeats 4000000
theorem eslaw32_convert.calls {ok : Nat → Prop} {w0 : World} {x1 : index_Key} {v2 : Value} {r : elasticstoreref32_Key} (hf : eslaw32_convert x1 = some r) (i0 : (vl t_index_Key x1 v2).holds ok w0) :
    Calls Try.prog 7 #[v2] w0 fun e w' => ∃ v, e = .returned v ∧ ∃ y : List Value, v = .agg y.toArray ∧ St ok (bz w0) w' [vl t_elasticstoreref32_Key r (.agg y.toArray)] [] := by
  unfold eslaw32_convert at hf
  refine calls_of_W (fn := Try.f7) (N := 10) Try.func7 rfl Try.ntmps7 rfl ?_
  have hs : St ok (bz w0) w0 [vl t_index_Key x1 v2] [] := St.init (All.cons i0 All.nil)
  clear i0
  obtain ⟨cs3, hl4, rfl⟩ := hs.aggv (n := 3) 0 rfl rfl rfl
  refine W.seqK fun K5 hK5 => ?_
  refine W.region ?_
  refine WL.box (vs := cs3) hs rfl rfl (fun g6 w hs => ?_)
  refine WL.alloc hs ZV28 (fun g7 w hs => ?_)
  refine WL.nil ?_
  refine hK5 _ _ ?_
  refine W.seqK fun K8 hK8 => ?_
  refine W.region ?_
  refine WL.fieldAddr (m := 0) rfl FA23_0 rfl ?_
  refine WL.loadF (z := x1.f_Type) F_index_Key_f_Type hs 1 rfl 0 rfl rfl TI3 (.inr rfl) rfl rfl (fun v9 hs => ?_)
  obtain rfl := hs.int 0 rfl
  refine WL.fieldAddr (m := 1) rfl FA23_1 rfl ?_
  refine WL.loadF (z := x1.N) F_index_Key_N hs 1 rfl 1 rfl rfl TI2 (.inr rfl) rfl rfl (fun v10 hs => ?_)
  obtain rfl := hs.int 0 rfl
  refine WL.fieldAddr (m := 2) rfl FA23_2 rfl ?_
  refine WL.loadF (z := x1.S) F_index_Key_S hs 1 rfl 2 rfl rfl TI9 (.inr rfl) rfl rfl (fun v11 hs => ?_)
  obtain rfl := hs.str 0 rfl
  refine WL.build (vs := [(0, .int .i64 x1.f_Type), (1, .int .i64 x1.N), (2, bstr x1.S)]) (cs := [.int .i64 x1.f_Type, .int .i64 x1.N, bstr x1.S]) ⟨⟨rfl, rfl⟩, ⟨⟨rfl, rfl⟩, ⟨⟨rfl, rfl⟩, trivial⟩⟩⟩ (bld PL28 rfl) ?_
  refine WL.storeAll (vs := [.int .i64 x1.f_Type, .int .i64 x1.N, bstr x1.S]) hs 0 rfl TI28 rfl rfl rfl rfl (ones_of rfl) rfl (fun w hs => ?_)
  refine WL.nil ?_
  refine hK8 _ _ ?_
  refine W.ret ?_
  have hr := Option.some.inj hf; subst hr
  have hs := hs.add (it := vl t_elasticstoreref32_Key (⟨x1.f_Type, x1.N, x1.S⟩ : elasticstoreref32_Key) (.agg [.int .i64 x1.f_Type, .int .i64 x1.N, bstr x1.S].toArray)) fun ok hA => V_agg (show t_elasticstoreref32_Key.R ok _ _ _ from ⟨[.int .i64 x1.f_Type], [.int .i64 x1.N, bstr x1.S], rfl, rfl, ⟨[.int .i64 x1.N], [bstr x1.S], rfl, rfl, rfl⟩⟩) rfl
  exact ⟨_, resOk_one rfl (res_all hs 0 rfl TI28 rfl rfl), [.int .i64 x1.f_Type, .int .i64 x1.N, bstr x1.S], rfl, (hs.mask []).pick [0]⟩
theorem esref32_Compare.calls {ok : Nat → Prop} {w0 : World} {x1 : elasticstoreref32_Key} {x5 : elasticstoreref32_Key} {v2 : Value} {v6 : Value} {r : Int} (hf : esref32_Compare x1 x5 = some r) (i0 : (vl t_elasticstoreref32_Key x1 v2).holds ok w0) (i1 : (vl t_elasticstoreref32_Key x5 v6).holds ok w0) :
    Calls Try.prog 6 #[v2, v6] w0 fun e w' => ∃ v, e = .returned v ∧ ∃ y : Unit, v = .int .i64 r ∧ St ok (bz w0) w' [] [] := by
  unfold esref32_Compare at hf
  refine calls_of_W (fn := Try.f6) (N := 43) Try.func6 rfl Try.ntmps6 rfl ?_
  have hs : St ok (bz w0) w0 [vl t_elasticstoreref32_Key x1 v2, vl t_elasticstoreref32_Key x5 v6] [] := St.init (All.cons i0 (All.cons i1 All.nil))
  clear i0 i1
  obtain ⟨cs3, hl4, rfl⟩ := hs.aggv (n := 3) 0 rfl rfl rfl
  obtain ⟨cs7, hl8, rfl⟩ := hs.aggv (n := 3) 1 rfl rfl rfl
  refine W.seqK fun K9 hK9 => ?_
  refine W.region ?_
  refine WL.box (vs := cs3) hs rfl rfl (fun g10 w hs => ?_)
  refine WL.box (vs := cs7) hs rfl rfl (fun g11 w hs => ?_)
  refine WL.assign (v := .int .i64 0) rfl ?_
  refine WL.nil ?_
  refine hK9 _ _ ?_
  refine W.seqK fun K12 hK12 => ?_
  refine W.block ?_
  refine W.seqK fun K13 hK13 => ?_
  have Jk16 : ∀ (x15 : Bool) (ρ : Env) (w : World), ρ 2 = .pointer (some ⟨g10, 0, none⟩) → ρ 3 = .pointer (some ⟨g11, 0, none⟩) → ρ 5 = .bool x15 → St ok (bz w0) w [vl t_elasticstoreref32_Key x5 (.agg cs7.toArray), vl t_elasticstoreref32_Key x1 (.agg cs3.toArray)] [blk g11 28 cs7, blk g10 28 cs3] → esref32_Compare.j1 x1 x5 x15 = some r → K13 ρ w := by
    intro x15 ρ w h14_2 h14_3 h14_5 hs hf
    refine hK13 _ _ ?_
    unfold esref32_Compare.j1 at hf
    rcases iteE hf with ⟨hc17, hf⟩ | ⟨hc17, hf⟩
    {
    refine W.cond_true (bool_tr h14_5 hc17) ?_
    refine W.seqK fun K18 hK18 => ?_
    refine W.region ?_
    refine WL.assign (v := .int .i64 (-1)) rfl ?_
    refine WL.nil ?_
    refine hK18 _ _ ?_
    refine W.ret ?_
    have hr := Option.some.inj hf; subst hr
    exact ⟨_, resOk_one rfl rfl, (), rfl, (hs.mask []).pick []⟩ }
    {
    refine W.cond_false (bool_tr h14_5 hc17) ?_
    refine W.seqK fun K19 hK19 => ?_
    refine W.region ?_
    refine WL.loadAll hs 1 rfl TI28 h14_2 hl4 ?_
    refine WL.loadAll hs 0 rfl TI28 h14_3 hl8 ?_
    obtain rfl := open_elasticstoreref32_Key hs 1 rfl
    obtain rfl := open_elasticstoreref32_Key hs 0 rfl
    refine WL.eqA rfl rfl EG28 (EQ28 (⟨x1.f_Type, x1.N, x1.S⟩ : elasticstoreref32_Key) (⟨x5.f_Type, x5.N, x5.S⟩ : elasticstoreref32_Key)) ?_
    refine WL.assign (v := .bool (decide ((⟨x1.f_Type, x1.N, x1.S⟩ : elasticstoreref32_Key) = (⟨x5.f_Type, x5.N, x5.S⟩ : elasticstoreref32_Key)))) rfl ?_
    refine WL.nil ?_
    refine hK19 _ _ ?_
    rcases iteE hf with ⟨hc20, hf⟩ | ⟨hc20, hf⟩
    {
    refine W.cond_true (bool_tr rfl hc20) ?_
    refine W.seqK fun K21 hK21 => ?_
    refine W.region ?_
    refine WL.assign (v := .int .i64 0) rfl ?_
    refine WL.nil ?_
    refine hK21 _ _ ?_
    refine W.ret ?_
    have hr := Option.some.inj hf; subst hr
    exact ⟨_, resOk_one rfl rfl, (), rfl, (hs.mask []).pick []⟩ }
    {
    refine W.cond_false (bool_tr rfl hc20) ?_
    refine W.skip ?_
    refine hK12 _ _ ?_
    refine W.seqK fun K22 hK22 => ?_
    refine W.region ?_
    refine WL.assign (v := .int .i64 1) rfl ?_
    refine WL.nil ?_
    refine hK22 _ _ ?_
    refine W.ret ?_
    have hr := Option.some.inj hf; subst hr
    exact ⟨_, resOk_one rfl rfl, (), rfl, (hs.mask []).pick []⟩ } }
  refine W.region ?_
  refine WL.fieldAddr (m := 0) rfl FA28_0 rfl ?_
  refine WL.loadF (z := x1.f_Type) F_elasticstoreref32_Key_f_Type hs 1 rfl 0 rfl rfl TI3 (.inr rfl) rfl rfl (fun v23 hs => ?_)
  obtain rfl := hs.int 0 rfl
  refine WL.fieldAddr (m := 0) rfl FA28_0 rfl ?_
  refine WL.loadF (z := x5.f_Type) F_elasticstoreref32_Key_f_Type hs 0 rfl 2 rfl rfl TI3 (.inr rfl) rfl rfl (fun v24 hs => ?_)
  obtain rfl := hs.int 0 rfl
  refine WL.bin (v := .bool (decide (x1.f_Type < x5.f_Type))) rfl rfl (ib_lss _ _ _) ?_
  refine WL.move (v := .bool (decide (x1.f_Type < x5.f_Type))) rfl ?_
  rcases iteE hf with ⟨hc25, hf⟩ | ⟨hc25, hf⟩
  {
  refine WL.pass ((wanted_of rfl rfl (bool_tr rfl hc25)).trans rfl) rfl ?_
  refine WL.pass ((wanted_of rfl rfl (bool_tr rfl hc25)).trans rfl) rfl ?_
  refine WL.pass ((wanted_of rfl rfl (bool_tr rfl hc25)).trans rfl) rfl ?_
  refine WL.pass ((wanted_of rfl rfl (bool_tr rfl hc25)).trans rfl) rfl ?_
  refine WL.pass ((wanted_of rfl rfl (bool_tr rfl hc25)).trans rfl) rfl ?_
  refine WL.pass ((wanted_of rfl rfl (bool_tr rfl hc25)).trans rfl) rfl ?_
  refine WL.pass (wanted_undef rfl rfl rfl) rfl ?_
  refine WL.pass (wanted_undef rfl rfl rfl) rfl ?_
  refine WL.pass (wanted_undef rfl rfl rfl) rfl ?_
  refine WL.pass (wanted_undef rfl rfl rfl) rfl ?_
  refine WL.pass (wanted_undef rfl rfl rfl) rfl ?_
  refine WL.pass (wanted_undef rfl rfl rfl) rfl ?_
  refine WL.pass (wanted_undef rfl rfl rfl) rfl ?_
  refine WL.pass (wanted_undef rfl rfl rfl) rfl ?_
  refine WL.pass (wanted_undef rfl rfl rfl) rfl ?_
  refine WL.pass (wanted_undef rfl rfl rfl) rfl ?_
  refine WL.pass (wanted_undef rfl rfl rfl) rfl ?_
  refine WL.pass (wanted_undef rfl rfl rfl) rfl ?_
  refine WL.pass (wanted_undef rfl rfl rfl) rfl ?_
  refine WL.pass (wanted_undef rfl rfl rfl) rfl ?_
  refine WL.pass (wanted_undef rfl rfl rfl) rfl ?_
  refine WL.pass (wanted_undef rfl rfl rfl) rfl ?_
  refine WL.pass (wanted_undef rfl rfl rfl) rfl ?_
  refine WL.pass (wanted_undef rfl rfl rfl) rfl ?_
  refine WL.pass (wanted_undef rfl rfl rfl) rfl ?_
  refine WL.pass ((wanted_of rfl rfl (bool_tr rfl hc25)).trans rfl) rfl ?_
  refine WL.pickT (v := .bool true) (bool_tr rfl hc25) rfl ?_
  refine WL.assign (v := .bool true) rfl ?_
  refine WL.nil ?_
  exact Jk16 true _ _ rfl rfl rfl ((hs.mask [true, true]).pick [3, 2]) hf }
  {
  refine WL.fieldAddr (m := 0) rfl FA28_0 rfl ?_ (hg := (wanted_of rfl rfl (bool_tr rfl hc25)).trans rfl)
  refine WL.loadF (z := x1.f_Type) F_elasticstoreref32_Key_f_Type hs 1 rfl 2 rfl rfl TI3 (.inr rfl) rfl rfl (fun v26 hs => ?_) (hg := (wanted_of rfl rfl (bool_tr rfl hc25)).trans rfl)
  obtain rfl := hs.int 0 rfl
  refine WL.fieldAddr (m := 0) rfl FA28_0 rfl ?_ (hg := (wanted_of rfl rfl (bool_tr rfl hc25)).trans rfl)
  refine WL.loadF (z := x5.f_Type) F_elasticstoreref32_Key_f_Type hs 0 rfl 4 rfl rfl TI3 (.inr rfl) rfl rfl (fun v27 hs => ?_) (hg := (wanted_of rfl rfl (bool_tr rfl hc25)).trans rfl)
  obtain rfl := hs.int 0 rfl
  refine WL.bin (v := .bool (x1.f_Type == x5.f_Type)) rfl rfl (ib_eql _ _ _) ?_ (hg := (wanted_of rfl rfl (bool_tr rfl hc25)).trans rfl)
  refine WL.move (v := .bool (x1.f_Type == x5.f_Type)) rfl ?_ (hg := (wanted_of rfl rfl (bool_tr rfl hc25)).trans rfl)
  rcases iteE hf with ⟨hc28, hf⟩ | ⟨hc28, hf⟩
  {
  refine WL.fieldAddr (m := 1) rfl FA28_1 rfl ?_ (hg := (wanted_of rfl rfl (bool_tr rfl hc28)).trans rfl)
  refine WL.loadF (z := x1.N) F_elasticstoreref32_Key_N hs 1 rfl 4 rfl rfl TI2 (.inr rfl) rfl rfl (fun v29 hs => ?_) (hg := (wanted_of rfl rfl (bool_tr rfl hc28)).trans rfl)
  obtain rfl := hs.int 0 rfl
  refine WL.fieldAddr (m := 1) rfl FA28_1 rfl ?_ (hg := (wanted_of rfl rfl (bool_tr rfl hc28)).trans rfl)
  refine WL.loadF (z := x5.N) F_elasticstoreref32_Key_N hs 0 rfl 6 rfl rfl TI2 (.inr rfl) rfl rfl (fun v30 hs => ?_) (hg := (wanted_of rfl rfl (bool_tr rfl hc28)).trans rfl)
  obtain rfl := hs.int 0 rfl
  refine WL.bin (v := .bool (decide (x1.N < x5.N))) rfl rfl (ib_lss _ _ _) ?_ (hg := (wanted_of rfl rfl (bool_tr rfl hc28)).trans rfl)
  refine WL.move (v := .bool (decide (x1.N < x5.N))) rfl ?_ (hg := (wanted_of rfl rfl (bool_tr rfl hc28)).trans rfl)
  rcases iteE hf with ⟨hc31, hf⟩ | ⟨hc31, hf⟩
  {
  refine WL.pass ((wanted_of rfl rfl (bool_tr rfl hc31)).trans rfl) rfl ?_
  refine WL.pass ((wanted_of rfl rfl (bool_tr rfl hc31)).trans rfl) rfl ?_
  refine WL.pass ((wanted_of rfl rfl (bool_tr rfl hc31)).trans rfl) rfl ?_
  refine WL.pass ((wanted_of rfl rfl (bool_tr rfl hc31)).trans rfl) rfl ?_
  refine WL.pass ((wanted_of rfl rfl (bool_tr rfl hc31)).trans rfl) rfl ?_
  refine WL.pass ((wanted_of rfl rfl (bool_tr rfl hc31)).trans rfl) rfl ?_
  refine WL.pass (wanted_undef rfl rfl rfl) rfl ?_
  refine WL.pass (wanted_undef rfl rfl rfl) rfl ?_
  refine WL.pass (wanted_undef rfl rfl rfl) rfl ?_
  refine WL.pass (wanted_undef rfl rfl rfl) rfl ?_
  refine WL.pass (wanted_undef rfl rfl rfl) rfl ?_
  refine WL.pass ((wanted_of rfl rfl (bool_tr rfl hc31)).trans rfl) rfl ?_
  refine WL.pickT (v := .bool true) (bool_tr rfl hc31) rfl ?_ (hg := (wanted_of rfl rfl (bool_tr rfl hc28)).trans rfl)
  refine WL.pickT (v := .bool true) (bool_tr rfl hc28) rfl ?_ (hg := (wanted_of rfl rfl (bool_tr rfl hc25)).trans rfl)
  refine WL.pickF (v := .bool true) (bool_tr rfl hc25) rfl ?_
  refine WL.assign (v := .bool true) rfl ?_
  refine WL.nil ?_
  exact Jk16 true _ _ rfl rfl rfl ((hs.mask [true, true]).pick [7, 6]) hf }
  {
  refine WL.fieldAddr (m := 1) rfl FA28_1 rfl ?_ (hg := (wanted_of rfl rfl (bool_tr rfl hc31)).trans rfl)
  refine WL.loadF (z := x1.N) F_elasticstoreref32_Key_N hs 1 rfl 6 rfl rfl TI2 (.inr rfl) rfl rfl (fun v32 hs => ?_) (hg := (wanted_of rfl rfl (bool_tr rfl hc31)).trans rfl)
  obtain rfl := hs.int 0 rfl
  refine WL.fieldAddr (m := 1) rfl FA28_1 rfl ?_ (hg := (wanted_of rfl rfl (bool_tr rfl hc31)).trans rfl)
  refine WL.loadF (z := x5.N) F_elasticstoreref32_Key_N hs 0 rfl 8 rfl rfl TI2 (.inr rfl) rfl rfl (fun v33 hs => ?_) (hg := (wanted_of rfl rfl (bool_tr rfl hc31)).trans rfl)
  obtain rfl := hs.int 0 rfl
  refine WL.bin (v := .bool (x1.N == x5.N)) rfl rfl (ib_eql _ _ _) ?_ (hg := (wanted_of rfl rfl (bool_tr rfl hc31)).trans rfl)
  refine WL.move (v := .bool (x1.N == x5.N)) rfl ?_ (hg := (wanted_of rfl rfl (bool_tr rfl hc31)).trans rfl)
  rcases iteE hf with ⟨hc34, hf⟩ | ⟨hc34, hf⟩
  {
  refine WL.fieldAddr (m := 2) rfl FA28_2 rfl ?_ (hg := (wanted_of rfl rfl (bool_tr rfl hc34)).trans rfl)
  refine WL.loadF (z := x1.S) F_elasticstoreref32_Key_S hs 1 rfl 8 rfl rfl TI9 (.inr rfl) rfl rfl (fun v35 hs => ?_) (hg := (wanted_of rfl rfl (bool_tr rfl hc34)).trans rfl)
  obtain rfl := hs.str 0 rfl
  refine WL.fieldAddr (m := 2) rfl FA28_2 rfl ?_ (hg := (wanted_of rfl rfl (bool_tr rfl hc34)).trans rfl)
  refine WL.loadF (z := x5.S) F_elasticstoreref32_Key_S hs 0 rfl 10 rfl rfl TI9 (.inr rfl) rfl rfl (fun v36 hs => ?_) (hg := (wanted_of rfl rfl (bool_tr rfl hc34)).trans rfl)
  obtain rfl := hs.str 0 rfl
  refine WL.binS (v := .bool (Op.bytesLess x1.S x5.S)) rfl rfl (sb_lss _ _) ?_ (hg := (wanted_of rfl rfl (bool_tr rfl hc34)).trans rfl)
  refine WL.pickT (v := .bool (Op.bytesLess x1.S x5.S)) (bool_tr rfl hc34) rfl ?_ (hg := (wanted_of rfl rfl (bool_tr rfl hc31)).trans rfl)
  refine WL.pickF (v := .bool (Op.bytesLess x1.S x5.S)) (bool_tr rfl hc31) rfl ?_ (hg := (wanted_of rfl rfl (bool_tr rfl hc28)).trans rfl)
  refine WL.pickT (v := .bool (Op.bytesLess x1.S x5.S)) (bool_tr rfl hc28) rfl ?_ (hg := (wanted_of rfl rfl (bool_tr rfl hc25)).trans rfl)
  refine WL.pickF (v := .bool (Op.bytesLess x1.S x5.S)) (bool_tr rfl hc25) rfl ?_
  refine WL.assign (v := .bool (Op.bytesLess x1.S x5.S)) rfl ?_
  refine WL.nil ?_
  exact Jk16 (Op.bytesLess x1.S x5.S) _ _ rfl rfl rfl ((hs.mask [true, true]).pick [11, 10]) hf }
  {
  refine WL.pass ((wanted_of rfl rfl (bool_tr rfl hc34)).trans rfl) rfl ?_
  refine WL.pass ((wanted_of rfl rfl (bool_tr rfl hc34)).trans rfl) rfl ?_
  refine WL.pass ((wanted_of rfl rfl (bool_tr rfl hc34)).trans rfl) rfl ?_
  refine WL.pass ((wanted_of rfl rfl (bool_tr rfl hc34)).trans rfl) rfl ?_
  refine WL.pass ((wanted_of rfl rfl (bool_tr rfl hc34)).trans rfl) rfl ?_
  refine WL.pickF (v := .bool false) (bool_tr rfl hc34) rfl ?_ (hg := (wanted_of rfl rfl (bool_tr rfl hc31)).trans rfl)
  refine WL.pickF (v := .bool false) (bool_tr rfl hc31) rfl ?_ (hg := (wanted_of rfl rfl (bool_tr rfl hc28)).trans rfl)
  refine WL.pickT (v := .bool false) (bool_tr rfl hc28) rfl ?_ (hg := (wanted_of rfl rfl (bool_tr rfl hc25)).trans rfl)
  refine WL.pickF (v := .bool false) (bool_tr rfl hc25) rfl ?_
  refine WL.assign (v := .bool false) rfl ?_
  refine WL.nil ?_
  exact Jk16 false _ _ rfl rfl rfl ((hs.mask [true, true]).pick [9, 8]) hf } } }
  {
  refine WL.pass ((wanted_of rfl rfl (bool_tr rfl hc28)).trans rfl) rfl ?_
  refine WL.pass ((wanted_of rfl rfl (bool_tr rfl hc28)).trans rfl) rfl ?_
  refine WL.pass ((wanted_of rfl rfl (bool_tr rfl hc28)).trans rfl) rfl ?_
  refine WL.pass ((wanted_of rfl rfl (bool_tr rfl hc28)).trans rfl) rfl ?_
  refine WL.pass ((wanted_of rfl rfl (bool_tr rfl hc28)).trans rfl) rfl ?_
  refine WL.pass ((wanted_of rfl rfl (bool_tr rfl hc28)).trans rfl) rfl ?_
  refine WL.pass (wanted_undef rfl rfl rfl) rfl ?_
  refine WL.pass (wanted_undef rfl rfl rfl) rfl ?_
  refine WL.pass (wanted_undef rfl rfl rfl) rfl ?_
  refine WL.pass (wanted_undef rfl rfl rfl) rfl ?_
  refine WL.pass (wanted_undef rfl rfl rfl) rfl ?_
  refine WL.pass (wanted_undef rfl rfl rfl) rfl ?_
  refine WL.pass (wanted_undef rfl rfl rfl) rfl ?_
  refine WL.pass (wanted_undef rfl rfl rfl) rfl ?_
  refine WL.pass (wanted_undef rfl rfl rfl) rfl ?_
  refine WL.pass (wanted_undef rfl rfl rfl) rfl ?_
  refine WL.pass (wanted_undef rfl rfl rfl) rfl ?_
  refine WL.pass (wanted_undef rfl rfl rfl) rfl ?_
  refine WL.pass ((wanted_of rfl rfl (bool_tr rfl hc28)).trans rfl) rfl ?_
  refine WL.pickF (v := .bool false) (bool_tr rfl hc28) rfl ?_ (hg := (wanted_of rfl rfl (bool_tr rfl hc25)).trans rfl)
  refine WL.pickF (v := .bool false) (bool_tr rfl hc25) rfl ?_
  refine WL.assign (v := .bool false) rfl ?_
  refine WL.nil ?_
  exact Jk16 false _ _ rfl rfl rfl ((hs.mask [true, true]).pick [5, 4]) hf } }
theorem eslaw32_IndexOrder.calls {ok : Nat → Prop} {w0 : World} {x1 : index_Key} {x5 : index_Key} {x9 : index_Key} {v2 : Value} {v6 : Value} {v10 : Value} {r : Bool} (hf : eslaw32_IndexOrder x1 x5 x9 = some r) (i0 : (vl t_index_Key x1 v2).holds ok w0) (i1 : (vl t_index_Key x5 v6).holds ok w0) (i2 : (vl t_index_Key x9 v10).holds ok w0) :
    Calls Try.prog 3 #[v2, v6, v10] w0 fun e w' => ∃ v, e = .returned v ∧ ∃ y : Unit, v = .bool r ∧ St ok (bz w0) w' [] [] := by
  unfold eslaw32_IndexOrder at hf
  refine calls_of_W (fn := Try.f3) (N := 91) Try.func3 rfl Try.ntmps3 rfl ?_
  have hs : St ok (bz w0) w0 [vl t_index_Key x1 v2, vl t_index_Key x5 v6, vl t_index_Key x9 v10] [] := St.init (All.cons i0 (All.cons i1 (All.cons i2 All.nil)))
  clear i0 i1 i2
  obtain ⟨cs3, hl4, rfl⟩ := hs.aggv (n := 3) 0 rfl rfl rfl
  obtain ⟨cs7, hl8, rfl⟩ := hs.aggv (n := 3) 1 rfl rfl rfl
  obtain ⟨cs11, hl12, rfl⟩ := hs.aggv (n := 3) 2 rfl rfl rfl
  refine W.seqK fun K13 hK13 => ?_
  refine W.region ?_
  refine WL.box (vs := cs3) hs rfl rfl (fun g14 w hs => ?_)
  refine WL.box (vs := cs7) hs rfl rfl (fun g15 w hs => ?_)
  refine WL.box (vs := cs11) hs rfl rfl (fun g16 w hs => ?_)
  refine WL.assign (v := .bool false) rfl ?_
  refine WL.nil ?_
  refine hK13 _ _ ?_
  refine W.seqK fun K17 hK17 => ?_
  have Jk19 : ∀  (ρ : Env) (w : World), ρ 3 = .pointer (some ⟨g14, 0, none⟩) → ρ 4 = .pointer (some ⟨g15, 0, none⟩) → ρ 5 = .pointer (some ⟨g16, 0, none⟩) → St ok (bz w0) w [vl t_index_Key x9 (.agg cs11.toArray), vl t_index_Key x5 (.agg cs7.toArray), vl t_index_Key x1 (.agg cs3.toArray)] [blk g16 23 cs11, blk g15 23 cs7, blk g14 23 cs3] → eslaw32_IndexOrder.j2 x1 x5 x9 = some r → K17 ρ w := by
    intro  ρ w h18_3 h18_4 h18_5 hs hf
    refine hK17 _ _ ?_
    unfold eslaw32_IndexOrder.j2 at hf
    refine W.seqK fun K20 hK20 => ?_
    have Jk23 : ∀ (x22 : Bool) (ρ : Env) (w : World), ρ 6 = .bool x22 → St ok (bz w0) w [] [] → eslaw32_IndexOrder.j1 x22 = some r → K20 ρ w := by
      intro x22 ρ w h21_6 hs hf
      refine hK20 _ _ ?_
      unfold eslaw32_IndexOrder.j1 at hf
      refine W.ret ?_
      have hr := Option.some.inj hf; subst hr
      exact ⟨_, resOk_one rfl h21_6, (), rfl, (hs.mask []).pick []⟩
    refine W.region ?_
    refine WL.loadAll hs 2 rfl TI23 h18_3 hl4 ?_
    refine WL.loadAll hs 1 rfl TI23 h18_4 hl8 ?_
    obtain ⟨x24, hxx24, hf⟩ := bindE hf
    refine WL.call (vs := [.agg cs3.toArray, .agg cs7.toArray]) hs FN5 ⟨rfl, ⟨rfl, trivial⟩⟩ (fun ok hA => index_Compare.calls (x1 := x1) (x5 := x5) hxx24 (hA.get 2 rfl) (hA.get 1 rfl)) ?_
    rintro _ w hs
    refine WL.bin (v := .bool (decide (0 < x24))) rfl rfl (ib_gtr _ _ _) ?_
    refine WL.move (v := .bool (decide (0 < x24))) rfl ?_
    rcases iteE hf with ⟨hc25, hf⟩ | ⟨hc25, hf⟩
    {
    refine WL.pass ((wanted_of rfl rfl (bool_tr rfl hc25)).trans rfl) rfl ?_
    refine WL.pass ((wanted_of rfl rfl (bool_tr rfl hc25)).trans rfl) rfl ?_
    refine WL.pass ((wanted_of rfl rfl (bool_tr rfl hc25)).trans rfl) rfl ?_
    refine WL.pass ((wanted_of rfl rfl (bool_tr rfl hc25)).trans rfl) rfl ?_
    refine WL.pickT (v := .bool true) (bool_tr rfl hc25) rfl ?_
    refine WL.move (v := .bool true) rfl ?_
    refine WL.pass ((wanted_of rfl rfl rfl).trans rfl) rfl ?_
    refine WL.pass ((wanted_of rfl rfl rfl).trans rfl) rfl ?_
    refine WL.pass ((wanted_of rfl rfl rfl).trans rfl) rfl ?_
    refine WL.pass ((wanted_of rfl rfl rfl).trans rfl) rfl ?_
    refine WL.pickT (v := .bool true) rfl rfl ?_
    refine WL.move (v := .bool true) rfl ?_
    obtain ⟨x26, hxx26, hf⟩ := bindE hf
    refine WL.call (vs := []) hs FN8 trivial (fun ok hA => eslaw32_awake.calls hxx26) ?_ (hg := (wanted_of rfl rfl rfl).trans rfl)
    rintro _ w hs
    refine WL.pickT (v := .bool x26) rfl rfl ?_
    refine WL.assign (v := .bool x26) rfl ?_
    refine WL.nil ?_
    exact Jk23 x26 _ _ rfl ((hs.mask []).pick []) hf }
    {
    refine WL.loadAll hs 1 rfl TI23 h18_4 hl8 ?_ (hg := (wanted_of rfl rfl (bool_tr rfl hc25)).trans rfl)
    refine WL.loadAll hs 0 rfl TI23 h18_5 hl12 ?_ (hg := (wanted_of rfl rfl (bool_tr rfl hc25)).trans rfl)
    obtain ⟨x27, hxx27, hf⟩ := bindE hf
    refine WL.call (vs := [.agg cs7.toArray, .agg cs11.toArray]) hs FN5 ⟨rfl, ⟨rfl, trivial⟩⟩ (fun ok hA => index_Compare.calls (x1 := x5) (x5 := x9) hxx27 (hA.get 1 rfl) (hA.get 0 rfl)) ?_ (hg := (wanted_of rfl rfl (bool_tr rfl hc25)).trans rfl)
    rintro _ w hs
    refine WL.bin (v := .bool (decide (0 < x27))) rfl rfl (ib_gtr _ _ _) ?_ (hg := (wanted_of rfl rfl (bool_tr rfl hc25)).trans rfl)
    refine WL.pickF (v := .bool (decide (0 < x27))) (bool_tr rfl hc25) rfl ?_
    refine WL.move (v := .bool (decide (0 < x27))) rfl ?_
    rcases iteE hf with ⟨hc28, hf⟩ | ⟨hc28, hf⟩
    {
    refine WL.pass ((wanted_of rfl rfl (bool_tr rfl hc28)).trans rfl) rfl ?_
    refine WL.pass ((wanted_of rfl rfl (bool_tr rfl hc28)).trans rfl) rfl ?_
    refine WL.pass ((wanted_of rfl rfl (bool_tr rfl hc28)).trans rfl) rfl ?_
    refine WL.pass ((wanted_of rfl rfl (bool_tr rfl hc28)).trans rfl) rfl ?_
    refine WL.pickT (v := .bool true) (bool_tr rfl hc28) rfl ?_
    refine WL.move (v := .bool true) rfl ?_
    obtain ⟨x29, hxx29, hf⟩ := bindE hf
    refine WL.call (vs := []) hs FN8 trivial (fun ok hA => eslaw32_awake.calls hxx29) ?_ (hg := (wanted_of rfl rfl rfl).trans rfl)
    rintro _ w hs
    refine WL.pickT (v := .bool x29) rfl rfl ?_
    refine WL.assign (v := .bool x29) rfl ?_
    refine WL.nil ?_
    exact Jk23 x29 _ _ rfl ((hs.mask []).pick []) hf }
    {
    refine WL.loadAll hs 2 rfl TI23 h18_3 hl4 ?_ (hg := (wanted_of rfl rfl (bool_tr rfl hc28)).trans rfl)
    refine WL.loadAll hs 0 rfl TI23 h18_5 hl12 ?_ (hg := (wanted_of rfl rfl (bool_tr rfl hc28)).trans rfl)
    obtain ⟨x30, hxx30, hf⟩ := bindE hf
    refine WL.call (vs := [.agg cs3.toArray, .agg cs11.toArray]) hs FN5 ⟨rfl, ⟨rfl, trivial⟩⟩ (fun ok hA => index_Compare.calls (x1 := x1) (x5 := x9) hxx30 (hA.get 2 rfl) (hA.get 0 rfl)) ?_ (hg := (wanted_of rfl rfl (bool_tr rfl hc28)).trans rfl)
    rintro _ w hs
    refine WL.bin (v := .bool (decide (x30 ≤ 0))) rfl rfl (ib_leq _ _ _) ?_ (hg := (wanted_of rfl rfl (bool_tr rfl hc28)).trans rfl)
    refine WL.pickF (v := .bool (decide (x30 ≤ 0))) (bool_tr rfl hc28) rfl ?_
    refine WL.move (v := .bool (decide (x30 ≤ 0))) rfl ?_
    rcases iteE hf with ⟨hc31, hf⟩ | ⟨hc31, hf⟩
    {
    obtain ⟨x32, hxx32, hf⟩ := bindE hf
    refine WL.call (vs := []) hs FN8 trivial (fun ok hA => eslaw32_awake.calls hxx32) ?_ (hg := (wanted_of rfl rfl (bool_tr rfl hc31)).trans rfl)
    rintro _ w hs
    refine WL.pickT (v := .bool x32) (bool_tr rfl hc31) rfl ?_
    refine WL.assign (v := .bool x32) rfl ?_
    refine WL.nil ?_
    exact Jk23 x32 _ _ rfl ((hs.mask []).pick []) hf }
    {
    refine WL.pass ((wanted_of rfl rfl (bool_tr rfl hc31)).trans rfl) rfl ?_
    refine WL.pickF (v := .bool false) (bool_tr rfl hc31) rfl ?_
    refine WL.assign (v := .bool false) rfl ?_
    refine WL.nil ?_
    exact Jk23 false _ _ rfl ((hs.mask []).pick []) hf } } }
  refine W.seqK fun K33 hK33 => ?_
  refine W.region ?_
  refine WL.loadAll hs 2 rfl TI23 rfl hl4 ?_
  refine WL.loadAll hs 1 rfl TI23 rfl hl8 ?_
  refine WL.build (vs := [(0, .agg cs3.toArray), (1, .agg cs7.toArray)]) (cs := cs3 ++ cs7) ⟨⟨rfl, rfl⟩, ⟨⟨rfl, rfl⟩, trivial⟩⟩ (bldAs (places := [(0, 3), (3, 3)]) (zero := [.int .i64 0, .int .i64 0, bstr [], .int .i64 0, .int .i64 0, bstr []]) UN24 TI23 ZA24 rfl rfl (by simp [fillL, Value.cells, hl4, hl8])) ?_
  refine WL.loadAll hs 1 rfl TI23 rfl hl8 ?_
  refine WL.loadAll hs 0 rfl TI23 rfl hl12 ?_
  refine WL.build (vs := [(0, .agg cs7.toArray), (1, .agg cs11.toArray)]) (cs := cs7 ++ cs11) ⟨⟨rfl, rfl⟩, ⟨⟨rfl, rfl⟩, trivial⟩⟩ (bldAs (places := [(0, 3), (3, 3)]) (zero := [.int .i64 0, .int .i64 0, bstr [], .int .i64 0, .int .i64 0, bstr []]) UN24 TI23 ZA24 rfl rfl (by simp [fillL, Value.cells, hl8, hl12])) ?_
  refine WL.loadAll hs 2 rfl TI23 rfl hl4 ?_
  refine WL.loadAll hs 2 rfl TI23 rfl hl4 ?_
  refine WL.build (vs := [(0, .agg cs3.toArray), (1, .agg cs3.toArray)]) (cs := cs3 ++ cs3) ⟨⟨rfl, rfl⟩, ⟨⟨rfl, rfl⟩, trivial⟩⟩ (bldAs (places := [(0, 3), (3, 3)]) (zero := [.int .i64 0, .int .i64 0, bstr [], .int .i64 0, .int .i64 0, bstr []]) UN24 TI23 ZA24 rfl rfl (by simp [fillL, Value.cells, hl4, hl4])) ?_
  refine WL.fieldAddr (m := 0) rfl FA23_0 rfl ?_
  refine WL.loadF (z := x1.f_Type) F_index_Key_f_Type hs 2 rfl 0 rfl rfl TI3 (.inr rfl) rfl rfl (fun v34 hs => ?_)
  obtain rfl := hs.int 0 rfl
  refine WL.fieldAddr (m := 1) rfl FA23_1 rfl ?_
  refine WL.loadF (z := x1.N) F_index_Key_N hs 2 rfl 1 rfl rfl TI2 (.inr rfl) rfl rfl (fun v35 hs => ?_)
  obtain rfl := hs.int 0 rfl
  refine WL.fieldAddr (m := 2) rfl FA23_2 rfl ?_
  refine WL.loadF (z := x5.S) F_index_Key_S hs 1 rfl 3 rfl rfl TI9 (.inr rfl) rfl rfl (fun v36 hs => ?_)
  obtain rfl := hs.str 0 rfl
  refine WL.build (vs := [(0, .int .i64 x1.f_Type), (1, .int .i64 x1.N), (2, bstr x5.S)]) (cs := [.int .i64 x1.f_Type, .int .i64 x1.N, bstr x5.S]) ⟨⟨rfl, rfl⟩, ⟨⟨rfl, rfl⟩, ⟨⟨rfl, rfl⟩, trivial⟩⟩⟩ (bld PL23 rfl) ?_
  refine WL.loadAll hs 2 rfl TI23 rfl hl4 ?_
  refine WL.build (vs := [(0, .agg ([.int .i64 x1.f_Type, .int .i64 x1.N, bstr x5.S] : List Value).toArray), (1, .agg cs3.toArray)]) (cs := ([.int .i64 x1.f_Type, .int .i64 x1.N, bstr x5.S] : List Value) ++ cs3) ⟨⟨rfl, rfl⟩, ⟨⟨rfl, rfl⟩, trivial⟩⟩ (bldAs (places := [(0, 3), (3, 3)]) (zero := [.int .i64 0, .int .i64 0, bstr [], .int .i64 0, .int .i64 0, bstr []]) UN24 TI23 ZA24 rfl rfl (by simp [fillL, Value.cells, bstr, List.drop_append, hl4])) ?_
  refine WL.fieldAddr (m := 0) rfl FA23_0 rfl ?_
  refine WL.loadF (z := x1.f_Type) F_index_Key_f_Type hs 2 rfl 3 rfl rfl TI3 (.inr rfl) rfl rfl (fun v37 hs => ?_)
  obtain rfl := hs.int 0 rfl
  refine WL.fieldAddr (m := 1) rfl FA23_1 rfl ?_
  refine WL.loadF (z := x5.N) F_index_Key_N hs 1 rfl 5 rfl rfl TI2 (.inr rfl) rfl rfl (fun v38 hs => ?_)
  obtain rfl := hs.int 0 rfl
  refine WL.build (vs := [(0, .int .i64 x1.f_Type), (1, .int .i64 x5.N)]) (cs := [.int .i64 x1.f_Type, .int .i64 x5.N, bstr []]) ⟨⟨rfl, rfl⟩, ⟨⟨rfl, rfl⟩, trivial⟩⟩ (bld PL23 rfl) ?_
  refine WL.fieldAddr (m := 0) rfl FA23_0 rfl ?_
  refine WL.loadF (z := x1.f_Type) F_index_Key_f_Type hs 2 rfl 5 rfl rfl TI3 (.inr rfl) rfl rfl (fun v39 hs => ?_)
  obtain rfl := hs.int 0 rfl
  refine WL.fieldAddr (m := 1) rfl FA23_1 rfl ?_
  refine WL.loadF (z := x1.N) F_index_Key_N hs 2 rfl 6 rfl rfl TI2 (.inr rfl) rfl rfl (fun v40 hs => ?_)
  obtain rfl := hs.int 0 rfl
  refine WL.build (vs := [(0, .int .i64 x1.f_Type), (1, .int .i64 x1.N)]) (cs := [.int .i64 x1.f_Type, .int .i64 x1.N, bstr []]) ⟨⟨rfl, rfl⟩, ⟨⟨rfl, rfl⟩, trivial⟩⟩ (bld PL23 rfl) ?_
  refine WL.build (vs := [(0, .agg ([.int .i64 x1.f_Type, .int .i64 x5.N, bstr []] : List Value).toArray), (1, .agg ([.int .i64 x1.f_Type, .int .i64 x1.N, bstr []] : List Value).toArray)]) (cs := [.int .i64 x1.f_Type, .int .i64 x5.N, bstr [], .int .i64 x1.f_Type, .int .i64 x1.N, bstr []]) ⟨⟨rfl, rfl⟩, ⟨⟨rfl, rfl⟩, trivial⟩⟩ (bldAs (places := [(0, 3), (3, 3)]) (zero := [.int .i64 0, .int .i64 0, bstr [], .int .i64 0, .int .i64 0, bstr []]) UN24 TI23 ZA24 rfl rfl rfl) ?_
  refine WL.buildSlice (n := 5) (vs := [(0, .agg (cs3 ++ cs7 : List Value).toArray), (1, .agg (cs7 ++ cs11 : List Value).toArray), (2, .agg (cs3 ++ cs3 : List Value).toArray), (3, .agg (([.int .i64 x1.f_Type, .int .i64 x1.N, bstr x5.S] : List Value) ++ cs3 : List Value).toArray), (4, .agg ([.int .i64 x1.f_Type, .int .i64 x5.N, bstr [], .int .i64 x1.f_Type, .int .i64 x1.N, bstr []] : List Value).toArray)]) (cs := cs3 ++ cs7 ++ cs7 ++ cs11 ++ cs3 ++ cs3 ++ ([.int .i64 x1.f_Type, .int .i64 x1.N, bstr x5.S] : List Value) ++ cs3 ++ ([.int .i64 x1.f_Type, .int .i64 x5.N, bstr [], .int .i64 x1.f_Type, .int .i64 x1.N, bstr []] : List Value)) hs ⟨⟨rfl, rfl⟩, ⟨⟨rfl, rfl⟩, ⟨⟨rfl, rfl⟩, ⟨⟨rfl, rfl⟩, ⟨⟨rfl, rfl⟩, trivial⟩⟩⟩⟩⟩ (bls PS25 (by decide) (fillS_lit2 [.agg (cs3 ++ cs7 : List Value).toArray, .agg (cs7 ++ cs11 : List Value).toArray, .agg (cs3 ++ cs3 : List Value).toArray, .agg (([.int .i64 x1.f_Type, .int .i64 x1.N, bstr x5.S] : List Value) ++ cs3 : List Value).toArray, .agg ([.int .i64 x1.f_Type, .int .i64 x5.N, bstr [], .int .i64 x1.f_Type, .int .i64 x1.N, bstr []] : List Value).toArray] rfl rfl rfl (by simp [Value.cells, hl4, hl8, hl8, hl12, hl4, hl4, hl4]) (by simp [Value.cells]))) (fun g41 w hs => ?_)
  refine WL.len (v := .slice (some ⟨g41, 0, none⟩) ([(⟨x1, x5⟩ : Anon24), (⟨x5, x9⟩ : Anon24), (⟨x1, x1⟩ : Anon24), (⟨(⟨x1.f_Type, x1.N, x5.S⟩ : index_Key), x1⟩ : Anon24), (⟨(⟨x1.f_Type, x5.N, []⟩ : index_Key), (⟨x1.f_Type, x1.N, []⟩ : index_Key)⟩ : Anon24)]).length 5) rfl (len_slice UN25) ?_
  refine WL.move (v := .int .i64 0) rfl ?_
  refine WL.nil ?_
  refine hK33 _ _ ?_
  refine W.block ?_
  have hs := hs.ownLit (A := t_Anon24) (xs := [(⟨x1, x5⟩ : Anon24), (⟨x5, x9⟩ : Anon24), (⟨x1, x1⟩ : Anon24), (⟨(⟨x1.f_Type, x1.N, x5.S⟩ : index_Key), x1⟩ : Anon24), (⟨(⟨x1.f_Type, x5.N, []⟩ : index_Key), (⟨x1.f_Type, x1.N, []⟩ : index_Key)⟩ : Anon24)]) 0 rfl (fun ok hA => (Cells.cast (by simp) (Cells.app (Cells.one (T := t_Anon24) (show t_Anon24.R ok _ (⟨x1, x5⟩ : Anon24) _ from ⟨cs3, cs7, rfl, (R_agg (hA.get 7 rfl) rfl), (R_agg (hA.get 8 rfl) rfl)⟩)) (Cells.app (Cells.one (T := t_Anon24) (show t_Anon24.R ok _ (⟨x5, x9⟩ : Anon24) _ from ⟨cs7, cs11, rfl, (R_agg (hA.get 8 rfl) rfl), (R_agg (hA.get 9 rfl) rfl)⟩)) (Cells.app (Cells.one (T := t_Anon24) (show t_Anon24.R ok _ (⟨x1, x1⟩ : Anon24) _ from ⟨cs3, cs3, rfl, (R_agg (hA.get 7 rfl) rfl), (R_agg (hA.get 7 rfl) rfl)⟩)) (Cells.app (Cells.one (T := t_Anon24) (show t_Anon24.R ok _ (⟨(⟨x1.f_Type, x1.N, x5.S⟩ : index_Key), x1⟩ : Anon24) _ from ⟨[.int .i64 x1.f_Type, .int .i64 x1.N, bstr x5.S], cs3, rfl, ⟨[.int .i64 x1.f_Type], [.int .i64 x1.N, bstr x5.S], rfl, rfl, ⟨[.int .i64 x1.N], [bstr x5.S], rfl, rfl, rfl⟩⟩, (R_agg (hA.get 7 rfl) rfl)⟩)) (Cells.one (T := t_Anon24) (show t_Anon24.R ok _ (⟨(⟨x1.f_Type, x5.N, []⟩ : index_Key), (⟨x1.f_Type, x1.N, []⟩ : index_Key)⟩ : Anon24) _ from ⟨([.int .i64 x1.f_Type, .int .i64 x5.N, bstr []]), ([.int .i64 x1.f_Type, .int .i64 x1.N, bstr []]), rfl, ⟨[.int .i64 x1.f_Type], ([.int .i64 x5.N, bstr []]), rfl, rfl, ⟨[.int .i64 x5.N], ([bstr []]), rfl, rfl, rfl⟩⟩, ⟨[.int .i64 x1.f_Type], ([.int .i64 x1.N, bstr []]), rfl, rfl, ⟨[.int .i64 x1.N], ([bstr []]), rfl, rfl, rfl⟩⟩⟩)))))))) (Nat.le_of_ble_eq_true rfl)
  have hs := hs.freezeOwn 0 rfl
  obtain ⟨bs44, hbs44, hfs44⟩ := bindE hf
  refine W.loop hbs44 (fun s ρ w => match s with | x43 => ρ 3 = .pointer (some ⟨g14, 0, none⟩) ∧ ρ 4 = .pointer (some ⟨g15, 0, none⟩) ∧ ρ 5 = .pointer (some ⟨g16, 0, none⟩) ∧ ρ 38 = .slice (some ⟨g41, 0, none⟩) ([(⟨x1, x5⟩ : Anon24), (⟨x5, x9⟩ : Anon24), (⟨x1, x1⟩ : Anon24), (⟨(⟨x1.f_Type, x1.N, x5.S⟩ : index_Key), x1⟩ : Anon24), (⟨(⟨x1.f_Type, x5.N, []⟩ : index_Key), (⟨x1.f_Type, x1.N, []⟩ : index_Key)⟩ : Anon24)]).length 5 ∧ ρ 39 = .int .i64 (([(⟨x1, x5⟩ : Anon24), (⟨x5, x9⟩ : Anon24), (⟨x1, x1⟩ : Anon24), (⟨(⟨x1.f_Type, x1.N, x5.S⟩ : index_Key), x1⟩ : Anon24), (⟨(⟨x1.f_Type, x5.N, []⟩ : index_Key), (⟨x1.f_Type, x1.N, []⟩ : index_Key)⟩ : Anon24)]).length : Int) ∧ ρ 40 = .int .i64 x43 ∧ St ok (bz w0) w [vl (tSlice t_Anon24) ([(⟨x1, x5⟩ : Anon24), (⟨x5, x9⟩ : Anon24), (⟨x1, x1⟩ : Anon24), (⟨(⟨x1.f_Type, x1.N, x5.S⟩ : index_Key), x1⟩ : Anon24), (⟨(⟨x1.f_Type, x5.N, []⟩ : index_Key), (⟨x1.f_Type, x1.N, []⟩ : index_Key)⟩ : Anon24)]) (.slice (some ⟨g41, 0, none⟩) ([(⟨x1, x5⟩ : Anon24), (⟨x5, x9⟩ : Anon24), (⟨x1, x1⟩ : Anon24), (⟨(⟨x1.f_Type, x1.N, x5.S⟩ : index_Key), x1⟩ : Anon24), (⟨(⟨x1.f_Type, x5.N, []⟩ : index_Key), (⟨x1.f_Type, x1.N, []⟩ : index_Key)⟩ : Anon24)]).length 5), vl t_index_Key x9 (.agg cs11.toArray), vl t_index_Key x5 (.agg cs7.toArray), vl t_index_Key x1 (.agg cs3.toArray)] [blk g16 23 cs11, blk g15 23 cs7, blk g14 23 cs3]) ⟨rfl, rfl, rfl, rfl, rfl, rfl, (hs.mask [true, true, true]).pick [0, 10, 9, 8]⟩ ?_
  intro x43 ρ w os44 hI hf hbbs44
  obtain ⟨h42_3, h42_4, h42_5, h42_38, h42_39, h42_40, hs⟩ := hI
  unfold eslaw32_IndexOrder.l1 at hf
  refine W.seqK fun K45 hK45 => ?_
  refine W.region ?_
  refine WL.bin (v := .bool (decide (x43 < (([(⟨x1, x5⟩ : Anon24), (⟨x5, x9⟩ : Anon24), (⟨x1, x1⟩ : Anon24), (⟨(⟨x1.f_Type, x1.N, x5.S⟩ : index_Key), x1⟩ : Anon24), (⟨(⟨x1.f_Type, x5.N, []⟩ : index_Key), (⟨x1.f_Type, x1.N, []⟩ : index_Key)⟩ : Anon24)]).length : Int)))) h42_40 h42_39 (ib_lss _ _ _) ?_
  refine WL.nil ?_
  refine hK45 _ _ ?_
  refine W.seqK fun K46 hK46 => ?_
  rcases iteE hf with ⟨hc47, hf⟩ | ⟨hc47, hf⟩
  {
  refine W.cond_true (bool_tr rfl hc47) ?_
  refine W.skip ?_
  refine hK46 _ _ ?_
  refine W.seqK fun K48 hK48 => ?_
  refine W.block ?_
  refine W.seqK fun K49 hK49 => ?_
  refine W.region ?_
  obtain ⟨x50, hxx50, hf⟩ := bindE hf
  refine WL.indexAddr hs 0 rfl UN25 TI24 h42_38 h42_40 hxx50 (fun ad51 hs => ?_)
  refine WL.loadP hs 0 rfl TI24 (.inl rfl) rfl (fun v52 hs => ?_)
  obtain ⟨cs53, hl54, rfl⟩ := hs.aggv (n := 6) 0 rfl rfl rfl
  refine WL.alloc hs ZV24 (fun g55 w hs => ?_)
  refine WL.storeAll (vs := cs53) hs 0 rfl TI24 rfl rfl rfl hl54 (hs.ones 0 rfl rfl) rfl (fun w hs => ?_)
  refine WL.nil ?_
  refine hK49 _ _ ?_
  refine W.seqK fun K56 hK56 => ?_
  have Jk59 : ∀ (x58 : Bool) (ρ : Env) (w : World), ρ 3 = .pointer (some ⟨g14, 0, none⟩) → ρ 4 = .pointer (some ⟨g15, 0, none⟩) → ρ 5 = .pointer (some ⟨g16, 0, none⟩) → ρ 38 = .slice (some ⟨g41, 0, none⟩) ([(⟨x1, x5⟩ : Anon24), (⟨x5, x9⟩ : Anon24), (⟨x1, x1⟩ : Anon24), (⟨(⟨x1.f_Type, x1.N, x5.S⟩ : index_Key), x1⟩ : Anon24), (⟨(⟨x1.f_Type, x5.N, []⟩ : index_Key), (⟨x1.f_Type, x1.N, []⟩ : index_Key)⟩ : Anon24)]).length 5 → ρ 39 = .int .i64 (([(⟨x1, x5⟩ : Anon24), (⟨x5, x9⟩ : Anon24), (⟨x1, x1⟩ : Anon24), (⟨(⟨x1.f_Type, x1.N, x5.S⟩ : index_Key), x1⟩ : Anon24), (⟨(⟨x1.f_Type, x5.N, []⟩ : index_Key), (⟨x1.f_Type, x1.N, []⟩ : index_Key)⟩ : Anon24)]).length : Int) → ρ 40 = .int .i64 x43 → ρ 70 = .bool x58 → St ok (bz w0) w [vl (tSlice t_Anon24) ([(⟨x1, x5⟩ : Anon24), (⟨x5, x9⟩ : Anon24), (⟨x1, x1⟩ : Anon24), (⟨(⟨x1.f_Type, x1.N, x5.S⟩ : index_Key), x1⟩ : Anon24), (⟨(⟨x1.f_Type, x5.N, []⟩ : index_Key), (⟨x1.f_Type, x1.N, []⟩ : index_Key)⟩ : Anon24)]) (.slice (some ⟨g41, 0, none⟩) ([(⟨x1, x5⟩ : Anon24), (⟨x5, x9⟩ : Anon24), (⟨x1, x1⟩ : Anon24), (⟨(⟨x1.f_Type, x1.N, x5.S⟩ : index_Key), x1⟩ : Anon24), (⟨(⟨x1.f_Type, x5.N, []⟩ : index_Key), (⟨x1.f_Type, x1.N, []⟩ : index_Key)⟩ : Anon24)]).length 5), vl t_index_Key x9 (.agg cs11.toArray), vl t_index_Key x5 (.agg cs7.toArray), vl t_index_Key x1 (.agg cs3.toArray)] [blk g16 23 cs11, blk g15 23 cs7, blk g14 23 cs3] → eslaw32_IndexOrder.j3 x43 x58 = some os44 → K56 ρ w := by
    intro x58 ρ w h57_3 h57_4 h57_5 h57_38 h57_39 h57_40 h57_70 hs hf
    refine hK56 _ _ ?_
    unfold eslaw32_IndexOrder.j3 at hf
    rcases iteE hf with ⟨hc60, hf⟩ | ⟨hc60, hf⟩
    {
    refine W.cond_true (bool_tr h57_70 hc60) ?_
    refine W.seqK fun K61 hK61 => ?_
    refine W.region ?_
    refine WL.assign (v := .bool false) rfl ?_
    refine WL.nil ?_
    refine hK61 _ _ ?_
    refine W.ret ?_
    have hr := Option.some.inj hf; subst hr
    have hr := hbbs44 _ rfl; subst hr
    have hf := hfs44
    have hr := Option.some.inj hf; subst hr
    exact ⟨_, resOk_one rfl rfl, (), rfl, (hs.mask []).pick []⟩ }
    {
    refine W.cond_false (bool_tr h57_70 hc60) ?_
    refine W.skip ?_
    refine hK48 _ _ ?_
    refine W.region ?_
    obtain ⟨x62, ex62, hf⟩ := letE hf
    refine WL.bin (v := .int .i64 x62) h57_40 rfl (ib_as ex62 (ib_add _ _ _)) ?_
    refine WL.move (v := .int .i64 x62) rfl ?_
    refine WL.nil ?_
    exact ⟨_, (Option.some.inj hf).symm, h57_3, h57_4, h57_5, h57_38, h57_39, rfl, (hs.mask [true, true, true]).pick [0, 1, 2, 3]⟩ }
  obtain ⟨x69, hxx69, hf⟩ := bindE hf
  obtain ⟨x73, hxx73, hf⟩ := bindE hf
  obtain ⟨x79, hxx79, hf⟩ := bindE hf
  obtain ⟨x82, hxx82, hf⟩ := bindE hf
  rcases iteE hf with ⟨hc83, hf⟩ | ⟨hc83, hf⟩
  {
  refine W.any (by kernel_rfl) 27 0 [true, true, true, true, true, true, true, true, true, true, true, true, true, true, true, true, true, true, true, true, true, true, true, true, true, true, true] rfl rfl (poAt [pv (.pointer (some ⟨g55, 0, none⟩)), pq (fun y : List Value => .agg y.toArray) (fun v => [vl t_index_Key x50.E0 v]) (fun v => []), pv (.pointer (some ⟨g55, 3, none⟩)), pq (fun y : List Value => .agg y.toArray) (fun v => [vl t_index_Key x50.E1 v]) (fun v => []), pv (.int .i64 x69), pv (.pointer (some ⟨g55, 0, none⟩)), pq (fun y : List Value => .agg y.toArray) (fun v => [vl t_index_Key x50.E0 v]) (fun v => []), pq (fun y : List Value => .agg y.toArray) (fun v => [vl t_elasticstoreref32_Key x73 v]) (fun v => []), pv (.pointer (some ⟨g55, 3, none⟩)), pq (fun y : List Value => .agg y.toArray) (fun v => [vl t_index_Key x50.E1 v]) (fun v => []), pq (fun y : List Value => .agg y.toArray) (fun v => [vl t_elasticstoreref32_Key x79 v]) (fun v => []), pv (.int .i64 x82), pv (.bool (x69 != x82)), pv (.bool (x69 != x82)), pv (undef), pv (undef), pv (undef), pv (undef), pv (undef), pv (undef), pv (undef), pv (undef), pv (undef), pv (undef), pv (undef), pv (undef), pv (.bool true)]) (Λ := [blk g55 24 cs53, blk g16 23 cs11, blk g15 23 cs7, blk g14 23 cs3]) hs (by kernel_rfl) (by kernel_rfl) (by kernel_rfl) ⟨⟨⟨⟨⟨⟨⟨⟨⟨⟨⟨⟨⟨⟨⟨⟨⟨⟨⟨⟨⟨⟨⟨⟨⟨⟨⟨trivial, ?_⟩, ?_⟩, ?_⟩, ?_⟩, ?_⟩, ?_⟩, ?_⟩, ?_⟩, ?_⟩, ?_⟩, ?_⟩, ?_⟩, ?_⟩, ?_⟩, ?_⟩, ?_⟩, ?_⟩, ?_⟩, ?_⟩, ?_⟩, ?_⟩, ?_⟩, ?_⟩, ?_⟩, ?_⟩, ?_⟩, ?_⟩ ?_
  {
  intro ρ w Γx Λx hs hu hp
  refine WL.indexAddrA (m := 0) (hu 8 rfl) rfl UN24 TI23 (by decide) rfl ?_
  exact WL.nil ⟨rfl, _, rfl, rfl, hs.cutG 0 0⟩ }
  {
  intro ρ w Γx Λx hs hu hp
  have e84 : ρ 44 = .pointer (some ⟨g55, 0, none⟩) := (hp 0 rfl).1
  refine WL.loadF (z := x50.E0) F_Anon24_E0 hs (Λx.length + 0) (getApp rfl) (Γx.length + 0) (getApp rfl) rfl TI23 (.inl rfl) e84 rfl (fun v63 hs => ?_)
  obtain ⟨cs64, hl65, rfl⟩ := hs.aggv (n := 3) 0 rfl rfl rfl
  have hs := hs.add (it := vl t_index_Key x50.E0 (.agg cs64.toArray)) fun ok hA => hA.get 0 rfl
  exact WL.nil ⟨rfl, _, rfl, ⟨cs64, rfl⟩, hs.cutG 1 1⟩ }
  {
  intro ρ w Γx Λx hs hu hp
  refine WL.indexAddrA (m := 3) (hu 8 rfl) rfl UN24 TI23 (by decide) rfl ?_
  exact WL.nil ⟨rfl, _, rfl, rfl, hs.cutG 0 0⟩ }
  {
  intro ρ w Γx Λx hs hu hp
  have e85 : ρ 46 = .pointer (some ⟨g55, 3, none⟩) := (hp 2 rfl).1
  refine WL.loadF (z := x50.E1) F_Anon24_E1 hs (Λx.length + 0) (getApp rfl) (Γx.length + 0) (getApp rfl) rfl TI23 (.inl rfl) e85 rfl (fun v66 hs => ?_)
  obtain ⟨cs67, hl68, rfl⟩ := hs.aggv (n := 3) 0 rfl rfl rfl
  have hs := hs.add (it := vl t_index_Key x50.E1 (.agg cs67.toArray)) fun ok hA => hA.get 0 rfl
  exact WL.nil ⟨rfl, _, rfl, ⟨cs67, rfl⟩, hs.cutG 1 1⟩ }
  {
  intro ρ w Γx Λx hs hu hp
  obtain ⟨⟨cs86, e88r⟩, hm89⟩ := hp 1 rfl
  have e88 : ρ 45 = .agg cs86.toArray := e88r
  rw [e88r] at hm89
  have hs := hs.memo1 (it := vl t_index_Key x50.E0 (.agg cs86.toArray)) (List.mem_append.2 (.inl (hm89 _ (List.mem_of_getElem? (i := 0) rfl))))
  have hl87 := hs.agglen (n := 3) 0 rfl rfl rfl
  obtain ⟨⟨cs90, e92r⟩, hm93⟩ := hp 3 rfl
  have e92 : ρ 47 = .agg cs90.toArray := e92r
  rw [e92r] at hm93
  have hs := hs.memo1 (it := vl t_index_Key x50.E1 (.agg cs90.toArray)) (List.mem_cons_of_mem _ (List.mem_append.2 (.inl (hm93 _ (List.mem_of_getElem? (i := 0) rfl)))))
  have hl91 := hs.agglen (n := 3) 0 rfl rfl rfl
  refine WL.call (vs := [.agg cs86.toArray, .agg cs90.toArray]) hs FN5 ⟨e88, ⟨e92, trivial⟩⟩ (fun ok hA => index_Compare.calls (x1 := x50.E0) (x5 := x50.E1) hxx69 (hA.get 1 rfl) (hA.get 0 rfl)) ?_
  rintro _ w hs
  exact WL.nil ⟨rfl, _, rfl, rfl, hs.cutG 0 2⟩ }
  {
  intro ρ w Γx Λx hs hu hp
  refine WL.indexAddrA (m := 0) (hu 8 rfl) rfl UN24 TI23 (by decide) rfl ?_
  exact WL.nil ⟨rfl, _, rfl, rfl, hs.cutG 0 0⟩ }
  {
  intro ρ w Γx Λx hs hu hp
  have e94 : ρ 49 = .pointer (some ⟨g55, 0, none⟩) := (hp 5 rfl).1
  refine WL.loadF (z := x50.E0) F_Anon24_E0 hs (Λx.length + 0) (getApp rfl) (Γx.length + 0) (getApp rfl) rfl TI23 (.inl rfl) e94 rfl (fun v70 hs => ?_)
  obtain ⟨cs71, hl72, rfl⟩ := hs.aggv (n := 3) 0 rfl rfl rfl
  have hs := hs.add (it := vl t_index_Key x50.E0 (.agg cs71.toArray)) fun ok hA => hA.get 0 rfl
  exact WL.nil ⟨rfl, _, rfl, ⟨cs71, rfl⟩, hs.cutG 1 1⟩ }
  {
  intro ρ w Γx Λx hs hu hp
  obtain ⟨⟨cs95, e97r⟩, hm98⟩ := hp 6 rfl
  have e97 : ρ 50 = .agg cs95.toArray := e97r
  rw [e97r] at hm98
  have hs := hs.memo1 (it := vl t_index_Key x50.E0 (.agg cs95.toArray)) (List.mem_append.2 (.inl (hm98 _ (List.mem_of_getElem? (i := 0) rfl))))
  have hl96 := hs.agglen (n := 3) 0 rfl rfl rfl
  refine WL.call (vs := [.agg cs95.toArray]) hs FN7 ⟨e97, trivial⟩ (fun ok hA => eslaw32_convert.calls (x1 := x50.E0) hxx73 (hA.get 0 rfl)) ?_
  rintro cs74 w hs
  have hl75 := hs.agglen (n := 3) 0 rfl rfl rfl
  have hs := hs.add (it := vl t_elasticstoreref32_Key x73 (.agg cs74.toArray)) fun ok hA => hA.get 0 rfl
  exact WL.nil ⟨rfl, _, rfl, ⟨cs74, rfl⟩, hs.cutG 1 2⟩ }
  {
  intro ρ w Γx Λx hs hu hp
  refine WL.indexAddrA (m := 3) (hu 8 rfl) rfl UN24 TI23 (by decide) rfl ?_
  exact WL.nil ⟨rfl, _, rfl, rfl, hs.cutG 0 0⟩ }
  {
  intro ρ w Γx Λx hs hu hp
  have e99 : ρ 52 = .pointer (some ⟨g55, 3, none⟩) := (hp 8 rfl).1
  refine WL.loadF (z := x50.E1) F_Anon24_E1 hs (Λx.length + 0) (getApp rfl) (Γx.length + 0) (getApp rfl) rfl TI23 (.inl rfl) e99 rfl (fun v76 hs => ?_)
  obtain ⟨cs77, hl78, rfl⟩ := hs.aggv (n := 3) 0 rfl rfl rfl
  have hs := hs.add (it := vl t_index_Key x50.E1 (.agg cs77.toArray)) fun ok hA => hA.get 0 rfl
  exact WL.nil ⟨rfl, _, rfl, ⟨cs77, rfl⟩, hs.cutG 1 1⟩ }
  {
  intro ρ w Γx Λx hs hu hp
  obtain ⟨⟨cs100, e102r⟩, hm103⟩ := hp 9 rfl
  have e102 : ρ 53 = .agg cs100.toArray := e102r
  rw [e102r] at hm103
  have hs := hs.memo1 (it := vl t_index_Key x50.E1 (.agg cs100.toArray)) (List.mem_append.2 (.inl (hm103 _ (List.mem_of_getElem? (i := 0) rfl))))
  have hl101 := hs.agglen (n := 3) 0 rfl rfl rfl
  refine WL.call (vs := [.agg cs100.toArray]) hs FN7 ⟨e102, trivial⟩ (fun ok hA => eslaw32_convert.calls (x1 := x50.E1) hxx79 (hA.get 0 rfl)) ?_
  rintro cs80 w hs
  have hl81 := hs.agglen (n := 3) 0 rfl rfl rfl
  have hs := hs.add (it := vl t_elasticstoreref32_Key x79 (.agg cs80.toArray)) fun ok hA => hA.get 0 rfl
  exact WL.nil ⟨rfl, _, rfl, ⟨cs80, rfl⟩, hs.cutG 1 2⟩ }
  {
  intro ρ w Γx Λx hs hu hp
  obtain ⟨⟨cs104, e106r⟩, hm107⟩ := hp 7 rfl
  have e106 : ρ 51 = .agg cs104.toArray := e106r
  rw [e106r] at hm107
  have hs := hs.memo1 (it := vl t_elasticstoreref32_Key x73 (.agg cs104.toArray)) (List.mem_append.2 (.inl (hm107 _ (List.mem_of_getElem? (i := 0) rfl))))
  have hl105 := hs.agglen (n := 3) 0 rfl rfl rfl
  obtain ⟨⟨cs108, e110r⟩, hm111⟩ := hp 10 rfl
  have e110 : ρ 54 = .agg cs108.toArray := e110r
  rw [e110r] at hm111
  have hs := hs.memo1 (it := vl t_elasticstoreref32_Key x79 (.agg cs108.toArray)) (List.mem_cons_of_mem _ (List.mem_append.2 (.inl (hm111 _ (List.mem_of_getElem? (i := 0) rfl)))))
  have hl109 := hs.agglen (n := 3) 0 rfl rfl rfl
  refine WL.call (vs := [.agg cs104.toArray, .agg cs108.toArray]) hs FN6 ⟨e106, ⟨e110, trivial⟩⟩ (fun ok hA => esref32_Compare.calls (x1 := x73) (x5 := x79) hxx82 (hA.get 1 rfl) (hA.get 0 rfl)) ?_
  rintro _ w hs
  exact WL.nil ⟨rfl, _, rfl, rfl, hs.cutG 0 2⟩ }
  {
  intro ρ w Γx Λx hs hu hp
  have e112 : ρ 48 = .int .i64 x69 := (hp 4 rfl).1
  have e113 : ρ 55 = .int .i64 x82 := (hp 11 rfl).1
  refine WL.bin (v := .bool (x69 != x82)) e112 e113 (ib_neq _ _ _) ?_
  exact WL.nil ⟨rfl, _, rfl, rfl, hs.cutG 0 0⟩ }
  {
  intro ρ w Γx Λx hs hu hp
  have e114 : ρ 56 = .bool (x69 != x82) := (hp 12 rfl).1
  refine WL.move (v := .bool (x69 != x82)) e114 ?_
  exact WL.nil ⟨rfl, _, rfl, rfl, hs.cutG 0 0⟩ }
  {
  intro ρ w Γx Λx hs hu hp
  have e115 : ρ 57 = .bool (x69 != x82) := (hp 13 rfl).1
  refine WL.pass ((wanted_of rfl rfl (bool_tr e115 hc83)).trans rfl) rfl ?_
  exact WL.nil ⟨rfl, _, rfl, rfl, hs.cutG 0 0⟩ }
  {
  intro ρ w Γx Λx hs hu hp
  have e116 : ρ 58 = undef := (hp 14 rfl).1
  have e117 : ρ 57 = .bool (x69 != x82) := (hp 13 rfl).1
  refine WL.pass ((wanted_of rfl rfl (bool_tr e117 hc83)).trans rfl) rfl ?_
  exact WL.nil ⟨rfl, _, rfl, rfl, hs.cutG 0 0⟩ }
  {
  intro ρ w Γx Λx hs hu hp
  have e118 : ρ 57 = .bool (x69 != x82) := (hp 13 rfl).1
  refine WL.pass ((wanted_of rfl rfl (bool_tr e118 hc83)).trans rfl) rfl ?_
  exact WL.nil ⟨rfl, _, rfl, rfl, hs.cutG 0 0⟩ }
  {
  intro ρ w Γx Λx hs hu hp
  have e119 : ρ 60 = undef := (hp 16 rfl).1
  have e120 : ρ 57 = .bool (x69 != x82) := (hp 13 rfl).1
  refine WL.pass ((wanted_of rfl rfl (bool_tr e120 hc83)).trans rfl) rfl ?_
  exact WL.nil ⟨rfl, _, rfl, rfl, hs.cutG 0 0⟩ }
  {
  intro ρ w Γx Λx hs hu hp
  have e121 : ρ 59 = undef := (hp 15 rfl).1
  have e122 : ρ 61 = undef := (hp 17 rfl).1
  have e123 : ρ 57 = .bool (x69 != x82) := (hp 13 rfl).1
  refine WL.pass ((wanted_of rfl rfl (bool_tr e123 hc83)).trans rfl) rfl ?_
  exact WL.nil ⟨rfl, _, rfl, rfl, hs.cutG 0 0⟩ }
  {
  intro ρ w Γx Λx hs hu hp
  have e124 : ρ 57 = .bool (x69 != x82) := (hp 13 rfl).1
  refine WL.pass ((wanted_of rfl rfl (bool_tr e124 hc83)).trans rfl) rfl ?_
  exact WL.nil ⟨rfl, _, rfl, rfl, hs.cutG 0 0⟩ }
  {
  intro ρ w Γx Λx hs hu hp
  have e125 : ρ 63 = undef := (hp 19 rfl).1
  have e126 : ρ 57 = .bool (x69 != x82) := (hp 13 rfl).1
  refine WL.pass ((wanted_of rfl rfl (bool_tr e126 hc83)).trans rfl) rfl ?_
  exact WL.nil ⟨rfl, _, rfl, rfl, hs.cutG 0 0⟩ }
  {
  intro ρ w Γx Λx hs hu hp
  have e127 : ρ 57 = .bool (x69 != x82) := (hp 13 rfl).1
  refine WL.pass ((wanted_of rfl rfl (bool_tr e127 hc83)).trans rfl) rfl ?_
  exact WL.nil ⟨rfl, _, rfl, rfl, hs.cutG 0 0⟩ }
  {
  intro ρ w Γx Λx hs hu hp
  have e128 : ρ 65 = undef := (hp 21 rfl).1
  have e129 : ρ 57 = .bool (x69 != x82) := (hp 13 rfl).1
  refine WL.pass ((wanted_of rfl rfl (bool_tr e129 hc83)).trans rfl) rfl ?_
  exact WL.nil ⟨rfl, _, rfl, rfl, hs.cutG 0 0⟩ }
  {
  intro ρ w Γx Λx hs hu hp
  have e130 : ρ 64 = undef := (hp 20 rfl).1
  have e131 : ρ 66 = undef := (hp 22 rfl).1
  have e132 : ρ 57 = .bool (x69 != x82) := (hp 13 rfl).1
  refine WL.pass ((wanted_of rfl rfl (bool_tr e132 hc83)).trans rfl) rfl ?_
  exact WL.nil ⟨rfl, _, rfl, rfl, hs.cutG 0 0⟩ }
  {
  intro ρ w Γx Λx hs hu hp
  have e133 : ρ 67 = undef := (hp 23 rfl).1
  have e134 : ρ 57 = .bool (x69 != x82) := (hp 13 rfl).1
  refine WL.pass ((wanted_of rfl rfl (bool_tr e134 hc83)).trans rfl) rfl ?_
  exact WL.nil ⟨rfl, _, rfl, rfl, hs.cutG 0 0⟩ }
  {
  intro ρ w Γx Λx hs hu hp
  have e135 : ρ 62 = undef := (hp 18 rfl).1
  have e136 : ρ 68 = undef := (hp 24 rfl).1
  have e137 : ρ 57 = .bool (x69 != x82) := (hp 13 rfl).1
  refine WL.pass ((wanted_of rfl rfl (bool_tr e137 hc83)).trans rfl) rfl ?_
  exact WL.nil ⟨rfl, _, rfl, rfl, hs.cutG 0 0⟩ }
  {
  intro ρ w Γx Λx hs hu hp
  have e138 : ρ 57 = .bool (x69 != x82) := (hp 13 rfl).1
  have e139 : ρ 69 = undef := (hp 25 rfl).1
  refine WL.pickT (v := .bool true) (bool_tr e138 hc83) rfl ?_
  exact WL.nil ⟨rfl, _, rfl, rfl, hs.cutG 0 0⟩ }
  {
  intro ρ w hs hu140 hp
  obtain ⟨⟨⟨⟨⟨⟨⟨⟨⟨⟨⟨⟨⟨⟨⟨⟨⟨⟨⟨⟨⟨⟨⟨⟨⟨⟨⟨_, hp0_⟩, hp1_⟩, hp2_⟩, hp3_⟩, hp4_⟩, hp5_⟩, hp6_⟩, hp7_⟩, hp8_⟩, hp9_⟩, hp10_⟩, hp11_⟩, hp12_⟩, hp13_⟩, hp14_⟩, hp15_⟩, hp16_⟩, hp17_⟩, hp18_⟩, hp19_⟩, hp20_⟩, hp21_⟩, hp22_⟩, hp23_⟩, hp24_⟩, hp25_⟩, hp26_⟩ := hp
  have hs : St ok (bz w0) w [vl t_elasticstoreref32_Key x79 (ρ 54), vl t_index_Key x50.E1 (ρ 53), vl t_elasticstoreref32_Key x73 (ρ 51), vl t_index_Key x50.E0 (ρ 50), vl t_index_Key x50.E1 (ρ 47), vl t_index_Key x50.E0 (ρ 45), vl t_Anon24 x50 (.agg cs53.toArray), pl t_Anon24 x50 ad51, vl (tSlice t_Anon24) ([(⟨x1, x5⟩ : Anon24), (⟨x5, x9⟩ : Anon24), (⟨x1, x1⟩ : Anon24), (⟨(⟨x1.f_Type, x1.N, x5.S⟩ : index_Key), x1⟩ : Anon24), (⟨(⟨x1.f_Type, x5.N, []⟩ : index_Key), (⟨x1.f_Type, x1.N, []⟩ : index_Key)⟩ : Anon24)]) (.slice (some ⟨g41, 0, none⟩) ([(⟨x1, x5⟩ : Anon24), (⟨x5, x9⟩ : Anon24), (⟨x1, x1⟩ : Anon24), (⟨(⟨x1.f_Type, x1.N, x5.S⟩ : index_Key), x1⟩ : Anon24), (⟨(⟨x1.f_Type, x5.N, []⟩ : index_Key), (⟨x1.f_Type, x1.N, []⟩ : index_Key)⟩ : Anon24)]).length 5), vl t_index_Key x9 (.agg cs11.toArray), vl t_index_Key x5 (.agg cs7.toArray), vl t_index_Key x1 (.agg cs3.toArray)] [blk g55 24 cs53, blk g16 23 cs11, blk g15 23 cs7, blk g14 23 cs3] := hs
  have e141 : ρ 70 = .bool true := hp26_
  have e142 : ρ 69 = undef := hp25_
  have e143 : ρ 68 = undef := hp24_
  have e144 : ρ 67 = undef := hp23_
  have e145 : ρ 66 = undef := hp22_
  have e146 : ρ 65 = undef := hp21_
  have e147 : ρ 64 = undef := hp20_
  have e148 : ρ 63 = undef := hp19_
  have e149 : ρ 62 = undef := hp18_
  have e150 : ρ 61 = undef := hp17_
  have e151 : ρ 60 = undef := hp16_
  have e152 : ρ 59 = undef := hp15_
  have e153 : ρ 58 = undef := hp14_
  have e154 : ρ 57 = .bool (x69 != x82) := hp13_
  have e155 : ρ 56 = .bool (x69 != x82) := hp12_
  have e156 : ρ 55 = .int .i64 x82 := hp11_
  obtain ⟨cs157, e159⟩ := hp10_
  have e159 : ρ 54 = .agg cs157.toArray := e159
  try rw [e159] at hs
  obtain ⟨cs160, e162⟩ := hp9_
  have e162 : ρ 53 = .agg cs160.toArray := e162
  try rw [e162] at hs
  have e163 : ρ 52 = .pointer (some ⟨g55, 3, none⟩) := hp8_
  obtain ⟨cs164, e166⟩ := hp7_
  have e166 : ρ 51 = .agg cs164.toArray := e166
  try rw [e166] at hs
  obtain ⟨cs167, e169⟩ := hp6_
  have e169 : ρ 50 = .agg cs167.toArray := e169
  try rw [e169] at hs
  have e170 : ρ 49 = .pointer (some ⟨g55, 0, none⟩) := hp5_
  have e171 : ρ 48 = .int .i64 x69 := hp4_
  obtain ⟨cs172, e174⟩ := hp3_
  have e174 : ρ 47 = .agg cs172.toArray := e174
  try rw [e174] at hs
  have e175 : ρ 46 = .pointer (some ⟨g55, 3, none⟩) := hp2_
  obtain ⟨cs176, e178⟩ := hp1_
  have e178 : ρ 45 = .agg cs176.toArray := e178
  try rw [e178] at hs
  have e179 : ρ 44 = .pointer (some ⟨g55, 0, none⟩) := hp0_
  have hl177 := hs.agglen (n := 3) 5 rfl rfl rfl
  have hl173 := hs.agglen (n := 3) 4 rfl rfl rfl
  have hl168 := hs.agglen (n := 3) 3 rfl rfl rfl
  have hl165 := hs.agglen (n := 3) 2 rfl rfl rfl
  have hl161 := hs.agglen (n := 3) 1 rfl rfl rfl
  have hl158 := hs.agglen (n := 3) 0 rfl rfl rfl
  refine WA.done (by kernel_rfl) ?_
  exact Jk59 true _ _ ((hu140 3 rfl).trans h42_3) ((hu140 4 rfl).trans h42_4) ((hu140 5 rfl).trans h42_5) ((hu140 38 rfl).trans h42_38) ((hu140 39 rfl).trans h42_39) ((hu140 40 rfl).trans h42_40) e141 ((hs.mask [false, true, true, true]).pick [8, 9, 10, 11]) hf } }
  {
  obtain ⟨x186, hxx186, hf⟩ := bindE hf
  obtain ⟨x193, hxx193, hf⟩ := bindE hf
  refine W.any (by kernel_rfl) 27 0 [true, true, true, true, true, true, true, true, true, true, true, true, true, true, true, true, true, true, true, true, true, true, true, true, true, true, true] rfl rfl (poAt [pv (.pointer (some ⟨g55, 0, none⟩)), pq (fun y : List Value => .agg y.toArray) (fun v => [vl t_index_Key x50.E0 v]) (fun v => []), pv (.pointer (some ⟨g55, 3, none⟩)), pq (fun y : List Value => .agg y.toArray) (fun v => [vl t_index_Key x50.E1 v]) (fun v => []), pv (.int .i64 x69), pv (.pointer (some ⟨g55, 0, none⟩)), pq (fun y : List Value => .agg y.toArray) (fun v => [vl t_index_Key x50.E0 v]) (fun v => []), pq (fun y : List Value => .agg y.toArray) (fun v => [vl t_elasticstoreref32_Key x73 v]) (fun v => []), pv (.pointer (some ⟨g55, 3, none⟩)), pq (fun y : List Value => .agg y.toArray) (fun v => [vl t_index_Key x50.E1 v]) (fun v => []), pq (fun y : List Value => .agg y.toArray) (fun v => [vl t_elasticstoreref32_Key x79 v]) (fun v => []), pv (.int .i64 x82), pv (.bool (x69 != x82)), pv (.bool (x69 != x82)), pv (.pointer (some ⟨g55, 0, none⟩)), pq (fun y : List Value => .agg y.toArray) (fun v => [vl t_index_Key x50.E0 v]) (fun v => []), pv (.pointer (some ⟨g55, 3, none⟩)), pq (fun y : List Value => .agg y.toArray) (fun v => [vl t_index_Key x50.E1 v]) (fun v => []), pv (.int .i64 x186), pv (.pointer (some ⟨g55, 3, none⟩)), pq (fun y : List Value => .agg y.toArray) (fun v => [vl t_index_Key x50.E1 v]) (fun v => []), pv (.pointer (some ⟨g55, 0, none⟩)), pq (fun y : List Value => .agg y.toArray) (fun v => [vl t_index_Key x50.E0 v]) (fun v => []), pv (.int .i64 x193), pv (.int .i64 (IntKind.i64.wrap (0 - x193))), pv (.bool (x186 != (IntKind.i64.wrap (0 - x193)))), pv (.bool (x186 != (IntKind.i64.wrap (0 - x193))))]) (Λ := [blk g55 24 cs53, blk g16 23 cs11, blk g15 23 cs7, blk g14 23 cs3]) hs (by kernel_rfl) (by kernel_rfl) (by kernel_rfl) ⟨⟨⟨⟨⟨⟨⟨⟨⟨⟨⟨⟨⟨⟨⟨⟨⟨⟨⟨⟨⟨⟨⟨⟨⟨⟨⟨trivial, ?_⟩, ?_⟩, ?_⟩, ?_⟩, ?_⟩, ?_⟩, ?_⟩, ?_⟩, ?_⟩, ?_⟩, ?_⟩, ?_⟩, ?_⟩, ?_⟩, ?_⟩, ?_⟩, ?_⟩, ?_⟩, ?_⟩, ?_⟩, ?_⟩, ?_⟩, ?_⟩, ?_⟩, ?_⟩, ?_⟩, ?_⟩ ?_
  {
  intro ρ w Γx Λx hs hu hp
  refine WL.indexAddrA (m := 0) (hu 8 rfl) rfl UN24 TI23 (by decide) rfl ?_
  exact WL.nil ⟨rfl, _, rfl, rfl, hs.cutG 0 0⟩ }
  {
  intro ρ w Γx Λx hs hu hp
  have e194 : ρ 44 = .pointer (some ⟨g55, 0, none⟩) := (hp 0 rfl).1
  refine WL.loadF (z := x50.E0) F_Anon24_E0 hs (Λx.length + 0) (getApp rfl) (Γx.length + 0) (getApp rfl) rfl TI23 (.inl rfl) e194 rfl (fun v63 hs => ?_)
  obtain ⟨cs64, hl65, rfl⟩ := hs.aggv (n := 3) 0 rfl rfl rfl
  have hs := hs.add (it := vl t_index_Key x50.E0 (.agg cs64.toArray)) fun ok hA => hA.get 0 rfl
  exact WL.nil ⟨rfl, _, rfl, ⟨cs64, rfl⟩, hs.cutG 1 1⟩ }
  {
  intro ρ w Γx Λx hs hu hp
  refine WL.indexAddrA (m := 3) (hu 8 rfl) rfl UN24 TI23 (by decide) rfl ?_
  exact WL.nil ⟨rfl, _, rfl, rfl, hs.cutG 0 0⟩ }
  {
  intro ρ w Γx Λx hs hu hp
  have e195 : ρ 46 = .pointer (some ⟨g55, 3, none⟩) := (hp 2 rfl).1
  refine WL.loadF (z := x50.E1) F_Anon24_E1 hs (Λx.length + 0) (getApp rfl) (Γx.length + 0) (getApp rfl) rfl TI23 (.inl rfl) e195 rfl (fun v66 hs => ?_)
  obtain ⟨cs67, hl68, rfl⟩ := hs.aggv (n := 3) 0 rfl rfl rfl
  have hs := hs.add (it := vl t_index_Key x50.E1 (.agg cs67.toArray)) fun ok hA => hA.get 0 rfl
  exact WL.nil ⟨rfl, _, rfl, ⟨cs67, rfl⟩, hs.cutG 1 1⟩ }
  {
  intro ρ w Γx Λx hs hu hp
  obtain ⟨⟨cs196, e198r⟩, hm199⟩ := hp 1 rfl
  have e198 : ρ 45 = .agg cs196.toArray := e198r
  rw [e198r] at hm199
  have hs := hs.memo1 (it := vl t_index_Key x50.E0 (.agg cs196.toArray)) (List.mem_append.2 (.inl (hm199 _ (List.mem_of_getElem? (i := 0) rfl))))
  have hl197 := hs.agglen (n := 3) 0 rfl rfl rfl
  obtain ⟨⟨cs200, e202r⟩, hm203⟩ := hp 3 rfl
  have e202 : ρ 47 = .agg cs200.toArray := e202r
  rw [e202r] at hm203
  have hs := hs.memo1 (it := vl t_index_Key x50.E1 (.agg cs200.toArray)) (List.mem_cons_of_mem _ (List.mem_append.2 (.inl (hm203 _ (List.mem_of_getElem? (i := 0) rfl)))))
  have hl201 := hs.agglen (n := 3) 0 rfl rfl rfl
  refine WL.call (vs := [.agg cs196.toArray, .agg cs200.toArray]) hs FN5 ⟨e198, ⟨e202, trivial⟩⟩ (fun ok hA => index_Compare.calls (x1 := x50.E0) (x5 := x50.E1) hxx69 (hA.get 1 rfl) (hA.get 0 rfl)) ?_
  rintro _ w hs
  exact WL.nil ⟨rfl, _, rfl, rfl, hs.cutG 0 2⟩ }
  {
  intro ρ w Γx Λx hs hu hp
  refine WL.indexAddrA (m := 0) (hu 8 rfl) rfl UN24 TI23 (by decide) rfl ?_
  exact WL.nil ⟨rfl, _, rfl, rfl, hs.cutG 0 0⟩ }
  {
  intro ρ w Γx Λx hs hu hp
  have e204 : ρ 49 = .pointer (some ⟨g55, 0, none⟩) := (hp 5 rfl).1
  refine WL.loadF (z := x50.E0) F_Anon24_E0 hs (Λx.length + 0) (getApp rfl) (Γx.length + 0) (getApp rfl) rfl TI23 (.inl rfl) e204 rfl (fun v70 hs => ?_)
  obtain ⟨cs71, hl72, rfl⟩ := hs.aggv (n := 3) 0 rfl rfl rfl
  have hs := hs.add (it := vl t_index_Key x50.E0 (.agg cs71.toArray)) fun ok hA => hA.get 0 rfl
  exact WL.nil ⟨rfl, _, rfl, ⟨cs71, rfl⟩, hs.cutG 1 1⟩ }
  {
  intro ρ w Γx Λx hs hu hp
  obtain ⟨⟨cs205, e207r⟩, hm208⟩ := hp 6 rfl
  have e207 : ρ 50 = .agg cs205.toArray := e207r
  rw [e207r] at hm208
  have hs := hs.memo1 (it := vl t_index_Key x50.E0 (.agg cs205.toArray)) (List.mem_append.2 (.inl (hm208 _ (List.mem_of_getElem? (i := 0) rfl))))
  have hl206 := hs.agglen (n := 3) 0 rfl rfl rfl
  refine WL.call (vs := [.agg cs205.toArray]) hs FN7 ⟨e207, trivial⟩ (fun ok hA => eslaw32_convert.calls (x1 := x50.E0) hxx73 (hA.get 0 rfl)) ?_
  rintro cs74 w hs
  have hl75 := hs.agglen (n := 3) 0 rfl rfl rfl
  have hs := hs.add (it := vl t_elasticstoreref32_Key x73 (.agg cs74.toArray)) fun ok hA => hA.get 0 rfl
  exact WL.nil ⟨rfl, _, rfl, ⟨cs74, rfl⟩, hs.cutG 1 2⟩ }
  {
  intro ρ w Γx Λx hs hu hp
  refine WL.indexAddrA (m := 3) (hu 8 rfl) rfl UN24 TI23 (by decide) rfl ?_
  exact WL.nil ⟨rfl, _, rfl, rfl, hs.cutG 0 0⟩ }
  {
  intro ρ w Γx Λx hs hu hp
  have e209 : ρ 52 = .pointer (some ⟨g55, 3, none⟩) := (hp 8 rfl).1
  refine WL.loadF (z := x50.E1) F_Anon24_E1 hs (Λx.length + 0) (getApp rfl) (Γx.length + 0) (getApp rfl) rfl TI23 (.inl rfl) e209 rfl (fun v76 hs => ?_)
  obtain ⟨cs77, hl78, rfl⟩ := hs.aggv (n := 3) 0 rfl rfl rfl
  have hs := hs.add (it := vl t_index_Key x50.E1 (.agg cs77.toArray)) fun ok hA => hA.get 0 rfl
  exact WL.nil ⟨rfl, _, rfl, ⟨cs77, rfl⟩, hs.cutG 1 1⟩ }
  {
  intro ρ w Γx Λx hs hu hp
  obtain ⟨⟨cs210, e212r⟩, hm213⟩ := hp 9 rfl
  have e212 : ρ 53 = .agg cs210.toArray := e212r
  rw [e212r] at hm213
  have hs := hs.memo1 (it := vl t_index_Key x50.E1 (.agg cs210.toArray)) (List.mem_append.2 (.inl (hm213 _ (List.mem_of_getElem? (i := 0) rfl))))
  have hl211 := hs.agglen (n := 3) 0 rfl rfl rfl
  refine WL.call (vs := [.agg cs210.toArray]) hs FN7 ⟨e212, trivial⟩ (fun ok hA => eslaw32_convert.calls (x1 := x50.E1) hxx79 (hA.get 0 rfl)) ?_
  rintro cs80 w hs
  have hl81 := hs.agglen (n := 3) 0 rfl rfl rfl
  have hs := hs.add (it := vl t_elasticstoreref32_Key x79 (.agg cs80.toArray)) fun ok hA => hA.get 0 rfl
  exact WL.nil ⟨rfl, _, rfl, ⟨cs80, rfl⟩, hs.cutG 1 2⟩ }
  {
  intro ρ w Γx Λx hs hu hp
  obtain ⟨⟨cs214, e216r⟩, hm217⟩ := hp 7 rfl
  have e216 : ρ 51 = .agg cs214.toArray := e216r
  rw [e216r] at hm217
  have hs := hs.memo1 (it := vl t_elasticstoreref32_Key x73 (.agg cs214.toArray)) (List.mem_append.2 (.inl (hm217 _ (List.mem_of_getElem? (i := 0) rfl))))
  have hl215 := hs.agglen (n := 3) 0 rfl rfl rfl
  obtain ⟨⟨cs218, e220r⟩, hm221⟩ := hp 10 rfl
  have e220 : ρ 54 = .agg cs218.toArray := e220r
  rw [e220r] at hm221
  have hs := hs.memo1 (it := vl t_elasticstoreref32_Key x79 (.agg cs218.toArray)) (List.mem_cons_of_mem _ (List.mem_append.2 (.inl (hm221 _ (List.mem_of_getElem? (i := 0) rfl)))))
  have hl219 := hs.agglen (n := 3) 0 rfl rfl rfl
  refine WL.call (vs := [.agg cs214.toArray, .agg cs218.toArray]) hs FN6 ⟨e216, ⟨e220, trivial⟩⟩ (fun ok hA => esref32_Compare.calls (x1 := x73) (x5 := x79) hxx82 (hA.get 1 rfl) (hA.get 0 rfl)) ?_
  rintro _ w hs
  exact WL.nil ⟨rfl, _, rfl, rfl, hs.cutG 0 2⟩ }
  {
  intro ρ w Γx Λx hs hu hp
  have e222 : ρ 48 = .int .i64 x69 := (hp 4 rfl).1
  have e223 : ρ 55 = .int .i64 x82 := (hp 11 rfl).1
  refine WL.bin (v := .bool (x69 != x82)) e222 e223 (ib_neq _ _ _) ?_
  exact WL.nil ⟨rfl, _, rfl, rfl, hs.cutG 0 0⟩ }
  {
  intro ρ w Γx Λx hs hu hp
  have e224 : ρ 56 = .bool (x69 != x82) := (hp 12 rfl).1
  refine WL.move (v := .bool (x69 != x82)) e224 ?_
  exact WL.nil ⟨rfl, _, rfl, rfl, hs.cutG 0 0⟩ }
  {
  intro ρ w Γx Λx hs hu hp
  have e225 : ρ 57 = .bool (x69 != x82) := (hp 13 rfl).1
  refine WL.indexAddrA (m := 0) (hu 8 rfl) rfl UN24 TI23 (by decide) rfl ?_ (hg := (wanted_of rfl rfl (bool_tr e225 hc83)).trans rfl)
  exact WL.nil ⟨rfl, _, rfl, rfl, hs.cutG 0 0⟩ }
  {
  intro ρ w Γx Λx hs hu hp
  have e226 : ρ 58 = .pointer (some ⟨g55, 0, none⟩) := (hp 14 rfl).1
  have e227 : ρ 57 = .bool (x69 != x82) := (hp 13 rfl).1
  refine WL.loadF (z := x50.E0) F_Anon24_E0 hs (Λx.length + 0) (getApp rfl) (Γx.length + 0) (getApp rfl) rfl TI23 (.inl rfl) e226 rfl (fun v180 hs => ?_) (hg := (wanted_of rfl rfl (bool_tr e227 hc83)).trans rfl)
  obtain ⟨cs181, hl182, rfl⟩ := hs.aggv (n := 3) 0 rfl rfl rfl
  have hs := hs.add (it := vl t_index_Key x50.E0 (.agg cs181.toArray)) fun ok hA => hA.get 0 rfl
  exact WL.nil ⟨rfl, _, rfl, ⟨cs181, rfl⟩, hs.cutG 1 1⟩ }
  {
  intro ρ w Γx Λx hs hu hp
  have e228 : ρ 57 = .bool (x69 != x82) := (hp 13 rfl).1
  refine WL.indexAddrA (m := 3) (hu 8 rfl) rfl UN24 TI23 (by decide) rfl ?_ (hg := (wanted_of rfl rfl (bool_tr e228 hc83)).trans rfl)
  exact WL.nil ⟨rfl, _, rfl, rfl, hs.cutG 0 0⟩ }
  {
  intro ρ w Γx Λx hs hu hp
  have e229 : ρ 60 = .pointer (some ⟨g55, 3, none⟩) := (hp 16 rfl).1
  have e230 : ρ 57 = .bool (x69 != x82) := (hp 13 rfl).1
  refine WL.loadF (z := x50.E1) F_Anon24_E1 hs (Λx.length + 0) (getApp rfl) (Γx.length + 0) (getApp rfl) rfl TI23 (.inl rfl) e229 rfl (fun v183 hs => ?_) (hg := (wanted_of rfl rfl (bool_tr e230 hc83)).trans rfl)
  obtain ⟨cs184, hl185, rfl⟩ := hs.aggv (n := 3) 0 rfl rfl rfl
  have hs := hs.add (it := vl t_index_Key x50.E1 (.agg cs184.toArray)) fun ok hA => hA.get 0 rfl
  exact WL.nil ⟨rfl, _, rfl, ⟨cs184, rfl⟩, hs.cutG 1 1⟩ }
  {
  intro ρ w Γx Λx hs hu hp
  obtain ⟨⟨cs231, e233r⟩, hm234⟩ := hp 15 rfl
  have e233 : ρ 59 = .agg cs231.toArray := e233r
  rw [e233r] at hm234
  have hs := hs.memo1 (it := vl t_index_Key x50.E0 (.agg cs231.toArray)) (List.mem_append.2 (.inl (hm234 _ (List.mem_of_getElem? (i := 0) rfl))))
  have hl232 := hs.agglen (n := 3) 0 rfl rfl rfl
  obtain ⟨⟨cs235, e237r⟩, hm238⟩ := hp 17 rfl
  have e237 : ρ 61 = .agg cs235.toArray := e237r
  rw [e237r] at hm238
  have hs := hs.memo1 (it := vl t_index_Key x50.E1 (.agg cs235.toArray)) (List.mem_cons_of_mem _ (List.mem_append.2 (.inl (hm238 _ (List.mem_of_getElem? (i := 0) rfl)))))
  have hl236 := hs.agglen (n := 3) 0 rfl rfl rfl
  have e239 : ρ 57 = .bool (x69 != x82) := (hp 13 rfl).1
  refine WL.call (vs := [.agg cs231.toArray, .agg cs235.toArray]) hs FN5 ⟨e233, ⟨e237, trivial⟩⟩ (fun ok hA => index_Compare.calls (x1 := x50.E0) (x5 := x50.E1) hxx186 (hA.get 1 rfl) (hA.get 0 rfl)) ?_ (hg := (wanted_of rfl rfl (bool_tr e239 hc83)).trans rfl)
  rintro _ w hs
  exact WL.nil ⟨rfl, _, rfl, rfl, hs.cutG 0 2⟩ }
  {
  intro ρ w Γx Λx hs hu hp
  have e240 : ρ 57 = .bool (x69 != x82) := (hp 13 rfl).1
  refine WL.indexAddrA (m := 3) (hu 8 rfl) rfl UN24 TI23 (by decide) rfl ?_ (hg := (wanted_of rfl rfl (bool_tr e240 hc83)).trans rfl)
  exact WL.nil ⟨rfl, _, rfl, rfl, hs.cutG 0 0⟩ }
  {
  intro ρ w Γx Λx hs hu hp
  have e241 : ρ 63 = .pointer (some ⟨g55, 3, none⟩) := (hp 19 rfl).1
  have e242 : ρ 57 = .bool (x69 != x82) := (hp 13 rfl).1
  refine WL.loadF (z := x50.E1) F_Anon24_E1 hs (Λx.length + 0) (getApp rfl) (Γx.length + 0) (getApp rfl) rfl TI23 (.inl rfl) e241 rfl (fun v187 hs => ?_) (hg := (wanted_of rfl rfl (bool_tr e242 hc83)).trans rfl)
  obtain ⟨cs188, hl189, rfl⟩ := hs.aggv (n := 3) 0 rfl rfl rfl
  have hs := hs.add (it := vl t_index_Key x50.E1 (.agg cs188.toArray)) fun ok hA => hA.get 0 rfl
  exact WL.nil ⟨rfl, _, rfl, ⟨cs188, rfl⟩, hs.cutG 1 1⟩ }
  {
  intro ρ w Γx Λx hs hu hp
  have e243 : ρ 57 = .bool (x69 != x82) := (hp 13 rfl).1
  refine WL.indexAddrA (m := 0) (hu 8 rfl) rfl UN24 TI23 (by decide) rfl ?_ (hg := (wanted_of rfl rfl (bool_tr e243 hc83)).trans rfl)
  exact WL.nil ⟨rfl, _, rfl, rfl, hs.cutG 0 0⟩ }
  {
  intro ρ w Γx Λx hs hu hp
  have e244 : ρ 65 = .pointer (some ⟨g55, 0, none⟩) := (hp 21 rfl).1
  have e245 : ρ 57 = .bool (x69 != x82) := (hp 13 rfl).1
  refine WL.loadF (z := x50.E0) F_Anon24_E0 hs (Λx.length + 0) (getApp rfl) (Γx.length + 0) (getApp rfl) rfl TI23 (.inl rfl) e244 rfl (fun v190 hs => ?_) (hg := (wanted_of rfl rfl (bool_tr e245 hc83)).trans rfl)
  obtain ⟨cs191, hl192, rfl⟩ := hs.aggv (n := 3) 0 rfl rfl rfl
  have hs := hs.add (it := vl t_index_Key x50.E0 (.agg cs191.toArray)) fun ok hA => hA.get 0 rfl
  exact WL.nil ⟨rfl, _, rfl, ⟨cs191, rfl⟩, hs.cutG 1 1⟩ }
  {
  intro ρ w Γx Λx hs hu hp
  obtain ⟨⟨cs246, e248r⟩, hm249⟩ := hp 20 rfl
  have e248 : ρ 64 = .agg cs246.toArray := e248r
  rw [e248r] at hm249
  have hs := hs.memo1 (it := vl t_index_Key x50.E1 (.agg cs246.toArray)) (List.mem_append.2 (.inl (hm249 _ (List.mem_of_getElem? (i := 0) rfl))))
  have hl247 := hs.agglen (n := 3) 0 rfl rfl rfl
  obtain ⟨⟨cs250, e252r⟩, hm253⟩ := hp 22 rfl
  have e252 : ρ 66 = .agg cs250.toArray := e252r
  rw [e252r] at hm253
  have hs := hs.memo1 (it := vl t_index_Key x50.E0 (.agg cs250.toArray)) (List.mem_cons_of_mem _ (List.mem_append.2 (.inl (hm253 _ (List.mem_of_getElem? (i := 0) rfl)))))
  have hl251 := hs.agglen (n := 3) 0 rfl rfl rfl
  have e254 : ρ 57 = .bool (x69 != x82) := (hp 13 rfl).1
  refine WL.call (vs := [.agg cs246.toArray, .agg cs250.toArray]) hs FN5 ⟨e248, ⟨e252, trivial⟩⟩ (fun ok hA => index_Compare.calls (x1 := x50.E1) (x5 := x50.E0) hxx193 (hA.get 1 rfl) (hA.get 0 rfl)) ?_ (hg := (wanted_of rfl rfl (bool_tr e254 hc83)).trans rfl)
  rintro _ w hs
  exact WL.nil ⟨rfl, _, rfl, rfl, hs.cutG 0 2⟩ }
  {
  intro ρ w Γx Λx hs hu hp
  have e255 : ρ 67 = .int .i64 x193 := (hp 23 rfl).1
  have e256 : ρ 57 = .bool (x69 != x82) := (hp 13 rfl).1
  refine WL.neg e255 ?_ (hg := (wanted_of rfl rfl (bool_tr e256 hc83)).trans rfl)
  exact WL.nil ⟨rfl, _, rfl, rfl, hs.cutG 0 0⟩ }
  {
  intro ρ w Γx Λx hs hu hp
  have e257 : ρ 62 = .int .i64 x186 := (hp 18 rfl).1
  have e258 : ρ 68 = .int .i64 (IntKind.i64.wrap (0 - x193)) := (hp 24 rfl).1
  have e259 : ρ 57 = .bool (x69 != x82) := (hp 13 rfl).1
  refine WL.bin (v := .bool (x186 != (IntKind.i64.wrap (0 - x193)))) e257 e258 (ib_neq _ _ _) ?_ (hg := (wanted_of rfl rfl (bool_tr e259 hc83)).trans rfl)
  exact WL.nil ⟨rfl, _, rfl, rfl, hs.cutG 0 0⟩ }
  {
  intro ρ w Γx Λx hs hu hp
  have e260 : ρ 57 = .bool (x69 != x82) := (hp 13 rfl).1
  have e261 : ρ 69 = .bool (x186 != (IntKind.i64.wrap (0 - x193))) := (hp 25 rfl).1
  refine WL.pickF (v := .bool (x186 != (IntKind.i64.wrap (0 - x193)))) (bool_tr e260 hc83) e261 ?_
  exact WL.nil ⟨rfl, _, rfl, rfl, hs.cutG 0 0⟩ }
  {
  intro ρ w hs hu262 hp
  obtain ⟨⟨⟨⟨⟨⟨⟨⟨⟨⟨⟨⟨⟨⟨⟨⟨⟨⟨⟨⟨⟨⟨⟨⟨⟨⟨⟨_, hp0_⟩, hp1_⟩, hp2_⟩, hp3_⟩, hp4_⟩, hp5_⟩, hp6_⟩, hp7_⟩, hp8_⟩, hp9_⟩, hp10_⟩, hp11_⟩, hp12_⟩, hp13_⟩, hp14_⟩, hp15_⟩, hp16_⟩, hp17_⟩, hp18_⟩, hp19_⟩, hp20_⟩, hp21_⟩, hp22_⟩, hp23_⟩, hp24_⟩, hp25_⟩, hp26_⟩ := hp
  have hs : St ok (bz w0) w [vl t_index_Key x50.E0 (ρ 66), vl t_index_Key x50.E1 (ρ 64), vl t_index_Key x50.E1 (ρ 61), vl t_index_Key x50.E0 (ρ 59), vl t_elasticstoreref32_Key x79 (ρ 54), vl t_index_Key x50.E1 (ρ 53), vl t_elasticstoreref32_Key x73 (ρ 51), vl t_index_Key x50.E0 (ρ 50), vl t_index_Key x50.E1 (ρ 47), vl t_index_Key x50.E0 (ρ 45), vl t_Anon24 x50 (.agg cs53.toArray), pl t_Anon24 x50 ad51, vl (tSlice t_Anon24) ([(⟨x1, x5⟩ : Anon24), (⟨x5, x9⟩ : Anon24), (⟨x1, x1⟩ : Anon24), (⟨(⟨x1.f_Type, x1.N, x5.S⟩ : index_Key), x1⟩ : Anon24), (⟨(⟨x1.f_Type, x5.N, []⟩ : index_Key), (⟨x1.f_Type, x1.N, []⟩ : index_Key)⟩ : Anon24)]) (.slice (some ⟨g41, 0, none⟩) ([(⟨x1, x5⟩ : Anon24), (⟨x5, x9⟩ : Anon24), (⟨x1, x1⟩ : Anon24), (⟨(⟨x1.f_Type, x1.N, x5.S⟩ : index_Key), x1⟩ : Anon24), (⟨(⟨x1.f_Type, x5.N, []⟩ : index_Key), (⟨x1.f_Type, x1.N, []⟩ : index_Key)⟩ : Anon24)]).length 5), vl t_index_Key x9 (.agg cs11.toArray), vl t_index_Key x5 (.agg cs7.toArray), vl t_index_Key x1 (.agg cs3.toArray)] [blk g55 24 cs53, blk g16 23 cs11, blk g15 23 cs7, blk g14 23 cs3] := hs
  have e263 : ρ 70 = .bool (x186 != (IntKind.i64.wrap (0 - x193))) := hp26_
  have e264 : ρ 69 = .bool (x186 != (IntKind.i64.wrap (0 - x193))) := hp25_
  have e265 : ρ 68 = .int .i64 (IntKind.i64.wrap (0 - x193)) := hp24_
  have e266 : ρ 67 = .int .i64 x193 := hp23_
  obtain ⟨cs267, e269⟩ := hp22_
  have e269 : ρ 66 = .agg cs267.toArray := e269
  try rw [e269] at hs
  have e270 : ρ 65 = .pointer (some ⟨g55, 0, none⟩) := hp21_
  obtain ⟨cs271, e273⟩ := hp20_
  have e273 : ρ 64 = .agg cs271.toArray := e273
  try rw [e273] at hs
  have e274 : ρ 63 = .pointer (some ⟨g55, 3, none⟩) := hp19_
  have e275 : ρ 62 = .int .i64 x186 := hp18_
  obtain ⟨cs276, e278⟩ := hp17_
  have e278 : ρ 61 = .agg cs276.toArray := e278
  try rw [e278] at hs
  have e279 : ρ 60 = .pointer (some ⟨g55, 3, none⟩) := hp16_
  obtain ⟨cs280, e282⟩ := hp15_
  have e282 : ρ 59 = .agg cs280.toArray := e282
  try rw [e282] at hs
  have e283 : ρ 58 = .pointer (some ⟨g55, 0, none⟩) := hp14_
  have e284 : ρ 57 = .bool (x69 != x82) := hp13_
  have e285 : ρ 56 = .bool (x69 != x82) := hp12_
  have e286 : ρ 55 = .int .i64 x82 := hp11_
  obtain ⟨cs287, e289⟩ := hp10_
  have e289 : ρ 54 = .agg cs287.toArray := e289
  try rw [e289] at hs
  obtain ⟨cs290, e292⟩ := hp9_
  have e292 : ρ 53 = .agg cs290.toArray := e292
  try rw [e292] at hs
  have e293 : ρ 52 = .pointer (some ⟨g55, 3, none⟩) := hp8_
  obtain ⟨cs294, e296⟩ := hp7_
  have e296 : ρ 51 = .agg cs294.toArray := e296
  try rw [e296] at hs
  obtain ⟨cs297, e299⟩ := hp6_
  have e299 : ρ 50 = .agg cs297.toArray := e299
  try rw [e299] at hs
  have e300 : ρ 49 = .pointer (some ⟨g55, 0, none⟩) := hp5_
  have e301 : ρ 48 = .int .i64 x69 := hp4_
  obtain ⟨cs302, e304⟩ := hp3_
  have e304 : ρ 47 = .agg cs302.toArray := e304
  try rw [e304] at hs
  have e305 : ρ 46 = .pointer (some ⟨g55, 3, none⟩) := hp2_
  obtain ⟨cs306, e308⟩ := hp1_
  have e308 : ρ 45 = .agg cs306.toArray := e308
  try rw [e308] at hs
  have e309 : ρ 44 = .pointer (some ⟨g55, 0, none⟩) := hp0_
  have hl307 := hs.agglen (n := 3) 9 rfl rfl rfl
  have hl303 := hs.agglen (n := 3) 8 rfl rfl rfl
  have hl298 := hs.agglen (n := 3) 7 rfl rfl rfl
  have hl295 := hs.agglen (n := 3) 6 rfl rfl rfl
  have hl291 := hs.agglen (n := 3) 5 rfl rfl rfl
  have hl288 := hs.agglen (n := 3) 4 rfl rfl rfl
  have hl281 := hs.agglen (n := 3) 3 rfl rfl rfl
  have hl277 := hs.agglen (n := 3) 2 rfl rfl rfl
  have hl272 := hs.agglen (n := 3) 1 rfl rfl rfl
  have hl268 := hs.agglen (n := 3) 0 rfl rfl rfl
  refine WA.done (by kernel_rfl) ?_
  exact Jk59 (x186 != (IntKind.i64.wrap (0 - x193))) _ _ ((hu262 3 rfl).trans h42_3) ((hu262 4 rfl).trans h42_4) ((hu262 5 rfl).trans h42_5) ((hu262 38 rfl).trans h42_38) ((hu262 39 rfl).trans h42_39) ((hu262 40 rfl).trans h42_40) e263 ((hs.mask [false, true, true, true]).pick [12, 13, 14, 15]) hf } } }
  {
  refine W.cond_false (bool_tr rfl hc47) ?_
  refine W.exit ?_
  have hr := Option.some.inj hf; subst hr
  have hr := hbbs44 _ rfl; subst hr
  have hf := hfs44
  exact Jk19  _ _ h42_3 h42_4 h42_5 ((hs.mask [true, true, true]).pick [1, 2, 3]) hf }
end Go.Proofs.Ytpfgdjfiimknlaa
set_option linter.unusedVariables false
set_option linter.unusedSimpArgs false
namespace Go.Proofs.Ytpfgdjfiimknlaa
open Go Go.Proofs.YtpfgdjfiimknlaaL
structure GD (n : Nat) (objs : List fold_Object) : Prop where
  asc : SA ON_ objs
  len : objs.length ≤ n
  name : ∀ o ∈ objs, o.Name.length ≤ 1000
  ne : ∀ o ∈ objs, o.Fields ≠ []
  fasc : ∀ o ∈ objs, SA FN_ o.Fields
  flen : ∀ o ∈ objs, o.Fields.length ≤ n
  good : ∀ o ∈ objs, ∀ y ∈ o.Fields, GF n y
theorem GD.mono {n m : Nat} {objs : List fold_Object} (h : GD n objs) (hm : n ≤ m) : GD m objs :=
  ⟨h.asc, Nat.le_trans h.len hm, h.name, h.ne, h.fasc, fun o ho => Nat.le_trans (h.flen o ho) hm, fun o ho y hy => (h.good o ho y hy).mono hm⟩
theorem GD_nil (n : Nat) : GD n [] := ⟨List.Pairwise.nil, Nat.zero_le _, by simp, by simp, by simp, by simp, by simp⟩
def appT (u : api_Update) (objs : List fold_Object) : List fold_Object := u.Effects.foldl (effT u) objs
theorem apply_ex {u : api_Update} {n : Nat} {x : fold_B} (h : BI n x) (he : ∀ e ∈ u.Effects, EF e) (hn : n + u.Effects.length ≤ 1000000) :
    ∃ x', fold_apply u x = some x' ∧ BI (n + u.Effects.length) x' ∧ canonB x' = appT u (canonB x) := by
  unfold fold_apply
  refine loopO_inv (I := fun k s => s.1 = (k : Int) ∧ BI (n + k) s.2 ∧ canonB s.2 = (u.Effects.take k).foldl (effT u) (canonB x)) u.Effects.length ⟨rfl, h, rfl⟩ ?_ ?_
  · rintro k ⟨i, y⟩ hk ⟨hi, h1, h2⟩
    simp only at hi h1 h2
    subst hi
    obtain ⟨x', e1, e2, e3⟩ := eff_eq (u := u) h1 (he _ (List.getElem_mem hk)) (by omega)
    refine ⟨(((k + 1 : Nat) : Int), x'), ?_, rfl, e2, ?_⟩
    · unfold fold_apply.l1
      simp only [lt_of_len hk, if_true, idx_nat hk, Option.bind_some, e1, letV, wcast hk (by omega)]
    · rw [take_snoc hk, List.foldl_append, ← h2, e3]
      rfl
  · rintro ⟨i, y⟩ ⟨hi, h1, h2⟩
    simp only at hi h1 h2
    subst hi
    rw [List.take_length] at h2
    refine ⟨y, ?_, h1, h2⟩
    unfold fold_apply.l1
    simp only [not_lt_len, Bool.false_eq_true, if_false]
theorem clone_eq {l : List (List UInt8)} (h : l.length ≤ 1000000) : slices_Clone_string l = some l := by
  unfold slices_Clone_string
  rw [app_of (by simp; omega)]
  rfl
theorem names_ne {α : Type} {key : α → List UInt8} {l : List α} (h : SA key l) : (l.map key).Nodup := by
  refine List.pairwise_map.2 (h.imp fun {a b} hab e => ?_)
  rw [e, bl_irrefl] at hab
  cases hab
def loaded (objs : List fold_Object) : fold_B := objs.map fun o => (o.Name, o.Fields)
theorem load_fields {n : Nat} {o : fold_Object} (h1 : SA FN_ o.Fields) (h2 : o.Fields.length ≤ n) (h3 : ∀ y ∈ o.Fields, GF n y) (hn : n ≤ 1000000) : loopO (fold_load.l1 o) (0, []) = some o.Fields := by
  have := loopO_up (step := fold_load.l1 o) (fun k => ((k : Int), o.Fields.take k)) o.Fields.length (b := o.Fields) (fun k hk => ?_) ?_
  · exact this
  · have hg := h3 _ (List.getElem_mem hk)
    unfold fold_load.l1
    simp only [lt_of_len hk, if_true, idx_nat hk, Option.bind_some]
    rw [clone_eq (by have := hg.len; omega), Option.bind_some, letV, wcast hk (by omega)]
    have e : fput fold_Field.Name o.Fields[k] (o.Fields.take k) = o.Fields.take (k + 1) := by
      rw [take_snoc hk, fput_none]
      rw [List.find?_eq_none]
      intro y hy
      obtain ⟨j, hj, rfl⟩ := List.getElem_of_mem hy
      rw [List.length_take] at hj
      have := List.pairwise_iff_getElem.1 h1 j k (by omega) hk (by omega)
      rw [List.getElem_take]
      intro he
      have he : o.Fields[k].Name = (o.Fields[j]'(by omega)).Name := by simpa using he
      have this : Op.bytesLess (o.Fields[j]'(by omega)).Name o.Fields[k].Name = true := this
      rw [he, bl_irrefl] at this
      cases this
    rw [show ({ o.Fields[k] with Elems := o.Fields[k].Elems } : fold_Field) = o.Fields[k] from rfl, e]
  · unfold fold_load.l1
    simp only [not_lt_len, Bool.false_eq_true, if_false, List.take_length]
theorem load_eq {n : Nat} {t : fold_Store} (h : GD n t.Objects) (hn : n ≤ 1000000) : fold_load t = some (loaded t.Objects) := by
  unfold fold_load
  have hlen := h.len
  have := loopO_up (step := fold_load.l2 t) (fun k => ((k : Int), loaded (t.Objects.take k))) t.Objects.length (b := loaded t.Objects) (fun k hk => ?_) ?_
  · exact this
  · have hm := List.getElem_mem hk
    unfold fold_load.l2
    simp only [lt_of_len hk, if_true, idx_nat hk, Option.bind_some]
    rw [load_fields (h.fasc _ hm) (h.flen _ hm) (h.good _ hm) hn, Option.bind_some, letV, wcast hk (by omega)]
    have e : mset (loaded (t.Objects.take k)) t.Objects[k].Name t.Objects[k].Fields = loaded (t.Objects.take (k + 1)) := by
      unfold loaded
      rw [take_snoc hk, List.map_append, mset_none]
      · rfl
      · cases hl : (List.map (fun o : fold_Object => (o.Name, o.Fields)) (List.take k t.Objects)).lookup t.Objects[k].Name with
        | none => rfl
        | some fs =>
          exfalso
          obtain ⟨o, ho, he⟩ := List.mem_map.1 (lookup_mem hl)
          have he : o.Name = t.Objects[k].Name := congrArg Prod.fst he
          obtain ⟨j, hj, rfl⟩ := List.getElem_of_mem ho
          rw [List.length_take] at hj
          have := List.pairwise_iff_getElem.1 h.asc j k (by omega) hk (by omega)
          rw [List.getElem_take] at he
          have this : Op.bytesLess (t.Objects[j]'(by omega)).Name t.Objects[k].Name = true := this
          rw [he, bl_irrefl] at this
          cases this
    rw [e]
  · unfold fold_load.l2
    simp only [not_lt_len, Bool.false_eq_true, if_false, List.take_length]
theorem BI_loaded {n : Nat} {objs : List fold_Object} (h : GD n objs) : BI n (loaded objs) := by
  have hm : ∀ o ∈ loaded objs, ∃ p ∈ objs, o = (p.Name, p.Fields) := fun o ho => by
    obtain ⟨p, hp, rfl⟩ := List.mem_map.1 ho
    exact ⟨p, hp, rfl⟩
  refine ⟨?_, by unfold loaded; rw [List.length_map]; exact h.len, fun o ho => ?_, fun o ho => ?_, fun o ho => ?_, fun o ho => ?_, fun o ho => ?_⟩
  · unfold loaded
    rw [List.map_map]
    exact names_ne h.asc
  all_goals obtain ⟨p, hp, rfl⟩ := hm o ho
  · exact h.name p hp
  · exact h.ne p hp
  · exact names_ne (h.fasc p hp)
  · exact h.flen p hp
  · exact h.good p hp
theorem canonF_self {fs : List fold_Field} (h : SA FN_ fs) : canonF fs = fs := SA_ext (SA_canonF (names_ne h)) h fun k => get_canonF fs k
theorem loaded_lookup (objs : List fold_Object) (k : List UInt8) : (loaded objs).lookup k = (get ON_ objs k).map (·.Fields) := by
  induction objs with
  | nil => rfl
  | cons a objs ih =>
    unfold loaded at ih ⊢
    rw [List.map_cons, List.lookup_cons, get_cons]
    by_cases h : ON_ a = k
    · rw [if_pos h, show (k == a.Name) = true by rw [← h]; simp]
      rfl
    · rw [if_neg h, show (k == a.Name) = false by rw [beq_eq_false_iff_ne]; exact fun e => h e.symm]
      exact ih
theorem canon_loaded {n : Nat} {objs : List fold_Object} (h : GD n objs) : canonB (loaded objs) = objs := by
  refine SA_ext (SA_canonB (BI_loaded h).keys) h.asc fun k => ?_
  rw [get_canonB, loaded_lookup]
  cases hg : get ON_ objs k with
  | none => rfl
  | some o =>
    show some (⟨k, canonF o.Fields⟩ : fold_Object) = some o
    rw [canonF_self (h.fasc o (get_mem hg)), ← get_key hg]
theorem canonF_mem {fs : List fold_Field} {y : fold_Field} (h : y ∈ canonF fs) : y ∈ fs := by
  unfold canonF at h
  obtain ⟨n, hn, rfl⟩ := List.mem_map.1 h
  rw [mem_srt, get_names] at hn
  cases hg : get FN_ fs n with
  | none => rw [hg] at hn; cases hn
  | some y => exact get_mem hg
theorem GD_canon {n : Nat} {x : fold_B} (h : BI n x) : GD n (canonB x) := by
  have hm : ∀ o ∈ canonB x, ∃ fs, (o.Name, fs) ∈ x ∧ o.Fields = canonF fs := by
    intro o ho
    have hg := get_mem_self (SA_canonB h.keys) ho
    rw [get_canonB] at hg
    cases hl : x.lookup (ON_ o) with
    | none => rw [hl] at hg; cases hg
    | some fs =>
      rw [hl] at hg
      have := Option.some.inj hg
      exact ⟨fs, lookup_mem hl, by rw [← this]⟩
  refine ⟨SA_canonB h.keys, ?_, fun o ho => ?_, fun o ho => ?_, fun o ho => ?_, fun o ho => ?_, fun o ho y hy => ?_⟩
  · unfold canonB
    rw [List.length_map, List.length_mergeSort, List.length_map]
    exact h.len
  all_goals obtain ⟨fs, h1, h2⟩ := hm o ho
  · exact h.name _ h1
  · rw [h2]
    intro he
    have := congrArg List.length he
    unfold canonF at this
    rw [List.length_map, List.length_mergeSort, List.length_map] at this
    exact h.ne _ h1 (List.length_eq_zero_iff.1 this)
  · rw [h2]; exact SA_canonF (h.names _ h1)
  · rw [h2]
    unfold canonF
    rw [List.length_map, List.length_mergeSort, List.length_map]
    exact h.flen _ h1
  · rw [h2] at hy
    exact h.good _ h1 y (canonF_mem hy)
theorem Apply_eq {n : Nat} {t : fold_Store} {u : api_Update} (h : GD n t.Objects) (he : ∀ e ∈ u.Effects, EF e) (hn : n + u.Effects.length ≤ 1000000) :
    fold_Apply t u = some ⟨appT u t.Objects⟩ ∧ GD (n + u.Effects.length) (appT u t.Objects) := by
  unfold fold_Apply
  obtain ⟨x', e1, e2, e3⟩ := apply_ex (u := u) (BI_loaded h) he hn
  rw [canon_loaded h] at e3
  rw [load_eq h (by omega), Option.bind_some, e1, Option.bind_some, fold_store_eq e2 hn, e3]
  exact ⟨rfl, e3 ▸ GD_canon e2⟩
end Go.Proofs.Ytpfgdjfiimknlaa
set_option linter.unusedVariables false
set_option linter.unusedSimpArgs false
namespace Go.Proofs.Ytpfgdjfiimknlaa
open Go Go.Proofs.YtpfgdjfiimknlaaL
theorem snoc_ind {α : Type} {P : List α → Prop} (h0 : P []) (hs : ∀ l a, P l → P (l ++ [a])) (l : List α) : P l := by
  rw [← l.reverse_reverse]
  induction l.reverse with
  | nil => exact h0
  | cons a m ih => rw [List.reverse_cons]; exact hs _ _ ih
section
variable {α : Type} {lt : α → α → Prop}
theorem srt_ext (irr : ∀ a, ¬ lt a a) (tr : ∀ a b c, lt a b → lt b c → lt a c) : ∀ {l l' : List α}, l.Pairwise lt → l'.Pairwise lt → (∀ x, x ∈ l ↔ x ∈ l') → l = l'
  | [], [], _, _, _ => rfl
  | [], b :: l', _, _, h => by have := (h b).2 (by simp); simp at this
  | a :: l, [], _, _, h => by have := (h a).1 (by simp); simp at this
  | a :: l, b :: l', h1, h2, h => by
    have a1 := (List.pairwise_cons.1 h1).1
    have b1 := (List.pairwise_cons.1 h2).1
    have e : a = b := by
      rcases List.mem_cons.1 ((h a).1 (by simp)) with e | e
      · exact e
      · rcases List.mem_cons.1 ((h b).2 (by simp)) with e' | e'
        · exact e'.symm
        · exact absurd (tr _ _ _ (a1 b e') (b1 a e)) (irr a)
    subst e
    have : l = l' := by
      refine srt_ext irr tr (List.pairwise_cons.1 h1).2 (List.pairwise_cons.1 h2).2 fun x => ?_
      have hx := h x
      rw [List.mem_cons, List.mem_cons] at hx
      constructor
      · intro hm
        rcases hx.1 (.inr hm) with e | e
        · rw [e] at hm; exact absurd (a1 a hm) (irr a)
        · exact e
      · intro hm
        rcases hx.2 (.inr hm) with e | e
        · rw [e] at hm; exact absurd (b1 a hm) (irr a)
        · exact e
    rw [this]
end
section
variable {α : Type} [DecidableEq α]
def dd (l : List α) : List α := l.foldl (fun r a => if r.getLast? = some a then r else r ++ [a]) []
theorem dd_snoc (l : List α) (a : α) : dd (l ++ [a]) = if (dd l).getLast? = some a then dd l else dd l ++ [a] := by
  unfold dd
  rw [List.foldl_append]
  rfl
theorem dd_last (l : List α) : (dd l).getLast? = l.getLast? := by
  refine snoc_ind (P := fun l => (dd l).getLast? = l.getLast?) ?_ (fun l a ih => ?_) l
  · rfl
  · rw [dd_snoc, List.getLast?_concat]
    split
    · rename_i h; exact h
    · rw [List.getLast?_concat]
theorem dd_mem (l : List α) : ∀ x, x ∈ dd l ↔ x ∈ l := by
  refine snoc_ind (P := fun l => ∀ x, x ∈ dd l ↔ x ∈ l) ?_ (fun l a ih => ?_) l
  · intro x; rfl
  · intro x
    rw [dd_snoc, List.mem_append, List.mem_singleton]
    split
    · rename_i h
      rw [ih]
      have : a ∈ l := (ih a).1 (List.mem_of_getLast? h)
      constructor
      · exact .inl
      · rintro (h | rfl)
        · exact h
        · exact this
    · rw [List.mem_append, List.mem_singleton, ih]
theorem dd_length (l : List α) : (dd l).length ≤ l.length := by
  refine snoc_ind (P := fun l => (dd l).length ≤ l.length) (Nat.le_refl _) (fun l a ih => ?_) l
  rw [dd_snoc, List.length_append, List.length_singleton]
  split
  · omega
  · rw [List.length_append, List.length_singleton]; omega
theorem dd_self {l : List α} : l.Pairwise (· ≠ ·) → dd l = l := by
  refine snoc_ind (P := fun l => l.Pairwise (· ≠ ·) → dd l = l) (fun _ => rfl) (fun l a ih h => ?_) l
  rw [List.pairwise_append] at h
  rw [dd_snoc, ih h.1, if_neg]
  intro e
  exact h.2.2 a (List.mem_of_getLast? e) a (by simp) rfl
omit [DecidableEq α] in
theorem last_max {lt : α → α → Prop} {m : List α} {z x : α} (h : m.Pairwise lt) (hz : m.getLast? = some z) (hx : x ∈ m) : x = z ∨ lt x z := by
  obtain ⟨m', rfl⟩ : ∃ m', m = m' ++ [z] := by
    rw [List.getLast?_eq_some_iff] at hz
    exact hz
  rcases List.mem_append.1 hx with hx | hx
  · exact .inr ((List.pairwise_append.1 h).2.2 x hx z (by simp))
  · exact .inl (by simpa using hx)
theorem dd_srt {lt : α → α → Prop} (tri : ∀ a b, ¬ lt a b → ¬ lt b a → a = b) {l : List α} : l.Pairwise (fun a b => ¬ lt b a) → (dd l).Pairwise lt := by
  refine snoc_ind (P := fun l => l.Pairwise (fun a b => ¬ lt b a) → (dd l).Pairwise lt) (fun _ => .nil) (fun l a ih h => ?_) l
  rw [List.pairwise_append] at h
  have h1 := ih h.1
  rw [dd_snoc]
  split
  · exact h1
  · rename_i hn
    rw [List.pairwise_append]
    refine ⟨h1, List.pairwise_singleton _ _, fun x hx b hb => ?_⟩
    have hb : b = a := by simpa using hb
    subst hb
    refine Classical.byContradiction fun hc => ?_
    have ha := h.2.2
    have e := tri _ _ hc (ha x ((dd_mem l x).1 hx) b (by simp))
    subst e
    cases hz : (dd l).getLast? with
    | none =>
      rw [List.getLast?_eq_none_iff] at hz
      rw [hz] at hx
      simp at hx
    | some z =>
      rcases last_max h1 hz hx with e | e
      · exact hn (by rw [hz, e])
      · exact ha z ((dd_mem l z).1 (List.mem_of_getLast? hz)) x (by simp) e
end
section
variable {α : Type} (eq : α → α → Bool) (z : α)
noncomputable def gj2 (x24 : List α) (x26 : Int) : Option ((List α × Int) ⊕ (List α ⊕ List α)) :=
  (letV (IntKind.i64.wrap (x26 + 1)) fun x28 => some (.inl (x24, x28)))
noncomputable def gj3 (x61 : List α) (x63 : Int) : Option ((List α × Int) ⊕ (List α ⊕ List α)) :=
  (if 0 ≤ x63 ∧ x63 ≤ (x61.length : Int) then ((clr x61 x63 z).bind fun x67 => ((cut x67 0 x63).bind fun x69 => some (.inr (.inr x69)))) else none)
noncomputable def gj4 (x74 : Int) (x80 : List α) (x82 : Int) : Option ((List α × Int × Int) ⊕ (List α × Int)) :=
  (letV (IntKind.i64.wrap (x74 + 1)) fun x84 => some (.inl (x80, x82, x84)))
noncomputable def gl1 (x18 : Int) : (List α × Int × Int) → Option ((List α × Int × Int) ⊕ (List α × Int)) := fun (x71, x73, x74) =>
  (if (decide (x74 < ((x71.length - (x18).toNat : Nat) : Int))) then ((idx (List.drop ((x18).toNat) x71) x74).bind fun x86 =>
  (letV (IntKind.i64.wrap (x74 - 1)) fun x89 =>
  ((idx (List.drop ((x18).toNat) x71) x89).bind fun x90 =>
  (if (!eq x86 x90) then ((idx (List.drop ((x18).toNat) x71) x74).bind fun x115 =>
  ((idx x71 x73).bind fun x118 =>
  (letV (x71.set (x73).toNat x115) fun x120 =>
  (letV (IntKind.i64.wrap (x73 + 1)) fun x121 =>
  gj4 x74 x120 x121)))) else gj4 x74 x71 x73)))) else some (.inr (x71, x73)))
noncomputable def gl2 : (List α × Int) → Option ((List α × Int) ⊕ (List α ⊕ List α)) := fun (x16, x18) =>
  (if (decide (x18 < (x16.length : Int))) then ((idx x16 x18).bind fun x30 =>
  (letV (IntKind.i64.wrap (x18 - 1)) fun x33 =>
  ((idx x16 x33).bind fun x34 =>
  (if (eq x30 x34) then (if 0 ≤ x18 ∧ x18 ≤ (x16.length : Int) then ((loopO (gl1 eq x18) (x16, x18, 1)).bind fun (x122, x123) => gj3 z x122 x123) else none) else gj2 x16 x18)))) else some (.inr (.inl x16)))
noncomputable def gC (x1 : List α) : Option (List α) :=
  (if (decide ((x1.length : Int) < 2)) then some x1 else ((loopO (gl2 eq z) (x1, 1)).bind fun b => match b with | .inl x124 => some x124 | .inr x125 => some x125))
end
theorem w64s {k : Nat} (h : k ≤ 4611686018427387904) : IntKind.i64.wrap (((k + 1 : Nat) : Int) - 1) = (k : Int) := by
  rw [w64 (by omega) (by omega)]; omega
theorem take_last {α : Type} {l : List α} {k : Nat} (h : k < l.length) : (l.take (k + 1)).getLast? = some l[k] := by
  rw [take_snoc h, List.getLast?_concat]
theorem drop1 {α : Type} {x y : List α} {k : Nat} (h : y.drop k = x.drop k) : y.drop (k + 1) = x.drop (k + 1) := by
  have : ∀ l : List α, l.drop (k + 1) = (l.drop k).drop 1 := fun l => by rw [List.drop_drop]
  rw [this, this, h]
theorem gC1_eq {α : Type} [DecidableEq α] {eq : α → α → Bool} (heq : ∀ a b, eq a b = true ↔ a = b) {x : List α} (hl : x.length ≤ 4611686018427387903) {k0 : Nat} (h1 : 1 ≤ k0) (h2 : k0 < x.length)
    (hd : dd (x.take (k0 + 1)) = x.take k0) :
    ∃ b : List α × Int, loopO (gl1 eq (k0 : Int)) (x, (k0 : Int), 1) = some b ∧ b.1.length = x.length ∧ b.2 = ((dd x).length : Int) ∧ b.1.take (dd x).length = dd x := by
  refine loopO_inv (fun n s => ∃ (y : List α) (i : Nat), s = (y, (i : Int), ((n + 1 : Nat) : Int)) ∧ y.length = x.length ∧ i ≤ k0 + n ∧ i = (dd (x.take (k0 + n + 1))).length ∧ y.take i = dd (x.take (k0 + n + 1)) ∧ y.drop (k0 + n) = x.drop (k0 + n)) (x.length - k0 - 1) ?_ ?_ ?_
  · refine ⟨x, k0, rfl, rfl, Nat.le_refl _, ?_, ?_, rfl⟩
    · show k0 = (dd (x.take (k0 + 1))).length
      rw [hd, List.length_take]
      omega
    · show x.take k0 = dd (x.take (k0 + 1))
      rw [hd]
  · rintro n s hn ⟨y, i, rfl, e1, e2, e3, e4, e5⟩
    have hi : i < y.length := by omega
    have hb : k0 + n + 1 < x.length := by omega
    have ey : ∀ j, k0 + n ≤ j → (hj : j < x.length) → y[j]'(by omega) = x[j] := by
      intro j hj1 hj
      have := congrArg (fun l => l[j - (k0 + n)]?) e5
      simp only [List.getElem?_drop] at this
      rw [show k0 + n + (j - (k0 + n)) = j by omega, List.getElem?_eq_getElem (by omega), List.getElem?_eq_getElem hj] at this
      exact Option.some.inj this
    have d1 : idx (List.drop ((k0 : Int).toNat) y) ((n + 1 : Nat) : Int) = some (x[k0 + n + 1]'hb) := by
      rw [Int.toNat_natCast, idx_nat (by rw [List.length_drop]; omega), List.getElem_drop]
      congr 1
      have := ey (k0 + (n + 1)) (by omega) (by omega)
      rw [this]
      congr 1
    have d0 : idx (List.drop ((k0 : Int).toNat) y) (n : Int) = some (x[k0 + n]'(by omega)) := by
      rw [Int.toNat_natCast, idx_nat (by rw [List.length_drop]; omega), List.getElem_drop]
      congr 1
      exact ey (k0 + n) (by omega) (by omega)
    have snoc : dd (x.take (k0 + n + 1 + 1)) = if x[k0 + n]'(by omega) = x[k0 + n + 1]'hb then dd (x.take (k0 + n + 1)) else dd (x.take (k0 + n + 1)) ++ [x[k0 + n + 1]'hb] := by
      rw [take_snoc hb, dd_snoc, dd_last, take_last (by omega)]
      simp only [Option.some.injEq]
    unfold gl1
    simp only
    rw [if_pos (by rw [Int.toNat_natCast, e1]; simp; omega), d1, Option.bind_some, letV_of, w64s (by omega), d0, Option.bind_some]
    have nx : IntKind.i64.wrap (((n + 1 : Nat) : Int) + 1) = ((n + 1 + 1 : Nat) : Int) := w64n (by omega)
    by_cases hc : x[k0 + n + 1]'hb = x[k0 + n]'(by omega)
    · rw [if_neg (by rw [(heq _ _).2 hc]; simp)]
      unfold gj4
      rw [letV_of, nx]
      refine ⟨_, rfl, y, i, rfl, e1, by omega, ?_, ?_, ?_⟩
      · rw [show k0 + (n + 1) + 1 = k0 + n + 1 + 1 by omega, snoc, if_pos hc.symm]; exact e3
      · rw [show k0 + (n + 1) + 1 = k0 + n + 1 + 1 by omega, snoc, if_pos hc.symm]; exact e4
      · exact drop1 e5
    · rw [if_pos (by
        cases h : eq (x[k0 + n + 1]'hb) (x[k0 + n]'(by omega)) with
        | true => exact absurd ((heq _ _).1 h) hc
        | false => rfl), Option.bind_some, idx_nat hi, Option.bind_some, letV_of, letV_of]
      unfold gj4
      rw [letV_of, nx, w64n (by omega)]
      have e6 : dd (x.take (k0 + n + 1 + 1)) = dd (x.take (k0 + n + 1)) ++ [x[k0 + n + 1]'hb] := by
        rw [snoc, if_neg (fun e => hc e.symm)]
      refine ⟨_, rfl, y.set i (x[k0 + n + 1]'hb), i + 1, rfl, by rw [List.length_set]; exact e1, by omega, ?_, ?_, ?_⟩
      · rw [show k0 + (n + 1) + 1 = k0 + n + 1 + 1 by omega, e6, List.length_append, ← e3]; rfl
      · rw [show k0 + (n + 1) + 1 = k0 + n + 1 + 1 by omega, e6, ← e4, take_snoc (by rw [List.length_set]; exact hi), List.getElem_set_self, List.take_set_of_le (Nat.le_refl _)]
      · rw [List.drop_set_of_lt (by omega)]; exact drop1 e5
  · rintro s ⟨y, i, rfl, e1, e2, e3, e4, e5⟩
    have e7 : x.take (k0 + (x.length - k0 - 1) + 1) = x := List.take_of_length_le (by omega)
    rw [e7] at e3 e4
    unfold gl1
    simp only
    rw [if_neg (by rw [Int.toNat_natCast, e1]; simp; omega)]
    exact ⟨_, rfl, e1, by rw [e3], by rw [← e3]; exact e4⟩
theorem gC_eq {α : Type} [DecidableEq α] {eq : α → α → Bool} {z : α} (heq : ∀ a b, eq a b = true ↔ a = b) {x : List α} (hl : x.length ≤ 4611686018427387903) : gC eq z x = some (dd x) := by
  unfold gC
  by_cases h0 : x.length < 2
  · rw [if_pos (by simp; omega)]
    have : dd x = x := by
      match x, h0 with
      | [], _ => rfl
      | [a], _ => rfl
    rw [this]
  · rw [if_neg (by simp; omega)]
    have key : ∃ b : List α ⊕ List α, loopO (gl2 eq z) (x, 1) = some b ∧ (match b with | .inl y => y = dd x | .inr y => y = dd x) := by
      refine loopO_ex (fun n s => s = (x, ((n + 1 : Nat) : Int)) ∧ dd (x.take (n + 1)) = x.take (n + 1)) (x.length - 1) ⟨rfl, ?_⟩ ?_ ?_
      · cases x with
        | nil => simp at h0
        | cons a l => rfl
      · rintro n s hn ⟨rfl, hd⟩
        unfold gl2
        simp only
        rw [if_pos (by simp; omega), idx_nat (show n + 1 < x.length by omega), Option.bind_some, letV_of, w64s (by omega), idx_nat (show n < x.length by omega), Option.bind_some]
        by_cases hc : x[n + 1]'(by omega) = x[n]'(by omega)
        · rw [if_pos ((heq _ _).2 hc), if_pos (by omega)]
          refine .inr ?_
          obtain ⟨b, b1, b2, b3, b4⟩ := gC1_eq heq hl (k0 := n + 1) (by omega) (by omega) (by
            rw [take_snoc (by omega), dd_snoc, hd, take_last (by omega), if_pos (by rw [hc])])
          rw [b1, Option.bind_some]
          obtain ⟨y, i⟩ := b
          simp only at b2 b3 b4
          subst b3
          unfold gj3
          have hle : (dd x).length ≤ y.length := by rw [b2]; exact dd_length x
          simp only
          rw [if_pos (by omega)]
          unfold clr
          rw [if_pos (by omega), Option.bind_some, Int.toNat_natCast, cut_of (by omega) (by omega) (by rw [List.length_append, List.length_take, List.length_replicate]; omega), Option.bind_some]
          refine ⟨_, rfl, ?_⟩
          simp only [Int.toNat_zero, List.drop_zero, Int.toNat_natCast]
          rw [List.take_append_of_le_length (by rw [List.length_take]; omega), b4, List.take_of_length_le (by omega)]
        · rw [if_neg (by rw [heq]; exact hc)]
          unfold gj2
          rw [letV_of]
          refine .inl ⟨_, rfl, by rw [w64n (by omega)], ?_⟩
          rw [take_snoc (show n + 1 < x.length by omega), dd_snoc, hd, take_last (show n < x.length by omega), if_neg (fun e => hc (Option.some.inj e).symm)]
      · rintro s ⟨rfl, hd⟩
        unfold gl2
        simp only
        rw [if_neg (by simp; omega)]
        refine ⟨_, rfl, ?_⟩
        rw [show x.length - 1 + 1 = x.length by omega, List.take_length] at hd
        exact hd.symm
    obtain ⟨b, b1, b2⟩ := key
    rw [b1, Option.bind_some]
    cases b with
    | inl y => simp only at b2; rw [b2]
    | inr y => simp only at b2; rw [b2]
theorem compactS_eq {x : List (List UInt8)} (hl : x.length ≤ 4611686018427387903) : slices_Compact_string x = some (dd x) := by
  rw [← gC_eq (eq := fun a b => a == b) (z := ([] : List UInt8)) (fun a b => by simp) hl]
  have e1 : ∀ k, slices_Compact_string.l1 k = gl1 (fun a b : List UInt8 => a == b) k := fun k => rfl
  have e2 : slices_Compact_string.l2 = gl2 (fun a b : List UInt8 => a == b) [] := by
    funext s
    unfold slices_Compact_string.l2 gl2
    simp only [e1]
    rfl
  unfold slices_Compact_string gC
  rw [e2]
  congr 1
  cases loopO (gl2 (fun a b : List UInt8 => a == b) []) (x, 1) with
  | none => rfl
  | some b => cases b <;> rfl
theorem compactK_eq {x : List index_Key} (hl : x.length ≤ 4611686018427387903) : slices_Compact_Key x = some (dd x) := by
  have heq : ∀ a b : index_Key, decide ((⟨a.f_Type, a.N, a.S⟩ : index_Key) = (⟨b.f_Type, b.N, b.S⟩ : index_Key)) = true ↔ a = b := fun a b => by rw [decide_eq_true_eq]
  rw [← gC_eq (eq := fun a b : index_Key => decide ((⟨a.f_Type, a.N, a.S⟩ : index_Key) = (⟨b.f_Type, b.N, b.S⟩ : index_Key))) (z := (⟨0, 0, []⟩ : index_Key)) heq hl]
  have e1 : ∀ k, slices_Compact_Key.l1 k = gl1 (fun a b : index_Key => decide ((⟨a.f_Type, a.N, a.S⟩ : index_Key) = (⟨b.f_Type, b.N, b.S⟩ : index_Key))) k := fun k => rfl
  have e2 : slices_Compact_Key.l2 = gl2 (fun a b : index_Key => decide ((⟨a.f_Type, a.N, a.S⟩ : index_Key) = (⟨b.f_Type, b.N, b.S⟩ : index_Key))) (⟨0, 0, []⟩ : index_Key) := by
    funext s
    unfold slices_Compact_Key.l2 gl2
    simp only [e1]
    rfl
  unfold slices_Compact_Key gC
  rw [e2]
  congr 1
  cases loopO (gl2 (fun a b : index_Key => decide ((⟨a.f_Type, a.N, a.S⟩ : index_Key) = (⟨b.f_Type, b.N, b.S⟩ : index_Key))) (⟨0, 0, []⟩ : index_Key)) (x, 1) with
  | none => rfl
  | some b => cases b <;> rfl
def ascL (l : List (List UInt8)) : List (List UInt8) := dd (l.mergeSort fun a b => decide (a ≤ b))
theorem ascL_mem (l : List (List UInt8)) (x : List UInt8) : x ∈ ascL l ↔ x ∈ l := by
  unfold ascL
  rw [dd_mem, (List.mergeSort_perm l _).mem_iff]
theorem ascL_length (l : List (List UInt8)) : (ascL l).length ≤ l.length := by
  unfold ascL
  refine Nat.le_trans (dd_length _) ?_
  rw [(List.mergeSort_perm l _).length_eq]
  exact Nat.le_refl _
theorem ascL_asc (l : List (List UInt8)) : Asc (ascL l) := by
  have tr : ∀ a b c : List UInt8, (decide (a ≤ b)) = true → (decide (b ≤ c)) = true → (decide (a ≤ c)) = true := fun a b c h1 h2 => by simp only [decide_eq_true_eq] at *; exact List.le_trans h1 h2
  have to : ∀ a b : List UInt8, ((decide (a ≤ b)) || (decide (b ≤ a))) = true := fun a b => by simp only [Bool.or_eq_true, decide_eq_true_eq]; exact List.le_total a b
  refine dd_srt (lt := fun a b => Op.bytesLess a b = true) (fun a b h1 h2 => bl_tri (by simpa using h1) (by simpa using h2)) ?_
  refine (List.pairwise_mergeSort tr to l).imp fun {a b} h => ?_
  rw [Go.Proofs.bytesLess_eq, decide_eq_true_eq]
  rw [decide_eq_true_eq] at h
  exact fun h' => absurd h (by simpa using h')
theorem ascending_eq {l : List (List UInt8)} (h : l.length * 16 ≤ 140737488355328) : index_ascending l = some (ascL l) := by
  unfold index_ascending
  rw [if_pos h]
  exact compactS_eq (by rw [(List.mergeSort_perm l _).length_eq]; omega)
theorem ascS_ext {l l' : List (List UInt8)} (h : Asc l) (h' : Asc l') (hm : ∀ x, x ∈ l ↔ x ∈ l') : l = l' :=
  srt_ext (lt := fun a b => Op.bytesLess a b = true) (fun a => by rw [bl_irrefl]; simp) (fun a b c h1 h2 => bl_trans h1 h2) h h' hm
end Go.Proofs.Ytpfgdjfiimknlaa
set_option linter.unusedVariables false
set_option linter.unusedSimpArgs false
set_option linter.unusedSectionVars false
namespace Go.Proofs.Ytpfgdjfiimknlaa
open Go Go.Proofs.YtpfgdjfiimknlaaL
theorem FieldOf_eq {n : Nat} {o : fold_Object} (h1 : o.Fields.length ≤ n) (h2 : ∀ y ∈ o.Fields, GF n y) (hn : n ≤ 1000000) (k : List UInt8) :
    fold_FieldOf o k = some ((get FN_ o.Fields k).getD { fold_zero with Name := k }) := by
  unfold fold_FieldOf
  have key : loopO (fold_FieldOf.l1 o k) (0, (⟨[], (⟨false, 0, 0, 0, 0, []⟩ : fold_Register), false, 0, 0, [], false⟩ : fold_Field)) = some (match get FN_ o.Fields k with | some y => .inr y | none => .inl ⟨[], ⟨false, 0, 0, 0, 0, []⟩, false, 0, 0, [], false⟩) := by
    have h1 := loopO_runL (step := fold_FieldOf.l1 o k) (fun i (z : fold_Field) => ((i : Int), z)) (fun _ y (z : fold_Field) => if y.Name = k then some (.inr (.inr y)) else some (.inl z)) (fun z => some (.inl z)) o.Fields (fun i hi z => ?_) (fun z => ?_) ⟨[], ⟨false, 0, 0, 0, 0, []⟩, false, 0, 0, [], false⟩
    · have h2 : ∀ (l : List fold_Field) (i : Nat) (z : fold_Field), runL (fun _ (y : fold_Field) (z : fold_Field) => if y.Name = k then some (.inr (.inr y : fold_Field ⊕ fold_Field)) else some (.inl z)) (fun z => some (.inl z)) i l z = some (match get FN_ l k with | some y => .inr y | none => .inl z) := by
        intro l
        induction l with
        | nil => intro i z; rfl
        | cons o l ih =>
          intro i z
          rw [runL, get_cons]
          by_cases he : o.Name = k
          · rw [if_pos he, if_pos he]
          · rw [if_neg he, if_neg he]
            exact ih _ z
      rw [← h2 o.Fields 0]
      exact h1
    · have hm := List.getElem_mem hi
      unfold fold_FieldOf.l1
      simp only [lt_of_len hi, if_true, idx_nat hi, Option.bind_some]
      by_cases he : o.Fields[i].Name = k
      · rw [if_pos (by simp [he]), if_pos he, clone_eq (by have := (h2 _ hm).len; omega)]
        rfl
      · rw [if_neg (by simpa using he), if_neg he, letV, wcast hi (by omega)]
    · unfold fold_FieldOf.l1
      simp only [not_lt_len, Bool.false_eq_true, if_false]
      rfl
  rw [key, Option.bind_some]
  cases get FN_ o.Fields k with
  | none => rfl
  | some o => rfl
structure GO (o : fold_Object) : Prop where
  len : o.Fields.length ≤ 100
  good : ∀ y ∈ o.Fields, GF 100 y
theorem GD.go {objs : List fold_Object} (h : GD 100 objs) : ∀ o ∈ objs, GO o := fun o ho => ⟨h.flen o ho, h.good o ho⟩
def fieldN (o : fold_Object) (k : List UInt8) : fold_Field := (get FN_ o.Fields k).getD { fold_zero with Name := k }
theorem fieldN_good {o : fold_Object} (g : GO o) (k : List UInt8) : Asc (fieldN o k).Elems ∧ (fieldN o k).Elems.length ≤ 100 := by
  unfold fieldN
  cases h : get FN_ o.Fields k with
  | none => exact ⟨List.Pairwise.nil, Nat.zero_le _⟩
  | some y =>
    have := g.good y (get_mem h)
    exact ⟨this.asc, this.len⟩
def keysF (f : schema_Field) (y : fold_Field) : List index_Key :=
  if f.Kind = 1 ∧ y.Register.Set = true ∧ f.f_Type = 1 then [⟨1, y.Register.N, []⟩]
  else if f.Kind = 1 ∧ y.Register.Set = true ∧ f.f_Type = 2 then [⟨2, 0, y.Register.S⟩]
  else if f.Kind = 4 then y.Elems.map fun s => ⟨2, 0, s⟩ else []
def keysOf (f : schema_Field) (o : fold_Object) : List index_Key := keysF f (fieldN o f.Name)
theorem keysF_srt {f : schema_Field} {y : fold_Field} (h : Asc y.Elems) : (keysF f y).Pairwise keyLt := by
  unfold keysF
  split
  · exact List.pairwise_singleton _ _
  · split
    · exact List.pairwise_singleton _ _
    · split
      · refine List.pairwise_map.2 (h.imp fun {a b} hab => ?_)
        exact .inr ⟨rfl, .inr ⟨rfl, hab⟩⟩
      · exact List.Pairwise.nil
theorem keysF_length {f : schema_Field} {y : fold_Field} (h : y.Elems.length ≤ 100) : (keysF f y).length ≤ 100 := by
  unfold keysF
  split
  · simp
  · split
    · simp
    · split
      · rw [List.length_map]; exact h
      · simp
theorem keysOf_srt {f : schema_Field} {o : fold_Object} (g : GO o) : (keysOf f o).Pairwise keyLt := keysF_srt (fieldN_good g f.Name).1
theorem keysOf_length {f : schema_Field} {o : fold_Object} (g : GO o) : (keysOf f o).length ≤ 100 := keysF_length (fieldN_good g f.Name).2
theorem keyLt_ne {a b : index_Key} (h : keyLt a b) : a ≠ b := fun e => keyLt_irrefl a (by rw [← e] at h; exact h)
theorem keyLt_asymm {a b : index_Key} (h : keyLt a b) : ¬ keyLt b a := fun k => keyLt_irrefl a (keyLt_trans h k)
theorem sortKeys_self {l : List index_Key} (h : l.Pairwise keyLt) (hl : l.length ≤ 1000000) : slices_SortFunc_Key l = some l := by
  unfold slices_SortFunc_Key sortU
  rw [if_pos ⟨h.imp fun {a b} hab => .inl (by rw [decide_eq_true_eq, keyCmp_lt]; exact hab), by omega⟩]
  congr 1
  refine List.mergeSort_of_pairwise (h.imp fun {a b} hab => ?_)
  have : ¬ keyCmp b a < 0 := by rw [keyCmp_lt]; exact keyLt_asymm hab
  simpa using this
theorem keys_j1 {l : List index_Key} (h : l.Pairwise keyLt) (hl : l.length ≤ 1000000) : index_Keys.j1 l = some l := by
  unfold index_Keys.j1
  rw [sortKeys_self h hl, Option.bind_some, compactK_eq (by omega), Option.bind_some, dd_self (h.imp fun {a b} hab => keyLt_ne hab)]
theorem index_Keys_eq {f : schema_Field} {o : fold_Object} (g : GO o) : index_Keys f o = some (keysOf f o) := by
  unfold index_Keys
  rw [FieldOf_eq g.len g.good (by decide), Option.bind_some]
  obtain ⟨h1, h2⟩ := fieldN_good g f.Name
  have hs : (keysOf f o).Pairwise keyLt := keysOf_srt g
  have hlen : (keysOf f o).length ≤ 100 := keysOf_length g
  unfold keysOf at hs hlen ⊢
  change (let y := fieldN o f.Name; _) = _
  obtain ⟨y, hy⟩ : ∃ y, y = fieldN o f.Name := ⟨_, rfl⟩
  have hy' : (get FN_ o.Fields f.Name).getD { fold_zero with Name := f.Name } = y := hy.symm
  rw [← hy] at h1 h2 hs hlen ⊢
  simp only [hy']
  have fin : ∀ l, l = keysF f y → index_Keys.j1 l = some (keysF f y) := fun l hl => by
    rw [hl]; exact keys_j1 hs (by omega)
  have loop : loopO (index_Keys.l1 y) ([], 0) = some (y.Elems.map fun s => (⟨2, 0, s⟩ : index_Key)) := by
    have := loopO_up (step := index_Keys.l1 y) (fun k => ((y.Elems.take k).map fun s => (⟨2, 0, s⟩ : index_Key), (k : Int))) y.Elems.length (b := y.Elems.map fun s => (⟨2, 0, s⟩ : index_Key)) (fun k hk => ?_) ?_
    · exact this
    · unfold index_Keys.l1
      simp only [lt_of_len hk, if_true, idx_nat hk, Option.bind_some]
      rw [app_of (by simp; omega), Option.bind_some, letV_of, wcast hk (by omega), take_snoc hk, List.map_append]
      rfl
    · unfold index_Keys.l1
      simp only [not_lt_len, Bool.false_eq_true, if_false, List.take_length]
  have hf2 : index_Keys.j2 f y false = some (if f.Kind = 4 then y.Elems.map fun s => (⟨2, 0, s⟩ : index_Key) else []) := by
    unfold index_Keys.j2
    rw [if_neg (by simp)]
    by_cases hk : f.Kind = 4
    · rw [if_pos (by simpa using hk), if_pos hk, loop, Option.bind_some]
      refine keys_j1 ?_ (by rw [List.length_map]; omega)
      exact List.pairwise_map.2 (h1.imp fun {a b} hab => .inr ⟨rfl, .inr ⟨rfl, hab⟩⟩)
    · rw [if_neg (by simpa using hk), if_neg hk]
      exact keys_j1 .nil (by simp)
  have hf3 : index_Keys.j3 f y false = some (if f.Kind = 1 ∧ y.Register.Set = true ∧ f.f_Type = 2 then [⟨2, 0, y.Register.S⟩] else if f.Kind = 4 then y.Elems.map fun s => (⟨2, 0, s⟩ : index_Key) else []) := by
    unfold index_Keys.j3
    rw [if_neg (by simp)]
    by_cases hk : f.Kind = 1
    · rw [if_pos (by simpa using hk)]
      cases hS : y.Register.Set with
      | false => rw [if_neg (by simp), hf2]; simp
      | true =>
        rw [if_pos rfl]
        by_cases ht : f.f_Type = 2
        · rw [if_pos ⟨hk, rfl, ht⟩]
          unfold index_Keys.j2
          rw [if_pos (by simpa using ht), app_of (by simp), Option.bind_some, ht]
          exact keys_j1 (List.pairwise_singleton _ _) (by simp)
        · rw [if_neg (fun h => ht h.2.2), show (f.f_Type == 2) = false by simpa using ht, hf2]
    · rw [if_neg (by simpa using hk), hf2]; simp [hk]
  unfold keysF
  by_cases hk : f.Kind = 1
  · rw [if_pos (by simpa using hk)]
    cases hS : y.Register.Set with
    | false => rw [if_neg (by simp), hf3]; simp [hS]
    | true =>
      rw [if_pos rfl]
      by_cases ht : f.f_Type = 1
      · rw [if_pos ⟨hk, rfl, ht⟩]
        unfold index_Keys.j3
        rw [if_pos (by simpa using ht), app_of (by simp), Option.bind_some, ht]
        exact keys_j1 (List.pairwise_singleton _ _) (by simp)
      · rw [if_neg (fun h => ht h.2.2), show (f.f_Type == 1) = false by simpa using ht, hf3, hS]
  · rw [if_neg (by simpa using hk), hf3]; simp [hk]
def kc (k : index_Key) : elasticstoreref32_Key := ⟨k.f_Type, k.N, k.S⟩
theorem kc_inj {a b : index_Key} (h : kc a = kc b) : a = b := by
  obtain ⟨t, n, s⟩ := a
  obtain ⟨t', n', s'⟩ := b
  unfold kc at h
  simp only [elasticstoreref32_Key.mk.injEq] at h
  obtain ⟨rfl, rfl, rfl⟩ := h
  rfl
def pairsOf (f : schema_Field) (objs : List fold_Object) : List index_pair := objs.flatMap fun o => (keysOf f o).map fun k => ⟨k, o.Name⟩
theorem pairsOf_mem {f : schema_Field} {objs : List fold_Object} {p : index_pair} : p ∈ pairsOf f objs ↔ ∃ o ∈ objs, o.Name = p.f_object ∧ p.f_key ∈ keysOf f o := by
  unfold pairsOf
  rw [List.mem_flatMap]
  constructor
  · rintro ⟨o, ho, hp⟩
    obtain ⟨k, hk, rfl⟩ := List.mem_map.1 hp
    exact ⟨o, ho, rfl, hk⟩
  · rintro ⟨o, ho, hn, hk⟩
    refine ⟨o, ho, List.mem_map.2 ⟨p.f_key, hk, ?_⟩⟩
    rw [hn]
theorem pairsOf_length {f : schema_Field} : ∀ {objs : List fold_Object}, (∀ o ∈ objs, GO o) → (pairsOf f objs).length ≤ 100 * objs.length
  | [], _ => Nat.zero_le _
  | o :: objs, h => by
    have h1 := keysOf_length (f := f) (h o (by simp))
    have h2 := pairsOf_length (f := f) (objs := objs) fun q hq => h q (by simp [hq])
    unfold pairsOf at h2 ⊢
    rw [List.flatMap_cons, List.length_append, List.length_map, List.length_cons]
    omega
theorem pairsOf_snoc (f : schema_Field) (objs : List fold_Object) (o : fold_Object) : pairsOf f (objs ++ [o]) = pairsOf f objs ++ (keysOf f o).map fun k => ⟨k, o.Name⟩ := by
  unfold pairsOf
  rw [List.flatMap_append, List.flatMap_cons, List.flatMap_nil, List.append_nil]
theorem pairs_eq {f : schema_Field} {objs : List fold_Object} (h : ∀ o ∈ objs, GO o) (hl : objs.length ≤ 1000) : index_pairs f objs = some (pairsOf f objs) := by
  unfold index_pairs
  have := loopO_up (step := index_pairs.l2 f objs) (fun k => (pairsOf f (objs.take k), (k : Int))) objs.length (b := pairsOf f objs) (fun k hk => ?_) ?_
  · have this : loopO (index_pairs.l2 f objs) ([], 0) = some (pairsOf f objs) := this
    rw [this]
    rfl
  · have hg := h _ (List.getElem_mem hk)
    have hkl := keysOf_length (f := f) hg
    have hpl : (pairsOf f (objs.take k)).length ≤ 100 * 1000 := by
      have := pairsOf_length (f := f) (objs := objs.take k) fun q hq => h q (List.mem_of_mem_take hq)
      rw [List.length_take] at this
      omega
    unfold index_pairs.l2
    simp only [lt_of_len hk, if_true, idx_nat hk, Option.bind_some]
    rw [index_Keys_eq hg, Option.bind_some]
    have inner := loopO_up (step := index_pairs.l1 objs[k] (keysOf f objs[k])) (fun j => (pairsOf f (objs.take k) ++ ((keysOf f objs[k]).take j).map fun q => ⟨q, objs[k].Name⟩, (j : Int))) (keysOf f objs[k]).length (b := pairsOf f (objs.take k) ++ (keysOf f objs[k]).map fun q => ⟨q, objs[k].Name⟩) (fun j hj => ?_) ?_
    · have inner : loopO (index_pairs.l1 objs[k] (keysOf f objs[k])) (pairsOf f (objs.take k) ++ [], 0) = _ := inner
      rw [List.append_nil] at inner
      rw [inner, Option.bind_some]
      unfold index_pairs.j2
      rw [letV_of, wcast hk (by omega), take_snoc hk, pairsOf_snoc]
    · unfold index_pairs.l1
      simp only [lt_of_len hj, if_true, idx_nat hj, Option.bind_some]
      rw [app_of (by simp only [List.length_append, List.length_map, List.length_take, List.length_singleton]; omega), Option.bind_some, letV_of, wcast hj (by omega), take_snoc hj, List.map_append, List.append_assoc]
      rfl
    · unfold index_pairs.l1
      simp only [not_lt_len, Bool.false_eq_true, if_false, List.take_length]
  · unfold index_pairs.l2
    simp only [not_lt_len, Bool.false_eq_true, if_false, List.take_length]
structure IsIx (P : index_Key → List UInt8 → Prop) (es : List index_Entry) : Prop where
  srt : es.Pairwise fun a b => keyLt a.Key b.Key
  asc : ∀ e ∈ es, Asc e.Objects
  ne : ∀ e ∈ es, e.Objects ≠ []
  mem : ∀ k s, (∃ e ∈ es, e.Key = k ∧ s ∈ e.Objects) ↔ P k s
theorem ix_key {es : List index_Entry} (h : es.Pairwise fun a b => keyLt a.Key b.Key) {a b : index_Entry} (ha : a ∈ es) (hb : b ∈ es) (e : a.Key = b.Key) : a = b := by
  induction es with
  | nil => simp at ha
  | cons c es ih =>
    have h1 := (List.pairwise_cons.1 h).1
    have h2 := (List.pairwise_cons.1 h).2
    rcases List.mem_cons.1 ha with p | p <;> rcases List.mem_cons.1 hb with q | q
    · rw [p, q]
    · rw [p] at e; exact absurd e (keyLt_ne (h1 b q))
    · rw [q] at e; exact absurd e.symm (keyLt_ne (h1 a p))
    · exact ih h2 p q
theorem IsIx.obj {P : index_Key → List UInt8 → Prop} {es : List index_Entry} (h : IsIx P es) {e : index_Entry} (he : e ∈ es) (s : List UInt8) : s ∈ e.Objects ↔ P e.Key s := by
  rw [← h.mem]
  constructor
  · exact fun hs => ⟨e, he, rfl, hs⟩
  · rintro ⟨e', he', hk, hs⟩
    rw [← ix_key h.srt he' he hk]
    exact hs
theorem IsIx.sub {P : index_Key → List UInt8 → Prop} {es es' : List index_Entry} (h : IsIx P es) (h' : IsIx P es') {e : index_Entry} (he : e ∈ es) : e ∈ es' := by
  obtain ⟨s, hs⟩ : ∃ s, s ∈ e.Objects := by
    cases ho : e.Objects with
    | nil => exact absurd ho (h.ne e he)
    | cons s l => exact ⟨s, by simp⟩
  obtain ⟨e', he', hk, _⟩ := (h'.mem e.Key s).2 ((h.obj he s).1 hs)
  have : e.Objects = e'.Objects := ascS_ext (h.asc e he) (h'.asc e' he') fun x => by rw [h.obj he, h'.obj he', hk]
  have e2 : e = e' := by
    obtain ⟨k, o⟩ := e
    obtain ⟨k', o'⟩ := e'
    simp only at this hk
    rw [this, hk]
  rw [e2]
  exact he'
theorem IsIx.uniq {P : index_Key → List UInt8 → Prop} {es es' : List index_Entry} (h : IsIx P es) (h' : IsIx P es') : es = es' :=
  srt_ext (lt := fun a b => keyLt a.Key b.Key) (fun _ => keyLt_irrefl _) (fun _ _ _ => keyLt_trans) h.srt h'.srt fun x => ⟨fun hx => h.sub h' hx, fun hx => h'.sub h hx⟩
theorem IsIx.congr {P Q : index_Key → List UInt8 → Prop} {es : List index_Entry} (h : IsIx P es) (hpq : ∀ k s, P k s ↔ Q k s) : IsIx Q es := ⟨h.srt, h.asc, h.ne, fun k s => by rw [h.mem, hpq]⟩
section
variable {κ β : Type} [BEq κ] [LawfulBEq κ]
theorem nodup_lookupK : ∀ {x : List (κ × β)}, (x.map (·.1)).Nodup → ∀ o ∈ x, x.lookup o.1 = some o.2
  | [], _, o, h => by simp at h
  | a :: x, hn, o, h => by
    rw [List.map_cons, List.nodup_cons] at hn
    rw [List.lookup_cons]
    rcases List.mem_cons.1 h with rfl | h
    · simp
    · have : (o.1 == a.1) = false := by
        rw [beq_eq_false_iff_ne]
        exact fun e => hn.1 (List.mem_map.2 ⟨o, h, e⟩)
      rw [this]
      exact nodup_lookupK hn.2 o h
theorem lookup_memK {x : List (κ × β)} {k : κ} {b : β} (h : x.lookup k = some b) : (k, b) ∈ x := by
  induction x with
  | nil => cases h
  | cons a x ih =>
    rw [List.lookup_cons] at h
    cases hk : k == a.1 with
    | true =>
      rw [hk] at h
      have e : k = a.1 := by simpa using hk
      have : a = (k, b) := by rw [e]; exact Prod.ext rfl (Option.some.inj h)
      rw [this]; simp
    | false => rw [hk] at h; exact List.mem_cons_of_mem _ (ih h)
end
structure Grp (l : List index_pair) (gs : List (index_Key × List index_pair)) : Prop where
  nd : (gs.map (·.1)).Nodup
  len : gs.length ≤ l.length
  at_ : ∀ k, gs.lookup k = if l.filter (fun p => decide (p.f_key = k)) = [] then none else some (l.filter fun p => decide (p.f_key = k))
theorem groupBy_ex {l : List index_pair} (hl : l.length ≤ 1000000000) : ∃ gs, index_groupBy l = some gs ∧ Grp l gs := by
  unfold index_groupBy
  refine loopO_inv (fun n s => s.1 = (n : Int) ∧ Grp (l.take n) s.2) l.length ⟨rfl, ⟨by simp, by simp, fun k => by simp⟩⟩ ?_ ?_
  · rintro n ⟨i, gs⟩ hn ⟨hi, g⟩
    simp only at hi g
    subst hi
    have glen := g.len
    rw [List.length_take] at glen
    unfold index_groupBy.l1
    simp only [lt_of_len hn, if_true, idx_nat hn, Option.bind_some]
    have e1 : index_pair_group l[n] = some l[n].f_key := rfl
    have hfl : ((gs.lookup l[n].f_key).getD []) = (l.take n).filter fun p => decide (p.f_key = l[n].f_key) := by
      rw [g.at_]
      split
      · rename_i h; rw [h]; rfl
      · rfl
    have hfl2 := List.length_filter_le (fun p => decide (p.f_key = l[n].f_key)) (l.take n)
    rw [List.length_take] at hfl2
    rw [e1, Option.bind_some, hfl, app_of (by rw [List.length_singleton]; omega), Option.bind_some, letV_of, wcast hn (by omega)]
    refine ⟨_, rfl, rfl, ?_⟩
    simp only
    refine ⟨(mset_keys _ _ _ g.nd).1, ?_, fun k => ?_⟩
    · have := mset_length l[n].f_key ((l.take n).filter (fun p => decide (p.f_key = l[n].f_key)) ++ [l[n]]) gs
      rw [List.length_take]
      omega
    · rw [mset_lookup, take_snoc hn, List.filter_append]
      by_cases hk : k = l[n].f_key
      · rw [if_pos (by simp [hk]), ← hk, if_neg]
        · congr 2
          rw [List.filter_cons, if_pos (by simp [hk])]
          rfl
        · rw [List.filter_cons, if_pos (by simp [hk])]
          simp
      · have e2 : [l[n]].filter (fun p => decide (p.f_key = k)) = [] := by
          rw [List.filter_cons, if_neg (by simpa using fun e => hk e.symm)]
          rfl
        rw [if_neg (by simpa using hk), g.at_, e2, List.append_nil]
  · rintro ⟨i, gs⟩ ⟨hi, g⟩
    simp only at hi g
    subst hi
    unfold index_groupBy.l1
    simp only [not_lt_len, Bool.false_eq_true, if_false]
    rw [List.take_length] at g
    exact ⟨gs, rfl, g⟩
def ent (p : index_Key × List index_pair) : index_Entry := ⟨p.1, ascL (p.2.map fun q => q.f_object)⟩
def srtE (es : List index_Entry) : List index_Entry := es.mergeSort fun a b => !decide (keyCmp b.Key a.Key < 0)
theorem objs_loop {g : List index_pair} (hl : g.length ≤ 1000000000) : loopO (index_collect.l1 g) (0, []) = some (g.map fun q => q.f_object) := by
  have := loopO_up (step := index_collect.l1 g) (fun k => ((k : Int), (g.take k).map fun q => q.f_object)) g.length (b := g.map fun q => q.f_object) (fun k hk => ?_) ?_
  · exact this
  · unfold index_collect.l1
    simp only [lt_of_len hk, if_true, idx_nat hk, Option.bind_some]
    rw [app_of (by simp only [List.length_map, List.length_take, List.length_singleton]; omega), Option.bind_some, letV_of, wcast hk (by omega), take_snoc hk, List.map_append]
    rfl
  · unfold index_collect.l1
    simp only [not_lt_len, Bool.false_eq_true, if_false, List.take_length]
theorem ents_fold : ∀ (t : List (index_Key × List index_pair)) (es : List index_Entry), (∀ p ∈ t, p.2.length ≤ 1000000000) → es.length + t.length ≤ 1000000000 →
    foldO (fun p : index_Key × (List index_pair) => index_collect.l2 p.1 p.2) t es = some (.inl (es ++ t.map ent))
  | [], es, _, _ => by rw [foldO, List.map_nil, List.append_nil]
  | p :: t, es, h, hl => by
    have hp := h p (by simp)
    rw [List.length_cons] at hl
    have step : index_collect.l2 p.1 p.2 es = some (.inl (es ++ [ent p])) := by
      unfold index_collect.l2 index_collect.j2
      rw [objs_loop hp, Option.bind_some, ascending_eq (by rw [List.length_map]; omega), Option.bind_some, app_of (by rw [List.length_singleton]; omega), Option.bind_some]
      rfl
    rw [foldO, step]
    have := ents_fold t (es ++ [ent p]) (fun q hq => h q (by simp [hq])) (by rw [List.length_append, List.length_singleton]; omega)
    simp only
    rw [this, List.map_cons, List.append_assoc]
    rfl
theorem srtE_perm (es : List index_Entry) : (srtE es).Perm es := List.mergeSort_perm _ _
theorem sortE_eq {es : List index_Entry} (h : (es.map (·.Key)).Nodup) (hl : es.length ≤ 1000000000) : slices_SortFunc_Entry es = some (srtE es) ∧ (srtE es).Pairwise fun a b => keyLt a.Key b.Key := by
  have hp : es.Pairwise fun a b => decide (keyCmp a.Key b.Key < 0) = true ∨ decide (keyCmp b.Key a.Key < 0) = true := by
    refine (List.pairwise_map.1 h).imp fun {a b} hab => ?_
    simp only [decide_eq_true_eq, keyCmp_lt]
    refine Classical.byContradiction fun hc => ?_
    rw [not_or] at hc
    exact hab (key_tri hc.1 hc.2)
  have e1 : slices_SortFunc_Entry es = some (srtE es) := by
    unfold slices_SortFunc_Entry sortU
    rw [if_pos ⟨hp, by omega⟩]
    rfl
  refine ⟨e1, ?_⟩
  have h1 := sortU_sorted (swo_keys fun e : index_Entry => e.Key) (xs := es) (ys := srtE es) e1
  have h2 := pairwise_perm (fun a b h => h.symm) (srtE_perm es).symm hp
  refine (h1.and h2).imp fun {a b} hab => ?_
  obtain ⟨a1, a2⟩ := hab
  simp only [decide_eq_true_eq, decide_eq_false_iff_not, keyCmp_lt] at a1 a2
  exact a2.resolve_right a1
theorem collect_eq {f : schema_Field} {l : List index_pair} (hl : l.length ≤ 1000000000) :
    ∃ es, index_collect f l = some ⟨f, es⟩ ∧ IsIx (fun k s => (⟨k, s⟩ : index_pair) ∈ l) es ∧ es.length ≤ l.length ∧ ∀ e ∈ es, e.Objects.length ≤ l.length := by
  obtain ⟨gs, e1, g⟩ := groupBy_ex hl
  have glen := g.len
  have gmem : ∀ p : index_Key × List index_pair, p ∈ gs → p.2 = (l.filter fun q => decide (q.f_key = p.1)) ∧ p.2 ≠ [] := by
    intro p hp
    have h1 := nodup_lookupK g.nd p hp
    rw [g.at_] at h1
    split at h1
    · cases h1
    · rename_i hne
      have := Option.some.inj h1
      exact ⟨this.symm, by rw [← this]; exact hne⟩
  have facts : ∀ t : List (index_Key × List index_pair), t.Perm gs → (foldO (fun p : index_Key × (List index_pair) => index_collect.l2 p.1 p.2) t []) = some (.inl (t.map ent)) ∧ slices_SortFunc_Entry (t.map ent) = some (srtE (t.map ent)) ∧ IsIx (fun k s => (⟨k, s⟩ : index_pair) ∈ l) (srtE (t.map ent)) := by
    intro t ht
    have tl : t.length ≤ 1000000000 := by rw [ht.length_eq]; omega
    have tm : ∀ p ∈ t, p.2.length ≤ l.length := fun p hp => by
      rw [(gmem p (ht.mem_iff.1 hp)).1]
      exact List.length_filter_le _ _
    have f1 := ents_fold t [] (fun p hp => Nat.le_trans (tm p hp) hl) (by simpa using tl)
    rw [List.nil_append] at f1
    have nd : ((t.map ent).map (·.Key)).Nodup := by
      rw [List.map_map]
      exact ((ht.map (·.1)).nodup_iff).2 g.nd
    obtain ⟨s1, s2⟩ := sortE_eq nd (by rw [List.length_map]; exact tl)
    refine ⟨f1, s1, s2, fun e he => ?_, fun e he => ?_, fun k s => ?_⟩
    · obtain ⟨p, _, rfl⟩ := List.mem_map.1 ((srtE_perm _).mem_iff.1 he)
      exact ascL_asc _
    · obtain ⟨p, hp, rfl⟩ := List.mem_map.1 ((srtE_perm _).mem_iff.1 he)
      obtain ⟨q, hq⟩ : ∃ q, q ∈ p.2 := by
        cases h2 : p.2 with
        | nil => exact absurd h2 (gmem p (ht.mem_iff.1 hp)).2
        | cons q _ => exact ⟨q, by simp⟩
      intro h0
      have : q.f_object ∈ (ent p).Objects := (ascL_mem _ _).2 (List.mem_map.2 ⟨q, hq, rfl⟩)
      rw [h0] at this
      simp at this
    · constructor
      · rintro ⟨e, he, hk, hs⟩
        obtain ⟨p, hp, rfl⟩ := List.mem_map.1 ((srtE_perm _).mem_iff.1 he)
        obtain ⟨q, hq, rfl⟩ := List.mem_map.1 ((ascL_mem _ _).1 hs)
        rw [(gmem p (ht.mem_iff.1 hp)).1, List.mem_filter] at hq
        have hk2 : q.f_key = p.1 := by simpa using hq.2
        have hk : p.1 = k := hk
        rw [← hk, ← hk2]
        exact hq.1
      · intro hm
        have hf : (⟨k, s⟩ : index_pair) ∈ l.filter fun q => decide (q.f_key = k) := List.mem_filter.2 ⟨hm, by simp⟩
        have hlk : gs.lookup k = some (l.filter fun q => decide (q.f_key = k)) := by
          rw [g.at_, if_neg]
          intro h0
          rw [h0] at hf
          simp at hf
        have hg := lookup_memK hlk
        refine ⟨ent (k, l.filter fun q => decide (q.f_key = k)), (srtE_perm _).mem_iff.2 (List.mem_map.2 ⟨_, ht.mem_iff.2 hg, rfl⟩), rfl, ?_⟩
        exact (ascL_mem _ _).2 (List.mem_map.2 ⟨_, hf, rfl⟩)
  obtain ⟨_, _, ix0⟩ := facts gs (.refl _)
  refine ⟨srtE (gs.map ent), ?_, ix0, ?_, fun e he => ?_⟩
  · unfold index_collect
    rw [e1, Option.bind_some]
    refine permI fun t ht => ?_
    obtain ⟨f1, f2, f3⟩ := facts t ht
    rw [f1, Option.bind_some]
    simp only
    unfold index_collect.j1
    rw [f2, Option.bind_some, f3.uniq ix0]
  · rw [(srtE_perm _).length_eq, List.length_map]
    exact glen
  · obtain ⟨p, hp, rfl⟩ := List.mem_map.1 ((srtE_perm _).mem_iff.1 he)
    refine Nat.le_trans (ascL_length _) ?_
    rw [List.length_map, (gmem p hp).1]
    exact List.length_filter_le _ _
def PB (f : schema_Field) (objs : List fold_Object) (k : index_Key) (s : List UInt8) : Prop := ∃ o ∈ objs, o.Name = s ∧ k ∈ keysOf f o
structure GX (P : index_Key → List UInt8 → Prop) (es : List index_Entry) : Prop where
  ix : IsIx P es
  len : es.length ≤ 10000
  olen : ∀ e ∈ es, e.Objects.length ≤ 10000
theorem Build_eq (f : schema_Field) {objs : List fold_Object} (h : ∀ o ∈ objs, GO o) (hl : objs.length ≤ 100) : ∃ es, index_Build f ⟨objs⟩ = some ⟨f, es⟩ ∧ GX (PB f objs) es := by
  have hpl := pairsOf_length (f := f) h
  obtain ⟨es, e1, e2, e3, e4⟩ := collect_eq (f := f) (l := pairsOf f objs) (by omega)
  refine ⟨es, ?_, e2.congr fun k s => pairsOf_mem, by omega, fun e he => by have := e4 e he; omega⟩
  unfold index_Build
  rw [pairs_eq h (by omega), Option.bind_some, e1, Option.bind_some]
theorem GX.uniq {P : index_Key → List UInt8 → Prop} {es es' : List index_Entry} (h : GX P es) (h' : GX P es') : es = es' := h.ix.uniq h'.ix
theorem Compare_eq (a b : index_Key) : index_Compare a b = some (keyCmp a b) := by
  unfold index_Compare
  rw [compare_eq, Option.bind_some, compare64_eq, Option.bind_some, compareS_eq, Option.bind_some, or_eq, Option.bind_some]
  rfl
theorem cmpI_swap (x y : Int) : cmpI y x = - cmpI x y := by
  unfold cmpI
  split <;> split <;> omega
theorem cmpS_swap (x y : List UInt8) : cmpS y x = - cmpS x y := by
  unfold cmpS
  cases h1 : Op.bytesLess x y with
  | true => rw [bl_asymm h1]; rfl
  | false => cases h2 : Op.bytesLess y x <;> rfl
theorem keyCmp_swap (a b : index_Key) : keyCmp b a = - keyCmp a b := by
  unfold keyCmp
  rw [cmpI_swap a.f_Type, cmpI_swap a.N, cmpS_swap a.S]
  by_cases h1 : cmpI a.f_Type b.f_Type = 0
  · by_cases h2 : cmpI a.N b.N = 0
    · simp [h1, h2]
    · simp [h1, h2]
  · simp [h1]
theorem keyCmp_gt (a b : index_Key) : 0 < keyCmp a b ↔ keyLt b a := by
  rw [← keyCmp_lt, keyCmp_swap b a]
  omega
theorem keyCmp_le (a b : index_Key) : keyCmp a b ≤ 0 ↔ ¬ keyLt b a := by
  rw [← keyCmp_gt]
  omega
theorem keyCmp_zero (a b : index_Key) : keyCmp a b = 0 ↔ a = b := by
  constructor
  · intro h
    refine key_tri ?_ ?_
    · rw [← keyCmp_lt]; omega
    · rw [← keyCmp_gt]; omega
  · rintro rfl
    have := keyCmp_swap a a
    omega
theorem keyCmp_vals (a b : index_Key) : keyCmp a b = -1 ∨ keyCmp a b = 0 ∨ keyCmp a b = 1 := by
  have hI : ∀ x y : Int, cmpI x y = -1 ∨ cmpI x y = 0 ∨ cmpI x y = 1 := fun x y => by
    unfold cmpI; split
    · exact .inl rfl
    · split
      · exact .inr (.inr rfl)
      · exact .inr (.inl rfl)
  unfold keyCmp
  split
  · exact hI _ _
  · split
    · exact hI _ _
    · unfold cmpS
      split
      · exact .inl rfl
      · split
        · exact .inr (.inr rfl)
        · exact .inr (.inl rfl)
theorem rCompare_eq (a b : index_Key) : esref32_Compare (kc a) (kc b) = some (keyCmp a b) := by
  have hj : ∀ c : Bool, (c = true ↔ keyLt a b) → esref32_Compare.j1 (kc a) (kc b) c = some (keyCmp a b) := by
    intro c hc
    unfold esref32_Compare.j1
    have hv := keyCmp_vals a b
    cases c with
    | true =>
      have := (keyCmp_lt a b).2 (hc.1 rfl)
      rw [if_pos rfl]
      congr 1
      omega
    | false =>
      have hn : ¬ keyCmp a b < 0 := fun h => by
        have := hc.2 ((keyCmp_lt a b).1 h)
        cases this
      rw [if_neg (by simp)]
      by_cases he : a = b
      · subst he
        rw [if_pos (by simp), (keyCmp_zero a a).2 rfl]
      · rw [if_neg (by
          rw [decide_eq_true_eq]
          exact fun h => he (kc_inj h))]
        have : keyCmp a b ≠ 0 := fun h => he ((keyCmp_zero a b).1 h)
        congr 1
        omega
  unfold esref32_Compare
  show (if decide (a.f_Type < b.f_Type) = true then esref32_Compare.j1 (kc a) (kc b) true else if (a.f_Type == b.f_Type) = true then (if decide (a.N < b.N) = true then esref32_Compare.j1 (kc a) (kc b) true else if (a.N == b.N) = true then esref32_Compare.j1 (kc a) (kc b) (Op.bytesLess a.S b.S) else esref32_Compare.j1 (kc a) (kc b) false) else esref32_Compare.j1 (kc a) (kc b) false) = _
  by_cases h1 : a.f_Type < b.f_Type
  · rw [if_pos (by simpa using h1)]
    exact hj true (by simp [keyLt, h1])
  · rw [if_neg (by simpa using h1)]
    by_cases h2 : a.f_Type = b.f_Type
    · rw [if_pos (by simpa using h2)]
      by_cases h3 : a.N < b.N
      · rw [if_pos (by simpa using h3)]
        exact hj true (by simp [keyLt, h2, h3])
      · rw [if_neg (by simpa using h3)]
        by_cases h4 : a.N = b.N
        · rw [if_pos (by simpa using h4)]
          exact hj _ (by simp [keyLt, h2, h4])
        · rw [if_neg (by simpa using h4)]
          exact hj false (by simp [keyLt, h2, h3, h4])
    · rw [if_neg (by simpa using h2)]
      exact hj false (by simp [keyLt, h1, h2])
structure RG (es : List index_Entry) (lo hi : index_Key) (r : List (List UInt8)) : Prop where
  asc : Asc r
  len : r.length ≤ 100000000
  mem : ∀ x, x ∈ r ↔ ∃ e ∈ es, ¬ keyLt e.Key lo ∧ ¬ keyLt hi e.Key ∧ x ∈ e.Objects
theorem RG.uniq {es : List index_Entry} {lo hi : index_Key} {r r' : List (List UInt8)} (h : RG es lo hi r) (h' : RG es lo hi r') : r = r' := ascS_ext h.asc h'.asc fun x => by rw [h.mem, h'.mem]
structure EB (es : List index_Entry) : Prop where
  len : es.length ≤ 10000
  olen : ∀ e ∈ es, e.Objects.length ≤ 10000
theorem GX.eb {P : index_Key → List UInt8 → Prop} {es : List index_Entry} (h : GX P es) : EB es := ⟨h.len, h.olen⟩
theorem Range_eq {f : schema_Field} {es : List index_Entry} (hb : EB es) (lo hi : index_Key) : ∃ r, index_Range ⟨f, es⟩ lo hi = some r ∧ RG es lo hi r := by
  unfold index_Range
  have hlen := hb.len
  have key : ∃ b : List (List UInt8), loopO (index_Range.l1 ⟨f, es⟩ lo hi) ([], 0) = some b ∧ b.length ≤ 100000000 ∧ ∀ x, x ∈ b ↔ ∃ e ∈ es, ¬ keyLt e.Key lo ∧ ¬ keyLt hi e.Key ∧ x ∈ e.Objects := by
    refine loopO_inv (fun n s => s.2 = (n : Int) ∧ s.1.length ≤ 10000 * n ∧ ∀ x, x ∈ s.1 ↔ ∃ e ∈ es.take n, ¬ keyLt e.Key lo ∧ ¬ keyLt hi e.Key ∧ x ∈ e.Objects) es.length ⟨rfl, Nat.le_refl _, by simp⟩ ?_ ?_
    · rintro n ⟨r, i⟩ hn ⟨hi', h1, h2⟩
      simp only at hi' h1 h2
      subst hi'
      have ho := hb.olen _ (List.getElem_mem hn)
      unfold index_Range.l1
      simp only [lt_of_len hn, if_true, idx_nat hn, Option.bind_some, Compare_eq]
      have tk : ∀ x, (∃ e ∈ es.take (n + 1), ¬ keyLt e.Key lo ∧ ¬ keyLt hi e.Key ∧ x ∈ e.Objects) ↔ (x ∈ r ∨ (¬ keyLt es[n].Key lo ∧ ¬ keyLt hi es[n].Key ∧ x ∈ es[n].Objects)) := by
        intro x
        rw [take_snoc hn, h2]
        constructor
        · rintro ⟨e, he, h⟩
          rcases List.mem_append.1 he with he | he
          · exact .inl ⟨e, he, h⟩
          · have : e = es[n] := by simpa using he
            rw [this] at h
            exact .inr h
        · rintro (⟨e, he, h⟩ | h)
          · exact ⟨e, List.mem_append.2 (.inl he), h⟩
          · exact ⟨es[n], List.mem_append.2 (.inr (by simp)), h⟩
      have skip : (¬ (¬ keyLt es[n].Key lo ∧ ¬ keyLt hi es[n].Key)) → ∃ s', index_Range.j3 r (n : Int) es[n] false = some (.inl s') ∧ s'.2 = ((n + 1 : Nat) : Int) ∧ s'.1.length ≤ 10000 * (n + 1) ∧ ∀ x, x ∈ s'.1 ↔ ∃ e ∈ es.take (n + 1), ¬ keyLt e.Key lo ∧ ¬ keyLt hi e.Key ∧ x ∈ e.Objects := by
        intro hc
        unfold index_Range.j3 index_Range.j2
        rw [if_neg (by simp), letV_of, wcast hn (by omega)]
        refine ⟨_, rfl, rfl, by simp only; omega, fun x => ?_⟩
        rw [tk]
        constructor
        · exact .inl
        · rintro (h | h)
          · exact h
          · exact absurd ⟨h.1, h.2.1⟩ hc
      by_cases c1 : keyLt es[n].Key lo
      · rw [if_neg (by rw [decide_eq_true_eq, keyCmp_le]; exact fun h => h c1)]
        exact skip fun h => h.1 c1
      · rw [if_pos (by rw [decide_eq_true_eq, keyCmp_le]; exact c1)]
        by_cases c2 : keyLt hi es[n].Key
        · rw [decide_eq_false (by rw [keyCmp_le]; exact fun h => h c2)]
          exact skip fun h => h.2 c2
        · rw [decide_eq_true (by rw [keyCmp_le]; exact c2)]
          unfold index_Range.j3 index_Range.j2
          rw [if_pos rfl, app_of (by omega), Option.bind_some, letV_of, wcast hn (by omega)]
          refine ⟨_, rfl, rfl, by simp only [List.length_append]; omega, fun x => ?_⟩
          rw [tk, List.mem_append]
          constructor
          · rintro (h | h)
            · exact .inl h
            · exact .inr ⟨c1, c2, h⟩
          · rintro (h | h)
            · exact .inl h
            · exact .inr h.2.2
    · rintro ⟨r, i⟩ ⟨hi', h1, h2⟩
      simp only at hi' h1 h2
      subst hi'
      unfold index_Range.l1
      simp only [not_lt_len, Bool.false_eq_true, if_false]
      rw [List.take_length] at h2
      exact ⟨r, rfl, by omega, h2⟩
  obtain ⟨b, b1, b2, b3⟩ := key
  rw [b1, Option.bind_some]
  unfold index_Range.j1
  rw [ascending_eq (by omega), Option.bind_some]
  exact ⟨_, rfl, ascL_asc b, by have := ascL_length b; omega, fun x => by rw [ascL_mem, b3]⟩
theorem Lookup_eq {f : schema_Field} {es : List index_Entry} (hb : EB es) (k : index_Key) : ∃ r, index_Lookup ⟨f, es⟩ k = some r ∧ RG es k k r := by
  unfold index_Lookup
  obtain ⟨r, h1, h2⟩ := Range_eq (f := f) hb k k
  rw [h1, Option.bind_some]
  exact ⟨r, rfl, h2⟩
theorem RG.look {es : List index_Entry} {k : index_Key} {r : List (List UInt8)} (h : RG es k k r) (x : List UInt8) : x ∈ r ↔ ∃ e ∈ es, e.Key = k ∧ x ∈ e.Objects := by
  rw [h.mem]
  constructor
  · rintro ⟨e, he, h1, h2, h3⟩
    exact ⟨e, he, key_tri h1 h2, h3⟩
  · rintro ⟨e, he, rfl, h3⟩
    exact ⟨e, he, keyLt_irrefl _, keyLt_irrefl _, h3⟩
abbrev wOwn : List UInt8 := [111, 119, 110, 101, 114]
abbrev wAnn : List UInt8 := [97, 110, 110]
abbrev wBob : List UInt8 := [98, 111, 98]
def wE (o s : List UInt8) : api_Effect := ⟨1, o, wOwn, 0, s⟩
def wFl (c : Int) (s : List UInt8) : fold_Field := ⟨wOwn, ⟨true, 0, c, 1, 0, s⟩, false, 0, 0, [], false⟩
def wT3 : List fold_Object := [⟨[97], [wFl 102 wAnn]⟩, ⟨[98], [wFl 101 wAnn]⟩, ⟨[99], [wFl 103 wBob]⟩]
def wX : List index_Entry := [⟨⟨2, 0, wAnn⟩, [[97], [98]]⟩, ⟨⟨2, 0, wBob⟩, [[99]]⟩]
def wF : schema_Field := ⟨wOwn, 1, 2, 0⟩
theorem wE_ef (c : Int) {o s : List UInt8} (h1 : o.length ≤ 1000) (h2 : s.length ≤ 1000) : ∀ e ∈ (⟨c, 1, 0, [wE o s]⟩ : api_Update).Effects, EF e := by
  intro e he
  have : e = wE o s := by simpa using he
  subst this
  exact ⟨h1, by show wOwn.length ≤ 1000; decide, h2⟩
theorem w_store : loopO eslaw32_awake.l1 (0, []) = some wT3 ∧ GD 100 wT3 := by
  obtain ⟨a1, g1⟩ := Apply_eq (n := 0) (t := ⟨[]⟩) (u := ⟨101, 1, 0, [wE [98] wAnn]⟩) (GD_nil 0) (wE_ef 101 (by decide) (by decide)) (by decide)
  obtain ⟨a2, g2⟩ := Apply_eq (t := ⟨appT ⟨101, 1, 0, [wE [98] wAnn]⟩ []⟩) (u := ⟨102, 1, 0, [wE [97] wAnn]⟩) g1 (wE_ef 102 (by decide) (by decide)) (by decide)
  obtain ⟨a3, g3⟩ := Apply_eq (t := ⟨appT ⟨102, 1, 0, [wE [97] wAnn]⟩ (appT ⟨101, 1, 0, [wE [98] wAnn]⟩ [])⟩) (u := ⟨103, 1, 0, [wE [99] wBob]⟩) g2 (wE_ef 103 (by decide) (by decide)) (by decide)
  have ew : appT ⟨103, 1, 0, [wE [99] wBob]⟩ (appT ⟨102, 1, 0, [wE [97] wAnn]⟩ (appT ⟨101, 1, 0, [wE [98] wAnn]⟩ [])) = wT3 := by decide
  have ew' : appT ⟨103, 1, 0, [wE [99] wBob]⟩ (⟨appT ⟨102, 1, 0, [wE [97] wAnn]⟩ (appT ⟨101, 1, 0, [wE [98] wAnn]⟩ [])⟩ : fold_Store).Objects = wT3 := ew
  rw [ew'] at a3 g3
  refine ⟨?_, g3.mono (by decide)⟩
  rw [loopO_next (s' := (1, appT ⟨101, 1, 0, [wE [98] wAnn]⟩ [])), loopO_next (s' := (2, appT ⟨102, 1, 0, [wE [97] wAnn]⟩ (appT ⟨101, 1, 0, [wE [98] wAnn]⟩ []))), loopO_next (s' := (3, wT3)), loopO_done (b := wT3)]
  · rfl
  · unfold eslaw32_awake.l1
    simp only
    rw [if_pos (by decide), show idx [([98] : List UInt8), ([97] : List UInt8), ([99] : List UInt8)] 2 = some [99] from rfl, Option.bind_some, letV_of, show IntKind.i64.wrap (101 + 2) = 103 from rfl, show idx [([97, 110, 110] : List UInt8), ([97, 110, 110] : List UInt8), ([98, 111, 98] : List UInt8)] 2 = some wBob from rfl, Option.bind_some]
    show (fold_Apply ⟨appT ⟨102, 1, 0, [wE [97] wAnn]⟩ (appT ⟨101, 1, 0, [wE [98] wAnn]⟩ [])⟩ ⟨103, 1, 0, [wE [99] wBob]⟩).bind _ = _
    rw [a3]
    rfl
  · unfold eslaw32_awake.l1
    simp only
    rw [if_pos (by decide), show idx [([98] : List UInt8), ([97] : List UInt8), ([99] : List UInt8)] 1 = some [97] from rfl, Option.bind_some, letV_of, show IntKind.i64.wrap (101 + 1) = 102 from rfl, show idx [([97, 110, 110] : List UInt8), ([97, 110, 110] : List UInt8), ([98, 111, 98] : List UInt8)] 1 = some wAnn from rfl, Option.bind_some]
    show (fold_Apply ⟨appT ⟨101, 1, 0, [wE [98] wAnn]⟩ []⟩ ⟨102, 1, 0, [wE [97] wAnn]⟩).bind _ = _
    rw [a2]
    rfl
  · unfold eslaw32_awake.l1
    simp only
    rw [if_pos (by decide), show idx [([98] : List UInt8), ([97] : List UInt8), ([99] : List UInt8)] 0 = some [98] from rfl, Option.bind_some, letV_of, show IntKind.i64.wrap (101 + 0) = 101 from rfl, show idx [([97, 110, 110] : List UInt8), ([97, 110, 110] : List UInt8), ([98, 111, 98] : List UInt8)] 0 = some wAnn from rfl, Option.bind_some]
    show (fold_Apply ⟨[]⟩ ⟨101, 1, 0, [wE [98] wAnn]⟩).bind _ = _
    rw [a1]
    rfl
theorem wk1 : keysOf wF ⟨[97], [wFl 102 wAnn]⟩ = [⟨2, 0, wAnn⟩] := by decide
theorem wk2 : keysOf wF ⟨[98], [wFl 101 wAnn]⟩ = [⟨2, 0, wAnn⟩] := by decide
theorem wk3 : keysOf wF ⟨[99], [wFl 103 wBob]⟩ = [⟨2, 0, wBob⟩] := by decide
theorem wX_ix : IsIx (PB wF wT3) wX := by
  refine ⟨?_, ?_, ?_, fun k s => ?_⟩
  · unfold wX
    refine List.pairwise_cons.2 ⟨fun b hb => ?_, List.pairwise_singleton _ _⟩
    have : b = ⟨⟨2, 0, wBob⟩, [[99]]⟩ := by simpa using hb
    subst this
    exact .inr ⟨rfl, .inr ⟨rfl, by decide⟩⟩
  · intro e he
    have : e = ⟨⟨2, 0, wAnn⟩, [[97], [98]]⟩ ∨ e = ⟨⟨2, 0, wBob⟩, [[99]]⟩ := by simpa [wX] using he
    rcases this with rfl | rfl
    · show List.Pairwise _ _
      refine List.pairwise_cons.2 ⟨fun b hb => ?_, List.pairwise_singleton _ _⟩
      have : b = [98] := by simpa using hb
      subst this
      decide
    · exact List.pairwise_singleton _ _
  · intro e he
    have : e = ⟨⟨2, 0, wAnn⟩, [[97], [98]]⟩ ∨ e = ⟨⟨2, 0, wBob⟩, [[99]]⟩ := by simpa [wX] using he
    rcases this with rfl | rfl <;> simp
  · constructor
    · rintro ⟨e, he, rfl, hs⟩
      have : e = ⟨⟨2, 0, wAnn⟩, [[97], [98]]⟩ ∨ e = ⟨⟨2, 0, wBob⟩, [[99]]⟩ := by simpa [wX] using he
      rcases this with rfl | rfl
      · have : s = [97] ∨ s = [98] := by simpa using hs
        rcases this with rfl | rfl
        · exact ⟨⟨[97], [wFl 102 wAnn]⟩, by simp [wT3], rfl, by rw [wk1]; simp⟩
        · exact ⟨⟨[98], [wFl 101 wAnn]⟩, by simp [wT3], rfl, by rw [wk2]; simp⟩
      · have : s = [99] := by simpa using hs
        subst this
        exact ⟨⟨[99], [wFl 103 wBob]⟩, by simp [wT3], rfl, by rw [wk3]; simp⟩
    · rintro ⟨o, ho, rfl, hk⟩
      have : o = ⟨[97], [wFl 102 wAnn]⟩ ∨ o = ⟨[98], [wFl 101 wAnn]⟩ ∨ o = ⟨[99], [wFl 103 wBob]⟩ := by simpa [wT3] using ho
      rcases this with rfl | rfl | rfl
      · rw [wk1] at hk
        have : k = ⟨2, 0, wAnn⟩ := by simpa using hk
        subst this
        exact ⟨⟨⟨2, 0, wAnn⟩, [[97], [98]]⟩, by simp [wX], rfl, by simp⟩
      · rw [wk2] at hk
        have : k = ⟨2, 0, wAnn⟩ := by simpa using hk
        subst this
        exact ⟨⟨⟨2, 0, wAnn⟩, [[97], [98]]⟩, by simp [wX], rfl, by simp⟩
      · rw [wk3] at hk
        have : k = ⟨2, 0, wBob⟩ := by simpa using hk
        subst this
        exact ⟨⟨⟨2, 0, wBob⟩, [[99]]⟩, by simp [wX], rfl, by simp⟩
theorem wX_mem {e : index_Entry} : e ∈ wX ↔ e = ⟨⟨2, 0, wAnn⟩, [[97], [98]]⟩ ∨ e = ⟨⟨2, 0, wBob⟩, [[99]]⟩ := by simp [wX]
theorem awake_true : eslaw32_awake = some true := by
  unfold eslaw32_awake
  obtain ⟨e1, g⟩ := w_store
  obtain ⟨es, e2, x2⟩ := Build_eq wF (objs := wT3) g.go (by decide)
  have : es = wX := x2.ix.uniq wX_ix
  subst this
  have e2 : index_Build (⟨([111, 119, 110, 101, 114] : List UInt8), 1, 2, 0⟩ : schema_Field) (⟨wT3⟩ : fold_Store) = some ⟨wF, wX⟩ := e2
  rw [e1, Option.bind_some]
  unfold eslaw32_awake.j2
  rw [e2, Option.bind_some]
  obtain ⟨r1, e3, x3⟩ := Lookup_eq (f := wF) x2.eb ⟨2, 0, wAnn⟩
  have h1 : r1 = [[97], [98]] := by
    refine ascS_ext x3.asc (List.pairwise_cons.2 ⟨fun b hb => ?_, List.pairwise_singleton _ _⟩) fun x => ?_
    · have : b = [98] := by simpa using hb
      subst this
      decide
    · rw [x3.look]
      constructor
      · rintro ⟨e, he, hk, hx⟩
        rcases wX_mem.1 he with rfl | rfl
        · exact hx
        · exact absurd hk (by decide)
      · exact fun hx => ⟨_, wX_mem.2 (.inl rfl), rfl, hx⟩
  subst h1
  have e3 : index_Lookup ⟨wF, wX⟩ (⟨2, 0, ([97, 110, 110] : List UInt8)⟩ : index_Key) = some [[97], [98]] := e3
  rw [e3, Option.bind_some]
  obtain ⟨r2, e4, x4⟩ := Range_eq (f := wF) x2.eb ⟨2, 0, [98]⟩ ⟨2, 0, [99]⟩
  have kl : ∀ a b : List UInt8, keyLt ⟨2, 0, a⟩ ⟨2, 0, b⟩ ↔ Op.bytesLess a b = true := fun a b => by simp [keyLt]
  have h2 : r2 = [[99]] := by
    refine ascS_ext x4.asc (List.pairwise_singleton _ _) fun x => ?_
    rw [x4.mem]
    constructor
    · rintro ⟨e, he, h1, h2, hx⟩
      rcases wX_mem.1 he with rfl | rfl
      · exact absurd ((kl wAnn [98]).2 (by decide)) h1
      · exact hx
    · exact fun hx => ⟨_, wX_mem.2 (.inr rfl), fun h => absurd ((kl wBob [98]).1 h) (by decide), fun h => absurd ((kl [99] wBob).1 h) (by decide), hx⟩
  subst h2
  rw [e4, Option.bind_some]
  obtain ⟨r3, e5, x5⟩ := Lookup_eq (f := wF) x2.eb ⟨0, 0, []⟩
  have h3 : r3 = [] := by
    refine ascS_ext x5.asc .nil fun x => ?_
    rw [x5.look]
    constructor
    · rintro ⟨e, he, hk, hx⟩
      rcases wX_mem.1 he with rfl | rfl
      · exact absurd hk (by decide)
      · exact absurd hk (by decide)
    · intro hx
      simp at hx
  subst h3
  rw [if_pos (by decide), if_pos (by decide), show idx [([97] : List UInt8), [98]] 0 = some [97] from rfl, Option.bind_some, if_pos (by decide), show idx [([97] : List UInt8), [98]] 1 = some [98] from rfl, Option.bind_some, if_pos (by decide), if_pos (by decide), show idx [([99] : List UInt8)] 0 = some [99] from rfl, Option.bind_some, if_pos (by decide), e5, Option.bind_some]
  rfl
end Go.Proofs.Ytpfgdjfiimknlaa
set_option linter.unusedVariables false
set_option linter.unusedSimpArgs false
namespace Go.Proofs.Ytpfgdjfiimknlaa
open Go Go.Proofs.YtpfgdjfiimknlaaL
theorem indexOrder_true (x1 x5 x9 : index_Key) : eslaw32_IndexOrder x1 x5 x9 = some true := by
  unfold eslaw32_IndexOrder
  obtain ⟨l, hl⟩ : ∃ l, l = [(⟨x1, x5⟩ : Anon24), (⟨x5, x9⟩ : Anon24), (⟨x1, x1⟩ : Anon24), (⟨(⟨x1.f_Type, x1.N, x5.S⟩ : index_Key), x1⟩ : Anon24), (⟨(⟨x1.f_Type, x5.N, []⟩ : index_Key), (⟨x1.f_Type, x1.N, []⟩ : index_Key)⟩ : Anon24)] := ⟨_, rfl⟩
  have hlen : l.length = 5 := by rw [hl]; rfl
  have cv : ∀ k, eslaw32_convert k = some (kc k) := fun _ => rfl
  have key : loopO (eslaw32_IndexOrder.l1 x1 x5 x9) ((0 : Nat) : Int) = some (.inl ()) := by
    refine loopO_up (fun k => (k : Int)) l.length (fun k hk => ?_) ?_
    · unfold eslaw32_IndexOrder.l1
      rw [← hl]
      simp only [lt_of_len hk, if_true, idx_nat hk, Option.bind_some]
      obtain ⟨p, hp⟩ : ∃ p, p = l[k] := ⟨_, rfl⟩
      rw [← hp]
      have hv := keyCmp_vals p.E1 p.E0
      rw [Compare_eq, Option.bind_some, cv, Option.bind_some, cv, Option.bind_some, rCompare_eq, Option.bind_some, if_neg (by simp), Option.bind_some, Compare_eq, Option.bind_some]
      have e1 : IntKind.i64.wrap (0 - keyCmp p.E1 p.E0) = keyCmp p.E0 p.E1 := by
        rw [w64 (by omega) (by omega), keyCmp_swap p.E1 p.E0]
        omega
      rw [e1, bne_self_eq_false]
      unfold eslaw32_IndexOrder.j3
      rw [if_neg (by simp), letV_of, wcast hk (by omega)]
    · unfold eslaw32_IndexOrder.l1
      rw [← hl]
      simp only [not_lt_len, Bool.false_eq_true, if_false]
  have key : loopO (eslaw32_IndexOrder.l1 x1 x5 x9) 0 = some (.inl ()) := key
  rw [key, Option.bind_some]
  show eslaw32_IndexOrder.j2 x1 x5 x9 = _
  unfold eslaw32_IndexOrder.j2 eslaw32_IndexOrder.j1
  rw [Compare_eq, Option.bind_some, awake_true]
  split
  · rfl
  · rename_i h1
    rw [Compare_eq, Option.bind_some]
    split
    · rfl
    · rename_i h2
      rw [Compare_eq, Option.bind_some, if_pos]
      · rfl
      · rw [decide_eq_true_eq, keyCmp_gt] at h1 h2
        rw [decide_eq_true_eq, keyCmp_le]
        intro h3
        -- x9 < x1, not x5 < x1, not x9 < x5
        by_cases h4 : keyLt x1 x5
        · exact h2 (keyLt_trans h3 h4)
        · have : x5 = x1 := key_tri h1 h4
          rw [this] at h2
          exact h2 h3
end Go.Proofs.Ytpfgdjfiimknlaa
