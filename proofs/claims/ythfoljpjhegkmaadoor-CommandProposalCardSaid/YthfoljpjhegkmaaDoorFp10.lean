import Derived.Test.YthfoljpjhegkmaaDoorFh
import Derived.Test.YthfoljpjhegkmaaDoorFp8
import Derived.Test.YthfoljpjhegkmaaDoorFp9
set_option linter.unusedVariables false
set_option linter.unusedSimpArgs false
namespace Go.Proofs.YthfoljpjhegkmaaDoor
open Go Go.RowKit Go.Proofs.YthfoljpjhegkmaaDoorL
set_option maxRecDepth 100000
set_option maxHeartbeats 4000000
/-! elasticstore/elasticstoreref10.Of: function 22 -/
theorem esref10_Of.calls {ok : Nat → Prop} {w0 : World} {x1 : api_Proposal} {v2 : Value} {r : api_Summary} (hf : esref10_Of x1 = some r) (i0 : (vl t_api_Proposal x1 v2).holds ok w0) :
    Calls Tryd.prog 22 #[v2] w0 fun e w' => ∃ v, e = .returned v ∧ ∃ y : List Value, v = .agg y.toArray ∧ St ok (bz w0) w' [vl t_api_Summary r (.agg y.toArray)] [] := by
  unfold esref10_Of at hf
  refine calls_of_W (fn := Tryd.f22) (N := 82) Tryd.func22 rfl Tryd.ntmps22 rfl ?_
  have hs : St ok (bz w0) w0 [vl t_api_Proposal x1 v2] [] := St.init (All.cons i0 All.nil)
  clear i0
  obtain ⟨cs3, hl4, rfl⟩ := hs.aggv (n := 3) 0 rfl rfl rfl
  refine W.seqK fun K5 hK5 => ?_
  refine W.region ?_
  refine WL.box (vs := cs3) hs rfl rfl (fun g6 w hs => ?_)
  refine WL.alloc hs ZV36 (fun g7 w hs => ?_)
  refine WL.nil ?_
  refine hK5 _ _ ?_
  refine W.seqK fun K8 hK8 => ?_
  refine W.region ?_
  refine WL.build (vs := []) (cs := [.slice none 0 0, .slice none 0 0, .slice none 0 0, .int .i64 0, .int .i64 0, .int .i64 0, .int .i64 0, .int .i64 0, .int .i64 0]) trivial (bld PL36 rfl) ?_
  refine WL.alloc hs ZV36 (fun g9 w hs => ?_)
  refine WL.storeAll (vs := [.slice none 0 0, .slice none 0 0, .slice none 0 0, .int .i64 0, .int .i64 0, .int .i64 0, .int .i64 0, .int .i64 0, .int .i64 0]) hs 0 rfl TI36 rfl rfl rfl rfl (ones_of rfl) rfl (fun w hs => ?_)
  refine WL.nil ?_
  refine hK8 _ _ ?_
  refine W.seqK fun K10 hK10 => ?_
  have Jk15 : ∀ (x12 : api_Summary) (cs13 : List Value) (ρ : Env) (w : World), cs13.length = 9 → ρ 2 = .pointer (some ⟨g7, 0, none⟩) → ρ 3 = .pointer (some ⟨g9, 0, none⟩) → St ok (bz w0) w [vl t_api_Summary x12 (.agg cs13.toArray)] [blk g9 36 cs13, blk g7 36 [.slice none 0 0, .slice none 0 0, .slice none 0 0, .int .i64 0, .int .i64 0, .int .i64 0, .int .i64 0, .int .i64 0, .int .i64 0]] → esref10_Of.j1 x12 = some r → K10 ρ w := by
    intro x12 cs13 ρ w hl14 h11_2 h11_3 hs hf
    refine hK10 _ _ ?_
    unfold esref10_Of.j1 at hf
    refine W.seqK fun K16 hK16 => ?_
    refine W.region ?_
    refine WL.loadAll hs 0 rfl TI36 h11_3 hl14 ?_
    refine WL.storeAll (vs := cs13) hs 1 rfl TI36 h11_2 rfl rfl hl14 (hs.ones 0 rfl rfl) rfl (fun w hs => ?_)
    refine WL.nil ?_
    refine hK16 _ _ ?_
    refine W.ret ?_
    have hr := Option.some.inj hf; subst hr
    exact ⟨_, resOk_one rfl (res_all hs 1 rfl TI36 h11_2 hl14), cs13, rfl, (hs.mask []).pick [0]⟩
  refine W.seqK fun K17 hK17 => ?_
  refine W.region ?_
  refine WL.assign (v := .int .i64 0) rfl ?_
  refine WL.nil ?_
  refine hK17 _ _ ?_
  refine W.block ?_
  obtain ⟨bs23, hbs23, hfs23⟩ := bindE hf
  have hs := hs.add (it := vl t_api_Summary (⟨[], [], [], (⟨0, 0, 0⟩ : api_Rule), 0, 0, 0⟩ : api_Summary) (.agg [.slice none 0 0, .slice none 0 0, .slice none 0 0, .int .i64 0, .int .i64 0, .int .i64 0, .int .i64 0, .int .i64 0, .int .i64 0].toArray)) fun ok hA => V_agg (show t_api_Summary.R ok _ _ _ from ⟨[.slice none 0 0], [.slice none 0 0, .slice none 0 0, .int .i64 0, .int .i64 0, .int .i64 0, .int .i64 0, .int .i64 0, .int .i64 0], rfl, R_nil, ⟨[.slice none 0 0], [.slice none 0 0, .int .i64 0, .int .i64 0, .int .i64 0, .int .i64 0, .int .i64 0, .int .i64 0], rfl, R_nil, ⟨[.slice none 0 0], [.int .i64 0, .int .i64 0, .int .i64 0, .int .i64 0, .int .i64 0, .int .i64 0], rfl, R_nil, ⟨[.int .i64 0, .int .i64 0, .int .i64 0], [.int .i64 0, .int .i64 0, .int .i64 0], rfl, ⟨[.int .i64 0], [.int .i64 0, .int .i64 0], rfl, rfl, ⟨[.int .i64 0], [.int .i64 0], rfl, rfl, rfl⟩⟩, ⟨[.int .i64 0], [.int .i64 0, .int .i64 0], rfl, rfl, ⟨[.int .i64 0], [.int .i64 0], rfl, rfl, rfl⟩⟩⟩⟩⟩⟩) rfl
  have hs := hs.add (it := vl t_api_Summary (⟨[], [], [], (⟨0, 0, 0⟩ : api_Rule), 0, 0, 0⟩ : api_Summary) (.agg [.slice none 0 0, .slice none 0 0, .slice none 0 0, .int .i64 0, .int .i64 0, .int .i64 0, .int .i64 0, .int .i64 0, .int .i64 0].toArray)) fun ok hA => V_agg (show t_api_Summary.R ok _ _ _ from ⟨[.slice none 0 0], [.slice none 0 0, .slice none 0 0, .int .i64 0, .int .i64 0, .int .i64 0, .int .i64 0, .int .i64 0, .int .i64 0], rfl, R_nil, ⟨[.slice none 0 0], [.slice none 0 0, .int .i64 0, .int .i64 0, .int .i64 0, .int .i64 0, .int .i64 0, .int .i64 0], rfl, R_nil, ⟨[.slice none 0 0], [.int .i64 0, .int .i64 0, .int .i64 0, .int .i64 0, .int .i64 0, .int .i64 0], rfl, R_nil, ⟨[.int .i64 0, .int .i64 0, .int .i64 0], [.int .i64 0, .int .i64 0, .int .i64 0], rfl, ⟨[.int .i64 0], [.int .i64 0, .int .i64 0], rfl, rfl, ⟨[.int .i64 0], [.int .i64 0], rfl, rfl, rfl⟩⟩, ⟨[.int .i64 0], [.int .i64 0, .int .i64 0], rfl, rfl, ⟨[.int .i64 0], [.int .i64 0], rfl, rfl, rfl⟩⟩⟩⟩⟩⟩) rfl
  refine W.loop hbs23 (fun s ρ w => match s with | (x19, x20) => ∃ (cs21 : List Value), cs21.length = 9 ∧ ρ 1 = .pointer (some ⟨g6, 0, none⟩) ∧ ρ 2 = .pointer (some ⟨g7, 0, none⟩) ∧ ρ 3 = .pointer (some ⟨g9, 0, none⟩) ∧ ρ 4 = .int .i64 x19 ∧ St ok (bz w0) w [vl t_api_Summary x20 (.agg cs21.toArray), vl t_api_Proposal x1 (.agg cs3.toArray)] [blk g9 36 cs21, blk g7 36 [.slice none 0 0, .slice none 0 0, .slice none 0 0, .int .i64 0, .int .i64 0, .int .i64 0, .int .i64 0, .int .i64 0, .int .i64 0], blk g6 54 cs3]) ⟨[.slice none 0 0, .slice none 0 0, .slice none 0 0, .int .i64 0, .int .i64 0, .int .i64 0, .int .i64 0, .int .i64 0, .int .i64 0], rfl, rfl, rfl, rfl, rfl, (hs.mask [true, true, true]).pick [0, 2]⟩ ?_
  intro s ρ w os23 hI hf hbbs23
  obtain ⟨x19, x20⟩ := s
  obtain ⟨cs21, hl22, h18_1, h18_2, h18_3, h18_4, hs⟩ := hI
  unfold esref10_Of.l1 at hf
  refine W.seqK fun K24 hK24 => ?_
  refine W.seqK fun K25 hK25 => ?_
  refine W.region ?_
  refine WL.move (v := .int .i64 x19) h18_4 ?_
  refine WL.fieldAddr (m := 2) h18_1 FA54_2 rfl ?_
  refine WL.loadF (z := x1.Changes) F_api_Proposal_Changes hs 2 rfl 1 rfl rfl TI38 (.inr rfl) rfl rfl (fun v26 hs => ?_)
  obtain ⟨a27, c28, rfl⟩ := hs.slice 0 rfl
  refine WL.len (v := .slice a27 (x1.Changes).length c28) rfl (len_slice UN38) ?_
  refine WL.bin (v := .bool (decide (x19 < ((x1.Changes).length : Int)))) rfl rfl (ib_lss _ _ _) ?_
  refine WL.nil ?_
  refine hK25 _ _ ?_
  rcases iteE hf with ⟨hc29, hf⟩ | ⟨hc29, hf⟩
  {
  refine W.cond_true (bool_tr rfl hc29) ?_
  refine W.skip ?_
  refine hK24 _ _ ?_
  refine W.seqK fun K30 hK30 => ?_
  have Jk35 : ∀ (x32 : api_Summary) (cs33 : List Value) (ρ : Env) (w : World), cs33.length = 9 → ρ 1 = .pointer (some ⟨g6, 0, none⟩) → ρ 2 = .pointer (some ⟨g7, 0, none⟩) → ρ 3 = .pointer (some ⟨g9, 0, none⟩) → ρ 4 = .int .i64 x19 → St ok (bz w0) w [vl t_api_Summary x32 (.agg cs33.toArray), vl t_api_Proposal x1 (.agg cs3.toArray)] [blk g9 36 cs33, blk g7 36 [.slice none 0 0, .slice none 0 0, .slice none 0 0, .int .i64 0, .int .i64 0, .int .i64 0, .int .i64 0, .int .i64 0, .int .i64 0], blk g6 54 cs3] → esref10_Of.j2 x19 x32 = some os23 → K30 ρ w := by
    intro x32 cs33 ρ w hl34 h31_1 h31_2 h31_3 h31_4 hs hf
    refine hK30 _ _ ?_
    unfold esref10_Of.j2 at hf
    refine W.region ?_
    refine WL.move (v := .int .i64 x19) h31_4 ?_
    obtain ⟨x36, ex36, hf⟩ := letE hf
    refine WL.bin (v := .int .i64 x36) rfl rfl (ib_as ex36 (ib_add _ _ _)) ?_
    refine WL.assign (v := .int .i64 x36) rfl ?_
    refine WL.nil ?_
    exact ⟨_, (Option.some.inj hf).symm, cs33, hl34, h31_1, h31_2, h31_3, rfl, (hs.mask [true, true, true]).pick [0, 1]⟩
  refine W.block ?_
  refine W.seqK fun K37 hK37 => ?_
  refine W.region ?_
  refine WL.fieldAddr (m := 2) h18_1 FA54_2 rfl ?_
  refine WL.loadF (z := x1.Changes) F_api_Proposal_Changes hs 2 rfl 2 rfl rfl TI38 (.inr rfl) rfl rfl (fun v38 hs => ?_)
  obtain ⟨a39, c40, rfl⟩ := hs.slice 0 rfl
  refine WL.move (v := .int .i64 x19) h18_4 ?_
  obtain ⟨x41, hxx41, hf⟩ := bindE hf
  refine WL.indexAddr hs 0 rfl UN38 TI26 rfl rfl hxx41 (fun ad42 hs => ?_)
  refine WL.loadP hs 0 rfl TI26 (.inl rfl) rfl (fun v43 hs => ?_)
  obtain ⟨cs44, hl45, rfl⟩ := hs.aggv (n := 7) 0 rfl rfl rfl
  refine WL.alloc hs ZV26 (fun g46 w hs => ?_)
  refine WL.storeAll (vs := cs44) hs 0 rfl TI26 rfl rfl rfl hl45 (hs.ones 0 rfl rfl) rfl (fun w hs => ?_)
  refine WL.nil ?_
  refine hK37 _ _ ?_
  refine W.seqK fun K47 hK47 => ?_
  refine W.region ?_
  refine WL.fieldAddr (m := 0) rfl FA26_0 rfl ?_
  refine WL.loadF (z := x41.Kind) F_api_Change_Kind hs 0 rfl 0 rfl rfl TI3 (.inr rfl) rfl rfl (fun v48 hs => ?_)
  obtain rfl := hs.int 0 rfl
  refine WL.nil ?_
  refine hK47 _ _ ?_
  refine W.block ?_
  refine W.seqK fun K49 hK49 => ?_
  refine W.region ?_
  refine WL.bin (v := .bool (x41.Kind == 1)) rfl rfl (ib_eql _ _ _) ?_
  refine WL.assign (v := .bool (x41.Kind == 1)) rfl ?_
  refine WL.nil ?_
  refine hK49 _ _ ?_
  rcases iteE hf with ⟨hc50, hf⟩ | ⟨hc50, hf⟩
  {
  refine W.cond_true (bool_tr rfl hc50) ?_
  refine W.seqK fun K51 hK51 => ?_
  refine W.region ?_
  refine WL.fieldAddr (m := 0) h18_3 FA36_0 rfl ?_
  refine WL.loadF (z := x20.Joined) F_api_Summary_Joined hs 1 rfl 5 rfl rfl TI33 (.inr rfl) rfl rfl (fun v52 hs => ?_)
  obtain ⟨a53, c54, rfl⟩ := hs.slice 0 rfl
  refine WL.fieldAddr (m := 1) rfl FA26_1 rfl ?_
  refine WL.loadF (z := x41.Server) F_api_Change_Server hs 0 rfl 2 rfl rfl TI3 (.inr rfl) rfl rfl (fun v55 hs => ?_)
  obtain rfl := hs.int 0 rfl
  obtain ⟨x56, hxx56, hf⟩ := bindE hf
  refine WL.call (vs := [.slice a53 (x20.Joined).length c54, .int .i64 x41.Server]) hs FN44 ⟨rfl, ⟨rfl, trivial⟩⟩ (fun ok hA => esref10_Insert.calls (x1 := x20.Joined) (x4 := x41.Server) hxx56 (hA.get 1 rfl)) ?_
  rintro ⟨a57, n58, c59⟩ w hs
  refine WL.fieldAddr (m := 0) h18_3 FA36_0 rfl ?_
  obtain ⟨a60, c61, a62, c63, a64, c65, rfl⟩ := open_api_Summary hs 7 rfl
  have hs := hs.add (it := vl (tSlice (tInt .i64)) x20.Joined (.slice a60 (x20.Joined).length c61)) fun ok hA => V_fld F_api_Summary_Joined (hA.get 7 rfl) rfl rfl rfl
  have hs := hs.add (it := vl (tSlice (tInt .i64)) x20.Removed (.slice a62 (x20.Removed).length c63)) fun ok hA => V_fld F_api_Summary_Removed (hA.get 8 rfl) rfl rfl rfl
  have hs := hs.add (it := vl (tSlice t_api_WeightEntry) x20.Weights (.slice a64 (x20.Weights).length c65)) fun ok hA => V_fld F_api_Summary_Weights (hA.get 9 rfl) rfl rfl rfl
  refine WL.store (vs := [.slice a57 n58 c59]) (cs' := [.slice a57 n58 c59, .slice a62 (x20.Removed).length c63, .slice a64 (x20.Weights).length c65, .int .i64 x20.Rule.Kind, .int .i64 x20.Rule.Columns, .int .i64 x20.Rule.Faulty, .int .i64 x20.Version, .int .i64 x20.Admin, .int .i64 x20.Number]) hs 2 rfl TI33 rfl rfl rfl rfl (ones_of rfl) (Nat.le_of_ble_eq_true rfl) rfl (fun w hs => ?_)
  refine WL.nil ?_
  refine hK51 _ _ ?_
  refine W.region ?_
  refine WL.fieldAddr (m := 2) h18_3 FA36_2 rfl ?_
  refine WL.load1 (v := .slice a64 (x20.Weights).length c65) hs 2 rfl TI34 rfl rfl ?_
  refine WL.fieldAddr (m := 1) rfl FA26_1 rfl ?_
  refine WL.loadF (z := x41.Server) F_api_Change_Server hs 1 rfl 6 rfl rfl TI3 (.inr rfl) rfl rfl (fun v66 hs => ?_)
  obtain rfl := hs.int 0 rfl
  refine WL.fieldAddr (m := 2) rfl FA26_2 rfl ?_
  refine WL.loadF (z := x41.Weight) F_api_Change_Weight hs 1 rfl 7 rfl rfl TI3 (.inr rfl) rfl rfl (fun v67 hs => ?_)
  obtain rfl := hs.int 0 rfl
  refine WL.fieldAddr (m := 0) h18_1 FA54_0 rfl ?_
  refine WL.loadF (z := x1.Admin) F_api_Proposal_Admin hs 4 rfl 13 rfl rfl TI3 (.inr rfl) rfl rfl (fun v68 hs => ?_)
  obtain rfl := hs.int 0 rfl
  refine WL.fieldAddr (m := 1) h18_1 FA54_1 rfl ?_
  refine WL.loadF (z := x1.Number) F_api_Proposal_Number hs 4 rfl 14 rfl rfl TI3 (.inr rfl) rfl rfl (fun v69 hs => ?_)
  obtain rfl := hs.int 0 rfl
  refine WL.build (vs := [(0, .int .i64 x41.Server), (1, .int .i64 x41.Weight), (3, .int .i64 x1.Admin), (4, .int .i64 x1.Number)]) (cs := [.int .i64 x41.Server, .int .i64 x41.Weight, .int .i64 0, .int .i64 x1.Admin, .int .i64 x1.Number]) ⟨⟨rfl, rfl⟩, ⟨⟨rfl, rfl⟩, ⟨⟨rfl, rfl⟩, ⟨⟨rfl, rfl⟩, trivial⟩⟩⟩⟩ (bld PL59 rfl) ?_
  have hs := hs.add (it := vl t_api_WeightEntry (⟨x41.Server, x41.Weight, 0, x1.Admin, x1.Number⟩ : api_WeightEntry) (.agg [.int .i64 x41.Server, .int .i64 x41.Weight, .int .i64 0, .int .i64 x1.Admin, .int .i64 x1.Number].toArray)) fun ok hA => V_agg (show t_api_WeightEntry.R ok _ _ _ from ⟨[.int .i64 x41.Server], [.int .i64 x41.Weight, .int .i64 0, .int .i64 x1.Admin, .int .i64 x1.Number], rfl, rfl, ⟨[.int .i64 x41.Weight], [.int .i64 0, .int .i64 x1.Admin, .int .i64 x1.Number], rfl, rfl, ⟨[.int .i64 0], [.int .i64 x1.Admin, .int .i64 x1.Number], rfl, rfl, ⟨[.int .i64 x1.Admin], [.int .i64 x1.Number], rfl, rfl, rfl⟩⟩⟩⟩) rfl
  obtain ⟨x70, hxx70, hf⟩ := bindE hf
  refine WL.call (vs := [.slice a64 (x20.Weights).length c65, .agg ([.int .i64 x41.Server, .int .i64 x41.Weight, .int .i64 0, .int .i64 x1.Admin, .int .i64 x1.Number] : List Value).toArray]) hs FN45 ⟨rfl, ⟨rfl, trivial⟩⟩ (fun ok hA => esref10_Weigh.calls (x1 := x20.Weights) (x4 := (⟨x41.Server, x41.Weight, 0, x1.Admin, x1.Number⟩ : api_WeightEntry)) hxx70 (hA.get 5 rfl) (hA.get 0 rfl)) ?_
  rintro ⟨a71, n72, c73⟩ w hs
  refine WL.fieldAddr (m := 2) h18_3 FA36_2 rfl ?_
  refine WL.store (vs := [.slice a71 n72 c73]) (cs' := [.slice a57 n58 c59, .slice a62 (x20.Removed).length c63, .slice a71 n72 c73, .int .i64 x20.Rule.Kind, .int .i64 x20.Rule.Columns, .int .i64 x20.Rule.Faulty, .int .i64 x20.Version, .int .i64 x20.Admin, .int .i64 x20.Number]) hs 3 rfl TI34 rfl rfl rfl rfl (ones_of rfl) (Nat.le_of_ble_eq_true rfl) rfl (fun w hs => ?_)
  refine WL.nil ?_
  obtain rfl := hs.ownLen 1 rfl
  have hs := hs.freezeOwn 1 rfl
  obtain rfl := hs.ownLen 0 rfl
  have hs := hs.freezeOwn 0 rfl
  have hs := hs.add (it := vl t_api_Summary (⟨x56, x20.Removed, x70, (⟨x20.Rule.Kind, x20.Rule.Columns, x20.Rule.Faulty⟩ : api_Rule), x20.Version, x20.Admin, x20.Number⟩ : api_Summary) (.agg [.slice a57 x56.length c59, .slice a62 (x20.Removed).length c63, .slice a71 x70.length c73, .int .i64 x20.Rule.Kind, .int .i64 x20.Rule.Columns, .int .i64 x20.Rule.Faulty, .int .i64 x20.Version, .int .i64 x20.Admin, .int .i64 x20.Number].toArray)) fun ok hA => V_agg (show t_api_Summary.R ok _ _ _ from ⟨[.slice a57 x56.length c59], [.slice a62 (x20.Removed).length c63, .slice a71 x70.length c73, .int .i64 x20.Rule.Kind, .int .i64 x20.Rule.Columns, .int .i64 x20.Rule.Faulty, .int .i64 x20.Version, .int .i64 x20.Admin, .int .i64 x20.Number], rfl, (R_one (hA.get 1 rfl)), ⟨[.slice a62 (x20.Removed).length c63], [.slice a71 x70.length c73, .int .i64 x20.Rule.Kind, .int .i64 x20.Rule.Columns, .int .i64 x20.Rule.Faulty, .int .i64 x20.Version, .int .i64 x20.Admin, .int .i64 x20.Number], rfl, (R_one (hA.get 8 rfl)), ⟨[.slice a71 x70.length c73], [.int .i64 x20.Rule.Kind, .int .i64 x20.Rule.Columns, .int .i64 x20.Rule.Faulty, .int .i64 x20.Version, .int .i64 x20.Admin, .int .i64 x20.Number], rfl, (R_one (hA.get 0 rfl)), ⟨[.int .i64 x20.Rule.Kind, .int .i64 x20.Rule.Columns, .int .i64 x20.Rule.Faulty], [.int .i64 x20.Version, .int .i64 x20.Admin, .int .i64 x20.Number], rfl, ⟨[.int .i64 x20.Rule.Kind], [.int .i64 x20.Rule.Columns, .int .i64 x20.Rule.Faulty], rfl, rfl, ⟨[.int .i64 x20.Rule.Columns], [.int .i64 x20.Rule.Faulty], rfl, rfl, rfl⟩⟩, ⟨[.int .i64 x20.Version], [.int .i64 x20.Admin, .int .i64 x20.Number], rfl, rfl, ⟨[.int .i64 x20.Admin], [.int .i64 x20.Number], rfl, rfl, rfl⟩⟩⟩⟩⟩⟩) rfl
  have hs := hs.add (it := vl t_api_Summary (⟨x56, x20.Removed, x70, (⟨x20.Rule.Kind, x20.Rule.Columns, x20.Rule.Faulty⟩ : api_Rule), x20.Version, x20.Admin, x20.Number⟩ : api_Summary) (.agg [.slice a57 x56.length c59, .slice a62 (x20.Removed).length c63, .slice a71 x70.length c73, .int .i64 x20.Rule.Kind, .int .i64 x20.Rule.Columns, .int .i64 x20.Rule.Faulty, .int .i64 x20.Version, .int .i64 x20.Admin, .int .i64 x20.Number].toArray)) fun ok hA => V_agg (show t_api_Summary.R ok _ _ _ from ⟨[.slice a57 x56.length c59], [.slice a62 (x20.Removed).length c63, .slice a71 x70.length c73, .int .i64 x20.Rule.Kind, .int .i64 x20.Rule.Columns, .int .i64 x20.Rule.Faulty, .int .i64 x20.Version, .int .i64 x20.Admin, .int .i64 x20.Number], rfl, (R_one (hA.get 2 rfl)), ⟨[.slice a62 (x20.Removed).length c63], [.slice a71 x70.length c73, .int .i64 x20.Rule.Kind, .int .i64 x20.Rule.Columns, .int .i64 x20.Rule.Faulty, .int .i64 x20.Version, .int .i64 x20.Admin, .int .i64 x20.Number], rfl, (R_one (hA.get 9 rfl)), ⟨[.slice a71 x70.length c73], [.int .i64 x20.Rule.Kind, .int .i64 x20.Rule.Columns, .int .i64 x20.Rule.Faulty, .int .i64 x20.Version, .int .i64 x20.Admin, .int .i64 x20.Number], rfl, (R_one (hA.get 1 rfl)), ⟨[.int .i64 x20.Rule.Kind, .int .i64 x20.Rule.Columns, .int .i64 x20.Rule.Faulty], [.int .i64 x20.Version, .int .i64 x20.Admin, .int .i64 x20.Number], rfl, ⟨[.int .i64 x20.Rule.Kind], [.int .i64 x20.Rule.Columns, .int .i64 x20.Rule.Faulty], rfl, rfl, ⟨[.int .i64 x20.Rule.Columns], [.int .i64 x20.Rule.Faulty], rfl, rfl, rfl⟩⟩, ⟨[.int .i64 x20.Version], [.int .i64 x20.Admin, .int .i64 x20.Number], rfl, rfl, ⟨[.int .i64 x20.Admin], [.int .i64 x20.Number], rfl, rfl, rfl⟩⟩⟩⟩⟩⟩) rfl
  exact Jk35 (⟨x56, x20.Removed, x70, (⟨x20.Rule.Kind, x20.Rule.Columns, x20.Rule.Faulty⟩ : api_Rule), x20.Version, x20.Admin, x20.Number⟩ : api_Summary) [.slice a57 x56.length c59, .slice a62 (x20.Removed).length c63, .slice a71 x70.length c73, .int .i64 x20.Rule.Kind, .int .i64 x20.Rule.Columns, .int .i64 x20.Rule.Faulty, .int .i64 x20.Version, .int .i64 x20.Admin, .int .i64 x20.Number] _ _ rfl h18_1 h18_2 h18_3 h18_4 ((hs.mask [false, true, true, true]).pick [0, 20]) hf }
  {
  refine W.cond_false (bool_tr rfl hc50) ?_
  refine W.seqK fun K74 hK74 => ?_
  refine W.region ?_
  refine WL.bin (v := .bool (x41.Kind == 2)) rfl rfl (ib_eql _ _ _) ?_
  refine WL.assign (v := .bool (x41.Kind == 2)) rfl ?_
  refine WL.nil ?_
  refine hK74 _ _ ?_
  rcases iteE hf with ⟨hc75, hf⟩ | ⟨hc75, hf⟩
  {
  refine W.cond_true (bool_tr rfl hc75) ?_
  refine W.region ?_
  refine WL.fieldAddr (m := 1) h18_3 FA36_1 rfl ?_
  refine WL.loadF (z := x20.Removed) F_api_Summary_Removed hs 1 rfl 5 rfl rfl TI33 (.inr rfl) rfl rfl (fun v76 hs => ?_)
  obtain ⟨a77, c78, rfl⟩ := hs.slice 0 rfl
  refine WL.fieldAddr (m := 1) rfl FA26_1 rfl ?_
  refine WL.loadF (z := x41.Server) F_api_Change_Server hs 0 rfl 2 rfl rfl TI3 (.inr rfl) rfl rfl (fun v79 hs => ?_)
  obtain rfl := hs.int 0 rfl
  obtain ⟨x80, hxx80, hf⟩ := bindE hf
  refine WL.call (vs := [.slice a77 (x20.Removed).length c78, .int .i64 x41.Server]) hs FN44 ⟨rfl, ⟨rfl, trivial⟩⟩ (fun ok hA => esref10_Insert.calls (x1 := x20.Removed) (x4 := x41.Server) hxx80 (hA.get 1 rfl)) ?_
  rintro ⟨a81, n82, c83⟩ w hs
  refine WL.fieldAddr (m := 1) h18_3 FA36_1 rfl ?_
  obtain ⟨a84, c85, a86, c87, a88, c89, rfl⟩ := open_api_Summary hs 7 rfl
  have hs := hs.add (it := vl (tSlice (tInt .i64)) x20.Joined (.slice a84 (x20.Joined).length c85)) fun ok hA => V_fld F_api_Summary_Joined (hA.get 7 rfl) rfl rfl rfl
  have hs := hs.add (it := vl (tSlice (tInt .i64)) x20.Removed (.slice a86 (x20.Removed).length c87)) fun ok hA => V_fld F_api_Summary_Removed (hA.get 8 rfl) rfl rfl rfl
  have hs := hs.add (it := vl (tSlice t_api_WeightEntry) x20.Weights (.slice a88 (x20.Weights).length c89)) fun ok hA => V_fld F_api_Summary_Weights (hA.get 9 rfl) rfl rfl rfl
  refine WL.store (vs := [.slice a81 n82 c83]) (cs' := [.slice a84 (x20.Joined).length c85, .slice a81 n82 c83, .slice a88 (x20.Weights).length c89, .int .i64 x20.Rule.Kind, .int .i64 x20.Rule.Columns, .int .i64 x20.Rule.Faulty, .int .i64 x20.Version, .int .i64 x20.Admin, .int .i64 x20.Number]) hs 2 rfl TI33 rfl rfl rfl rfl (ones_of rfl) (Nat.le_of_ble_eq_true rfl) rfl (fun w hs => ?_)
  refine WL.nil ?_
  obtain rfl := hs.ownLen 0 rfl
  have hs := hs.freezeOwn 0 rfl
  have hs := hs.add (it := vl t_api_Summary (⟨x20.Joined, x80, x20.Weights, (⟨x20.Rule.Kind, x20.Rule.Columns, x20.Rule.Faulty⟩ : api_Rule), x20.Version, x20.Admin, x20.Number⟩ : api_Summary) (.agg [.slice a84 (x20.Joined).length c85, .slice a81 x80.length c83, .slice a88 (x20.Weights).length c89, .int .i64 x20.Rule.Kind, .int .i64 x20.Rule.Columns, .int .i64 x20.Rule.Faulty, .int .i64 x20.Version, .int .i64 x20.Admin, .int .i64 x20.Number].toArray)) fun ok hA => V_agg (show t_api_Summary.R ok _ _ _ from ⟨[.slice a84 (x20.Joined).length c85], [.slice a81 x80.length c83, .slice a88 (x20.Weights).length c89, .int .i64 x20.Rule.Kind, .int .i64 x20.Rule.Columns, .int .i64 x20.Rule.Faulty, .int .i64 x20.Version, .int .i64 x20.Admin, .int .i64 x20.Number], rfl, (R_one (hA.get 3 rfl)), ⟨[.slice a81 x80.length c83], [.slice a88 (x20.Weights).length c89, .int .i64 x20.Rule.Kind, .int .i64 x20.Rule.Columns, .int .i64 x20.Rule.Faulty, .int .i64 x20.Version, .int .i64 x20.Admin, .int .i64 x20.Number], rfl, (R_one (hA.get 0 rfl)), ⟨[.slice a88 (x20.Weights).length c89], [.int .i64 x20.Rule.Kind, .int .i64 x20.Rule.Columns, .int .i64 x20.Rule.Faulty, .int .i64 x20.Version, .int .i64 x20.Admin, .int .i64 x20.Number], rfl, (R_one (hA.get 1 rfl)), ⟨[.int .i64 x20.Rule.Kind, .int .i64 x20.Rule.Columns, .int .i64 x20.Rule.Faulty], [.int .i64 x20.Version, .int .i64 x20.Admin, .int .i64 x20.Number], rfl, ⟨[.int .i64 x20.Rule.Kind], [.int .i64 x20.Rule.Columns, .int .i64 x20.Rule.Faulty], rfl, rfl, ⟨[.int .i64 x20.Rule.Columns], [.int .i64 x20.Rule.Faulty], rfl, rfl, rfl⟩⟩, ⟨[.int .i64 x20.Version], [.int .i64 x20.Admin, .int .i64 x20.Number], rfl, rfl, ⟨[.int .i64 x20.Admin], [.int .i64 x20.Number], rfl, rfl, rfl⟩⟩⟩⟩⟩⟩) rfl
  have hs := hs.add (it := vl t_api_Summary (⟨x20.Joined, x80, x20.Weights, (⟨x20.Rule.Kind, x20.Rule.Columns, x20.Rule.Faulty⟩ : api_Rule), x20.Version, x20.Admin, x20.Number⟩ : api_Summary) (.agg [.slice a84 (x20.Joined).length c85, .slice a81 x80.length c83, .slice a88 (x20.Weights).length c89, .int .i64 x20.Rule.Kind, .int .i64 x20.Rule.Columns, .int .i64 x20.Rule.Faulty, .int .i64 x20.Version, .int .i64 x20.Admin, .int .i64 x20.Number].toArray)) fun ok hA => V_agg (show t_api_Summary.R ok _ _ _ from ⟨[.slice a84 (x20.Joined).length c85], [.slice a81 x80.length c83, .slice a88 (x20.Weights).length c89, .int .i64 x20.Rule.Kind, .int .i64 x20.Rule.Columns, .int .i64 x20.Rule.Faulty, .int .i64 x20.Version, .int .i64 x20.Admin, .int .i64 x20.Number], rfl, (R_one (hA.get 4 rfl)), ⟨[.slice a81 x80.length c83], [.slice a88 (x20.Weights).length c89, .int .i64 x20.Rule.Kind, .int .i64 x20.Rule.Columns, .int .i64 x20.Rule.Faulty, .int .i64 x20.Version, .int .i64 x20.Admin, .int .i64 x20.Number], rfl, (R_one (hA.get 1 rfl)), ⟨[.slice a88 (x20.Weights).length c89], [.int .i64 x20.Rule.Kind, .int .i64 x20.Rule.Columns, .int .i64 x20.Rule.Faulty, .int .i64 x20.Version, .int .i64 x20.Admin, .int .i64 x20.Number], rfl, (R_one (hA.get 2 rfl)), ⟨[.int .i64 x20.Rule.Kind, .int .i64 x20.Rule.Columns, .int .i64 x20.Rule.Faulty], [.int .i64 x20.Version, .int .i64 x20.Admin, .int .i64 x20.Number], rfl, ⟨[.int .i64 x20.Rule.Kind], [.int .i64 x20.Rule.Columns, .int .i64 x20.Rule.Faulty], rfl, rfl, ⟨[.int .i64 x20.Rule.Columns], [.int .i64 x20.Rule.Faulty], rfl, rfl, rfl⟩⟩, ⟨[.int .i64 x20.Version], [.int .i64 x20.Admin, .int .i64 x20.Number], rfl, rfl, ⟨[.int .i64 x20.Admin], [.int .i64 x20.Number], rfl, rfl, rfl⟩⟩⟩⟩⟩⟩) rfl
  exact Jk35 (⟨x20.Joined, x80, x20.Weights, (⟨x20.Rule.Kind, x20.Rule.Columns, x20.Rule.Faulty⟩ : api_Rule), x20.Version, x20.Admin, x20.Number⟩ : api_Summary) [.slice a84 (x20.Joined).length c85, .slice a81 x80.length c83, .slice a88 (x20.Weights).length c89, .int .i64 x20.Rule.Kind, .int .i64 x20.Rule.Columns, .int .i64 x20.Rule.Faulty, .int .i64 x20.Version, .int .i64 x20.Admin, .int .i64 x20.Number] _ _ rfl h18_1 h18_2 h18_3 h18_4 ((hs.mask [false, true, true, true]).pick [0, 14]) hf }
  {
  refine W.cond_false (bool_tr rfl hc75) ?_
  refine W.seqK fun K90 hK90 => ?_
  refine W.region ?_
  refine WL.bin (v := .bool (x41.Kind == 3)) rfl rfl (ib_eql _ _ _) ?_
  refine WL.assign (v := .bool (x41.Kind == 3)) rfl ?_
  refine WL.nil ?_
  refine hK90 _ _ ?_
  rcases iteE hf with ⟨hc91, hf⟩ | ⟨hc91, hf⟩
  {
  refine W.cond_true (bool_tr rfl hc91) ?_
  refine W.region ?_
  refine WL.fieldAddr (m := 2) h18_3 FA36_2 rfl ?_
  refine WL.loadF (z := x20.Weights) F_api_Summary_Weights hs 1 rfl 5 rfl rfl TI34 (.inr rfl) rfl rfl (fun v92 hs => ?_)
  obtain ⟨a93, c94, rfl⟩ := hs.slice 0 rfl
  refine WL.fieldAddr (m := 1) rfl FA26_1 rfl ?_
  refine WL.loadF (z := x41.Server) F_api_Change_Server hs 0 rfl 2 rfl rfl TI3 (.inr rfl) rfl rfl (fun v95 hs => ?_)
  obtain rfl := hs.int 0 rfl
  refine WL.fieldAddr (m := 2) rfl FA26_2 rfl ?_
  refine WL.loadF (z := x41.Weight) F_api_Change_Weight hs 0 rfl 3 rfl rfl TI3 (.inr rfl) rfl rfl (fun v96 hs => ?_)
  obtain rfl := hs.int 0 rfl
  refine WL.fieldAddr (m := 3) rfl FA26_3 rfl ?_
  refine WL.loadF (z := x41.Version) F_api_Change_Version hs 0 rfl 4 rfl rfl TI3 (.inr rfl) rfl rfl (fun v97 hs => ?_)
  obtain rfl := hs.int 0 rfl
  refine WL.fieldAddr (m := 0) h18_1 FA54_0 rfl ?_
  refine WL.loadF (z := x1.Admin) F_api_Proposal_Admin hs 3 rfl 10 rfl rfl TI3 (.inr rfl) rfl rfl (fun v98 hs => ?_)
  obtain rfl := hs.int 0 rfl
  refine WL.fieldAddr (m := 1) h18_1 FA54_1 rfl ?_
  refine WL.loadF (z := x1.Number) F_api_Proposal_Number hs 3 rfl 11 rfl rfl TI3 (.inr rfl) rfl rfl (fun v99 hs => ?_)
  obtain rfl := hs.int 0 rfl
  refine WL.build (vs := [(0, .int .i64 x41.Server), (1, .int .i64 x41.Weight), (2, .int .i64 x41.Version), (3, .int .i64 x1.Admin), (4, .int .i64 x1.Number)]) (cs := [.int .i64 x41.Server, .int .i64 x41.Weight, .int .i64 x41.Version, .int .i64 x1.Admin, .int .i64 x1.Number]) ⟨⟨rfl, rfl⟩, ⟨⟨rfl, rfl⟩, ⟨⟨rfl, rfl⟩, ⟨⟨rfl, rfl⟩, ⟨⟨rfl, rfl⟩, trivial⟩⟩⟩⟩⟩ (bld PL59 rfl) ?_
  have hs := hs.add (it := vl t_api_WeightEntry (⟨x41.Server, x41.Weight, x41.Version, x1.Admin, x1.Number⟩ : api_WeightEntry) (.agg [.int .i64 x41.Server, .int .i64 x41.Weight, .int .i64 x41.Version, .int .i64 x1.Admin, .int .i64 x1.Number].toArray)) fun ok hA => V_agg (show t_api_WeightEntry.R ok _ _ _ from ⟨[.int .i64 x41.Server], [.int .i64 x41.Weight, .int .i64 x41.Version, .int .i64 x1.Admin, .int .i64 x1.Number], rfl, rfl, ⟨[.int .i64 x41.Weight], [.int .i64 x41.Version, .int .i64 x1.Admin, .int .i64 x1.Number], rfl, rfl, ⟨[.int .i64 x41.Version], [.int .i64 x1.Admin, .int .i64 x1.Number], rfl, rfl, ⟨[.int .i64 x1.Admin], [.int .i64 x1.Number], rfl, rfl, rfl⟩⟩⟩⟩) rfl
  obtain ⟨x100, hxx100, hf⟩ := bindE hf
  refine WL.call (vs := [.slice a93 (x20.Weights).length c94, .agg ([.int .i64 x41.Server, .int .i64 x41.Weight, .int .i64 x41.Version, .int .i64 x1.Admin, .int .i64 x1.Number] : List Value).toArray]) hs FN45 ⟨rfl, ⟨rfl, trivial⟩⟩ (fun ok hA => esref10_Weigh.calls (x1 := x20.Weights) (x4 := (⟨x41.Server, x41.Weight, x41.Version, x1.Admin, x1.Number⟩ : api_WeightEntry)) hxx100 (hA.get 6 rfl) (hA.get 0 rfl)) ?_
  rintro ⟨a101, n102, c103⟩ w hs
  refine WL.fieldAddr (m := 2) h18_3 FA36_2 rfl ?_
  obtain ⟨a104, c105, a106, c107, a108, c109, rfl⟩ := open_api_Summary hs 12 rfl
  have hs := hs.add (it := vl (tSlice (tInt .i64)) x20.Joined (.slice a104 (x20.Joined).length c105)) fun ok hA => V_fld F_api_Summary_Joined (hA.get 12 rfl) rfl rfl rfl
  have hs := hs.add (it := vl (tSlice (tInt .i64)) x20.Removed (.slice a106 (x20.Removed).length c107)) fun ok hA => V_fld F_api_Summary_Removed (hA.get 13 rfl) rfl rfl rfl
  have hs := hs.add (it := vl (tSlice t_api_WeightEntry) x20.Weights (.slice a108 (x20.Weights).length c109)) fun ok hA => V_fld F_api_Summary_Weights (hA.get 14 rfl) rfl rfl rfl
  refine WL.store (vs := [.slice a101 n102 c103]) (cs' := [.slice a104 (x20.Joined).length c105, .slice a106 (x20.Removed).length c107, .slice a101 n102 c103, .int .i64 x20.Rule.Kind, .int .i64 x20.Rule.Columns, .int .i64 x20.Rule.Faulty, .int .i64 x20.Version, .int .i64 x20.Admin, .int .i64 x20.Number]) hs 2 rfl TI34 rfl rfl rfl rfl (ones_of rfl) (Nat.le_of_ble_eq_true rfl) rfl (fun w hs => ?_)
  refine WL.nil ?_
  obtain rfl := hs.ownLen 0 rfl
  have hs := hs.freezeOwn 0 rfl
  have hs := hs.add (it := vl t_api_Summary (⟨x20.Joined, x20.Removed, x100, (⟨x20.Rule.Kind, x20.Rule.Columns, x20.Rule.Faulty⟩ : api_Rule), x20.Version, x20.Admin, x20.Number⟩ : api_Summary) (.agg [.slice a104 (x20.Joined).length c105, .slice a106 (x20.Removed).length c107, .slice a101 x100.length c103, .int .i64 x20.Rule.Kind, .int .i64 x20.Rule.Columns, .int .i64 x20.Rule.Faulty, .int .i64 x20.Version, .int .i64 x20.Admin, .int .i64 x20.Number].toArray)) fun ok hA => V_agg (show t_api_Summary.R ok _ _ _ from ⟨[.slice a104 (x20.Joined).length c105], [.slice a106 (x20.Removed).length c107, .slice a101 x100.length c103, .int .i64 x20.Rule.Kind, .int .i64 x20.Rule.Columns, .int .i64 x20.Rule.Faulty, .int .i64 x20.Version, .int .i64 x20.Admin, .int .i64 x20.Number], rfl, (R_one (hA.get 3 rfl)), ⟨[.slice a106 (x20.Removed).length c107], [.slice a101 x100.length c103, .int .i64 x20.Rule.Kind, .int .i64 x20.Rule.Columns, .int .i64 x20.Rule.Faulty, .int .i64 x20.Version, .int .i64 x20.Admin, .int .i64 x20.Number], rfl, (R_one (hA.get 2 rfl)), ⟨[.slice a101 x100.length c103], [.int .i64 x20.Rule.Kind, .int .i64 x20.Rule.Columns, .int .i64 x20.Rule.Faulty, .int .i64 x20.Version, .int .i64 x20.Admin, .int .i64 x20.Number], rfl, (R_one (hA.get 0 rfl)), ⟨[.int .i64 x20.Rule.Kind, .int .i64 x20.Rule.Columns, .int .i64 x20.Rule.Faulty], [.int .i64 x20.Version, .int .i64 x20.Admin, .int .i64 x20.Number], rfl, ⟨[.int .i64 x20.Rule.Kind], [.int .i64 x20.Rule.Columns, .int .i64 x20.Rule.Faulty], rfl, rfl, ⟨[.int .i64 x20.Rule.Columns], [.int .i64 x20.Rule.Faulty], rfl, rfl, rfl⟩⟩, ⟨[.int .i64 x20.Version], [.int .i64 x20.Admin, .int .i64 x20.Number], rfl, rfl, ⟨[.int .i64 x20.Admin], [.int .i64 x20.Number], rfl, rfl, rfl⟩⟩⟩⟩⟩⟩) rfl
  have hs := hs.add (it := vl t_api_Summary (⟨x20.Joined, x20.Removed, x100, (⟨x20.Rule.Kind, x20.Rule.Columns, x20.Rule.Faulty⟩ : api_Rule), x20.Version, x20.Admin, x20.Number⟩ : api_Summary) (.agg [.slice a104 (x20.Joined).length c105, .slice a106 (x20.Removed).length c107, .slice a101 x100.length c103, .int .i64 x20.Rule.Kind, .int .i64 x20.Rule.Columns, .int .i64 x20.Rule.Faulty, .int .i64 x20.Version, .int .i64 x20.Admin, .int .i64 x20.Number].toArray)) fun ok hA => V_agg (show t_api_Summary.R ok _ _ _ from ⟨[.slice a104 (x20.Joined).length c105], [.slice a106 (x20.Removed).length c107, .slice a101 x100.length c103, .int .i64 x20.Rule.Kind, .int .i64 x20.Rule.Columns, .int .i64 x20.Rule.Faulty, .int .i64 x20.Version, .int .i64 x20.Admin, .int .i64 x20.Number], rfl, (R_one (hA.get 4 rfl)), ⟨[.slice a106 (x20.Removed).length c107], [.slice a101 x100.length c103, .int .i64 x20.Rule.Kind, .int .i64 x20.Rule.Columns, .int .i64 x20.Rule.Faulty, .int .i64 x20.Version, .int .i64 x20.Admin, .int .i64 x20.Number], rfl, (R_one (hA.get 3 rfl)), ⟨[.slice a101 x100.length c103], [.int .i64 x20.Rule.Kind, .int .i64 x20.Rule.Columns, .int .i64 x20.Rule.Faulty, .int .i64 x20.Version, .int .i64 x20.Admin, .int .i64 x20.Number], rfl, (R_one (hA.get 1 rfl)), ⟨[.int .i64 x20.Rule.Kind, .int .i64 x20.Rule.Columns, .int .i64 x20.Rule.Faulty], [.int .i64 x20.Version, .int .i64 x20.Admin, .int .i64 x20.Number], rfl, ⟨[.int .i64 x20.Rule.Kind], [.int .i64 x20.Rule.Columns, .int .i64 x20.Rule.Faulty], rfl, rfl, ⟨[.int .i64 x20.Rule.Columns], [.int .i64 x20.Rule.Faulty], rfl, rfl, rfl⟩⟩, ⟨[.int .i64 x20.Version], [.int .i64 x20.Admin, .int .i64 x20.Number], rfl, rfl, ⟨[.int .i64 x20.Admin], [.int .i64 x20.Number], rfl, rfl, rfl⟩⟩⟩⟩⟩⟩) rfl
  exact Jk35 (⟨x20.Joined, x20.Removed, x100, (⟨x20.Rule.Kind, x20.Rule.Columns, x20.Rule.Faulty⟩ : api_Rule), x20.Version, x20.Admin, x20.Number⟩ : api_Summary) [.slice a104 (x20.Joined).length c105, .slice a106 (x20.Removed).length c107, .slice a101 x100.length c103, .int .i64 x20.Rule.Kind, .int .i64 x20.Rule.Columns, .int .i64 x20.Rule.Faulty, .int .i64 x20.Version, .int .i64 x20.Admin, .int .i64 x20.Number] _ _ rfl h18_1 h18_2 h18_3 h18_4 ((hs.mask [false, true, true, true]).pick [0, 19]) hf }
  {
  refine W.cond_false (bool_tr rfl hc91) ?_
  refine W.seqK fun K110 hK110 => ?_
  refine W.region ?_
  refine WL.bin (v := .bool (x41.Kind == 4)) rfl rfl (ib_eql _ _ _) ?_
  refine WL.assign (v := .bool (x41.Kind == 4)) rfl ?_
  refine WL.nil ?_
  refine hK110 _ _ ?_
  rcases iteE hf with ⟨hc111, hf⟩ | ⟨hc111, hf⟩
  {
  refine W.cond_true (bool_tr rfl hc111) ?_
  refine W.seqK fun K112 hK112 => ?_
  refine W.region ?_
  refine WL.fieldAddr (m := 4) rfl FA26_4 rfl ?_
  refine WL.loadF (z := x41.Rule) F_api_Change_Rule hs 0 rfl 1 rfl rfl TI24 (.inl rfl) rfl rfl (fun v113 hs => ?_)
  obtain ⟨cs114, hl115, rfl⟩ := hs.aggv (n := 3) 0 rfl rfl rfl
  refine WL.fieldAddr (m := 3) h18_3 FA36_3 rfl ?_
  obtain ⟨a116, c117, a118, c119, a120, c121, rfl⟩ := open_api_Summary hs 6 rfl
  have hs := hs.add (it := vl (tSlice (tInt .i64)) x20.Joined (.slice a116 (x20.Joined).length c117)) fun ok hA => V_fld F_api_Summary_Joined (hA.get 6 rfl) rfl rfl rfl
  have hs := hs.add (it := vl (tSlice (tInt .i64)) x20.Removed (.slice a118 (x20.Removed).length c119)) fun ok hA => V_fld F_api_Summary_Removed (hA.get 7 rfl) rfl rfl rfl
  have hs := hs.add (it := vl (tSlice t_api_WeightEntry) x20.Weights (.slice a120 (x20.Weights).length c121)) fun ok hA => V_fld F_api_Summary_Weights (hA.get 8 rfl) rfl rfl rfl
  obtain rfl := open_api_Rule hs 3 rfl
  refine WL.store (vs := [.int .i64 x41.Rule.Kind, .int .i64 x41.Rule.Columns, .int .i64 x41.Rule.Faulty]) (cs' := [.slice a116 (x20.Joined).length c117, .slice a118 (x20.Removed).length c119, .slice a120 (x20.Weights).length c121, .int .i64 x41.Rule.Kind, .int .i64 x41.Rule.Columns, .int .i64 x41.Rule.Faulty, .int .i64 x20.Version, .int .i64 x20.Admin, .int .i64 x20.Number]) hs 1 rfl TI24 rfl rfl rfl rfl (ones_of rfl) (Nat.le_of_ble_eq_true rfl) rfl (fun w hs => ?_)
  refine WL.nil ?_
  refine hK112 _ _ ?_
  refine W.seqK fun K122 hK122 => ?_
  refine W.region ?_
  refine WL.fieldAddr (m := 3) rfl FA26_3 rfl ?_
  refine WL.loadF (z := x41.Version) F_api_Change_Version hs 0 rfl 5 rfl rfl TI3 (.inr rfl) rfl rfl (fun v123 hs => ?_)
  obtain rfl := hs.int 0 rfl
  refine WL.fieldAddr (m := 6) h18_3 FA36_4 rfl ?_
  refine WL.store (vs := [.int .i64 x41.Version]) (cs' := [.slice a116 (x20.Joined).length c117, .slice a118 (x20.Removed).length c119, .slice a120 (x20.Weights).length c121, .int .i64 x41.Rule.Kind, .int .i64 x41.Rule.Columns, .int .i64 x41.Rule.Faulty, .int .i64 x41.Version, .int .i64 x20.Admin, .int .i64 x20.Number]) hs 1 rfl TI3 rfl rfl rfl rfl (ones_of rfl) (Nat.le_of_ble_eq_true rfl) rfl (fun w hs => ?_)
  refine WL.nil ?_
  refine hK122 _ _ ?_
  refine W.seqK fun K124 hK124 => ?_
  refine W.region ?_
  refine WL.fieldAddr (m := 0) h18_1 FA54_0 rfl ?_
  refine WL.loadF (z := x1.Admin) F_api_Proposal_Admin hs 3 rfl 11 rfl rfl TI3 (.inr rfl) rfl rfl (fun v125 hs => ?_)
  obtain rfl := hs.int 0 rfl
  refine WL.fieldAddr (m := 7) h18_3 FA36_5 rfl ?_
  refine WL.store (vs := [.int .i64 x1.Admin]) (cs' := [.slice a116 (x20.Joined).length c117, .slice a118 (x20.Removed).length c119, .slice a120 (x20.Weights).length c121, .int .i64 x41.Rule.Kind, .int .i64 x41.Rule.Columns, .int .i64 x41.Rule.Faulty, .int .i64 x41.Version, .int .i64 x1.Admin, .int .i64 x20.Number]) hs 1 rfl TI3 rfl rfl rfl rfl (ones_of rfl) (Nat.le_of_ble_eq_true rfl) rfl (fun w hs => ?_)
  refine WL.nil ?_
  refine hK124 _ _ ?_
  refine W.region ?_
  refine WL.fieldAddr (m := 1) h18_1 FA54_1 rfl ?_
  refine WL.loadF (z := x1.Number) F_api_Proposal_Number hs 3 rfl 12 rfl rfl TI3 (.inr rfl) rfl rfl (fun v126 hs => ?_)
  obtain rfl := hs.int 0 rfl
  refine WL.fieldAddr (m := 8) h18_3 FA36_6 rfl ?_
  refine WL.store (vs := [.int .i64 x1.Number]) (cs' := [.slice a116 (x20.Joined).length c117, .slice a118 (x20.Removed).length c119, .slice a120 (x20.Weights).length c121, .int .i64 x41.Rule.Kind, .int .i64 x41.Rule.Columns, .int .i64 x41.Rule.Faulty, .int .i64 x41.Version, .int .i64 x1.Admin, .int .i64 x1.Number]) hs 1 rfl TI3 rfl rfl rfl rfl (ones_of rfl) (Nat.le_of_ble_eq_true rfl) rfl (fun w hs => ?_)
  refine WL.nil ?_
  have hs := hs.add (it := vl t_api_Summary (⟨x20.Joined, x20.Removed, x20.Weights, (⟨x41.Rule.Kind, x41.Rule.Columns, x41.Rule.Faulty⟩ : api_Rule), x41.Version, x1.Admin, x1.Number⟩ : api_Summary) (.agg [.slice a116 (x20.Joined).length c117, .slice a118 (x20.Removed).length c119, .slice a120 (x20.Weights).length c121, .int .i64 x41.Rule.Kind, .int .i64 x41.Rule.Columns, .int .i64 x41.Rule.Faulty, .int .i64 x41.Version, .int .i64 x1.Admin, .int .i64 x1.Number].toArray)) fun ok hA => V_agg (show t_api_Summary.R ok _ _ _ from ⟨[.slice a116 (x20.Joined).length c117], [.slice a118 (x20.Removed).length c119, .slice a120 (x20.Weights).length c121, .int .i64 x41.Rule.Kind, .int .i64 x41.Rule.Columns, .int .i64 x41.Rule.Faulty, .int .i64 x41.Version, .int .i64 x1.Admin, .int .i64 x1.Number], rfl, (R_one (hA.get 5 rfl)), ⟨[.slice a118 (x20.Removed).length c119], [.slice a120 (x20.Weights).length c121, .int .i64 x41.Rule.Kind, .int .i64 x41.Rule.Columns, .int .i64 x41.Rule.Faulty, .int .i64 x41.Version, .int .i64 x1.Admin, .int .i64 x1.Number], rfl, (R_one (hA.get 4 rfl)), ⟨[.slice a120 (x20.Weights).length c121], [.int .i64 x41.Rule.Kind, .int .i64 x41.Rule.Columns, .int .i64 x41.Rule.Faulty, .int .i64 x41.Version, .int .i64 x1.Admin, .int .i64 x1.Number], rfl, (R_one (hA.get 3 rfl)), ⟨[.int .i64 x41.Rule.Kind, .int .i64 x41.Rule.Columns, .int .i64 x41.Rule.Faulty], [.int .i64 x41.Version, .int .i64 x1.Admin, .int .i64 x1.Number], rfl, ⟨[.int .i64 x41.Rule.Kind], [.int .i64 x41.Rule.Columns, .int .i64 x41.Rule.Faulty], rfl, rfl, ⟨[.int .i64 x41.Rule.Columns], [.int .i64 x41.Rule.Faulty], rfl, rfl, rfl⟩⟩, ⟨[.int .i64 x41.Version], [.int .i64 x1.Admin, .int .i64 x1.Number], rfl, rfl, ⟨[.int .i64 x1.Admin], [.int .i64 x1.Number], rfl, rfl, rfl⟩⟩⟩⟩⟩⟩) rfl
  have hs := hs.add (it := vl t_api_Summary (⟨x20.Joined, x20.Removed, x20.Weights, (⟨x41.Rule.Kind, x41.Rule.Columns, x41.Rule.Faulty⟩ : api_Rule), x41.Version, x1.Admin, x1.Number⟩ : api_Summary) (.agg [.slice a116 (x20.Joined).length c117, .slice a118 (x20.Removed).length c119, .slice a120 (x20.Weights).length c121, .int .i64 x41.Rule.Kind, .int .i64 x41.Rule.Columns, .int .i64 x41.Rule.Faulty, .int .i64 x41.Version, .int .i64 x1.Admin, .int .i64 x1.Number].toArray)) fun ok hA => V_agg (show t_api_Summary.R ok _ _ _ from ⟨[.slice a116 (x20.Joined).length c117], [.slice a118 (x20.Removed).length c119, .slice a120 (x20.Weights).length c121, .int .i64 x41.Rule.Kind, .int .i64 x41.Rule.Columns, .int .i64 x41.Rule.Faulty, .int .i64 x41.Version, .int .i64 x1.Admin, .int .i64 x1.Number], rfl, (R_one (hA.get 6 rfl)), ⟨[.slice a118 (x20.Removed).length c119], [.slice a120 (x20.Weights).length c121, .int .i64 x41.Rule.Kind, .int .i64 x41.Rule.Columns, .int .i64 x41.Rule.Faulty, .int .i64 x41.Version, .int .i64 x1.Admin, .int .i64 x1.Number], rfl, (R_one (hA.get 5 rfl)), ⟨[.slice a120 (x20.Weights).length c121], [.int .i64 x41.Rule.Kind, .int .i64 x41.Rule.Columns, .int .i64 x41.Rule.Faulty, .int .i64 x41.Version, .int .i64 x1.Admin, .int .i64 x1.Number], rfl, (R_one (hA.get 4 rfl)), ⟨[.int .i64 x41.Rule.Kind, .int .i64 x41.Rule.Columns, .int .i64 x41.Rule.Faulty], [.int .i64 x41.Version, .int .i64 x1.Admin, .int .i64 x1.Number], rfl, ⟨[.int .i64 x41.Rule.Kind], [.int .i64 x41.Rule.Columns, .int .i64 x41.Rule.Faulty], rfl, rfl, ⟨[.int .i64 x41.Rule.Columns], [.int .i64 x41.Rule.Faulty], rfl, rfl, rfl⟩⟩, ⟨[.int .i64 x41.Version], [.int .i64 x1.Admin, .int .i64 x1.Number], rfl, rfl, ⟨[.int .i64 x1.Admin], [.int .i64 x1.Number], rfl, rfl, rfl⟩⟩⟩⟩⟩⟩) rfl
  exact Jk35 (⟨x20.Joined, x20.Removed, x20.Weights, (⟨x41.Rule.Kind, x41.Rule.Columns, x41.Rule.Faulty⟩ : api_Rule), x41.Version, x1.Admin, x1.Number⟩ : api_Summary) [.slice a116 (x20.Joined).length c117, .slice a118 (x20.Removed).length c119, .slice a120 (x20.Weights).length c121, .int .i64 x41.Rule.Kind, .int .i64 x41.Rule.Columns, .int .i64 x41.Rule.Faulty, .int .i64 x41.Version, .int .i64 x1.Admin, .int .i64 x1.Number] _ _ rfl h18_1 h18_2 h18_3 h18_4 ((hs.mask [false, true, true, true]).pick [0, 15]) hf }
  {
  refine W.cond_false (bool_tr rfl hc111) ?_
  refine W.skip ?_
  exact Jk35 x20 cs21 _ _ hl22 h18_1 h18_2 h18_3 h18_4 ((hs.mask [false, true, true, true]).pick [5, 6]) hf } } } } }
  {
  refine W.cond_false (bool_tr rfl hc29) ?_
  refine W.exit ?_
  have hr := Option.some.inj hf; subst hr
  have hr := hbbs23 _ rfl; subst hr
  have hf := hfs23
  exact Jk15 x20 cs21 _ _ hl22 h18_2 h18_3 ((hs.mask [true, true]).pick [1]) hf }
end Go.Proofs.YthfoljpjhegkmaaDoor
