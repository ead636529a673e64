/- What the row leans on, as few texts. -/
import Derived.Test.YtbbeobiampbddaaQHV2
import Derived.Test.YtbbeobiampbddaaQHV1
set_option linter.unusedVariables false
set_option linter.unusedSimpArgs false
namespace Go.Proofs.Ytbbeobiampbddaa
open Go Go.RowKit Go.Proofs.YtbbeobiampbddaaL
set_option maxRecDepth 100000
set_option maxHeartbeats 4000000
theorem history_Visible.calls {ok : Nat → Prop} {w0 : World} {x1 : fold_Store} {v2 : Value} {r : List history_Value} (hf : history_Visible x1 = some r) (i0 : (vl t_fold_Store x1 v2).holds ok w0) :
    Calls Try.prog 30 #[v2] w0 fun e w' => ∃ v, e = .returned v ∧ ∃ y : (Option Addr × Nat × Nat), v = .slice y.1 y.2.1 y.2.2 ∧ St ok (bz w0) w' [] [own t_history_Value 68 (.slice y.1 y.2.1 y.2.2) r] := by
  unfold history_Visible at hf
  refine calls_of_W (fn := Try.f30) (N := 53) Try.func30 rfl Try.ntmps30 rfl ?_
  have hs : St ok (bz w0) w0 [vl t_fold_Store x1 v2] [] := St.init (All.cons i0 All.nil)
  clear i0
  obtain ⟨cs3, hl4, rfl⟩ := hs.aggv (n := 1) 0 rfl rfl rfl
  refine W.seqK fun K5 hK5 => ?_
  refine W.region ?_
  refine WL.box (vs := cs3) hs rfl rfl (fun g6 w hs => ?_)
  refine WL.assign (v := .slice none 0 0) rfl ?_
  refine WL.nil ?_
  refine hK5 _ _ ?_
  refine W.seqK fun K7 hK7 => ?_
  refine W.region ?_
  refine WL.assign (v := .slice none 0 0) rfl ?_
  refine WL.nil ?_
  refine hK7 _ _ ?_
  refine W.seqK fun K8 hK8 => ?_
  have hs := hs.ownNil t_history_Value 68
  have Jk14 : ∀ (x10 : List history_Value) (a11 : Option Addr) (c12 : Nat) (n13 : Nat) (ρ : Env) (w : World), ρ 3 = .slice a11 n13 c12 → St ok (bz w0) w [] [own t_history_Value 68 (.slice a11 n13 c12) x10] → history_Visible.j1 x10 = some r → K8 ρ w := by
    intro x10 a11 c12 n13 ρ w h9_3 hs hf
    refine hK8 _ _ ?_
    unfold history_Visible.j1 at hf
    refine W.seqK fun K15 hK15 => ?_
    refine W.region ?_
    refine WL.move (v := .slice a11 n13 c12) h9_3 ?_
    refine WL.assign (v := .slice a11 n13 c12) rfl ?_
    refine WL.nil ?_
    refine hK15 _ _ ?_
    refine W.ret ?_
    have hr := Option.some.inj hf; subst hr
    exact ⟨_, resOk_one rfl rfl, (a11, n13, c12), rfl, (hs.mask [true]).pick []⟩
  refine W.seqK fun K16 hK16 => ?_
  refine W.region ?_
  refine WL.fieldAddr (m := 0) rfl FA50_0 rfl ?_
  refine WL.loadF (z := x1.Objects) F_fold_Store_Objects hs 1 rfl 0 rfl rfl TI48 (.inr rfl) rfl rfl (fun v17 hs => ?_)
  obtain ⟨a18, c19, rfl⟩ := hs.slice 0 rfl
  refine WL.len (v := .slice a18 (x1.Objects).length c19) rfl (len_slice UN48) ?_
  refine WL.move (v := .int .i64 0) rfl ?_
  refine WL.nil ?_
  refine hK16 _ _ ?_
  refine W.block ?_
  obtain ⟨bs26, hbs26, hfs26⟩ := bindE hf
  refine W.loop hbs26 (fun s ρ w => match s with | (x21, x25) => ∃ (a22 : Option Addr), ∃ (c23 : Nat), ∃ (n24 : Nat), ρ 3 = .slice a22 n24 c23 ∧ ρ 10 = .slice a18 (x1.Objects).length c19 ∧ ρ 11 = .int .i64 ((x1.Objects).length : Int) ∧ ρ 12 = .int .i64 x25 ∧ St ok (bz w0) w [vl (tSlice t_fold_Object) x1.Objects (.slice a18 (x1.Objects).length c19)] [own t_history_Value 68 (.slice a22 n24 c23) x21]) ⟨none, 0, 0, rfl, rfl, rfl, rfl, (hs.mask [true]).pick [0]⟩ ?_
  intro s ρ w os26 hI hf hbbs26
  obtain ⟨x21, x25⟩ := s
  obtain ⟨a22, c23, n24, h20_3, h20_10, h20_11, h20_12, hs⟩ := hI
  unfold history_Visible.l2 at hf
  refine W.seqK fun K27 hK27 => ?_
  refine W.region ?_
  refine WL.bin (v := .bool (decide (x25 < ((x1.Objects).length : Int)))) h20_12 h20_11 (ib_lss _ _ _) ?_
  refine WL.nil ?_
  refine hK27 _ _ ?_
  refine W.seqK fun K28 hK28 => ?_
  rcases iteE hf with ⟨hc29, hf⟩ | ⟨hc29, hf⟩
  {
  refine W.cond_true (bool_tr rfl hc29) ?_
  refine W.skip ?_
  refine hK28 _ _ ?_
  refine W.seqK fun K30 hK30 => ?_
  have Jk36 : ∀ (x32 : List history_Value) (a33 : Option Addr) (c34 : Nat) (n35 : Nat) (ρ : Env) (w : World), ρ 3 = .slice a33 n35 c34 → ρ 10 = .slice a18 (x1.Objects).length c19 → ρ 11 = .int .i64 ((x1.Objects).length : Int) → ρ 12 = .int .i64 x25 → St ok (bz w0) w [vl (tSlice t_fold_Object) x1.Objects (.slice a18 (x1.Objects).length c19)] [own t_history_Value 68 (.slice a33 n35 c34) x32] → history_Visible.j2 x25 x32 = some os26 → K30 ρ w := by
    intro x32 a33 c34 n35 ρ w h31_3 h31_10 h31_11 h31_12 hs hf
    refine hK30 _ _ ?_
    unfold history_Visible.j2 at hf
    refine W.region ?_
    obtain ⟨x37, ex37, hf⟩ := letE hf
    refine WL.bin (v := .int .i64 x37) h31_12 rfl (ib_as ex37 (ib_add _ _ _)) ?_
    refine WL.move (v := .int .i64 x37) rfl ?_
    refine WL.nil ?_
    exact ⟨_, (Option.some.inj hf).symm, a33, c34, n35, h31_3, h31_10, h31_11, rfl, (hs.mask [true]).pick [0]⟩
  refine W.block ?_
  refine W.seqK fun K38 hK38 => ?_
  refine W.region ?_
  obtain ⟨x39, hxx39, hf⟩ := bindE hf
  refine WL.indexAddr hs 0 rfl UN48 TI65 h20_10 h20_12 hxx39 (fun ad40 hs => ?_)
  refine WL.loadP hs 0 rfl TI65 (.inl rfl) rfl (fun v41 hs => ?_)
  obtain ⟨cs42, hl43, rfl⟩ := hs.aggv (n := 2) 0 rfl rfl rfl
  refine WL.alloc hs ZV65 (fun g44 w hs => ?_)
  refine WL.storeAll (vs := cs42) hs 0 rfl TI65 rfl rfl rfl hl43 (hs.ones 0 rfl rfl) rfl (fun w hs => ?_)
  refine WL.nil ?_
  refine hK38 _ _ ?_
  refine W.seqK fun K45 hK45 => ?_
  refine W.region ?_
  refine WL.fieldAddr (m := 1) rfl FA65_1 rfl ?_
  refine WL.loadF (z := x39.Fields) F_fold_Object_Fields hs 0 rfl 0 rfl rfl TI63 (.inr rfl) rfl rfl (fun v46 hs => ?_)
  obtain ⟨a47, c48, rfl⟩ := hs.slice 0 rfl
  refine WL.len (v := .slice a47 (x39.Fields).length c48) rfl (len_slice UN63) ?_
  refine WL.move (v := .int .i64 0) rfl ?_
  refine WL.nil ?_
  refine hK45 _ _ ?_
  refine W.block ?_
  obtain ⟨bs55, hbs55, hfs55⟩ := bindE hf
  refine W.loop hbs55 (fun s ρ w => match s with | (x50, x54) => ∃ (a51 : Option Addr), ∃ (c52 : Nat), ∃ (n53 : Nat), ρ 3 = .slice a51 n53 c52 ∧ ρ 5 = .pointer (some ⟨g44, 0, none⟩) ∧ ρ 10 = .slice a18 (x1.Objects).length c19 ∧ ρ 11 = .int .i64 ((x1.Objects).length : Int) ∧ ρ 12 = .int .i64 x25 ∧ ρ 17 = .slice a47 (x39.Fields).length c48 ∧ ρ 18 = .int .i64 ((x39.Fields).length : Int) ∧ ρ 19 = .int .i64 x54 ∧ St ok (bz w0) w [vl (tSlice t_fold_Object) x1.Objects (.slice a18 (x1.Objects).length c19), vl (tSlice t_fold_Field) x39.Fields (.slice a47 (x39.Fields).length c48), vl t_fold_Object x39 (.agg cs42.toArray)] [blk g44 65 cs42, own t_history_Value 68 (.slice a51 n53 c52) x50]) ⟨a22, c23, n24, h20_3, rfl, h20_10, h20_11, h20_12, rfl, rfl, rfl, (hs.mask [true, true]).pick [3, 0, 1]⟩ ?_
  intro s ρ w os55 hI hf hbbs55
  obtain ⟨x50, x54⟩ := s
  obtain ⟨a51, c52, n53, h49_3, h49_5, h49_10, h49_11, h49_12, h49_17, h49_18, h49_19, hs⟩ := hI
  unfold history_Visible.l1 at hf
  refine W.seqK fun K56 hK56 => ?_
  refine W.region ?_
  refine WL.bin (v := .bool (decide (x54 < ((x39.Fields).length : Int)))) h49_19 h49_18 (ib_lss _ _ _) ?_
  refine WL.nil ?_
  refine hK56 _ _ ?_
  refine W.seqK fun K57 hK57 => ?_
  rcases iteE hf with ⟨hc58, hf⟩ | ⟨hc58, hf⟩
  {
  refine W.cond_true (bool_tr rfl hc58) ?_
  refine W.skip ?_
  refine hK57 _ _ ?_
  refine W.seqK fun K59 hK59 => ?_
  refine W.block ?_
  refine W.seqK fun K60 hK60 => ?_
  refine W.region ?_
  obtain ⟨x61, hxx61, hf⟩ := bindE hf
  refine WL.indexAddr hs 1 rfl UN63 TI61 h49_17 h49_19 hxx61 (fun ad62 hs => ?_)
  refine WL.loadP hs 0 rfl TI61 (.inl rfl) rfl (fun v63 hs => ?_)
  obtain ⟨cs64, hl65, rfl⟩ := hs.aggv (n := 12) 0 rfl rfl rfl
  refine WL.alloc hs ZV61 (fun g66 w hs => ?_)
  refine WL.storeAll (vs := cs64) hs 0 rfl TI61 rfl rfl rfl hl65 (hs.ones 0 rfl rfl) rfl (fun w hs => ?_)
  refine WL.nil ?_
  refine hK60 _ _ ?_
  refine W.seqK fun K67 hK67 => ?_
  refine W.region ?_
  refine WL.fieldAddr (m := 1) rfl FA61_1 rfl ?_
  refine WL.loadF (z := x61.Register) F_fold_Field_Register hs 0 rfl 0 rfl rfl TI58 (.inl rfl) rfl rfl (fun v68 hs => ?_)
  obtain ⟨cs69, hl70, rfl⟩ := hs.aggv (n := 6) 0 rfl rfl rfl
  refine WL.alloc hs ZV58 (fun g71 w hs => ?_)
  refine WL.storeAll (vs := cs69) hs 0 rfl TI58 rfl rfl rfl hl70 (hs.ones 0 rfl rfl) rfl (fun w hs => ?_)
  refine WL.nil ?_
  refine hK67 _ _ ?_
  obtain ⟨x83, hxx83, hf⟩ := bindE hf
  refine W.any (by kernel_rfl) 24 2 [true, true, true, true, true, true, true, true, true, true, true, true, true, true, true, true, true, true, true, true, true, true, true, true, false, false] rfl rfl (poAt [pv (.slice a51 n53 c52), pv (.pointer (some ⟨g44, 0, none⟩)), pv (bstr x39.Name), pv (.pointer (some ⟨g66, 0, none⟩)), pv (bstr x61.Name), pv (.pointer (some ⟨g71, 0, none⟩)), pv (.bool x61.Register.Set), pv (.pointer (some ⟨g71, 4, none⟩)), pv (.int .i64 x61.Register.N), pv (.pointer (some ⟨g71, 5, none⟩)), pv (bstr x61.Register.S), pv (.pointer (some ⟨g66, 7, none⟩)), pv (.bool x61.HasMax), pv (.pointer (some ⟨g66, 8, none⟩)), pv (.int .i64 x61.Max), pv (.pointer (some ⟨g66, 9, none⟩)), pv (.int .i64 x61.Sum), pv (.pointer (some ⟨g66, 10, none⟩)), pq (fun y : (Option Addr × Nat) => .slice y.1 (x61.Elems).length y.2) (fun v => [vl (tSlice tStr) x61.Elems v]) (fun v => []), pq (fun y : (Option Addr × Nat) => .slice y.1 x83.length y.2) (fun v => [vl (tSlice tStr) x83 v]) (fun v => []), pv (.pointer (some ⟨g66, 11, none⟩)), pv (.bool x61.Flag), pn [19] (fun r => .agg ([bstr x39.Name, bstr x61.Name, .bool x61.Register.Set, .int .i64 x61.Register.N, bstr x61.Register.S, .bool x61.HasMax, .int .i64 x61.Max, .int .i64 x61.Sum, r.getD 0 undef, .bool x61.Flag] : List Value).toArray), pq (fun y : (Option Addr × Nat) => .slice y.1 ([(⟨x39.Name, x61.Name, x61.Register.Set, x61.Register.N, x61.Register.S, x61.HasMax, x61.Max, x61.Sum, x83, x61.Flag⟩ : history_Value)]).length y.2) (fun v => [vl (tSlice t_history_Value) [(⟨x39.Name, x61.Name, x61.Register.Set, x61.Register.N, x61.Register.S, x61.HasMax, x61.Max, x61.Sum, x83, x61.Flag⟩ : history_Value)] v]) (fun v => [])]) (Λ := [blk g71 58 cs69, blk g66 61 cs64, blk g44 65 cs42, own t_history_Value 68 (.slice a51 n53 c52) x50]) hs (by kernel_rfl) (by kernel_rfl) (by kernel_rfl) ⟨⟨⟨⟨⟨⟨⟨⟨⟨⟨⟨⟨⟨⟨⟨⟨⟨⟨⟨⟨⟨⟨⟨⟨trivial, ?_⟩, ?_⟩, ?_⟩, ?_⟩, ?_⟩, ?_⟩, ?_⟩, ?_⟩, ?_⟩, ?_⟩, ?_⟩, ?_⟩, ?_⟩, ?_⟩, ?_⟩, ?_⟩, ?_⟩, ?_⟩, ?_⟩, ?_⟩, ?_⟩, ?_⟩, ?_⟩, ?_⟩ ?_
  {
  intro ρ w Γx Λx hs hu hp
  refine WL.move (v := .slice a51 n53 c52) ((hu 3 rfl).trans h49_3) ?_
  exact WL.nil ⟨rfl, _, rfl, rfl, hs.cutG 0 0⟩ }
  {
  intro ρ w Γx Λx hs hu hp
  refine WL.fieldAddr (m := 0) ((hu 5 rfl).trans h49_5) FA65_0 rfl ?_
  exact WL.nil ⟨rfl, _, rfl, rfl, hs.cutG 0 0⟩ }
  {
  intro ρ w Γx Λx hs hu hp
  have e89 : ρ 26 = .pointer (some ⟨g44, 0, none⟩) := (hp 1 rfl).1
  refine WL.loadF (z := x39.Name) F_fold_Object_Name hs (Λx.length + 2) (getApp rfl) (Γx.length + 5) (getApp rfl) rfl TI9 (.inr rfl) e89 rfl (fun v72 hs => ?_)
  obtain rfl := hs.str 0 rfl
  exact WL.nil ⟨rfl, _, rfl, rfl, hs.cutG 0 1⟩ }
  {
  intro ρ w Γx Λx hs hu hp
  refine WL.fieldAddr (m := 0) (hu 7 rfl) FA61_0 rfl ?_
  exact WL.nil ⟨rfl, _, rfl, rfl, hs.cutG 0 0⟩ }
  {
  intro ρ w Γx Λx hs hu hp
  have e90 : ρ 28 = .pointer (some ⟨g66, 0, none⟩) := (hp 3 rfl).1
  refine WL.loadF (z := x61.Name) F_fold_Field_Name hs (Λx.length + 1) (getApp rfl) (Γx.length + 1) (getApp rfl) rfl TI9 (.inr rfl) e90 rfl (fun v73 hs => ?_)
  obtain rfl := hs.str 0 rfl
  exact WL.nil ⟨rfl, _, rfl, rfl, hs.cutG 0 1⟩ }
  {
  intro ρ w Γx Λx hs hu hp
  refine WL.fieldAddr (m := 0) (hu 8 rfl) FA58_0 rfl ?_
  exact WL.nil ⟨rfl, _, rfl, rfl, hs.cutG 0 0⟩ }
  {
  intro ρ w Γx Λx hs hu hp
  have e91 : ρ 30 = .pointer (some ⟨g71, 0, none⟩) := (hp 5 rfl).1
  refine WL.loadF (z := x61.Register.Set) F_fold_Register_Set hs (Λx.length + 0) (getApp rfl) (Γx.length + 0) (getApp rfl) rfl TI4 (.inr rfl) e91 rfl (fun v74 hs => ?_)
  obtain rfl := hs.bool 0 rfl
  exact WL.nil ⟨rfl, _, rfl, rfl, hs.cutG 0 1⟩ }
  {
  intro ρ w Γx Λx hs hu hp
  refine WL.fieldAddr (m := 4) (hu 8 rfl) FA58_4 rfl ?_
  exact WL.nil ⟨rfl, _, rfl, rfl, hs.cutG 0 0⟩ }
  {
  intro ρ w Γx Λx hs hu hp
  have e92 : ρ 32 = .pointer (some ⟨g71, 4, none⟩) := (hp 7 rfl).1
  refine WL.loadF (z := x61.Register.N) F_fold_Register_N hs (Λx.length + 0) (getApp rfl) (Γx.length + 0) (getApp rfl) rfl TI2 (.inr rfl) e92 rfl (fun v75 hs => ?_)
  obtain rfl := hs.int 0 rfl
  exact WL.nil ⟨rfl, _, rfl, rfl, hs.cutG 0 1⟩ }
  {
  intro ρ w Γx Λx hs hu hp
  refine WL.fieldAddr (m := 5) (hu 8 rfl) FA58_5 rfl ?_
  exact WL.nil ⟨rfl, _, rfl, rfl, hs.cutG 0 0⟩ }
  {
  intro ρ w Γx Λx hs hu hp
  have e93 : ρ 34 = .pointer (some ⟨g71, 5, none⟩) := (hp 9 rfl).1
  refine WL.loadF (z := x61.Register.S) F_fold_Register_S hs (Λx.length + 0) (getApp rfl) (Γx.length + 0) (getApp rfl) rfl TI9 (.inr rfl) e93 rfl (fun v76 hs => ?_)
  obtain rfl := hs.str 0 rfl
  exact WL.nil ⟨rfl, _, rfl, rfl, hs.cutG 0 1⟩ }
  {
  intro ρ w Γx Λx hs hu hp
  refine WL.fieldAddr (m := 7) (hu 7 rfl) FA61_2 rfl ?_
  exact WL.nil ⟨rfl, _, rfl, rfl, hs.cutG 0 0⟩ }
  {
  intro ρ w Γx Λx hs hu hp
  have e94 : ρ 36 = .pointer (some ⟨g66, 7, none⟩) := (hp 11 rfl).1
  refine WL.loadF (z := x61.HasMax) F_fold_Field_HasMax hs (Λx.length + 1) (getApp rfl) (Γx.length + 1) (getApp rfl) rfl TI4 (.inr rfl) e94 rfl (fun v77 hs => ?_)
  obtain rfl := hs.bool 0 rfl
  exact WL.nil ⟨rfl, _, rfl, rfl, hs.cutG 0 1⟩ }
  {
  intro ρ w Γx Λx hs hu hp
  refine WL.fieldAddr (m := 8) (hu 7 rfl) FA61_3 rfl ?_
  exact WL.nil ⟨rfl, _, rfl, rfl, hs.cutG 0 0⟩ }
  {
  intro ρ w Γx Λx hs hu hp
  have e95 : ρ 38 = .pointer (some ⟨g66, 8, none⟩) := (hp 13 rfl).1
  refine WL.loadF (z := x61.Max) F_fold_Field_Max hs (Λx.length + 1) (getApp rfl) (Γx.length + 1) (getApp rfl) rfl TI2 (.inr rfl) e95 rfl (fun v78 hs => ?_)
  obtain rfl := hs.int 0 rfl
  exact WL.nil ⟨rfl, _, rfl, rfl, hs.cutG 0 1⟩ }
  {
  intro ρ w Γx Λx hs hu hp
  refine WL.fieldAddr (m := 9) (hu 7 rfl) FA61_4 rfl ?_
  exact WL.nil ⟨rfl, _, rfl, rfl, hs.cutG 0 0⟩ }
  {
  intro ρ w Γx Λx hs hu hp
  have e96 : ρ 40 = .pointer (some ⟨g66, 9, none⟩) := (hp 15 rfl).1
  refine WL.loadF (z := x61.Sum) F_fold_Field_Sum hs (Λx.length + 1) (getApp rfl) (Γx.length + 1) (getApp rfl) rfl TI2 (.inr rfl) e96 rfl (fun v79 hs => ?_)
  obtain rfl := hs.int 0 rfl
  exact WL.nil ⟨rfl, _, rfl, rfl, hs.cutG 0 1⟩ }
  {
  intro ρ w Γx Λx hs hu hp
  refine WL.fieldAddr (m := 10) (hu 7 rfl) FA61_5 rfl ?_
  exact WL.nil ⟨rfl, _, rfl, rfl, hs.cutG 0 0⟩ }
  {
  intro ρ w Γx Λx hs hu hp
  have e97 : ρ 42 = .pointer (some ⟨g66, 10, none⟩) := (hp 17 rfl).1
  refine WL.loadF (z := x61.Elems) F_fold_Field_Elems hs (Λx.length + 1) (getApp rfl) (Γx.length + 1) (getApp rfl) rfl TI59 (.inr rfl) e97 rfl (fun v80 hs => ?_)
  obtain ⟨a81, c82, rfl⟩ := hs.slice 0 rfl
  have hs := hs.add (it := vl (tSlice tStr) x61.Elems (.slice a81 (x61.Elems).length c82)) fun ok hA => hA.get 0 rfl
  exact WL.nil ⟨rfl, _, rfl, ⟨(a81, c82), rfl⟩, hs.cutG 1 1⟩ }
  {
  intro ρ w Γx Λx hs hu hp
  obtain ⟨⟨⟨a98, c99⟩, e100r⟩, hm101⟩ := hp 18 rfl
  have e100 : ρ 43 = .slice a98 (x61.Elems).length c99 := e100r
  rw [e100r] at hm101
  have hs := hs.memo1 (it := vl (tSlice tStr) x61.Elems (.slice a98 (x61.Elems).length c99)) (List.mem_append.2 (.inl (hm101 _ (List.mem_of_getElem? (i := 0) rfl))))
  refine WL.call (vs := [.slice a98 (x61.Elems).length c99]) hs FN50 ⟨e100, trivial⟩ (fun ok hA => slices_Clone_string.callc (x1 := x61.Elems) hxx83 (hA.get 0 rfl)) ?_
  rintro ⟨a84, c85⟩ w hs
  have hs := hs.add (it := vl (tSlice tStr) x83 (.slice a84 x83.length c85)) fun ok hA => hA.get 0 rfl
  exact WL.nil ⟨rfl, _, rfl, ⟨(a84, c85), rfl⟩, hs.cutG 1 2⟩ }
  {
  intro ρ w Γx Λx hs hu hp
  refine WL.fieldAddr (m := 11) (hu 7 rfl) FA61_6 rfl ?_
  exact WL.nil ⟨rfl, _, rfl, rfl, hs.cutG 0 0⟩ }
  {
  intro ρ w Γx Λx hs hu hp
  have e102 : ρ 45 = .pointer (some ⟨g66, 11, none⟩) := (hp 20 rfl).1
  refine WL.loadF (z := x61.Flag) F_fold_Field_Flag hs (Λx.length + 1) (getApp rfl) (Γx.length + 1) (getApp rfl) rfl TI4 (.inr rfl) e102 rfl (fun v86 hs => ?_)
  obtain rfl := hs.bool 0 rfl
  exact WL.nil ⟨rfl, _, rfl, rfl, hs.cutG 0 1⟩ }
  {
  intro ρ w Γx Λx hs hu hp
  have e103 : ρ 27 = bstr x39.Name := (hp 2 rfl).1
  have e104 : ρ 29 = bstr x61.Name := (hp 4 rfl).1
  have e105 : ρ 31 = .bool x61.Register.Set := (hp 6 rfl).1
  have e106 : ρ 33 = .int .i64 x61.Register.N := (hp 8 rfl).1
  have e107 : ρ 35 = bstr x61.Register.S := (hp 10 rfl).1
  have e108 : ρ 37 = .bool x61.HasMax := (hp 12 rfl).1
  have e109 : ρ 39 = .int .i64 x61.Max := (hp 14 rfl).1
  have e110 : ρ 41 = .int .i64 x61.Sum := (hp 16 rfl).1
  obtain ⟨⟨⟨a111, c112⟩, e113r⟩, hm114⟩ := hp 19 rfl
  have e113 : ρ 44 = .slice a111 x83.length c112 := e113r
  rw [e113r] at hm114
  have hs := hs.memo1 (it := vl (tSlice tStr) x83 (.slice a111 x83.length c112)) (List.mem_append.2 (.inl (hm114 _ (List.mem_of_getElem? (i := 0) rfl))))
  have e115 : ρ 46 = .bool x61.Flag := (hp 21 rfl).1
  refine WL.build (vs := [(0, bstr x39.Name), (1, bstr x61.Name), (2, .bool x61.Register.Set), (3, .int .i64 x61.Register.N), (4, bstr x61.Register.S), (5, .bool x61.HasMax), (6, .int .i64 x61.Max), (7, .int .i64 x61.Sum), (8, .slice a111 x83.length c112), (9, .bool x61.Flag)]) (cs := [bstr x39.Name, bstr x61.Name, .bool x61.Register.Set, .int .i64 x61.Register.N, bstr x61.Register.S, .bool x61.HasMax, .int .i64 x61.Max, .int .i64 x61.Sum, .slice a111 x83.length c112, .bool x61.Flag]) ⟨⟨rfl, e103⟩, ⟨⟨rfl, e104⟩, ⟨⟨rfl, e105⟩, ⟨⟨rfl, e106⟩, ⟨⟨rfl, e107⟩, ⟨⟨rfl, e108⟩, ⟨⟨rfl, e109⟩, ⟨⟨rfl, e110⟩, ⟨⟨rfl, e113⟩, ⟨⟨rfl, e115⟩, trivial⟩⟩⟩⟩⟩⟩⟩⟩⟩⟩ (bld PL68 (by kernel_rfl)) ?_
  exact WL.nil ⟨rfl, _, rfl, (show (.agg ([bstr x39.Name, bstr x61.Name, .bool x61.Register.Set, .int .i64 x61.Register.N, bstr x61.Register.S, .bool x61.HasMax, .int .i64 x61.Max, .int .i64 x61.Sum, .slice a111 x83.length c112, .bool x61.Flag] : List Value).toArray : Value) = (.agg ([bstr x39.Name, bstr x61.Name, .bool x61.Register.Set, .int .i64 x61.Register.N, bstr x61.Register.S, .bool x61.HasMax, .int .i64 x61.Max, .int .i64 x61.Sum, ρ 44, .bool x61.Flag] : List Value).toArray : Value) by rw [e113]), hs.cutG 0 1⟩ }
  {
  intro ρ w Γx Λx hs hu hp
  obtain ⟨⟨⟨a116, c117⟩, e118r⟩, hm119⟩ := hp 19 rfl
  have e118 : ρ 44 = .slice a116 x83.length c117 := e118r
  rw [e118r] at hm119
  have hs := hs.memo1 (it := vl (tSlice tStr) x83 (.slice a116 x83.length c117)) (List.mem_append.2 (.inl (hm119 _ (List.mem_of_getElem? (i := 0) rfl))))
  have e120 : ρ 47 = .agg ([bstr x39.Name, bstr x61.Name, .bool x61.Register.Set, .int .i64 x61.Register.N, bstr x61.Register.S, .bool x61.HasMax, .int .i64 x61.Max, .int .i64 x61.Sum, ρ 44, .bool x61.Flag] : List Value).toArray := (hp 22 rfl).1
  rw [e118] at e120
  refine WL.buildSliceB (ys := [(⟨x39.Name, x61.Name, x61.Register.Set, x61.Register.N, x61.Register.S, x61.HasMax, x61.Max, x61.Sum, x83, x61.Flag⟩ : history_Value)]) (n := 1) (vs := [(0, .agg ([bstr x39.Name, bstr x61.Name, .bool x61.Register.Set, .int .i64 x61.Register.N, bstr x61.Register.S, .bool x61.HasMax, .int .i64 x61.Max, .int .i64 x61.Sum, .slice a116 x83.length c117, .bool x61.Flag] : List Value).toArray)]) (cs := [bstr x39.Name, bstr x61.Name, .bool x61.Register.Set, .int .i64 x61.Register.N, bstr x61.Register.S, .bool x61.HasMax, .int .i64 x61.Max, .int .i64 x61.Sum, .slice a116 x83.length c117, .bool x61.Flag]) hs ⟨⟨rfl, e120⟩, trivial⟩ (bls PS31 (by decide) rfl) (fun ok hA => (Cells.one (T := t_history_Value) (show t_history_Value.R ok _ (⟨x39.Name, x61.Name, x61.Register.Set, x61.Register.N, x61.Register.S, x61.HasMax, x61.Max, x61.Sum, x83, x61.Flag⟩ : history_Value) _ from ⟨[bstr x39.Name], [bstr x61.Name, .bool x61.Register.Set, .int .i64 x61.Register.N, bstr x61.Register.S, .bool x61.HasMax, .int .i64 x61.Max, .int .i64 x61.Sum, .slice a116 x83.length c117, .bool x61.Flag], rfl, rfl, ⟨[bstr x61.Name], [.bool x61.Register.Set, .int .i64 x61.Register.N, bstr x61.Register.S, .bool x61.HasMax, .int .i64 x61.Max, .int .i64 x61.Sum, .slice a116 x83.length c117, .bool x61.Flag], rfl, rfl, ⟨[.bool x61.Register.Set], [.int .i64 x61.Register.N, bstr x61.Register.S, .bool x61.HasMax, .int .i64 x61.Max, .int .i64 x61.Sum, .slice a116 x83.length c117, .bool x61.Flag], rfl, rfl, ⟨[.int .i64 x61.Register.N], [bstr x61.Register.S, .bool x61.HasMax, .int .i64 x61.Max, .int .i64 x61.Sum, .slice a116 x83.length c117, .bool x61.Flag], rfl, rfl, ⟨[bstr x61.Register.S], [.bool x61.HasMax, .int .i64 x61.Max, .int .i64 x61.Sum, .slice a116 x83.length c117, .bool x61.Flag], rfl, rfl, ⟨[.bool x61.HasMax], [.int .i64 x61.Max, .int .i64 x61.Sum, .slice a116 x83.length c117, .bool x61.Flag], rfl, rfl, ⟨[.int .i64 x61.Max], [.int .i64 x61.Sum, .slice a116 x83.length c117, .bool x61.Flag], rfl, rfl, ⟨[.int .i64 x61.Sum], [.slice a116 x83.length c117, .bool x61.Flag], rfl, rfl, ⟨[.slice a116 x83.length c117], [.bool x61.Flag], rfl, (R_one (hA.get 0 rfl)), rfl⟩⟩⟩⟩⟩⟩⟩⟩⟩))) rfl (by decide) (fun a88 w hBl hs => ?_)
  have hs := hs.add (it := vl (tSlice t_history_Value) [(⟨x39.Name, x61.Name, x61.Register.Set, x61.Register.N, x61.Register.S, x61.HasMax, x61.Max, x61.Sum, x83, x61.Flag⟩ : history_Value)] (.slice a88 ([(⟨x39.Name, x61.Name, x61.Register.Set, x61.Register.N, x61.Register.S, x61.HasMax, x61.Max, x61.Sum, x83, x61.Flag⟩ : history_Value)]).length 1)) fun ok hA => hA.get 0 rfl
  exact WL.nil ⟨rfl, _, rfl, ⟨(a88, 1), rfl⟩, hs.cutG 1 2⟩ }
  {
  intro ρ w hs hu121 hp
  obtain ⟨⟨⟨⟨⟨⟨⟨⟨⟨⟨⟨⟨⟨⟨⟨⟨⟨⟨⟨⟨⟨⟨⟨⟨_, hp0_⟩, hp1_⟩, hp2_⟩, hp3_⟩, hp4_⟩, hp5_⟩, hp6_⟩, hp7_⟩, hp8_⟩, hp9_⟩, hp10_⟩, hp11_⟩, hp12_⟩, hp13_⟩, hp14_⟩, hp15_⟩, hp16_⟩, hp17_⟩, hp18_⟩, hp19_⟩, hp20_⟩, hp21_⟩, hp22_⟩, hp23_⟩ := hp
  have hs : St ok (bz w0) w [vl (tSlice t_history_Value) [(⟨x39.Name, x61.Name, x61.Register.Set, x61.Register.N, x61.Register.S, x61.HasMax, x61.Max, x61.Sum, x83, x61.Flag⟩ : history_Value)] (ρ 48), vl (tSlice tStr) x83 (ρ 44), vl (tSlice tStr) x61.Elems (ρ 43), vl t_fold_Register x61.Register (.agg cs69.toArray), vl t_fold_Field x61 (.agg cs64.toArray), pl t_fold_Field x61 ad62, vl (tSlice t_fold_Object) x1.Objects (.slice a18 (x1.Objects).length c19), vl (tSlice t_fold_Field) x39.Fields (.slice a47 (x39.Fields).length c48), vl t_fold_Object x39 (.agg cs42.toArray)] [blk g71 58 cs69, blk g66 61 cs64, blk g44 65 cs42, own t_history_Value 68 (.slice a51 n53 c52) x50] := hs
  obtain ⟨⟨a122, c123⟩, e124⟩ := hp23_
  have e124 : ρ 48 = .slice a122 ([(⟨x39.Name, x61.Name, x61.Register.Set, x61.Register.N, x61.Register.S, x61.HasMax, x61.Max, x61.Sum, x83, x61.Flag⟩ : history_Value)]).length c123 := e124
  try rw [e124] at hs
  have e125 : ρ 46 = .bool x61.Flag := hp21_
  have e126 : ρ 45 = .pointer (some ⟨g66, 11, none⟩) := hp20_
  obtain ⟨⟨a127, c128⟩, e129⟩ := hp19_
  have e129 : ρ 44 = .slice a127 x83.length c128 := e129
  try rw [e129] at hs
  obtain ⟨⟨a130, c131⟩, e132⟩ := hp18_
  have e132 : ρ 43 = .slice a130 (x61.Elems).length c131 := e132
  try rw [e132] at hs
  have e133 : ρ 42 = .pointer (some ⟨g66, 10, none⟩) := hp17_
  have e134 : ρ 41 = .int .i64 x61.Sum := hp16_
  have e135 : ρ 40 = .pointer (some ⟨g66, 9, none⟩) := hp15_
  have e136 : ρ 39 = .int .i64 x61.Max := hp14_
  have e137 : ρ 38 = .pointer (some ⟨g66, 8, none⟩) := hp13_
  have e138 : ρ 37 = .bool x61.HasMax := hp12_
  have e139 : ρ 36 = .pointer (some ⟨g66, 7, none⟩) := hp11_
  have e140 : ρ 35 = bstr x61.Register.S := hp10_
  have e141 : ρ 34 = .pointer (some ⟨g71, 5, none⟩) := hp9_
  have e142 : ρ 33 = .int .i64 x61.Register.N := hp8_
  have e143 : ρ 32 = .pointer (some ⟨g71, 4, none⟩) := hp7_
  have e144 : ρ 31 = .bool x61.Register.Set := hp6_
  have e145 : ρ 30 = .pointer (some ⟨g71, 0, none⟩) := hp5_
  have e146 : ρ 29 = bstr x61.Name := hp4_
  have e147 : ρ 28 = .pointer (some ⟨g66, 0, none⟩) := hp3_
  have e148 : ρ 27 = bstr x39.Name := hp2_
  have e149 : ρ 26 = .pointer (some ⟨g44, 0, none⟩) := hp1_
  have e150 : ρ 25 = .slice a51 n53 c52 := hp0_
  have e151 : ρ 47 = .agg ([bstr x39.Name, bstr x61.Name, .bool x61.Register.Set, .int .i64 x61.Register.N, bstr x61.Register.S, .bool x61.HasMax, .int .i64 x61.Max, .int .i64 x61.Sum, ρ 44, .bool x61.Flag] : List Value).toArray := hp22_
  rw [e129] at e151
  refine WA.step [24] (by kernel_rfl) (by simp) ⟨?_, trivial⟩
  obtain ⟨x152, hxx152, hf⟩ := bindE hf
  obtain ⟨hbx152, hex152⟩ := appE hxx152
  refine WL.appendS (zs := x152) hs 3 rfl 0 rfl UN31 UN31 EI68 e150 e124 hbx152 (by omega) hex152 (fun v153 w hs => ?_)
  obtain ⟨a154, n156, c155, rfl⟩ := hs.ownv3 3 rfl
  refine WL.nil ⟨rfl, _, rfl, ?_⟩
  refine WA.step [25] (by kernel_rfl) (by simp) ⟨?_, trivial⟩
  refine WL.assign (v := .slice a154 n156 c155) rfl ?_
  refine WL.nil ⟨rfl, _, rfl, ?_⟩
  refine WA.done (by kernel_rfl) ?_
  refine hK59 _ _ ?_
  refine W.region ?_
  obtain ⟨x157, ex157, hf⟩ := letE hf
  refine WL.bin (v := .int .i64 x157) ((hu121 19 rfl).trans h49_19) rfl (ib_as ex157 (ib_add _ _ _)) ?_
  refine WL.move (v := .int .i64 x157) rfl ?_
  refine WL.nil ?_
  exact ⟨_, (Option.some.inj hf).symm, a154, c155, n156, rfl, ((hu121 5 rfl).trans h49_5), ((hu121 10 rfl).trans h49_10), ((hu121 11 rfl).trans h49_11), ((hu121 12 rfl).trans h49_12), ((hu121 17 rfl).trans h49_17), ((hu121 18 rfl).trans h49_18), rfl, (hs.mask [false, false, true, true]).pick [6, 7, 8]⟩ } }
  {
  refine W.cond_false (bool_tr rfl hc58) ?_
  refine W.exit ?_
  have hr := Option.some.inj hf; subst hr
  have hr := hbbs55 _ rfl; subst hr
  have hf := hfs55
  exact Jk36 x50 a51 c52 n53 _ _ h49_3 h49_10 h49_11 h49_12 ((hs.mask [false, true]).pick [0]) hf } }
  {
  refine W.cond_false (bool_tr rfl hc29) ?_
  refine W.exit ?_
  have hr := Option.some.inj hf; subst hr
  have hr := hbbs26 _ rfl; subst hr
  have hf := hfs26
  exact Jk14 x21 a22 c23 n24 _ _ h20_3 ((hs.mask [true]).pick []) hf }
theorem update_ValidateEffect.calls {ok : Nat → Prop} {w0 : World} {x1 : api_Effect} {v2 : Value} {r : Int} (hf : update_ValidateEffect x1 = some r) (i0 : (vl t_api_Effect x1 v2).holds ok w0) :
    Calls Try.prog 76 #[v2] w0 fun e w' => ∃ v, e = .returned v ∧ ∃ y : Unit, v = .int .i64 r ∧ St ok (bz w0) w' [] [] := by
  unfold update_ValidateEffect at hf
  refine calls_of_W (fn := Try.f76) (N := 69) Try.func76 rfl Try.ntmps76 rfl ?_
  have hs : St ok (bz w0) w0 [vl t_api_Effect x1 v2] [] := St.init (All.cons i0 All.nil)
  clear i0
  obtain ⟨cs3, hl4, rfl⟩ := hs.aggv (n := 5) 0 rfl rfl rfl
  refine W.seqK fun K5 hK5 => ?_
  refine W.region ?_
  refine WL.box (vs := cs3) hs rfl rfl (fun g6 w hs => ?_)
  refine WL.assign (v := .int .i64 0) rfl ?_
  refine WL.nil ?_
  refine hK5 _ _ ?_
  refine W.seqK fun K7 hK7 => ?_
  refine W.block ?_
  refine W.seqK fun K8 hK8 => ?_
  have Jk11 : ∀ (x10 : Bool) (ρ : Env) (w : World), ρ 1 = .pointer (some ⟨g6, 0, none⟩) → ρ 3 = .bool x10 → St ok (bz w0) w [vl t_api_Effect x1 (.agg cs3.toArray)] [blk g6 72 cs3] → update_ValidateEffect.j7 x1 x10 = some r → K8 ρ w := by
    intro x10 ρ w h9_1 h9_3 hs hf
    refine hK8 _ _ ?_
    unfold update_ValidateEffect.j7 at hf
    rcases iteE hf with ⟨hc12, hf⟩ | ⟨hc12, hf⟩
    {
    refine W.cond_true (bool_tr h9_3 hc12) ?_
    refine W.seqK fun K13 hK13 => ?_
    refine W.region ?_
    refine WL.assign (v := .int .i64 10) rfl ?_
    refine WL.nil ?_
    refine hK13 _ _ ?_
    refine W.ret ?_
    have hr := Option.some.inj hf; subst hr
    exact ⟨_, resOk_one rfl rfl, (), rfl, (hs.mask []).pick []⟩ }
    {
    refine W.cond_false (bool_tr h9_3 hc12) ?_
    refine W.seqK fun K14 hK14 => ?_
    have Jk17 : ∀ (x16 : Bool) (ρ : Env) (w : World), ρ 1 = .pointer (some ⟨g6, 0, none⟩) → ρ 12 = .bool x16 → St ok (bz w0) w [vl t_api_Effect x1 (.agg cs3.toArray)] [blk g6 72 cs3] → update_ValidateEffect.j6 x1 x16 = some r → K14 ρ w := by
      intro x16 ρ w h15_1 h15_12 hs hf
      refine hK14 _ _ ?_
      unfold update_ValidateEffect.j6 at hf
      rcases iteE hf with ⟨hc18, hf⟩ | ⟨hc18, hf⟩
      {
      refine W.cond_true (bool_tr h15_12 hc18) ?_
      refine W.seqK fun K19 hK19 => ?_
      refine W.region ?_
      refine WL.assign (v := .int .i64 2) rfl ?_
      refine WL.nil ?_
      refine hK19 _ _ ?_
      refine W.ret ?_
      have hr := Option.some.inj hf; subst hr
      exact ⟨_, resOk_one rfl rfl, (), rfl, (hs.mask []).pick []⟩ }
      {
      refine W.cond_false (bool_tr h15_12 hc18) ?_
      refine W.seqK fun K20 hK20 => ?_
      have Jk23 : ∀ (x22 : Bool) (ρ : Env) (w : World), ρ 1 = .pointer (some ⟨g6, 0, none⟩) → ρ 21 = .bool x22 → St ok (bz w0) w [vl t_api_Effect x1 (.agg cs3.toArray)] [blk g6 72 cs3] → update_ValidateEffect.j5 x1 x22 = some r → K20 ρ w := by
        intro x22 ρ w h21_1 h21_21 hs hf
        refine hK20 _ _ ?_
        unfold update_ValidateEffect.j5 at hf
        rcases iteE hf with ⟨hc24, hf⟩ | ⟨hc24, hf⟩
        {
        refine W.cond_true (bool_tr h21_21 hc24) ?_
        refine W.seqK fun K25 hK25 => ?_
        refine W.region ?_
        refine WL.assign (v := .int .i64 3) rfl ?_
        refine WL.nil ?_
        refine hK25 _ _ ?_
        refine W.ret ?_
        have hr := Option.some.inj hf; subst hr
        exact ⟨_, resOk_one rfl rfl, (), rfl, (hs.mask []).pick []⟩ }
        {
        refine W.cond_false (bool_tr h21_21 hc24) ?_
        refine W.skip ?_
        refine hK7 _ _ ?_
        refine W.seqK fun K26 hK26 => ?_
        have Jk28 : ∀  (ρ : Env) (w : World), ρ 1 = .pointer (some ⟨g6, 0, none⟩) → St ok (bz w0) w [vl t_api_Effect x1 (.agg cs3.toArray)] [blk g6 72 cs3] → update_ValidateEffect.j2 x1 = some r → K26 ρ w := by
          intro  ρ w h27_1 hs hf
          refine hK26 _ _ ?_
          unfold update_ValidateEffect.j2 at hf
          refine W.seqK fun K29 hK29 => ?_
          refine W.seqK fun K30 hK30 => ?_
          have Jk33 : ∀ (x32 : Bool) (ρ : Env) (w : World), ρ 68 = .bool x32 → St ok (bz w0) w [] [] → update_ValidateEffect.j1 x32 = some r → K30 ρ w := by
            intro x32 ρ w h31_68 hs hf
            refine hK30 _ _ ?_
            unfold update_ValidateEffect.j1 at hf
            rcases iteE hf with ⟨hc34, hf⟩ | ⟨hc34, hf⟩
            {
            refine W.cond_true (bool_tr h31_68 hc34) ?_
            refine W.seqK fun K35 hK35 => ?_
            refine W.region ?_
            refine WL.assign (v := .int .i64 2) rfl ?_
            refine WL.nil ?_
            refine hK35 _ _ ?_
            refine W.ret ?_
            have hr := Option.some.inj hf; subst hr
            exact ⟨_, resOk_one rfl rfl, (), rfl, (hs.mask []).pick []⟩ }
            {
            refine W.cond_false (bool_tr h31_68 hc34) ?_
            refine W.skip ?_
            refine hK29 _ _ ?_
            refine W.seqK fun K36 hK36 => ?_
            refine W.region ?_
            refine WL.assign (v := .int .i64 0) rfl ?_
            refine WL.nil ?_
            refine hK36 _ _ ?_
            refine W.ret ?_
            have hr := Option.some.inj hf; subst hr
            exact ⟨_, resOk_one rfl rfl, (), rfl, (hs.mask []).pick []⟩ }
          refine W.region ?_
          refine WL.fieldAddr (m := 4) h27_1 FA72_4 rfl ?_
          refine WL.loadF (z := x1.S) F_api_Effect_S hs 0 rfl 0 rfl rfl TI9 (.inr rfl) rfl rfl (fun v37 hs => ?_)
          obtain rfl := hs.str 0 rfl
          refine WL.binS (v := .bool (x1.S != ([] : List UInt8))) rfl rfl (sb_neq _ _) ?_
          refine WL.move (v := .bool (x1.S != ([] : List UInt8))) rfl ?_
          rcases iteE hf with ⟨hc38, hf⟩ | ⟨hc38, hf⟩
          {
          refine WL.fieldAddr (m := 0) h27_1 FA72_0 rfl ?_ (hg := (wanted_of rfl rfl (bool_tr rfl hc38)).trans rfl)
          refine WL.loadF (z := x1.Kind) F_api_Effect_Kind hs 0 rfl 1 rfl rfl TI3 (.inr rfl) rfl rfl (fun v39 hs => ?_) (hg := (wanted_of rfl rfl (bool_tr rfl hc38)).trans rfl)
          obtain rfl := hs.int 0 rfl
          refine WL.bin (v := .bool (x1.Kind != 1)) rfl rfl (ib_neq _ _ _) ?_ (hg := (wanted_of rfl rfl (bool_tr rfl hc38)).trans rfl)
          refine WL.pickT (v := .bool (x1.Kind != 1)) (bool_tr rfl hc38) rfl ?_
          refine WL.move (v := .bool (x1.Kind != 1)) rfl ?_
          rcases iteE hf with ⟨hc40, hf⟩ | ⟨hc40, hf⟩
          {
          refine WL.fieldAddr (m := 0) h27_1 FA72_0 rfl ?_ (hg := (wanted_of rfl rfl (bool_tr rfl hc40)).trans rfl)
          refine WL.loadF (z := x1.Kind) F_api_Effect_Kind hs 0 rfl 2 rfl rfl TI3 (.inr rfl) rfl rfl (fun v41 hs => ?_) (hg := (wanted_of rfl rfl (bool_tr rfl hc40)).trans rfl)
          obtain rfl := hs.int 0 rfl
          refine WL.bin (v := .bool (x1.Kind != 4)) rfl rfl (ib_neq _ _ _) ?_ (hg := (wanted_of rfl rfl (bool_tr rfl hc40)).trans rfl)
          refine WL.pickT (v := .bool (x1.Kind != 4)) (bool_tr rfl hc40) rfl ?_
          refine WL.nil ?_
          exact Jk33 (x1.Kind != 4) _ _ rfl ((hs.mask []).pick []) hf }
          {
          refine WL.pass ((wanted_of rfl rfl (bool_tr rfl hc40)).trans rfl) rfl ?_
          refine WL.pass ((wanted_of rfl rfl (bool_tr rfl hc40)).trans rfl) rfl ?_
          refine WL.pass ((wanted_of rfl rfl (bool_tr rfl hc40)).trans rfl) rfl ?_
          refine WL.pickF (v := .bool false) (bool_tr rfl hc40) rfl ?_
          refine WL.nil ?_
          exact Jk33 false _ _ rfl ((hs.mask []).pick []) hf } }
          {
          refine WL.pass ((wanted_of rfl rfl (bool_tr rfl hc38)).trans rfl) rfl ?_
          refine WL.pass ((wanted_of rfl rfl (bool_tr rfl hc38)).trans rfl) rfl ?_
          refine WL.pass ((wanted_of rfl rfl (bool_tr rfl hc38)).trans rfl) rfl ?_
          refine WL.pickF (v := .bool false) (bool_tr rfl hc38) rfl ?_
          refine WL.move (v := .bool false) rfl ?_
          refine WL.pass ((wanted_of rfl rfl rfl).trans rfl) rfl ?_
          refine WL.pass ((wanted_of rfl rfl rfl).trans rfl) rfl ?_
          refine WL.pass ((wanted_of rfl rfl rfl).trans rfl) rfl ?_
          refine WL.pickF (v := .bool false) rfl rfl ?_
          refine WL.nil ?_
          exact Jk33 false _ _ rfl ((hs.mask []).pick []) hf }
        refine W.seqK fun K42 hK42 => ?_
        refine W.region ?_
        refine WL.fieldAddr (m := 0) h21_1 FA72_0 rfl ?_
        refine WL.loadF (z := x1.Kind) F_api_Effect_Kind hs 0 rfl 0 rfl rfl TI3 (.inr rfl) rfl rfl (fun v43 hs => ?_)
        obtain rfl := hs.int 0 rfl
        refine WL.nil ?_
        refine hK42 _ _ ?_
        refine W.block ?_
        refine W.seqK fun K44 hK44 => ?_
        refine W.region ?_
        refine WL.bin (v := .bool (x1.Kind == 3)) rfl rfl (ib_eql _ _ _) ?_
        refine WL.assign (v := .bool (x1.Kind == 3)) rfl ?_
        refine WL.nil ?_
        refine hK44 _ _ ?_
        rcases iteE hf with ⟨hc45, hf⟩ | ⟨hc45, hf⟩
        {
        refine W.cond_true (bool_tr rfl hc45) ?_
        refine W.seqK fun K46 hK46 => ?_
        have Jk49 : ∀ (x48 : Bool) (ρ : Env) (w : World), ρ 1 = .pointer (some ⟨g6, 0, none⟩) → ρ 49 = .bool x48 → St ok (bz w0) w [vl t_api_Effect x1 (.agg cs3.toArray)] [blk g6 72 cs3] → update_ValidateEffect.j3 x1 x48 = some r → K46 ρ w := by
          intro x48 ρ w h47_1 h47_49 hs hf
          refine hK46 _ _ ?_
          unfold update_ValidateEffect.j3 at hf
          rcases iteE hf with ⟨hc50, hf⟩ | ⟨hc50, hf⟩
          {
          refine W.cond_true (bool_tr h47_49 hc50) ?_
          refine W.seqK fun K51 hK51 => ?_
          refine W.region ?_
          refine WL.assign (v := .int .i64 9) rfl ?_
          refine WL.nil ?_
          refine hK51 _ _ ?_
          refine W.ret ?_
          have hr := Option.some.inj hf; subst hr
          exact ⟨_, resOk_one rfl rfl, (), rfl, (hs.mask []).pick []⟩ }
          {
          refine W.cond_false (bool_tr h47_49 hc50) ?_
          refine W.skip ?_
          exact Jk28  _ _ h47_1 ((hs.mask [true]).pick [0]) hf }
        refine W.region ?_
        refine WL.fieldAddr (m := 3) h21_1 FA72_3 rfl ?_
        refine WL.loadF (z := x1.N) F_api_Effect_N hs 0 rfl 1 rfl rfl TI2 (.inr rfl) rfl rfl (fun v52 hs => ?_)
        obtain rfl := hs.int 0 rfl
        refine WL.bin (v := .bool (decide (x1.N < (-1000000)))) rfl rfl (ib_lss _ _ _) ?_
        refine WL.move (v := .bool (decide (x1.N < (-1000000)))) rfl ?_
        rcases iteE hf with ⟨hc53, hf⟩ | ⟨hc53, hf⟩
        {
        refine WL.pass ((wanted_of rfl rfl (bool_tr rfl hc53)).trans rfl) rfl ?_
        refine WL.pass ((wanted_of rfl rfl (bool_tr rfl hc53)).trans rfl) rfl ?_
        refine WL.pass ((wanted_of rfl rfl (bool_tr rfl hc53)).trans rfl) rfl ?_
        refine WL.pickT (v := .bool true) (bool_tr rfl hc53) rfl ?_
        refine WL.nil ?_
        exact Jk49 true _ _ h21_1 rfl ((hs.mask [true]).pick [2]) hf }
        {
        refine WL.fieldAddr (m := 3) h21_1 FA72_3 rfl ?_ (hg := (wanted_of rfl rfl (bool_tr rfl hc53)).trans rfl)
        refine WL.loadF (z := x1.N) F_api_Effect_N hs 0 rfl 2 rfl rfl TI2 (.inr rfl) rfl rfl (fun v54 hs => ?_) (hg := (wanted_of rfl rfl (bool_tr rfl hc53)).trans rfl)
        obtain rfl := hs.int 0 rfl
        refine WL.bin (v := .bool (decide (1000000 < x1.N))) rfl rfl (ib_gtr _ _ _) ?_ (hg := (wanted_of rfl rfl (bool_tr rfl hc53)).trans rfl)
        refine WL.pickF (v := .bool (decide (1000000 < x1.N))) (bool_tr rfl hc53) rfl ?_
        refine WL.nil ?_
        exact Jk49 (decide (1000000 < x1.N)) _ _ h21_1 rfl ((hs.mask [true]).pick [3]) hf } }
        {
        refine W.cond_false (bool_tr rfl hc45) ?_
        refine W.seqK fun K55 hK55 => ?_
        have Jk58 : ∀ (x57 : Bool) (ρ : Env) (w : World), ρ 1 = .pointer (some ⟨g6, 0, none⟩) → ρ 50 = .bool x57 → St ok (bz w0) w [vl t_api_Effect x1 (.agg cs3.toArray)] [blk g6 72 cs3] → update_ValidateEffect.j4 x1 x57 = some r → K55 ρ w := by
          intro x57 ρ w h56_1 h56_50 hs hf
          refine hK55 _ _ ?_
          unfold update_ValidateEffect.j4 at hf
          rcases iteE hf with ⟨hc59, hf⟩ | ⟨hc59, hf⟩
          {
          refine W.cond_true (bool_tr h56_50 hc59) ?_
          refine W.seqK fun K60 hK60 => ?_
          refine W.region ?_
          refine WL.fieldAddr (m := 3) h56_1 FA72_3 rfl ?_
          refine WL.loadF (z := x1.N) F_api_Effect_N hs 0 rfl 0 rfl rfl TI2 (.inr rfl) rfl rfl (fun v61 hs => ?_)
          obtain rfl := hs.int 0 rfl
          refine WL.bin (v := .bool (x1.N != 0)) rfl rfl (ib_neq _ _ _) ?_
          refine WL.nil ?_
          refine hK60 _ _ ?_
          rcases iteE hf with ⟨hc62, hf⟩ | ⟨hc62, hf⟩
          {
          refine W.cond_true (bool_tr rfl hc62) ?_
          refine W.seqK fun K63 hK63 => ?_
          refine W.region ?_
          refine WL.assign (v := .int .i64 9) rfl ?_
          refine WL.nil ?_
          refine hK63 _ _ ?_
          refine W.ret ?_
          have hr := Option.some.inj hf; subst hr
          exact ⟨_, resOk_one rfl rfl, (), rfl, (hs.mask []).pick []⟩ }
          {
          refine W.cond_false (bool_tr rfl hc62) ?_
          refine W.skip ?_
          exact Jk28  _ _ h56_1 ((hs.mask [true]).pick [1]) hf } }
          {
          refine W.cond_false (bool_tr h56_50 hc59) ?_
          refine W.skip ?_
          exact Jk28  _ _ h56_1 ((hs.mask [true]).pick [0]) hf }
        refine W.seqK fun K64 hK64 => ?_
        refine W.region ?_
        refine WL.bin (v := .bool (x1.Kind == 4)) rfl rfl (ib_eql _ _ _) ?_
        refine WL.assign (v := .bool (x1.Kind == 4)) rfl ?_
        refine WL.nil ?_
        refine hK64 _ _ ?_
        rcases iteE hf with ⟨hc65, hf⟩ | ⟨hc65, hf⟩
        {
        refine W.cond_true (bool_tr rfl hc65) ?_
        refine W.skip ?_
        exact Jk58 true _ _ h21_1 (bool_tr rfl hc65) ((hs.mask [true]).pick [1]) hf }
        {
        refine W.cond_false (bool_tr rfl hc65) ?_
        refine W.region ?_
        refine WL.bin (v := .bool (x1.Kind == 5)) rfl rfl (ib_eql _ _ _) ?_
        refine WL.assign (v := .bool (x1.Kind == 5)) rfl ?_
        refine WL.nil ?_
        exact Jk58 (x1.Kind == 5) _ _ h21_1 rfl ((hs.mask [true]).pick [1]) hf } } }
      refine W.region ?_
      refine WL.fieldAddr (m := 1) h15_1 FA72_1 rfl ?_
      refine WL.loadF (z := x1.Object) F_api_Effect_Object hs 0 rfl 0 rfl rfl TI9 (.inr rfl) rfl rfl (fun v66 hs => ?_)
      obtain rfl := hs.str 0 rfl
      refine WL.len (v := bstr x1.Object) rfl (len_string UN9) ?_
      refine WL.bin (v := .bool (decide (16 < ((x1.Object).length : Int)))) rfl rfl (ib_gtr _ _ _) ?_
      refine WL.move (v := .bool (decide (16 < ((x1.Object).length : Int)))) rfl ?_
      rcases iteE hf with ⟨hc67, hf⟩ | ⟨hc67, hf⟩
      {
      refine WL.pass ((wanted_of rfl rfl (bool_tr rfl hc67)).trans rfl) rfl ?_
      refine WL.pass ((wanted_of rfl rfl (bool_tr rfl hc67)).trans rfl) rfl ?_
      refine WL.pass ((wanted_of rfl rfl (bool_tr rfl hc67)).trans rfl) rfl ?_
      refine WL.pass ((wanted_of rfl rfl (bool_tr rfl hc67)).trans rfl) rfl ?_
      refine WL.pickT (v := .bool true) (bool_tr rfl hc67) rfl ?_
      refine WL.move (v := .bool true) rfl ?_
      refine WL.pass ((wanted_of rfl rfl rfl).trans rfl) rfl ?_
      refine WL.pass ((wanted_of rfl rfl rfl).trans rfl) rfl ?_
      refine WL.pass ((wanted_of rfl rfl rfl).trans rfl) rfl ?_
      refine WL.pass ((wanted_of rfl rfl rfl).trans rfl) rfl ?_
      refine WL.pickT (v := .bool true) rfl rfl ?_
      refine WL.assign (v := .bool true) rfl ?_
      refine WL.nil ?_
      exact Jk23 true _ _ h15_1 rfl ((hs.mask [true]).pick [1]) hf }
      {
      refine WL.fieldAddr (m := 2) h15_1 FA72_2 rfl ?_ (hg := (wanted_of rfl rfl (bool_tr rfl hc67)).trans rfl)
      refine WL.loadF (z := x1.Field) F_api_Effect_Field hs 0 rfl 1 rfl rfl TI9 (.inr rfl) rfl rfl (fun v68 hs => ?_) (hg := (wanted_of rfl rfl (bool_tr rfl hc67)).trans rfl)
      obtain rfl := hs.str 0 rfl
      refine WL.len (v := bstr x1.Field) rfl (len_string UN9) ?_ (hg := (wanted_of rfl rfl (bool_tr rfl hc67)).trans rfl)
      refine WL.bin (v := .bool (decide (16 < ((x1.Field).length : Int)))) rfl rfl (ib_gtr _ _ _) ?_ (hg := (wanted_of rfl rfl (bool_tr rfl hc67)).trans rfl)
      refine WL.pickF (v := .bool (decide (16 < ((x1.Field).length : Int)))) (bool_tr rfl hc67) rfl ?_
      refine WL.move (v := .bool (decide (16 < ((x1.Field).length : Int)))) rfl ?_
      rcases iteE hf with ⟨hc69, hf⟩ | ⟨hc69, hf⟩
      {
      refine WL.pass ((wanted_of rfl rfl (bool_tr rfl hc69)).trans rfl) rfl ?_
      refine WL.pass ((wanted_of rfl rfl (bool_tr rfl hc69)).trans rfl) rfl ?_
      refine WL.pass ((wanted_of rfl rfl (bool_tr rfl hc69)).trans rfl) rfl ?_
      refine WL.pass ((wanted_of rfl rfl (bool_tr rfl hc69)).trans rfl) rfl ?_
      refine WL.pickT (v := .bool true) (bool_tr rfl hc69) rfl ?_
      refine WL.assign (v := .bool true) rfl ?_
      refine WL.nil ?_
      exact Jk23 true _ _ h15_1 rfl ((hs.mask [true]).pick [2]) hf }
      {
      refine WL.fieldAddr (m := 4) h15_1 FA72_4 rfl ?_ (hg := (wanted_of rfl rfl (bool_tr rfl hc69)).trans rfl)
      refine WL.loadF (z := x1.S) F_api_Effect_S hs 0 rfl 2 rfl rfl TI9 (.inr rfl) rfl rfl (fun v70 hs => ?_) (hg := (wanted_of rfl rfl (bool_tr rfl hc69)).trans rfl)
      obtain rfl := hs.str 0 rfl
      refine WL.len (v := bstr x1.S) rfl (len_string UN9) ?_ (hg := (wanted_of rfl rfl (bool_tr rfl hc69)).trans rfl)
      refine WL.bin (v := .bool (decide (32 < ((x1.S).length : Int)))) rfl rfl (ib_gtr _ _ _) ?_ (hg := (wanted_of rfl rfl (bool_tr rfl hc69)).trans rfl)
      refine WL.pickF (v := .bool (decide (32 < ((x1.S).length : Int)))) (bool_tr rfl hc69) rfl ?_
      refine WL.assign (v := .bool (decide (32 < ((x1.S).length : Int)))) rfl ?_
      refine WL.nil ?_
      exact Jk23 (decide (32 < ((x1.S).length : Int))) _ _ h15_1 rfl ((hs.mask [true]).pick [3]) hf } } }
    refine W.region ?_
    refine WL.fieldAddr (m := 1) h9_1 FA72_1 rfl ?_
    refine WL.loadF (z := x1.Object) F_api_Effect_Object hs 0 rfl 0 rfl rfl TI9 (.inr rfl) rfl rfl (fun v71 hs => ?_)
    obtain rfl := hs.str 0 rfl
    obtain ⟨x72, hxx72, hf⟩ := bindE hf
    refine WL.call (vs := [bstr x1.Object]) hs FN84 ⟨rfl, trivial⟩ (fun ok hA => update_empty.calls (x1 := x1.Object) hxx72) ?_
    rintro _ w hs
    refine WL.move (v := .bool x72) rfl ?_
    rcases iteE hf with ⟨hc73, hf⟩ | ⟨hc73, hf⟩
    {
    refine WL.pass ((wanted_of rfl rfl (bool_tr rfl hc73)).trans rfl) rfl ?_
    refine WL.pass ((wanted_of rfl rfl (bool_tr rfl hc73)).trans rfl) rfl ?_
    refine WL.pass ((wanted_of rfl rfl (bool_tr rfl hc73)).trans rfl) rfl ?_
    refine WL.pickT (v := .bool true) (bool_tr rfl hc73) rfl ?_
    refine WL.assign (v := .bool true) rfl ?_
    refine WL.nil ?_
    exact Jk17 true _ _ h9_1 rfl ((hs.mask [true]).pick [1]) hf }
    {
    refine WL.fieldAddr (m := 2) h9_1 FA72_2 rfl ?_ (hg := (wanted_of rfl rfl (bool_tr rfl hc73)).trans rfl)
    refine WL.loadF (z := x1.Field) F_api_Effect_Field hs 0 rfl 1 rfl rfl TI9 (.inr rfl) rfl rfl (fun v74 hs => ?_) (hg := (wanted_of rfl rfl (bool_tr rfl hc73)).trans rfl)
    obtain rfl := hs.str 0 rfl
    obtain ⟨x75, hxx75, hf⟩ := bindE hf
    refine WL.call (vs := [bstr x1.Field]) hs FN84 ⟨rfl, trivial⟩ (fun ok hA => update_empty.calls (x1 := x1.Field) hxx75) ?_ (hg := (wanted_of rfl rfl (bool_tr rfl hc73)).trans rfl)
    rintro _ w hs
    refine WL.pickF (v := .bool x75) (bool_tr rfl hc73) rfl ?_
    refine WL.assign (v := .bool x75) rfl ?_
    refine WL.nil ?_
    exact Jk17 x75 _ _ h9_1 rfl ((hs.mask [true]).pick [2]) hf } }
  refine W.region ?_
  refine WL.fieldAddr (m := 0) rfl FA72_0 rfl ?_
  refine WL.loadF (z := x1.Kind) F_api_Effect_Kind hs 0 rfl 0 rfl rfl TI3 (.inr rfl) rfl rfl (fun v76 hs => ?_)
  obtain rfl := hs.int 0 rfl
  refine WL.bin (v := .bool (decide (x1.Kind < 1))) rfl rfl (ib_lss _ _ _) ?_
  refine WL.move (v := .bool (decide (x1.Kind < 1))) rfl ?_
  rcases iteE hf with ⟨hc77, hf⟩ | ⟨hc77, hf⟩
  {
  refine WL.pass ((wanted_of rfl rfl (bool_tr rfl hc77)).trans rfl) rfl ?_
  refine WL.pass ((wanted_of rfl rfl (bool_tr rfl hc77)).trans rfl) rfl ?_
  refine WL.pass ((wanted_of rfl rfl (bool_tr rfl hc77)).trans rfl) rfl ?_
  refine WL.pickT (v := .bool true) (bool_tr rfl hc77) rfl ?_
  refine WL.assign (v := .bool true) rfl ?_
  refine WL.nil ?_
  exact Jk11 true _ _ rfl rfl ((hs.mask [true]).pick [1]) hf }
  {
  refine WL.fieldAddr (m := 0) rfl FA72_0 rfl ?_ (hg := (wanted_of rfl rfl (bool_tr rfl hc77)).trans rfl)
  refine WL.loadF (z := x1.Kind) F_api_Effect_Kind hs 0 rfl 1 rfl rfl TI3 (.inr rfl) rfl rfl (fun v78 hs => ?_) (hg := (wanted_of rfl rfl (bool_tr rfl hc77)).trans rfl)
  obtain rfl := hs.int 0 rfl
  refine WL.bin (v := .bool (decide (5 < x1.Kind))) rfl rfl (ib_gtr _ _ _) ?_ (hg := (wanted_of rfl rfl (bool_tr rfl hc77)).trans rfl)
  refine WL.pickF (v := .bool (decide (5 < x1.Kind))) (bool_tr rfl hc77) rfl ?_
  refine WL.assign (v := .bool (decide (5 < x1.Kind))) rfl ?_
  refine WL.nil ?_
  exact Jk11 (decide (5 < x1.Kind)) _ _ rfl rfl ((hs.mask [true]).pick [2]) hf }
theorem slices_IndexFunc_Effect.calls {ok : Nat → Prop} {w0 : World} {x1 : List api_Effect} {x4 : api_Effect → Option Bool} {a2 : Option Addr} {c3 : Nat} {v5 : Value} {r : Int} (hf : slices_IndexFunc_Effect x1 x4 = some r) (i0 : (vl (tSlice t_api_Effect) x1 (.slice a2 x1.length c3)).holds ok w0) (i1 : (vl (tFun Try.prog (argK1 t_api_Effect) (fun r : Bool => .bool r)) x4 v5).holds ok w0) :
    Calls Try.prog 98 #[.slice a2 x1.length c3, v5] w0 fun e w' => ∃ v, e = .returned v ∧ ∃ y : Unit, v = .int .i64 r ∧ St ok (bz w0) w' [] [] := by
  unfold slices_IndexFunc_Effect at hf
  refine calls_of_W (fn := Try.f98) (N := 19) Try.func98 rfl Try.ntmps98 rfl ?_
  have hs : St ok (bz w0) w0 [vl (tSlice t_api_Effect) x1 (.slice a2 x1.length c3), vl (tFun Try.prog (argK1 t_api_Effect) (fun r : Bool => .bool r)) x4 v5] [] := St.init (All.cons i0 (All.cons i1 All.nil))
  clear i0 i1
  refine W.seqK fun K6 hK6 => ?_
  refine W.region ?_
  refine WL.assign (v := .int .i64 0) rfl ?_
  refine WL.nil ?_
  refine hK6 _ _ ?_
  refine W.seqK fun K7 hK7 => ?_
  have Jk9 : ∀  (ρ : Env) (w : World), St ok (bz w0) w [] [] → slices_IndexFunc_Effect.j1 = some r → K7 ρ w := by
    intro  ρ w  hs hf
    refine hK7 _ _ ?_
    unfold slices_IndexFunc_Effect.j1 at hf
    refine W.seqK fun K10 hK10 => ?_
    refine W.region ?_
    refine WL.assign (v := .int .i64 (-1)) rfl ?_
    refine WL.nil ?_
    refine hK10 _ _ ?_
    refine W.ret ?_
    have hr := Option.some.inj hf; subst hr
    exact ⟨_, resOk_one rfl rfl, (), rfl, (hs.mask []).pick []⟩
  refine W.seqK fun K11 hK11 => ?_
  refine W.region ?_
  refine WL.move (v := .slice a2 x1.length c3) rfl ?_
  refine WL.len (v := .slice a2 x1.length c3) rfl (len_slice UN30) ?_
  refine WL.move (v := .int .i64 0) rfl ?_
  refine WL.nil ?_
  refine hK11 _ _ ?_
  refine W.block ?_
  obtain ⟨bs14, hbs14, hfs14⟩ := bindE hf
  refine W.loop hbs14 (fun s ρ w => match s with | x13 => ρ 0 = .slice a2 x1.length c3 ∧ ρ 1 = v5 ∧ ρ 7 = .int .i64 (x1.length : Int) ∧ ρ 8 = .int .i64 x13 ∧ St ok (bz w0) w [vl (tSlice t_api_Effect) x1 (.slice a2 x1.length c3), vl (tFun Try.prog (argK1 t_api_Effect) (fun r : Bool => .bool r)) x4 v5] []) ⟨rfl, rfl, rfl, rfl, (hs.mask []).pick [0, 1]⟩ ?_
  intro x13 ρ w os14 hI hf hbbs14
  obtain ⟨h12_0, h12_1, h12_7, h12_8, hs⟩ := hI
  unfold slices_IndexFunc_Effect.l1 at hf
  refine W.seqK fun K15 hK15 => ?_
  refine W.region ?_
  refine WL.bin (v := .bool (decide (x13 < (x1.length : Int)))) h12_8 h12_7 (ib_lss _ _ _) ?_
  refine WL.nil ?_
  refine hK15 _ _ ?_
  refine W.seqK fun K16 hK16 => ?_
  rcases iteE hf with ⟨hc17, hf⟩ | ⟨hc17, hf⟩
  {
  refine W.cond_true (bool_tr rfl hc17) ?_
  refine W.skip ?_
  refine hK16 _ _ ?_
  refine W.seqK fun K18 hK18 => ?_
  refine W.block ?_
  refine W.seqK fun K19 hK19 => ?_
  refine W.region ?_
  refine WL.move (v := .int .i64 x13) h12_8 ?_
  refine WL.assign (v := .int .i64 x13) rfl ?_
  refine WL.nil ?_
  refine hK19 _ _ ?_
  refine W.seqK fun K20 hK20 => ?_
  refine W.region ?_
  refine WL.move (v := v5) h12_1 ?_
  refine WL.move (v := .slice a2 x1.length c3) h12_0 ?_
  refine WL.move (v := .int .i64 x13) rfl ?_
  obtain ⟨x21, hxx21, hf⟩ := bindE hf
  refine WL.indexAddr hs 0 rfl UN30 TI72 rfl rfl hxx21 (fun ad22 hs => ?_)
  refine WL.loadP hs 0 rfl TI72 (.inl rfl) rfl (fun v23 hs => ?_)
  obtain ⟨cs24, hl25, rfl⟩ := hs.aggv (n := 5) 0 rfl rfl rfl
  obtain ⟨x26, hxx26, hf⟩ := bindE hf
  refine WL.callF (x := x21) (vs := [.agg cs24.toArray]) hs 3 rfl rfl ⟨rfl, trivial⟩ (fun ok hA => ⟨_, rfl, hA.get 0 rfl⟩) hxx26 (fun w hs => ?_)
  refine WL.nil ?_
  refine hK20 _ _ ?_
  rcases iteE hf with ⟨hc27, hf⟩ | ⟨hc27, hf⟩
  {
  refine W.cond_true (bool_tr rfl hc27) ?_
  refine W.seqK fun K28 hK28 => ?_
  refine W.region ?_
  refine WL.move (v := .int .i64 x13) rfl ?_
  refine WL.assign (v := .int .i64 x13) rfl ?_
  refine WL.nil ?_
  refine hK28 _ _ ?_
  refine W.ret ?_
  have hr := Option.some.inj hf; subst hr
  have hr := hbbs14 _ rfl; subst hr
  have hf := hfs14
  have hr := Option.some.inj hf; subst hr
  exact ⟨_, resOk_one rfl rfl, (), rfl, (hs.mask []).pick []⟩ }
  {
  refine W.cond_false (bool_tr rfl hc27) ?_
  refine W.skip ?_
  refine hK18 _ _ ?_
  refine W.region ?_
  obtain ⟨x29, ex29, hf⟩ := letE hf
  refine WL.bin (v := .int .i64 x29) h12_8 rfl (ib_as ex29 (ib_add _ _ _)) ?_
  refine WL.move (v := .int .i64 x29) rfl ?_
  refine WL.nil ?_
  exact ⟨_, (Option.some.inj hf).symm, h12_0, h12_1, h12_7, rfl, (hs.mask []).pick [2, 3]⟩ } }
  {
  refine W.cond_false (bool_tr rfl hc17) ?_
  refine W.exit ?_
  have hr := Option.some.inj hf; subst hr
  have hr := hbbs14 _ rfl; subst hr
  have hf := hfs14
  exact Jk9  _ _  ((hs.mask []).pick []) hf }
theorem slices_ContainsFunc_Effect.calls {ok : Nat → Prop} {w0 : World} {x1 : List api_Effect} {x4 : api_Effect → Option Bool} {a2 : Option Addr} {c3 : Nat} {v5 : Value} {r : Bool} (hf : slices_ContainsFunc_Effect x1 x4 = some r) (i0 : (vl (tSlice t_api_Effect) x1 (.slice a2 x1.length c3)).holds ok w0) (i1 : (vl (tFun Try.prog (argK1 t_api_Effect) (fun r : Bool => .bool r)) x4 v5).holds ok w0) :
    Calls Try.prog 85 #[.slice a2 x1.length c3, v5] w0 fun e w' => ∃ v, e = .returned v ∧ ∃ y : Unit, v = .bool r ∧ St ok (bz w0) w' [] [] := by
  unfold slices_ContainsFunc_Effect at hf
  refine calls_of_W (fn := Try.f85) (N := 9) Try.func85 rfl Try.ntmps85 rfl ?_
  have hs : St ok (bz w0) w0 [vl (tSlice t_api_Effect) x1 (.slice a2 x1.length c3), vl (tFun Try.prog (argK1 t_api_Effect) (fun r : Bool => .bool r)) x4 v5] [] := St.init (All.cons i0 (All.cons i1 All.nil))
  clear i0 i1
  refine W.seqK fun K6 hK6 => ?_
  refine W.region ?_
  refine WL.assign (v := .bool false) rfl ?_
  refine WL.nil ?_
  refine hK6 _ _ ?_
  refine W.seqK fun K7 hK7 => ?_
  refine W.region ?_
  refine WL.move (v := .slice a2 x1.length c3) rfl ?_
  refine WL.move (v := v5) rfl ?_
  obtain ⟨x8, hxx8, hf⟩ := bindE hf
  refine WL.call (vs := [.slice a2 x1.length c3, v5]) hs FN98 ⟨rfl, ⟨rfl, trivial⟩⟩ (fun ok hA => slices_IndexFunc_Effect.calls (x1 := x1) (x4 := x4) hxx8 (hA.get 0 rfl) (hA.get 1 rfl)) ?_
  rintro _ w hs
  refine WL.bin (v := .bool (decide (0 ≤ x8))) rfl rfl (ib_geq _ _ _) ?_
  refine WL.assign (v := .bool (decide (0 ≤ x8))) rfl ?_
  refine WL.nil ?_
  refine hK7 _ _ ?_
  refine W.ret ?_
  have hr := Option.some.inj hf; subst hr
  exact ⟨_, resOk_one rfl rfl, (), rfl, (hs.mask []).pick []⟩
theorem update_Commutes_1.calls {ok : Nat → Prop} {w0 : World} {x1 : api_Effect} {v2 : Value} {r : Bool} (hf : update_Commutes_1 x1 = some r) (i0 : (vl t_api_Effect x1 v2).holds ok w0) :
    Calls Try.prog 86 #[v2] w0 fun e w' => ∃ v, e = .returned v ∧ ∃ y : Unit, v = .bool r ∧ St ok (bz w0) w' [] [] := by
  unfold update_Commutes_1 at hf
  refine calls_of_W (fn := Try.f86) (N := 6) Try.func86 rfl Try.ntmps86 rfl ?_
  have hs : St ok (bz w0) w0 [vl t_api_Effect x1 v2] [] := St.init (All.cons i0 All.nil)
  clear i0
  obtain ⟨cs3, hl4, rfl⟩ := hs.aggv (n := 5) 0 rfl rfl rfl
  refine W.seqK fun K5 hK5 => ?_
  refine W.region ?_
  refine WL.box (vs := cs3) hs rfl rfl (fun g6 w hs => ?_)
  refine WL.assign (v := .bool false) rfl ?_
  refine WL.nil ?_
  refine hK5 _ _ ?_
  refine W.seqK fun K7 hK7 => ?_
  refine W.region ?_
  refine WL.fieldAddr (m := 0) rfl FA72_0 rfl ?_
  refine WL.loadF (z := x1.Kind) F_api_Effect_Kind hs 0 rfl 0 rfl rfl TI3 (.inr rfl) rfl rfl (fun v8 hs => ?_)
  obtain rfl := hs.int 0 rfl
  refine WL.bin (v := .bool (x1.Kind == 1)) rfl rfl (ib_eql _ _ _) ?_
  refine WL.assign (v := .bool (x1.Kind == 1)) rfl ?_
  refine WL.nil ?_
  refine hK7 _ _ ?_
  refine W.ret ?_
  have hr := Option.some.inj hf; subst hr
  exact ⟨_, resOk_one rfl rfl, (), rfl, (hs.mask []).pick []⟩
theorem update_Commutes.calls {ok : Nat → Prop} {w0 : World} {x1 : api_Update} {v2 : Value} {r : Bool} (hf : update_Commutes x1 = some r) (i0 : (vl t_api_Update x1 v2).holds ok w0) :
    Calls Try.prog 77 #[v2] w0 fun e w' => ∃ v, e = .returned v ∧ ∃ y : Unit, v = .bool r ∧ St ok (bz w0) w' [] [] := by
  unfold update_Commutes at hf
  refine calls_of_W (fn := Try.f77) (N := 7) Try.func77 rfl Try.ntmps77 rfl ?_
  have hs : St ok (bz w0) w0 [vl t_api_Update x1 v2] [] := St.init (All.cons i0 All.nil)
  clear i0
  obtain ⟨cs3, hl4, rfl⟩ := hs.aggv (n := 4) 0 rfl rfl rfl
  refine W.seqK fun K5 hK5 => ?_
  refine W.region ?_
  refine WL.box (vs := cs3) hs rfl rfl (fun g6 w hs => ?_)
  refine WL.assign (v := .bool false) rfl ?_
  refine WL.nil ?_
  refine hK5 _ _ ?_
  refine W.seqK fun K7 hK7 => ?_
  refine W.region ?_
  refine WL.fieldAddr (m := 3) rfl FA75_3 rfl ?_
  refine WL.loadF (z := x1.Effects) F_api_Update_Effects hs 0 rfl 0 rfl rfl TI30 (.inr rfl) rfl rfl (fun v8 hs => ?_)
  obtain ⟨a9, c10, rfl⟩ := hs.slice 0 rfl
  have hs := hs.add (it := vl (tFun Try.prog (argK1 t_api_Effect) (fun r : Bool => .bool r)) (fun p : api_Effect => update_Commutes_1 p) (.func (.func 86) #[] #[])) fun ok hA => tFun_V.2 ⟨86, _, rfl, FN86, fun ok' w' hm p r vs hF har => by
    obtain ⟨u1, rfl, h1⟩ := har
    exact (update_Commutes_1.calls (x1 := p) hF h1).mono (by rintro e w2 ⟨v, h1, y, h2, h3⟩; exact ⟨v, h1, h2, h3⟩)⟩
  obtain ⟨x11, hxx11, hf⟩ := bindE hf
  refine WL.call (vs := [.slice a9 (x1.Effects).length c10, (.func (.func 86) #[] #[])]) hs FN85 ⟨rfl, ⟨rfl, trivial⟩⟩ (fun ok hA => slices_ContainsFunc_Effect.calls (x1 := x1.Effects) (x4 := (fun p : api_Effect => update_Commutes_1 p)) hxx11 (hA.get 1 rfl) (hA.get 0 rfl)) ?_
  rintro _ w hs
  refine WL.not rfl ?_
  refine WL.assign (v := .bool (!x11)) rfl ?_
  refine WL.nil ?_
  refine hK7 _ _ ?_
  refine W.ret ?_
  have hr := Option.some.inj hf; subst hr
  exact ⟨_, resOk_one rfl rfl, (), rfl, (hs.mask []).pick []⟩
theorem update_Validate.calls {ok : Nat → Prop} {w0 : World} {x1 : api_Update} {v2 : Value} {r : Int} (hf : update_Validate x1 = some r) (i0 : (vl t_api_Update x1 v2).holds ok w0) :
    Calls Try.prog 63 #[v2] w0 fun e w' => ∃ v, e = .returned v ∧ ∃ y : Unit, v = .int .i64 r ∧ St ok (bz w0) w' [] [] := by
  unfold update_Validate at hf
  refine calls_of_W (fn := Try.f63) (N := 76) Try.func63 rfl Try.ntmps63 rfl ?_
  have hs : St ok (bz w0) w0 [vl t_api_Update x1 v2] [] := St.init (All.cons i0 All.nil)
  clear i0
  obtain ⟨cs3, hl4, rfl⟩ := hs.aggv (n := 4) 0 rfl rfl rfl
  refine W.seqK fun K5 hK5 => ?_
  refine W.region ?_
  refine WL.box (vs := cs3) hs rfl rfl (fun g6 w hs => ?_)
  refine WL.assign (v := .int .i64 0) rfl ?_
  refine WL.nil ?_
  refine hK5 _ _ ?_
  refine W.seqK fun K7 hK7 => ?_
  refine W.block ?_
  refine W.seqK fun K8 hK8 => ?_
  have Jk11 : ∀ (x10 : Bool) (ρ : Env) (w : World), ρ 1 = .pointer (some ⟨g6, 0, none⟩) → ρ 7 = .bool x10 → St ok (bz w0) w [vl t_api_Update x1 (.agg cs3.toArray)] [blk g6 75 cs3] → update_Validate.j4 x1 x10 = some r → K8 ρ w := by
    intro x10 ρ w h9_1 h9_7 hs hf
    refine hK8 _ _ ?_
    unfold update_Validate.j4 at hf
    rcases iteE hf with ⟨hc12, hf⟩ | ⟨hc12, hf⟩
    {
    refine W.cond_true (bool_tr h9_7 hc12) ?_
    refine W.seqK fun K13 hK13 => ?_
    refine W.region ?_
    refine WL.assign (v := .int .i64 9) rfl ?_
    refine WL.nil ?_
    refine hK13 _ _ ?_
    refine W.ret ?_
    have hr := Option.some.inj hf; subst hr
    exact ⟨_, resOk_one rfl rfl, (), rfl, (hs.mask []).pick []⟩ }
    {
    refine W.cond_false (bool_tr h9_7 hc12) ?_
    refine W.seqK fun K14 hK14 => ?_
    have Jk17 : ∀ (x16 : Bool) (ρ : Env) (w : World), ρ 1 = .pointer (some ⟨g6, 0, none⟩) → ρ 16 = .bool x16 → St ok (bz w0) w [vl t_api_Update x1 (.agg cs3.toArray)] [blk g6 75 cs3] → update_Validate.j3 x1 x16 = some r → K14 ρ w := by
      intro x16 ρ w h15_1 h15_16 hs hf
      refine hK14 _ _ ?_
      unfold update_Validate.j3 at hf
      rcases iteE hf with ⟨hc18, hf⟩ | ⟨hc18, hf⟩
      {
      refine W.cond_true (bool_tr h15_16 hc18) ?_
      refine W.seqK fun K19 hK19 => ?_
      refine W.region ?_
      refine WL.assign (v := .int .i64 9) rfl ?_
      refine WL.nil ?_
      refine hK19 _ _ ?_
      refine W.ret ?_
      have hr := Option.some.inj hf; subst hr
      exact ⟨_, resOk_one rfl rfl, (), rfl, (hs.mask []).pick []⟩ }
      {
      refine W.cond_false (bool_tr h15_16 hc18) ?_
      refine W.seqK fun K20 hK20 => ?_
      refine W.region ?_
      refine WL.fieldAddr (m := 3) h15_1 FA75_3 rfl ?_
      refine WL.loadF (z := x1.Effects) F_api_Update_Effects hs 0 rfl 0 rfl rfl TI30 (.inr rfl) rfl rfl (fun v21 hs => ?_)
      obtain ⟨a22, c23, rfl⟩ := hs.slice 0 rfl
      refine WL.len (v := .slice a22 (x1.Effects).length c23) rfl (len_slice UN30) ?_
      refine WL.bin (v := .bool (((x1.Effects).length : Int) == 0)) rfl rfl (ib_eql _ _ _) ?_
      refine WL.assign (v := .bool (((x1.Effects).length : Int) == 0)) rfl ?_
      refine WL.nil ?_
      refine hK20 _ _ ?_
      rcases iteE hf with ⟨hc24, hf⟩ | ⟨hc24, hf⟩
      {
      refine W.cond_true (bool_tr rfl hc24) ?_
      refine W.seqK fun K25 hK25 => ?_
      refine W.region ?_
      refine WL.assign (v := .int .i64 2) rfl ?_
      refine WL.nil ?_
      refine hK25 _ _ ?_
      refine W.ret ?_
      have hr := Option.some.inj hf; subst hr
      exact ⟨_, resOk_one rfl rfl, (), rfl, (hs.mask []).pick []⟩ }
      {
      refine W.cond_false (bool_tr rfl hc24) ?_
      refine W.seqK fun K26 hK26 => ?_
      refine W.region ?_
      refine WL.fieldAddr (m := 3) h15_1 FA75_3 rfl ?_
      refine WL.loadF (z := x1.Effects) F_api_Update_Effects hs 0 rfl 1 rfl rfl TI30 (.inr rfl) rfl rfl (fun v27 hs => ?_)
      obtain ⟨a28, c29, rfl⟩ := hs.slice 0 rfl
      refine WL.len (v := .slice a28 (x1.Effects).length c29) rfl (len_slice UN30) ?_
      refine WL.bin (v := .bool (decide (4 < ((x1.Effects).length : Int)))) rfl rfl (ib_gtr _ _ _) ?_
      refine WL.assign (v := .bool (decide (4 < ((x1.Effects).length : Int)))) rfl ?_
      refine WL.nil ?_
      refine hK26 _ _ ?_
      rcases iteE hf with ⟨hc30, hf⟩ | ⟨hc30, hf⟩
      {
      refine W.cond_true (bool_tr rfl hc30) ?_
      refine W.seqK fun K31 hK31 => ?_
      refine W.region ?_
      refine WL.assign (v := .int .i64 3) rfl ?_
      refine WL.nil ?_
      refine hK31 _ _ ?_
      refine W.ret ?_
      have hr := Option.some.inj hf; subst hr
      exact ⟨_, resOk_one rfl rfl, (), rfl, (hs.mask []).pick []⟩ }
      {
      refine W.cond_false (bool_tr rfl hc30) ?_
      refine W.skip ?_
      refine hK7 _ _ ?_
      refine W.seqK fun K32 hK32 => ?_
      have Jk34 : ∀  (ρ : Env) (w : World), ρ 1 = .pointer (some ⟨g6, 0, none⟩) → St ok (bz w0) w [vl t_api_Update x1 (.agg cs3.toArray)] [blk g6 75 cs3] → update_Validate.j2 x1 = some r → K32 ρ w := by
        intro  ρ w h33_1 hs hf
        refine hK32 _ _ ?_
        unfold update_Validate.j2 at hf
        refine W.seqK fun K35 hK35 => ?_
        refine W.seqK fun K36 hK36 => ?_
        refine W.region ?_
        refine WL.loadAll hs 0 rfl TI75 h33_1 hl4 ?_
        obtain ⟨x37, hxx37, hf⟩ := bindE hf
        refine WL.call (vs := [.agg cs3.toArray]) hs FN77 ⟨rfl, trivial⟩ (fun ok hA => update_Commutes.calls (x1 := x1) hxx37 (hA.get 0 rfl)) ?_
        rintro _ w hs
        refine WL.assign (v := .bool x37) rfl ?_
        refine WL.nil ?_
        refine hK36 _ _ ?_
        refine W.seqK fun K38 hK38 => ?_
        have Jk41 : ∀ (x40 : Bool) (ρ : Env) (w : World), ρ 75 = .bool x40 → St ok (bz w0) w [] [] → update_Validate.j1 x40 = some r → K38 ρ w := by
          intro x40 ρ w h39_75 hs hf
          refine hK38 _ _ ?_
          unfold update_Validate.j1 at hf
          rcases iteE hf with ⟨hc42, hf⟩ | ⟨hc42, hf⟩
          {
          refine W.cond_true (bool_tr h39_75 hc42) ?_
          refine W.seqK fun K43 hK43 => ?_
          refine W.region ?_
          refine WL.assign (v := .int .i64 2) rfl ?_
          refine WL.nil ?_
          refine hK43 _ _ ?_
          refine W.ret ?_
          have hr := Option.some.inj hf; subst hr
          exact ⟨_, resOk_one rfl rfl, (), rfl, (hs.mask []).pick []⟩ }
          {
          refine W.cond_false (bool_tr h39_75 hc42) ?_
          refine W.skip ?_
          refine hK35 _ _ ?_
          refine W.seqK fun K44 hK44 => ?_
          refine W.region ?_
          refine WL.assign (v := .int .i64 0) rfl ?_
          refine WL.nil ?_
          refine hK44 _ _ ?_
          refine W.ret ?_
          have hr := Option.some.inj hf; subst hr
          exact ⟨_, resOk_one rfl rfl, (), rfl, (hs.mask []).pick []⟩ }
        refine W.region ?_
        refine WL.move (v := .bool x37) rfl ?_
        refine WL.move (v := .bool x37) rfl ?_
        rcases iteE hf with ⟨hc45, hf⟩ | ⟨hc45, hf⟩
        {
        refine WL.fieldAddr (m := 2) h33_1 FA75_2 rfl ?_ (hg := (wanted_of rfl rfl (bool_tr rfl hc45)).trans rfl)
        refine WL.loadF (z := x1.Tag) F_api_Update_Tag hs 0 rfl 0 rfl rfl TI3 (.inr rfl) rfl rfl (fun v46 hs => ?_) (hg := (wanted_of rfl rfl (bool_tr rfl hc45)).trans rfl)
        obtain rfl := hs.int 0 rfl
        refine WL.bin (v := .bool (x1.Tag != 0)) rfl rfl (ib_neq _ _ _) ?_ (hg := (wanted_of rfl rfl (bool_tr rfl hc45)).trans rfl)
        refine WL.pickT (v := .bool (x1.Tag != 0)) (bool_tr rfl hc45) rfl ?_
        refine WL.move (v := .bool (x1.Tag != 0)) rfl ?_
        rcases iteE hf with ⟨hc47, hf⟩ | ⟨hc47, hf⟩
        {
        refine WL.pass ((wanted_of rfl rfl (bool_tr rfl hc47)).trans rfl) rfl ?_
        refine WL.pass ((wanted_of rfl rfl (bool_tr rfl hc47)).trans rfl) rfl ?_
        refine WL.pass ((wanted_of rfl rfl (bool_tr rfl hc47)).trans rfl) rfl ?_
        refine WL.pass (wanted_undef rfl rfl rfl) rfl ?_
        refine WL.pass (wanted_undef rfl rfl rfl) rfl ?_
        refine WL.pass (wanted_undef rfl rfl rfl) rfl ?_
        refine WL.pass (wanted_undef rfl rfl rfl) rfl ?_
        refine WL.pass ((wanted_of rfl rfl (bool_tr rfl hc47)).trans rfl) rfl ?_
        refine WL.pickT (v := .bool true) (bool_tr rfl hc47) rfl ?_
        refine WL.nil ?_
        exact Jk41 true _ _ rfl ((hs.mask []).pick []) hf }
        {
        refine WL.move (v := .bool x37) rfl ?_ (hg := (wanted_of rfl rfl (bool_tr rfl hc47)).trans rfl)
        refine WL.not rfl ?_ (hg := (wanted_of rfl rfl (bool_tr rfl hc47)).trans rfl)
        refine WL.move (v := .bool (!x37)) rfl ?_ (hg := (wanted_of rfl rfl (bool_tr rfl hc47)).trans rfl)
        rcases iteE hf with ⟨hc48, hf⟩ | ⟨hc48, hf⟩
        {
        refine WL.fieldAddr (m := 3) h33_1 FA75_3 rfl ?_ (hg := (wanted_of rfl rfl (bool_tr rfl hc48)).trans rfl)
        refine WL.loadF (z := x1.Effects) F_api_Update_Effects hs 0 rfl 1 rfl rfl TI30 (.inr rfl) rfl rfl (fun v49 hs => ?_) (hg := (wanted_of rfl rfl (bool_tr rfl hc48)).trans rfl)
        obtain ⟨a50, c51, rfl⟩ := hs.slice 0 rfl
        refine WL.len (v := .slice a50 (x1.Effects).length c51) rfl (len_slice UN30) ?_ (hg := (wanted_of rfl rfl (bool_tr rfl hc48)).trans rfl)
        refine WL.bin (v := .bool (decide (1 < ((x1.Effects).length : Int)))) rfl rfl (ib_gtr _ _ _) ?_ (hg := (wanted_of rfl rfl (bool_tr rfl hc48)).trans rfl)
        refine WL.pickT (v := .bool (decide (1 < ((x1.Effects).length : Int)))) (bool_tr rfl hc48) rfl ?_ (hg := (wanted_of rfl rfl (bool_tr rfl hc47)).trans rfl)
        refine WL.pickF (v := .bool (decide (1 < ((x1.Effects).length : Int)))) (bool_tr rfl hc47) rfl ?_
        refine WL.nil ?_
        exact Jk41 (decide (1 < ((x1.Effects).length : Int))) _ _ rfl ((hs.mask []).pick []) hf }
        {
        refine WL.pass ((wanted_of rfl rfl (bool_tr rfl hc48)).trans rfl) rfl ?_
        refine WL.pass ((wanted_of rfl rfl (bool_tr rfl hc48)).trans rfl) rfl ?_
        refine WL.pass ((wanted_of rfl rfl (bool_tr rfl hc48)).trans rfl) rfl ?_
        refine WL.pass ((wanted_of rfl rfl (bool_tr rfl hc48)).trans rfl) rfl ?_
        refine WL.pickF (v := .bool false) (bool_tr rfl hc48) rfl ?_ (hg := (wanted_of rfl rfl (bool_tr rfl hc47)).trans rfl)
        refine WL.pickF (v := .bool false) (bool_tr rfl hc47) rfl ?_
        refine WL.nil ?_
        exact Jk41 false _ _ rfl ((hs.mask []).pick []) hf } } }
        {
        refine WL.pass ((wanted_of rfl rfl (bool_tr rfl hc45)).trans rfl) rfl ?_
        refine WL.pass ((wanted_of rfl rfl (bool_tr rfl hc45)).trans rfl) rfl ?_
        refine WL.pass ((wanted_of rfl rfl (bool_tr rfl hc45)).trans rfl) rfl ?_
        refine WL.pickF (v := .bool false) (bool_tr rfl hc45) rfl ?_
        refine WL.move (v := .bool false) rfl ?_
        refine WL.move (v := .bool x37) rfl ?_ (hg := (wanted_of rfl rfl rfl).trans rfl)
        refine WL.not rfl ?_ (hg := (wanted_of rfl rfl rfl).trans rfl)
        refine WL.move (v := .bool (!x37)) rfl ?_ (hg := (wanted_of rfl rfl rfl).trans rfl)
        rcases iteE hf with ⟨hc52, hf⟩ | ⟨hc52, hf⟩
        {
        refine WL.fieldAddr (m := 3) h33_1 FA75_3 rfl ?_ (hg := (wanted_of rfl rfl (bool_tr rfl hc52)).trans rfl)
        refine WL.loadF (z := x1.Effects) F_api_Update_Effects hs 0 rfl 0 rfl rfl TI30 (.inr rfl) rfl rfl (fun v53 hs => ?_) (hg := (wanted_of rfl rfl (bool_tr rfl hc52)).trans rfl)
        obtain ⟨a54, c55, rfl⟩ := hs.slice 0 rfl
        refine WL.len (v := .slice a54 (x1.Effects).length c55) rfl (len_slice UN30) ?_ (hg := (wanted_of rfl rfl (bool_tr rfl hc52)).trans rfl)
        refine WL.bin (v := .bool (decide (1 < ((x1.Effects).length : Int)))) rfl rfl (ib_gtr _ _ _) ?_ (hg := (wanted_of rfl rfl (bool_tr rfl hc52)).trans rfl)
        refine WL.pickT (v := .bool (decide (1 < ((x1.Effects).length : Int)))) (bool_tr rfl hc52) rfl ?_ (hg := (wanted_of rfl rfl rfl).trans rfl)
        refine WL.pickF (v := .bool (decide (1 < ((x1.Effects).length : Int)))) rfl rfl ?_
        refine WL.nil ?_
        exact Jk41 (decide (1 < ((x1.Effects).length : Int))) _ _ rfl ((hs.mask []).pick []) hf }
        {
        refine WL.pass ((wanted_of rfl rfl (bool_tr rfl hc52)).trans rfl) rfl ?_
        refine WL.pass ((wanted_of rfl rfl (bool_tr rfl hc52)).trans rfl) rfl ?_
        refine WL.pass ((wanted_of rfl rfl (bool_tr rfl hc52)).trans rfl) rfl ?_
        refine WL.pass ((wanted_of rfl rfl (bool_tr rfl hc52)).trans rfl) rfl ?_
        refine WL.pickF (v := .bool false) (bool_tr rfl hc52) rfl ?_ (hg := (wanted_of rfl rfl rfl).trans rfl)
        refine WL.pickF (v := .bool false) rfl rfl ?_
        refine WL.nil ?_
        exact Jk41 false _ _ rfl ((hs.mask []).pick []) hf } }
      refine W.seqK fun K56 hK56 => ?_
      refine W.region ?_
      refine WL.fieldAddr (m := 3) h15_1 FA75_3 rfl ?_
      refine WL.loadF (z := x1.Effects) F_api_Update_Effects hs 0 rfl 2 rfl rfl TI30 (.inr rfl) rfl rfl (fun v57 hs => ?_)
      obtain ⟨a58, c59, rfl⟩ := hs.slice 0 rfl
      refine WL.len (v := .slice a58 (x1.Effects).length c59) rfl (len_slice UN30) ?_
      refine WL.move (v := .int .i64 0) rfl ?_
      refine WL.nil ?_
      refine hK56 _ _ ?_
      refine W.block ?_
      obtain ⟨bs62, hbs62, hfs62⟩ := bindE hf
      refine W.loop hbs62 (fun s ρ w => match s with | x61 => ρ 1 = .pointer (some ⟨g6, 0, none⟩) ∧ ρ 46 = .slice a58 (x1.Effects).length c59 ∧ ρ 47 = .int .i64 ((x1.Effects).length : Int) ∧ ρ 48 = .int .i64 x61 ∧ St ok (bz w0) w [vl (tSlice t_api_Effect) x1.Effects (.slice a58 (x1.Effects).length c59), vl t_api_Update x1 (.agg cs3.toArray)] [blk g6 75 cs3]) ⟨h15_1, rfl, rfl, rfl, (hs.mask [true]).pick [0, 3]⟩ ?_
      intro x61 ρ w os62 hI hf hbbs62
      obtain ⟨h60_1, h60_46, h60_47, h60_48, hs⟩ := hI
      unfold update_Validate.l1 at hf
      refine W.seqK fun K63 hK63 => ?_
      refine W.region ?_
      refine WL.bin (v := .bool (decide (x61 < ((x1.Effects).length : Int)))) h60_48 h60_47 (ib_lss _ _ _) ?_
      refine WL.nil ?_
      refine hK63 _ _ ?_
      refine W.seqK fun K64 hK64 => ?_
      rcases iteE hf with ⟨hc65, hf⟩ | ⟨hc65, hf⟩
      {
      refine W.cond_true (bool_tr rfl hc65) ?_
      refine W.skip ?_
      refine hK64 _ _ ?_
      refine W.seqK fun K66 hK66 => ?_
      refine W.block ?_
      refine W.seqK fun K67 hK67 => ?_
      refine W.region ?_
      obtain ⟨x68, hxx68, hf⟩ := bindE hf
      refine WL.indexAddr hs 0 rfl UN30 TI72 h60_46 h60_48 hxx68 (fun ad69 hs => ?_)
      refine WL.loadP hs 0 rfl TI72 (.inl rfl) rfl (fun v70 hs => ?_)
      obtain ⟨cs71, hl72, rfl⟩ := hs.aggv (n := 5) 0 rfl rfl rfl
      refine WL.alloc hs ZV72 (fun g73 w hs => ?_)
      refine WL.storeAll (vs := cs71) hs 0 rfl TI72 rfl rfl rfl hl72 (hs.ones 0 rfl rfl) rfl (fun w hs => ?_)
      refine WL.nil ?_
      refine hK67 _ _ ?_
      refine W.seqK fun K74 hK74 => ?_
      refine W.region ?_
      refine WL.loadAll hs 0 rfl TI72 rfl hl72 ?_
      obtain ⟨x75, hxx75, hf⟩ := bindE hf
      refine WL.call (vs := [.agg cs71.toArray]) hs FN76 ⟨rfl, trivial⟩ (fun ok hA => update_ValidateEffect.calls (x1 := x68) hxx75 (hA.get 0 rfl)) ?_
      rintro _ w hs
      refine WL.assign (v := .int .i64 x75) rfl ?_
      refine WL.nil ?_
      refine hK74 _ _ ?_
      refine W.seqK fun K76 hK76 => ?_
      refine W.region ?_
      refine WL.move (v := .int .i64 x75) rfl ?_
      refine WL.bin (v := .bool (x75 != 0)) rfl rfl (ib_neq _ _ _) ?_
      refine WL.nil ?_
      refine hK76 _ _ ?_
      rcases iteE hf with ⟨hc77, hf⟩ | ⟨hc77, hf⟩
      {
      refine W.cond_true (bool_tr rfl hc77) ?_
      refine W.seqK fun K78 hK78 => ?_
      refine W.region ?_
      refine WL.move (v := .int .i64 x75) rfl ?_
      refine WL.assign (v := .int .i64 x75) rfl ?_
      refine WL.nil ?_
      refine hK78 _ _ ?_
      refine W.ret ?_
      have hr := Option.some.inj hf; subst hr
      have hr := hbbs62 _ rfl; subst hr
      have hf := hfs62
      have hr := Option.some.inj hf; subst hr
      exact ⟨_, resOk_one rfl rfl, (), rfl, (hs.mask []).pick []⟩ }
      {
      refine W.cond_false (bool_tr rfl hc77) ?_
      refine W.skip ?_
      refine hK66 _ _ ?_
      refine W.region ?_
      obtain ⟨x79, ex79, hf⟩ := letE hf
      refine WL.bin (v := .int .i64 x79) h60_48 rfl (ib_as ex79 (ib_add _ _ _)) ?_
      refine WL.move (v := .int .i64 x79) rfl ?_
      refine WL.nil ?_
      exact ⟨_, (Option.some.inj hf).symm, h60_1, h60_46, h60_47, rfl, (hs.mask [false, true]).pick [2, 3]⟩ } }
      {
      refine W.cond_false (bool_tr rfl hc65) ?_
      refine W.exit ?_
      have hr := Option.some.inj hf; subst hr
      have hr := hbbs62 _ rfl; subst hr
      have hf := hfs62
      exact Jk34  _ _ h60_1 ((hs.mask [true]).pick [1]) hf } } } }
    refine W.region ?_
    refine WL.fieldAddr (m := 1) h9_1 FA75_1 rfl ?_
    refine WL.loadF (z := x1.Seq) F_api_Update_Seq hs 0 rfl 0 rfl rfl TI3 (.inr rfl) rfl rfl (fun v81 hs => ?_)
    obtain rfl := hs.int 0 rfl
    refine WL.bin (v := .bool (decide (x1.Seq < 1))) rfl rfl (ib_lss _ _ _) ?_
    refine WL.move (v := .bool (decide (x1.Seq < 1))) rfl ?_
    rcases iteE hf with ⟨hc82, hf⟩ | ⟨hc82, hf⟩
    {
    refine WL.pass ((wanted_of rfl rfl (bool_tr rfl hc82)).trans rfl) rfl ?_
    refine WL.pass ((wanted_of rfl rfl (bool_tr rfl hc82)).trans rfl) rfl ?_
    refine WL.pass ((wanted_of rfl rfl (bool_tr rfl hc82)).trans rfl) rfl ?_
    refine WL.pickT (v := .bool true) (bool_tr rfl hc82) rfl ?_
    refine WL.move (v := .bool true) rfl ?_
    refine WL.pass ((wanted_of rfl rfl rfl).trans rfl) rfl ?_
    refine WL.pass ((wanted_of rfl rfl rfl).trans rfl) rfl ?_
    refine WL.pass ((wanted_of rfl rfl rfl).trans rfl) rfl ?_
    refine WL.pickT (v := .bool true) rfl rfl ?_
    refine WL.move (v := .bool true) rfl ?_
    refine WL.pass ((wanted_of rfl rfl rfl).trans rfl) rfl ?_
    refine WL.pass ((wanted_of rfl rfl rfl).trans rfl) rfl ?_
    refine WL.pass ((wanted_of rfl rfl rfl).trans rfl) rfl ?_
    refine WL.pickT (v := .bool true) rfl rfl ?_
    refine WL.assign (v := .bool true) rfl ?_
    refine WL.nil ?_
    exact Jk17 true _ _ h9_1 rfl ((hs.mask [true]).pick [1]) hf }
    {
    refine WL.fieldAddr (m := 1) h9_1 FA75_1 rfl ?_ (hg := (wanted_of rfl rfl (bool_tr rfl hc82)).trans rfl)
    refine WL.loadF (z := x1.Seq) F_api_Update_Seq hs 0 rfl 1 rfl rfl TI3 (.inr rfl) rfl rfl (fun v83 hs => ?_) (hg := (wanted_of rfl rfl (bool_tr rfl hc82)).trans rfl)
    obtain rfl := hs.int 0 rfl
    refine WL.bin (v := .bool (decide (8 < x1.Seq))) rfl rfl (ib_gtr _ _ _) ?_ (hg := (wanted_of rfl rfl (bool_tr rfl hc82)).trans rfl)
    refine WL.pickF (v := .bool (decide (8 < x1.Seq))) (bool_tr rfl hc82) rfl ?_
    refine WL.move (v := .bool (decide (8 < x1.Seq))) rfl ?_
    rcases iteE hf with ⟨hc84, hf⟩ | ⟨hc84, hf⟩
    {
    refine WL.pass ((wanted_of rfl rfl (bool_tr rfl hc84)).trans rfl) rfl ?_
    refine WL.pass ((wanted_of rfl rfl (bool_tr rfl hc84)).trans rfl) rfl ?_
    refine WL.pass ((wanted_of rfl rfl (bool_tr rfl hc84)).trans rfl) rfl ?_
    refine WL.pickT (v := .bool true) (bool_tr rfl hc84) rfl ?_
    refine WL.move (v := .bool true) rfl ?_
    refine WL.pass ((wanted_of rfl rfl rfl).trans rfl) rfl ?_
    refine WL.pass ((wanted_of rfl rfl rfl).trans rfl) rfl ?_
    refine WL.pass ((wanted_of rfl rfl rfl).trans rfl) rfl ?_
    refine WL.pickT (v := .bool true) rfl rfl ?_
    refine WL.assign (v := .bool true) rfl ?_
    refine WL.nil ?_
    exact Jk17 true _ _ h9_1 rfl ((hs.mask [true]).pick [2]) hf }
    {
    refine WL.fieldAddr (m := 2) h9_1 FA75_2 rfl ?_ (hg := (wanted_of rfl rfl (bool_tr rfl hc84)).trans rfl)
    refine WL.loadF (z := x1.Tag) F_api_Update_Tag hs 0 rfl 2 rfl rfl TI3 (.inr rfl) rfl rfl (fun v85 hs => ?_) (hg := (wanted_of rfl rfl (bool_tr rfl hc84)).trans rfl)
    obtain rfl := hs.int 0 rfl
    refine WL.bin (v := .bool (decide (x1.Tag < 0))) rfl rfl (ib_lss _ _ _) ?_ (hg := (wanted_of rfl rfl (bool_tr rfl hc84)).trans rfl)
    refine WL.pickF (v := .bool (decide (x1.Tag < 0))) (bool_tr rfl hc84) rfl ?_
    refine WL.move (v := .bool (decide (x1.Tag < 0))) rfl ?_
    rcases iteE hf with ⟨hc86, hf⟩ | ⟨hc86, hf⟩
    {
    refine WL.pass ((wanted_of rfl rfl (bool_tr rfl hc86)).trans rfl) rfl ?_
    refine WL.pass ((wanted_of rfl rfl (bool_tr rfl hc86)).trans rfl) rfl ?_
    refine WL.pass ((wanted_of rfl rfl (bool_tr rfl hc86)).trans rfl) rfl ?_
    refine WL.pickT (v := .bool true) (bool_tr rfl hc86) rfl ?_
    refine WL.assign (v := .bool true) rfl ?_
    refine WL.nil ?_
    exact Jk17 true _ _ h9_1 rfl ((hs.mask [true]).pick [3]) hf }
    {
    refine WL.fieldAddr (m := 2) h9_1 FA75_2 rfl ?_ (hg := (wanted_of rfl rfl (bool_tr rfl hc86)).trans rfl)
    refine WL.loadF (z := x1.Tag) F_api_Update_Tag hs 0 rfl 3 rfl rfl TI3 (.inr rfl) rfl rfl (fun v87 hs => ?_) (hg := (wanted_of rfl rfl (bool_tr rfl hc86)).trans rfl)
    obtain rfl := hs.int 0 rfl
    refine WL.bin (v := .bool (decide (1000 < x1.Tag))) rfl rfl (ib_gtr _ _ _) ?_ (hg := (wanted_of rfl rfl (bool_tr rfl hc86)).trans rfl)
    refine WL.pickF (v := .bool (decide (1000 < x1.Tag))) (bool_tr rfl hc86) rfl ?_
    refine WL.assign (v := .bool (decide (1000 < x1.Tag))) rfl ?_
    refine WL.nil ?_
    exact Jk17 (decide (1000 < x1.Tag)) _ _ h9_1 rfl ((hs.mask [true]).pick [4]) hf } } } }
  refine W.region ?_
  refine WL.fieldAddr (m := 0) rfl FA75_0 rfl ?_
  refine WL.loadF (z := x1.Client) F_api_Update_Client hs 0 rfl 0 rfl rfl TI3 (.inr rfl) rfl rfl (fun v88 hs => ?_)
  obtain rfl := hs.int 0 rfl
  refine WL.bin (v := .bool (decide (x1.Client < 101))) rfl rfl (ib_lss _ _ _) ?_
  refine WL.move (v := .bool (decide (x1.Client < 101))) rfl ?_
  rcases iteE hf with ⟨hc89, hf⟩ | ⟨hc89, hf⟩
  {
  refine WL.pass ((wanted_of rfl rfl (bool_tr rfl hc89)).trans rfl) rfl ?_
  refine WL.pass ((wanted_of rfl rfl (bool_tr rfl hc89)).trans rfl) rfl ?_
  refine WL.pass ((wanted_of rfl rfl (bool_tr rfl hc89)).trans rfl) rfl ?_
  refine WL.pickT (v := .bool true) (bool_tr rfl hc89) rfl ?_
  refine WL.assign (v := .bool true) rfl ?_
  refine WL.nil ?_
  exact Jk11 true _ _ rfl rfl ((hs.mask [true]).pick [1]) hf }
  {
  refine WL.fieldAddr (m := 0) rfl FA75_0 rfl ?_ (hg := (wanted_of rfl rfl (bool_tr rfl hc89)).trans rfl)
  refine WL.loadF (z := x1.Client) F_api_Update_Client hs 0 rfl 1 rfl rfl TI3 (.inr rfl) rfl rfl (fun v90 hs => ?_) (hg := (wanted_of rfl rfl (bool_tr rfl hc89)).trans rfl)
  obtain rfl := hs.int 0 rfl
  refine WL.bin (v := .bool (decide (107 ≤ x1.Client))) rfl rfl (ib_geq _ _ _) ?_ (hg := (wanted_of rfl rfl (bool_tr rfl hc89)).trans rfl)
  refine WL.pickF (v := .bool (decide (107 ≤ x1.Client))) (bool_tr rfl hc89) rfl ?_
  refine WL.assign (v := .bool (decide (107 ≤ x1.Client))) rfl ?_
  refine WL.nil ?_
  exact Jk11 (decide (107 ≤ x1.Client)) _ _ rfl rfl ((hs.mask [true]).pick [2]) hf }
theorem history_contents.calls {ok : Nat → Prop} {w0 : World} {x1 : history_Operation} {v2 : Value} {r : Int} (hf : history_contents x1 = some r) (i0 : (vl t_history_Operation x1 v2).holds ok w0) :
    Calls Try.prog 52 #[v2] w0 fun e w' => ∃ v, e = .returned v ∧ ∃ y : Unit, v = .int .i64 r ∧ St ok (bz w0) w' [] [] := by
  unfold history_contents at hf
  refine calls_of_W (fn := Try.f52) (N := 34) Try.func52 rfl Try.ntmps52 rfl ?_
  have hs : St ok (bz w0) w0 [vl t_history_Operation x1 v2] [] := St.init (All.cons i0 All.nil)
  clear i0
  obtain ⟨cs3, hl4, rfl⟩ := hs.aggv (n := 6) 0 rfl rfl rfl
  refine W.seqK fun K5 hK5 => ?_
  refine W.region ?_
  refine WL.box (vs := cs3) hs rfl rfl (fun g6 w hs => ?_)
  refine WL.assign (v := .int .i64 0) rfl ?_
  refine WL.nil ?_
  refine hK5 _ _ ?_
  refine W.seqK fun K7 hK7 => ?_
  refine W.seqK fun K8 hK8 => ?_
  refine W.region ?_
  refine WL.fieldAddr (m := 1) rfl FA35_1 rfl ?_
  refine WL.loadF (z := x1.Kind) F_history_Operation_Kind hs 0 rfl 0 rfl rfl TI3 (.inr rfl) rfl rfl (fun v9 hs => ?_)
  obtain rfl := hs.int 0 rfl
  refine WL.bin (v := .bool (x1.Kind == 1)) rfl rfl (ib_eql _ _ _) ?_
  refine WL.nil ?_
  refine hK8 _ _ ?_
  rcases iteE hf with ⟨hc10, hf⟩ | ⟨hc10, hf⟩
  {
  refine W.cond_true (bool_tr rfl hc10) ?_
  refine W.seqK fun K11 hK11 => ?_
  refine W.region ?_
  refine WL.fieldAddr (m := 2) rfl FA35_2 rfl ?_
  refine WL.loadF (z := x1.Effects) F_history_Operation_Effects hs 0 rfl 1 rfl rfl TI30 (.inr rfl) rfl rfl (fun v12 hs => ?_)
  obtain ⟨a13, c14, rfl⟩ := hs.slice 0 rfl
  refine WL.build (vs := [(0, .int .i64 101), (1, .int .i64 1), (3, .slice a13 (x1.Effects).length c14)]) (cs := [.int .i64 101, .int .i64 1, .int .i64 0, .slice a13 (x1.Effects).length c14]) ⟨⟨rfl, rfl⟩, ⟨⟨rfl, rfl⟩, ⟨⟨rfl, rfl⟩, trivial⟩⟩⟩ (bld PL75 rfl) ?_
  refine WL.alloc hs ZV75 (fun g15 w hs => ?_)
  refine WL.storeAll (vs := [.int .i64 101, .int .i64 1, .int .i64 0, .slice a13 (x1.Effects).length c14]) hs 0 rfl TI75 rfl rfl rfl rfl (ones_of rfl) rfl (fun w hs => ?_)
  refine WL.nil ?_
  refine hK11 _ _ ?_
  refine W.seqK fun K16 hK16 => ?_
  refine W.seqK fun K17 hK17 => ?_
  have Jk20 : ∀ (x19 : Bool) (ρ : Env) (w : World), ρ 18 = .bool x19 → St ok (bz w0) w [] [] → history_contents.j1 x19 = some r → K17 ρ w := by
    intro x19 ρ w h18_18 hs hf
    refine hK17 _ _ ?_
    unfold history_contents.j1 at hf
    rcases iteE hf with ⟨hc21, hf⟩ | ⟨hc21, hf⟩
    {
    refine W.cond_true (bool_tr h18_18 hc21) ?_
    refine W.seqK fun K22 hK22 => ?_
    refine W.region ?_
    refine WL.assign (v := .int .i64 2) rfl ?_
    refine WL.nil ?_
    refine hK22 _ _ ?_
    refine W.ret ?_
    have hr := Option.some.inj hf; subst hr
    exact ⟨_, resOk_one rfl rfl, (), rfl, (hs.mask []).pick []⟩ }
    {
    refine W.cond_false (bool_tr h18_18 hc21) ?_
    refine W.skip ?_
    refine hK16 _ _ ?_
    refine W.seqK fun K23 hK23 => ?_
    refine W.region ?_
    refine WL.assign (v := .int .i64 0) rfl ?_
    refine WL.nil ?_
    refine hK23 _ _ ?_
    refine W.ret ?_
    have hr := Option.some.inj hf; subst hr
    exact ⟨_, resOk_one rfl rfl, (), rfl, (hs.mask []).pick []⟩ }
  refine W.region ?_
  refine WL.fieldAddr (m := 3) rfl FA35_3 rfl ?_
  refine WL.loadF (z := x1.Result) F_history_Operation_Result hs 1 rfl 2 rfl rfl TI31 (.inr rfl) rfl rfl (fun v24 hs => ?_)
  obtain ⟨a25, c26, rfl⟩ := hs.slice 0 rfl
  refine WL.len (v := .slice a25 (x1.Result).length c26) rfl (len_slice UN31) ?_
  refine WL.bin (v := .bool (decide (0 < ((x1.Result).length : Int)))) rfl rfl (ib_gtr _ _ _) ?_
  refine WL.move (v := .bool (decide (0 < ((x1.Result).length : Int)))) rfl ?_
  rcases iteE hf with ⟨hc27, hf⟩ | ⟨hc27, hf⟩
  {
  refine WL.pass ((wanted_of rfl rfl (bool_tr rfl hc27)).trans rfl) rfl ?_
  refine WL.pass ((wanted_of rfl rfl (bool_tr rfl hc27)).trans rfl) rfl ?_
  refine WL.pass ((wanted_of rfl rfl (bool_tr rfl hc27)).trans rfl) rfl ?_
  refine WL.pickT (v := .bool true) (bool_tr rfl hc27) rfl ?_
  refine WL.nil ?_
  exact Jk20 true _ _ rfl ((hs.mask []).pick []) hf }
  {
  refine WL.loadN (vs := [.int .i64 101, .int .i64 1, .int .i64 0, .slice a13 (x1.Effects).length c14]) hs 0 rfl TI75 rfl rfl rfl ?_ (hg := (wanted_of rfl rfl (bool_tr rfl hc27)).trans rfl)
  have hs := hs.add (it := vl t_api_Update (⟨101, 1, 0, x1.Effects⟩ : api_Update) (.agg [.int .i64 101, .int .i64 1, .int .i64 0, .slice a13 (x1.Effects).length c14].toArray)) fun ok hA => V_agg (show t_api_Update.R ok _ _ _ from ⟨[.int .i64 101], [.int .i64 1, .int .i64 0, .slice a13 (x1.Effects).length c14], rfl, rfl, ⟨[.int .i64 1], [.int .i64 0, .slice a13 (x1.Effects).length c14], rfl, rfl, ⟨[.int .i64 0], [.slice a13 (x1.Effects).length c14], rfl, rfl, (R_one (hA.get 1 rfl))⟩⟩⟩) rfl
  obtain ⟨x28, hxx28, hf⟩ := bindE hf
  refine WL.call (vs := [.agg ([.int .i64 101, .int .i64 1, .int .i64 0, .slice a13 (x1.Effects).length c14] : List Value).toArray]) hs FN63 ⟨rfl, trivial⟩ (fun ok hA => update_Validate.calls (x1 := (⟨101, 1, 0, x1.Effects⟩ : api_Update)) hxx28 (hA.get 0 rfl)) ?_ (hg := (wanted_of rfl rfl (bool_tr rfl hc27)).trans rfl)
  rintro _ w hs
  refine WL.bin (v := .bool (x28 != 0)) rfl rfl (ib_neq _ _ _) ?_ (hg := (wanted_of rfl rfl (bool_tr rfl hc27)).trans rfl)
  refine WL.pickF (v := .bool (x28 != 0)) (bool_tr rfl hc27) rfl ?_
  refine WL.nil ?_
  exact Jk20 (x28 != 0) _ _ rfl ((hs.mask []).pick []) hf } }
  {
  refine W.cond_false (bool_tr rfl hc10) ?_
  refine W.skip ?_
  refine hK7 _ _ ?_
  refine W.seqK fun K29 hK29 => ?_
  refine W.seqK fun K30 hK30 => ?_
  have Jk33 : ∀ (x32 : Bool) (ρ : Env) (w : World), ρ 33 = .bool x32 → St ok (bz w0) w [] [] → history_contents.j2 x32 = some r → K30 ρ w := by
    intro x32 ρ w h31_33 hs hf
    refine hK30 _ _ ?_
    unfold history_contents.j2 at hf
    rcases iteE hf with ⟨hc34, hf⟩ | ⟨hc34, hf⟩
    {
    refine W.cond_true (bool_tr h31_33 hc34) ?_
    refine W.seqK fun K35 hK35 => ?_
    refine W.region ?_
    refine WL.assign (v := .int .i64 2) rfl ?_
    refine WL.nil ?_
    refine hK35 _ _ ?_
    refine W.ret ?_
    have hr := Option.some.inj hf; subst hr
    exact ⟨_, resOk_one rfl rfl, (), rfl, (hs.mask []).pick []⟩ }
    {
    refine W.cond_false (bool_tr h31_33 hc34) ?_
    refine W.skip ?_
    refine hK29 _ _ ?_
    refine W.seqK fun K36 hK36 => ?_
    refine W.region ?_
    refine WL.assign (v := .int .i64 0) rfl ?_
    refine WL.nil ?_
    refine hK36 _ _ ?_
    refine W.ret ?_
    have hr := Option.some.inj hf; subst hr
    exact ⟨_, resOk_one rfl rfl, (), rfl, (hs.mask []).pick []⟩ }
  refine W.region ?_
  refine WL.fieldAddr (m := 2) rfl FA35_2 rfl ?_
  refine WL.loadF (z := x1.Effects) F_history_Operation_Effects hs 0 rfl 1 rfl rfl TI30 (.inr rfl) rfl rfl (fun v37 hs => ?_)
  obtain ⟨a38, c39, rfl⟩ := hs.slice 0 rfl
  refine WL.len (v := .slice a38 (x1.Effects).length c39) rfl (len_slice UN30) ?_
  refine WL.bin (v := .bool (decide (0 < ((x1.Effects).length : Int)))) rfl rfl (ib_gtr _ _ _) ?_
  refine WL.move (v := .bool (decide (0 < ((x1.Effects).length : Int)))) rfl ?_
  rcases iteE hf with ⟨hc40, hf⟩ | ⟨hc40, hf⟩
  {
  refine WL.pass ((wanted_of rfl rfl (bool_tr rfl hc40)).trans rfl) rfl ?_
  refine WL.pass ((wanted_of rfl rfl (bool_tr rfl hc40)).trans rfl) rfl ?_
  refine WL.pass ((wanted_of rfl rfl (bool_tr rfl hc40)).trans rfl) rfl ?_
  refine WL.pass ((wanted_of rfl rfl (bool_tr rfl hc40)).trans rfl) rfl ?_
  refine WL.pass (wanted_undef rfl rfl rfl) rfl ?_
  refine WL.pass (wanted_undef rfl rfl rfl) rfl ?_
  refine WL.pass (wanted_undef rfl rfl rfl) rfl ?_
  refine WL.pass (wanted_undef rfl rfl rfl) rfl ?_
  refine WL.pass ((wanted_of rfl rfl (bool_tr rfl hc40)).trans rfl) rfl ?_
  refine WL.pickT (v := .bool true) (bool_tr rfl hc40) rfl ?_
  refine WL.nil ?_
  exact Jk33 true _ _ rfl ((hs.mask []).pick []) hf }
  {
  refine WL.fieldAddr (m := 5) rfl FA35_5 rfl ?_ (hg := (wanted_of rfl rfl (bool_tr rfl hc40)).trans rfl)
  refine WL.loadF (z := x1.Return) F_history_Operation_Return hs 0 rfl 2 rfl rfl TI3 (.inr rfl) rfl rfl (fun v41 hs => ?_) (hg := (wanted_of rfl rfl (bool_tr rfl hc40)).trans rfl)
  obtain rfl := hs.int 0 rfl
  refine WL.bin (v := .bool (x1.Return == 0)) rfl rfl (ib_eql _ _ _) ?_ (hg := (wanted_of rfl rfl (bool_tr rfl hc40)).trans rfl)
  refine WL.move (v := .bool (x1.Return == 0)) rfl ?_ (hg := (wanted_of rfl rfl (bool_tr rfl hc40)).trans rfl)
  rcases iteE hf with ⟨hc42, hf⟩ | ⟨hc42, hf⟩
  {
  refine WL.fieldAddr (m := 3) rfl FA35_3 rfl ?_ (hg := (wanted_of rfl rfl (bool_tr rfl hc42)).trans rfl)
  refine WL.loadF (z := x1.Result) F_history_Operation_Result hs 0 rfl 3 rfl rfl TI31 (.inr rfl) rfl rfl (fun v43 hs => ?_) (hg := (wanted_of rfl rfl (bool_tr rfl hc42)).trans rfl)
  obtain ⟨a44, c45, rfl⟩ := hs.slice 0 rfl
  refine WL.len (v := .slice a44 (x1.Result).length c45) rfl (len_slice UN31) ?_ (hg := (wanted_of rfl rfl (bool_tr rfl hc42)).trans rfl)
  refine WL.bin (v := .bool (decide (0 < ((x1.Result).length : Int)))) rfl rfl (ib_gtr _ _ _) ?_ (hg := (wanted_of rfl rfl (bool_tr rfl hc42)).trans rfl)
  refine WL.pickT (v := .bool (decide (0 < ((x1.Result).length : Int)))) (bool_tr rfl hc42) rfl ?_ (hg := (wanted_of rfl rfl (bool_tr rfl hc40)).trans rfl)
  refine WL.pickF (v := .bool (decide (0 < ((x1.Result).length : Int)))) (bool_tr rfl hc40) rfl ?_
  refine WL.nil ?_
  exact Jk33 (decide (0 < ((x1.Result).length : Int))) _ _ rfl ((hs.mask []).pick []) hf }
  {
  refine WL.pass ((wanted_of rfl rfl (bool_tr rfl hc42)).trans rfl) rfl ?_
  refine WL.pass ((wanted_of rfl rfl (bool_tr rfl hc42)).trans rfl) rfl ?_
  refine WL.pass ((wanted_of rfl rfl (bool_tr rfl hc42)).trans rfl) rfl ?_
  refine WL.pass ((wanted_of rfl rfl (bool_tr rfl hc42)).trans rfl) rfl ?_
  refine WL.pickF (v := .bool false) (bool_tr rfl hc42) rfl ?_ (hg := (wanted_of rfl rfl (bool_tr rfl hc40)).trans rfl)
  refine WL.pickF (v := .bool false) (bool_tr rfl hc40) rfl ?_
  refine WL.nil ?_
  exact Jk33 false _ _ rfl ((hs.mask []).pick []) hf } } }
theorem history_validator_operation.calls {ok : Nat → Prop} {w0 : World} {F : Base} {x1 : history_validator} {x5 : history_Operation} {g2 : Nat} {g3 : Nat} {g4 : Nat} {v6 : Value} {r : Int × history_validator} (hf : history_validator_operation x1 x5 = some r) (hs : St ok F w0 [vl t_history_Operation x5 v6] [blk g2 80 [.int .i64 x1.f_last, .map (some g3), .map (some g4)], mapo (fun a : Int => .int .i64 a) tBool g3 x1.f_events, mapo (fun a : Int => .int .i64 a) (tInt .i64) g4 x1.f_returns]) :
    Calls Try.prog 36 #[.pointer (some ⟨g2, 0, none⟩), v6] w0 fun e w' => ∃ v, e = .returned v ∧ ∃ y : Nat × Nat, v = .int .i64 r.1 ∧ St ok F w' [] [blk g2 80 [.int .i64 r.2.f_last, .map (some y.1), .map (some y.2)], mapo (fun a : Int => .int .i64 a) tBool y.1 r.2.f_events, mapo (fun a : Int => .int .i64 a) (tInt .i64) y.2 r.2.f_returns] := by
  unfold history_validator_operation at hf
  refine calls_of_W (fn := Try.f36) (N := 86) Try.func36 rfl Try.ntmps36 rfl ?_
  obtain ⟨cs7, hl8, rfl⟩ := hs.aggv (n := 6) 0 rfl rfl rfl
  refine W.seqK fun K9 hK9 => ?_
  refine W.region ?_
  refine WL.box (vs := cs7) hs rfl rfl (fun g10 w hs => ?_)
  refine WL.assign (v := .int .i64 0) rfl ?_
  refine WL.nil ?_
  refine hK9 _ _ ?_
  refine W.seqK fun K11 hK11 => ?_
  refine W.block ?_
  refine W.seqK fun K12 hK12 => ?_
  have Jk15 : ∀ (x14 : Bool) (ρ : Env) (w : World), ρ 0 = .pointer (some ⟨g2, 0, none⟩) → ρ 3 = .pointer (some ⟨g10, 0, none⟩) → ρ 6 = .bool x14 → St ok F w [vl t_history_Operation x5 (.agg cs7.toArray)] [blk g10 35 cs7, blk g2 80 [.int .i64 x1.f_last, .map (some g3), .map (some g4)], mapo (fun a : Int => .int .i64 a) tBool g3 x1.f_events, mapo (fun a : Int => .int .i64 a) (tInt .i64) g4 x1.f_returns] → history_validator_operation.j4 x1 x5 x14 = some r → K12 ρ w := by
    intro x14 ρ w h13_0 h13_3 h13_6 hs hf
    refine hK12 _ _ ?_
    unfold history_validator_operation.j4 at hf
    rcases iteE hf with ⟨hc16, hf⟩ | ⟨hc16, hf⟩
    {
    refine W.cond_true (bool_tr h13_6 hc16) ?_
    refine W.seqK fun K17 hK17 => ?_
    refine W.region ?_
    refine WL.assign (v := .int .i64 9) rfl ?_
    refine WL.nil ?_
    refine hK17 _ _ ?_
    refine W.ret ?_
    have hr := Option.some.inj hf; subst hr
    exact ⟨_, resOk_one rfl rfl, (g3, g4), rfl, (hs.mask [false, true, true, true]).pick []⟩ }
    {
    refine W.cond_false (bool_tr h13_6 hc16) ?_
    refine W.seqK fun K18 hK18 => ?_
    have Jk21 : ∀ (x20 : Bool) (ρ : Env) (w : World), ρ 0 = .pointer (some ⟨g2, 0, none⟩) → ρ 3 = .pointer (some ⟨g10, 0, none⟩) → ρ 15 = .bool x20 → St ok F w [vl t_history_Operation x5 (.agg cs7.toArray)] [blk g10 35 cs7, blk g2 80 [.int .i64 x1.f_last, .map (some g3), .map (some g4)], mapo (fun a : Int => .int .i64 a) tBool g3 x1.f_events, mapo (fun a : Int => .int .i64 a) (tInt .i64) g4 x1.f_returns] → history_validator_operation.j3 x1 x5 x20 = some r → K18 ρ w := by
      intro x20 ρ w h19_0 h19_3 h19_15 hs hf
      refine hK18 _ _ ?_
      unfold history_validator_operation.j3 at hf
      rcases iteE hf with ⟨hc22, hf⟩ | ⟨hc22, hf⟩
      {
      refine W.cond_true (bool_tr h19_15 hc22) ?_
      refine W.seqK fun K23 hK23 => ?_
      refine W.region ?_
      refine WL.assign (v := .int .i64 10) rfl ?_
      refine WL.nil ?_
      refine hK23 _ _ ?_
      refine W.ret ?_
      have hr := Option.some.inj hf; subst hr
      exact ⟨_, resOk_one rfl rfl, (g3, g4), rfl, (hs.mask [false, true, true, true]).pick []⟩ }
      {
      refine W.cond_false (bool_tr h19_15 hc22) ?_
      refine W.seqK fun K24 hK24 => ?_
      have Jk27 : ∀ (x26 : Bool) (ρ : Env) (w : World), ρ 0 = .pointer (some ⟨g2, 0, none⟩) → ρ 3 = .pointer (some ⟨g10, 0, none⟩) → ρ 24 = .bool x26 → St ok F w [vl t_history_Operation x5 (.agg cs7.toArray)] [blk g10 35 cs7, blk g2 80 [.int .i64 x1.f_last, .map (some g3), .map (some g4)], mapo (fun a : Int => .int .i64 a) tBool g3 x1.f_events, mapo (fun a : Int => .int .i64 a) (tInt .i64) g4 x1.f_returns] → history_validator_operation.j2 x1 x5 x26 = some r → K24 ρ w := by
        intro x26 ρ w h25_0 h25_3 h25_24 hs hf
        refine hK24 _ _ ?_
        unfold history_validator_operation.j2 at hf
        rcases iteE hf with ⟨hc28, hf⟩ | ⟨hc28, hf⟩
        {
        refine W.cond_true (bool_tr h25_24 hc28) ?_
        refine W.seqK fun K29 hK29 => ?_
        refine W.region ?_
        refine WL.assign (v := .int .i64 9) rfl ?_
        refine WL.nil ?_
        refine hK29 _ _ ?_
        refine W.ret ?_
        have hr := Option.some.inj hf; subst hr
        exact ⟨_, resOk_one rfl rfl, (g3, g4), rfl, (hs.mask [false, true, true, true]).pick []⟩ }
        {
        refine W.cond_false (bool_tr h25_24 hc28) ?_
        refine W.seqK fun K30 hK30 => ?_
        refine W.any (by kernel_rfl) 7 1 [true, true, true, true, true, true, true, false] rfl rfl (poAt [pv (.pointer (some ⟨g10, 4, none⟩)), pv (.int .i64 x5.Call), pv (.pointer (some ⟨g2, 0, none⟩)), pv (.pointer (some ⟨g2, 0, none⟩)), pv (.pointer (some ⟨g2, 0, none⟩)), pv (.int .i64 x1.f_last), pv (.bool (decide (x5.Call ≤ x1.f_last)))]) (Λ := [blk g10 35 cs7, blk g2 80 [.int .i64 x1.f_last, .map (some g3), .map (some g4)], mapo (fun a : Int => .int .i64 a) tBool g3 x1.f_events, mapo (fun a : Int => .int .i64 a) (tInt .i64) g4 x1.f_returns]) hs (by kernel_rfl) (by kernel_rfl) (by kernel_rfl) ⟨⟨⟨⟨⟨⟨⟨trivial, ?_⟩, ?_⟩, ?_⟩, ?_⟩, ?_⟩, ?_⟩, ?_⟩ ?_
        {
        intro ρ w Γx Λx hs hu hp
        refine WL.fieldAddr (m := 4) ((hu 3 rfl).trans h25_3) FA35_4 rfl ?_
        exact WL.nil ⟨rfl, _, rfl, rfl, hs.cutG 0 0⟩ }
        {
        intro ρ w Γx Λx hs hu hp
        have e32 : ρ 41 = .pointer (some ⟨g10, 4, none⟩) := (hp 0 rfl).1
        refine WL.loadF (z := x5.Call) F_history_Operation_Call hs (Λx.length + 0) (getApp rfl) (Γx.length + 0) (getApp rfl) rfl TI3 (.inr rfl) e32 rfl (fun v31 hs => ?_)
        obtain rfl := hs.int 0 rfl
        exact WL.nil ⟨rfl, _, rfl, rfl, hs.cutG 0 1⟩ }
        {
        intro ρ w Γx Λx hs hu hp
        refine WL.move (v := .pointer (some ⟨g2, 0, none⟩)) ((hu 0 rfl).trans h25_0) ?_
        exact WL.nil ⟨rfl, _, rfl, rfl, hs.cutG 0 0⟩ }
        {
        intro ρ w Γx Λx hs hu hp
        have e33 : ρ 43 = .pointer (some ⟨g2, 0, none⟩) := (hp 2 rfl).1
        refine WL.nilCheck (v := .pointer (some ⟨g2, 0, none⟩)) e33 rfl ?_
        exact WL.nil ⟨rfl, _, rfl, rfl, hs.cutG 0 0⟩ }
        {
        intro ρ w Γx Λx hs hu hp
        have e34 : ρ 44 = .pointer (some ⟨g2, 0, none⟩) := (hp 3 rfl).1
        refine WL.fieldAddr (m := 0) e34 FA80_0 rfl ?_
        exact WL.nil ⟨rfl, _, rfl, rfl, hs.cutG 0 0⟩ }
        {
        intro ρ w Γx Λx hs hu hp
        have e35 : ρ 45 = .pointer (some ⟨g2, 0, none⟩) := (hp 4 rfl).1
        refine WL.load1 (v := .int .i64 x1.f_last) hs (Λx.length + 1) (getApp rfl) TI3 e35 rfl ?_
        exact WL.nil ⟨rfl, _, rfl, rfl, hs.cutG 0 0⟩ }
        {
        intro ρ w Γx Λx hs hu hp
        have e36 : ρ 42 = .int .i64 x5.Call := (hp 1 rfl).1
        have e37 : ρ 46 = .int .i64 x1.f_last := (hp 5 rfl).1
        refine WL.bin (v := .bool (decide (x5.Call ≤ x1.f_last))) e36 e37 (ib_leq _ _ _) ?_
        exact WL.nil ⟨rfl, _, rfl, rfl, hs.cutG 0 0⟩ }
        {
        intro ρ w hs hu38 hp
        obtain ⟨⟨⟨⟨⟨⟨⟨_, hp0_⟩, hp1_⟩, hp2_⟩, hp3_⟩, hp4_⟩, hp5_⟩, hp6_⟩ := hp
        have hs : St ok F w [vl t_history_Operation x5 (.agg cs7.toArray)] [blk g10 35 cs7, blk g2 80 [.int .i64 x1.f_last, .map (some g3), .map (some g4)], mapo (fun a : Int => .int .i64 a) tBool g3 x1.f_events, mapo (fun a : Int => .int .i64 a) (tInt .i64) g4 x1.f_returns] := hs
        have e39 : ρ 47 = .bool (decide (x5.Call ≤ x1.f_last)) := hp6_
        have e40 : ρ 46 = .int .i64 x1.f_last := hp5_
        have e41 : ρ 45 = .pointer (some ⟨g2, 0, none⟩) := hp4_
        have e42 : ρ 44 = .pointer (some ⟨g2, 0, none⟩) := hp3_
        have e43 : ρ 43 = .pointer (some ⟨g2, 0, none⟩) := hp2_
        have e44 : ρ 42 = .int .i64 x5.Call := hp1_
        have e45 : ρ 41 = .pointer (some ⟨g10, 4, none⟩) := hp0_
        refine WA.step [7] (by kernel_rfl) (by simp) ⟨?_, trivial⟩
        refine WL.assign (v := .bool (decide (x5.Call ≤ x1.f_last))) e39 ?_
        refine WL.nil ⟨rfl, _, rfl, ?_⟩
        refine WA.done (by kernel_rfl) ?_
        refine hK30 _ _ ?_
        rcases iteE hf with ⟨hc46, hf⟩ | ⟨hc46, hf⟩
        {
        refine W.cond_true (bool_tr rfl hc46) ?_
        refine W.seqK fun K47 hK47 => ?_
        refine W.region ?_
        refine WL.assign (v := .int .i64 7) rfl ?_
        refine WL.nil ?_
        refine hK47 _ _ ?_
        refine W.ret ?_
        have hr := Option.some.inj hf; subst hr
        exact ⟨_, resOk_one rfl rfl, (g3, g4), rfl, (hs.mask [false, true, true, true]).pick []⟩ }
        {
        refine W.cond_false (bool_tr rfl hc46) ?_
        refine W.skip ?_
        refine hK11 _ _ ?_
        refine W.seqK fun K48 hK48 => ?_
        refine W.seqK fun K49 hK49 => ?_
        refine W.region ?_
        refine WL.loadAll hs 0 rfl TI35 ((hu38 3 rfl).trans h25_3) hl8 ?_
        obtain ⟨x50, hxx50, hf⟩ := bindE hf
        refine WL.call (vs := [.agg cs7.toArray]) hs FN52 ⟨rfl, trivial⟩ (fun ok hA => history_contents.calls (x1 := x5) hxx50 (hA.get 0 rfl)) ?_
        rintro _ w hs
        refine WL.assign (v := .int .i64 x50) rfl ?_
        refine WL.nil ?_
        refine hK49 _ _ ?_
        refine W.seqK fun K51 hK51 => ?_
        refine W.region ?_
        refine WL.move (v := .int .i64 x50) rfl ?_
        refine WL.bin (v := .bool (x50 != 0)) rfl rfl (ib_neq _ _ _) ?_
        refine WL.nil ?_
        refine hK51 _ _ ?_
        rcases iteE hf with ⟨hc52, hf⟩ | ⟨hc52, hf⟩
        {
        refine W.cond_true (bool_tr rfl hc52) ?_
        refine W.seqK fun K53 hK53 => ?_
        refine W.region ?_
        refine WL.move (v := .int .i64 x50) rfl ?_
        refine WL.assign (v := .int .i64 x50) rfl ?_
        refine WL.nil ?_
        refine hK53 _ _ ?_
        refine W.ret ?_
        have hr := Option.some.inj hf; subst hr
        exact ⟨_, resOk_one rfl rfl, (g3, g4), rfl, (hs.mask [false, true, true, true]).pick []⟩ }
        {
        refine W.cond_false (bool_tr rfl hc52) ?_
        refine W.skip ?_
        refine hK48 _ _ ?_
        refine W.seqK fun K54 hK54 => ?_
        refine W.block ?_
        refine W.seqK fun K55 hK55 => ?_
        have Jk58 : ∀ (x57 : Bool) (ρ : Env) (w : World), ρ 0 = .pointer (some ⟨g2, 0, none⟩) → ρ 3 = .pointer (some ⟨g10, 0, none⟩) → ρ 53 = .bool x57 → St ok F w [vl t_history_Operation x5 (.agg cs7.toArray)] [blk g10 35 cs7, blk g2 80 [.int .i64 x1.f_last, .map (some g3), .map (some g4)], mapo (fun a : Int => .int .i64 a) tBool g3 x1.f_events, mapo (fun a : Int => .int .i64 a) (tInt .i64) g4 x1.f_returns] → history_validator_operation.j1 x1 x5 x57 = some r → K55 ρ w := by
          intro x57 ρ w h56_0 h56_3 h56_53 hs hf
          refine hK55 _ _ ?_
          unfold history_validator_operation.j1 at hf
          rcases iteE hf with ⟨hc59, hf⟩ | ⟨hc59, hf⟩
          {
          refine W.cond_true (bool_tr h56_53 hc59) ?_
          refine W.seqK fun K60 hK60 => ?_
          refine W.region ?_
          refine WL.assign (v := .int .i64 5) rfl ?_
          refine WL.nil ?_
          refine hK60 _ _ ?_
          refine W.ret ?_
          have hr := Option.some.inj hf; subst hr
          exact ⟨_, resOk_one rfl rfl, (g3, g4), rfl, (hs.mask [false, true, true, true]).pick []⟩ }
          {
          refine W.cond_false (bool_tr h56_53 hc59) ?_
          refine W.seqK fun K61 hK61 => ?_
          obtain ⟨x63, exx63, hf⟩ := letE hf
          refine W.any (by kernel_rfl) 10 1 [true, true, true, true, true, true, true, true, true, true, false] rfl rfl (poAt [pv (.pointer (some ⟨g2, 0, none⟩)), pv (.pointer (some ⟨g2, 0, none⟩)), pv (.pointer (some ⟨g2, 2, none⟩)), pv (.map (some g4)), pv (.pointer (some ⟨g10, 0, none⟩)), pv (.int .i64 x5.Process), pv (.int .i64 x63), pv (.pointer (some ⟨g10, 4, none⟩)), pv (.int .i64 x5.Call), pv (.bool (decide (x5.Call < x63)))]) (Λ := [blk g10 35 cs7, blk g2 80 [.int .i64 x1.f_last, .map (some g3), .map (some g4)], mapo (fun a : Int => .int .i64 a) tBool g3 x1.f_events, mapo (fun a : Int => .int .i64 a) (tInt .i64) g4 x1.f_returns]) hs (by kernel_rfl) (by kernel_rfl) (by kernel_rfl) ⟨⟨⟨⟨⟨⟨⟨⟨⟨⟨trivial, ?_⟩, ?_⟩, ?_⟩, ?_⟩, ?_⟩, ?_⟩, ?_⟩, ?_⟩, ?_⟩, ?_⟩ ?_
          {
          intro ρ w Γx Λx hs hu hp
          refine WL.move (v := .pointer (some ⟨g2, 0, none⟩)) ((hu 0 rfl).trans h56_0) ?_
          exact WL.nil ⟨rfl, _, rfl, rfl, hs.cutG 0 0⟩ }
          {
          intro ρ w Γx Λx hs hu hp
          have e66 : ρ 76 = .pointer (some ⟨g2, 0, none⟩) := (hp 0 rfl).1
          refine WL.nilCheck (v := .pointer (some ⟨g2, 0, none⟩)) e66 rfl ?_
          exact WL.nil ⟨rfl, _, rfl, rfl, hs.cutG 0 0⟩ }
          {
          intro ρ w Γx Λx hs hu hp
          have e67 : ρ 77 = .pointer (some ⟨g2, 0, none⟩) := (hp 1 rfl).1
          refine WL.fieldAddr (m := 2) e67 FA80_2 rfl ?_
          exact WL.nil ⟨rfl, _, rfl, rfl, hs.cutG 0 0⟩ }
          {
          intro ρ w Γx Λx hs hu hp
          have e68 : ρ 78 = .pointer (some ⟨g2, 2, none⟩) := (hp 2 rfl).1
          refine WL.load1 (v := .map (some g4)) hs (Λx.length + 1) (getApp rfl) TI78 e68 rfl ?_
          exact WL.nil ⟨rfl, _, rfl, rfl, hs.cutG 0 0⟩ }
          {
          intro ρ w Γx Λx hs hu hp
          refine WL.fieldAddr (m := 0) ((hu 3 rfl).trans h56_3) FA35_0 rfl ?_
          exact WL.nil ⟨rfl, _, rfl, rfl, hs.cutG 0 0⟩ }
          {
          intro ρ w Γx Λx hs hu hp
          have e69 : ρ 80 = .pointer (some ⟨g10, 0, none⟩) := (hp 4 rfl).1
          refine WL.loadF (z := x5.Process) F_history_Operation_Process hs (Λx.length + 0) (getApp rfl) (Γx.length + 0) (getApp rfl) rfl TI3 (.inr rfl) e69 rfl (fun v62 hs => ?_)
          obtain rfl := hs.int 0 rfl
          exact WL.nil ⟨rfl, _, rfl, rfl, hs.cutG 0 1⟩ }
          {
          intro ρ w Γx Λx hs hu hp
          have e70 : ρ 79 = .map (some g4) := (hp 3 rfl).1
          have e71 : ρ 81 = .int .i64 x5.Process := (hp 5 rfl).1
          refine WL.lookup (a := x5.Process) (z0 := 0) hs (Λx.length + 3) (getApp rfl) (kkInt UN3) UN78 e70 e71 ZR3 (fun _ _ => ⟨[.int .i64 0], rfl, rfl⟩) exx63 (fun v64 hs => ?_)
          obtain rfl := hs.int 0 rfl
          exact WL.nil ⟨rfl, _, rfl, rfl, hs.cutG 0 1⟩ }
          {
          intro ρ w Γx Λx hs hu hp
          refine WL.fieldAddr (m := 4) ((hu 3 rfl).trans h56_3) FA35_4 rfl ?_
          exact WL.nil ⟨rfl, _, rfl, rfl, hs.cutG 0 0⟩ }
          {
          intro ρ w Γx Λx hs hu hp
          have e72 : ρ 83 = .pointer (some ⟨g10, 4, none⟩) := (hp 7 rfl).1
          refine WL.loadF (z := x5.Call) F_history_Operation_Call hs (Λx.length + 0) (getApp rfl) (Γx.length + 0) (getApp rfl) rfl TI3 (.inr rfl) e72 rfl (fun v65 hs => ?_)
          obtain rfl := hs.int 0 rfl
          exact WL.nil ⟨rfl, _, rfl, rfl, hs.cutG 0 1⟩ }
          {
          intro ρ w Γx Λx hs hu hp
          have e73 : ρ 82 = .int .i64 x63 := (hp 6 rfl).1
          have e74 : ρ 84 = .int .i64 x5.Call := (hp 8 rfl).1
          refine WL.bin (v := .bool (decide (x5.Call < x63))) e73 e74 (ib_gtr _ _ _) ?_
          exact WL.nil ⟨rfl, _, rfl, rfl, hs.cutG 0 0⟩ }
          {
          intro ρ w hs hu75 hp
          obtain ⟨⟨⟨⟨⟨⟨⟨⟨⟨⟨_, hp0_⟩, hp1_⟩, hp2_⟩, hp3_⟩, hp4_⟩, hp5_⟩, hp6_⟩, hp7_⟩, hp8_⟩, hp9_⟩ := hp
          have hs : St ok F w [vl t_history_Operation x5 (.agg cs7.toArray)] [blk g10 35 cs7, blk g2 80 [.int .i64 x1.f_last, .map (some g3), .map (some g4)], mapo (fun a : Int => .int .i64 a) tBool g3 x1.f_events, mapo (fun a : Int => .int .i64 a) (tInt .i64) g4 x1.f_returns] := hs
          have e76 : ρ 85 = .bool (decide (x5.Call < x63)) := hp9_
          have e77 : ρ 84 = .int .i64 x5.Call := hp8_
          have e78 : ρ 83 = .pointer (some ⟨g10, 4, none⟩) := hp7_
          have e79 : ρ 82 = .int .i64 x63 := hp6_
          have e80 : ρ 81 = .int .i64 x5.Process := hp5_
          have e81 : ρ 80 = .pointer (some ⟨g10, 0, none⟩) := hp4_
          have e82 : ρ 79 = .map (some g4) := hp3_
          have e83 : ρ 78 = .pointer (some ⟨g2, 2, none⟩) := hp2_
          have e84 : ρ 77 = .pointer (some ⟨g2, 0, none⟩) := hp1_
          have e85 : ρ 76 = .pointer (some ⟨g2, 0, none⟩) := hp0_
          refine WA.step [10] (by kernel_rfl) (by simp) ⟨?_, trivial⟩
          refine WL.assign (v := .bool (decide (x5.Call < x63))) e76 ?_
          refine WL.nil ⟨rfl, _, rfl, ?_⟩
          refine WA.done (by kernel_rfl) ?_
          refine hK61 _ _ ?_
          rcases iteE hf with ⟨hc86, hf⟩ | ⟨hc86, hf⟩
          {
          refine W.cond_true (bool_tr rfl hc86) ?_
          refine W.seqK fun K87 hK87 => ?_
          refine W.region ?_
          refine WL.assign (v := .int .i64 17) rfl ?_
          refine WL.nil ?_
          refine hK87 _ _ ?_
          refine W.ret ?_
          have hr := Option.some.inj hf; subst hr
          exact ⟨_, resOk_one rfl rfl, (g3, g4), rfl, (hs.mask [false, true, true, true]).pick []⟩ }
          {
          refine W.cond_false (bool_tr rfl hc86) ?_
          refine W.skip ?_
          refine hK54 _ _ ?_
          refine W.seqK fun K88 hK88 => ?_
          refine W.region ?_
          refine WL.assign (v := .int .i64 0) rfl ?_
          refine WL.nil ?_
          refine hK88 _ _ ?_
          refine W.ret ?_
          have hr := Option.some.inj hf; subst hr
          exact ⟨_, resOk_one rfl rfl, (g3, g4), rfl, (hs.mask [false, true, true, true]).pick []⟩ } } }
        obtain ⟨x90, exx90, hf⟩ := letE hf
        rcases iteE hf with ⟨hc92, hf⟩ | ⟨hc92, hf⟩
        {
        refine W.any (by kernel_rfl) 21 1 [true, true, true, true, true, true, true, true, true, true, true, true, true, true, true, true, true, true, true, true, true, false] rfl rfl (poAt [pv (.pointer (some ⟨g2, 0, none⟩)), pv (.pointer (some ⟨g2, 0, none⟩)), pv (.pointer (some ⟨g2, 1, none⟩)), pv (.map (some g3)), pv (.pointer (some ⟨g10, 4, none⟩)), pv (.int .i64 x5.Call), pv (.bool x90), pv (.bool x90), pv (undef), pv (undef), pv (undef), pv (undef), pv (undef), pv (undef), pv (undef), pv (undef), pv (undef), pv (undef), pv (undef), pv (undef), pv (.bool true)]) (Λ := [blk g10 35 cs7, blk g2 80 [.int .i64 x1.f_last, .map (some g3), .map (some g4)], mapo (fun a : Int => .int .i64 a) tBool g3 x1.f_events, mapo (fun a : Int => .int .i64 a) (tInt .i64) g4 x1.f_returns]) hs (by kernel_rfl) (by kernel_rfl) (by kernel_rfl) ⟨⟨⟨⟨⟨⟨⟨⟨⟨⟨⟨⟨⟨⟨⟨⟨⟨⟨⟨⟨⟨trivial, ?_⟩, ?_⟩, ?_⟩, ?_⟩, ?_⟩, ?_⟩, ?_⟩, ?_⟩, ?_⟩, ?_⟩, ?_⟩, ?_⟩, ?_⟩, ?_⟩, ?_⟩, ?_⟩, ?_⟩, ?_⟩, ?_⟩, ?_⟩, ?_⟩ ?_
        {
        intro ρ w Γx Λx hs hu hp
        refine WL.move (v := .pointer (some ⟨g2, 0, none⟩)) ((hu 0 rfl).trans ((hu38 0 rfl).trans h25_0)) ?_
        exact WL.nil ⟨rfl, _, rfl, rfl, hs.cutG 0 0⟩ }
        {
        intro ρ w Γx Λx hs hu hp
        have e93 : ρ 54 = .pointer (some ⟨g2, 0, none⟩) := (hp 0 rfl).1
        refine WL.nilCheck (v := .pointer (some ⟨g2, 0, none⟩)) e93 rfl ?_
        exact WL.nil ⟨rfl, _, rfl, rfl, hs.cutG 0 0⟩ }
        {
        intro ρ w Γx Λx hs hu hp
        have e94 : ρ 55 = .pointer (some ⟨g2, 0, none⟩) := (hp 1 rfl).1
        refine WL.fieldAddr (m := 1) e94 FA80_1 rfl ?_
        exact WL.nil ⟨rfl, _, rfl, rfl, hs.cutG 0 0⟩ }
        {
        intro ρ w Γx Λx hs hu hp
        have e95 : ρ 56 = .pointer (some ⟨g2, 1, none⟩) := (hp 2 rfl).1
        refine WL.load1 (v := .map (some g3)) hs (Λx.length + 1) (getApp rfl) TI77 e95 rfl ?_
        exact WL.nil ⟨rfl, _, rfl, rfl, hs.cutG 0 0⟩ }
        {
        intro ρ w Γx Λx hs hu hp
        refine WL.fieldAddr (m := 4) ((hu 3 rfl).trans ((hu38 3 rfl).trans h25_3)) FA35_4 rfl ?_
        exact WL.nil ⟨rfl, _, rfl, rfl, hs.cutG 0 0⟩ }
        {
        intro ρ w Γx Λx hs hu hp
        have e96 : ρ 58 = .pointer (some ⟨g10, 4, none⟩) := (hp 4 rfl).1
        refine WL.loadF (z := x5.Call) F_history_Operation_Call hs (Λx.length + 0) (getApp rfl) (Γx.length + 0) (getApp rfl) rfl TI3 (.inr rfl) e96 rfl (fun v89 hs => ?_)
        obtain rfl := hs.int 0 rfl
        exact WL.nil ⟨rfl, _, rfl, rfl, hs.cutG 0 1⟩ }
        {
        intro ρ w Γx Λx hs hu hp
        have e97 : ρ 57 = .map (some g3) := (hp 3 rfl).1
        have e98 : ρ 59 = .int .i64 x5.Call := (hp 5 rfl).1
        refine WL.lookup (a := x5.Call) (z0 := false) hs (Λx.length + 2) (getApp rfl) (kkInt UN3) UN77 e97 e98 ZR4 (fun _ _ => ⟨[.bool false], rfl, rfl⟩) exx90 (fun v91 hs => ?_)
        obtain rfl := hs.bool 0 rfl
        exact WL.nil ⟨rfl, _, rfl, rfl, hs.cutG 0 1⟩ }
        {
        intro ρ w Γx Λx hs hu hp
        have e99 : ρ 60 = .bool x90 := (hp 6 rfl).1
        refine WL.move (v := .bool x90) e99 ?_
        exact WL.nil ⟨rfl, _, rfl, rfl, hs.cutG 0 0⟩ }
        {
        intro ρ w Γx Λx hs hu hp
        have e100 : ρ 61 = .bool x90 := (hp 7 rfl).1
        refine WL.pass ((wanted_of rfl rfl (bool_tr e100 hc92)).trans rfl) rfl ?_
        exact WL.nil ⟨rfl, _, rfl, rfl, hs.cutG 0 0⟩ }
        {
        intro ρ w Γx Λx hs hu hp
        have e101 : ρ 62 = undef := (hp 8 rfl).1
        have e102 : ρ 61 = .bool x90 := (hp 7 rfl).1
        refine WL.pass ((wanted_of rfl rfl (bool_tr e102 hc92)).trans rfl) rfl ?_
        exact WL.nil ⟨rfl, _, rfl, rfl, hs.cutG 0 0⟩ }
        {
        intro ρ w Γx Λx hs hu hp
        have e103 : ρ 63 = undef := (hp 9 rfl).1
        have e104 : ρ 61 = .bool x90 := (hp 7 rfl).1
        refine WL.pass ((wanted_of rfl rfl (bool_tr e104 hc92)).trans rfl) rfl ?_
        exact WL.nil ⟨rfl, _, rfl, rfl, hs.cutG 0 0⟩ }
        {
        intro ρ w Γx Λx hs hu hp
        have e105 : ρ 64 = undef := (hp 10 rfl).1
        have e106 : ρ 61 = .bool x90 := (hp 7 rfl).1
        refine WL.pass ((wanted_of rfl rfl (bool_tr e106 hc92)).trans rfl) rfl ?_
        exact WL.nil ⟨rfl, _, rfl, rfl, hs.cutG 0 0⟩ }
        {
        intro ρ w Γx Λx hs hu hp
        have e107 : ρ 65 = undef := (hp 11 rfl).1
        refine WL.pass (wanted_undef rfl rfl e107) rfl ?_
        exact WL.nil ⟨rfl, _, rfl, rfl, hs.cutG 0 0⟩ }
        {
        intro ρ w Γx Λx hs hu hp
        have e108 : ρ 66 = undef := (hp 12 rfl).1
        have e109 : ρ 65 = undef := (hp 11 rfl).1
        refine WL.pass (wanted_undef rfl rfl e109) rfl ?_
        exact WL.nil ⟨rfl, _, rfl, rfl, hs.cutG 0 0⟩ }
        {
        intro ρ w Γx Λx hs hu hp
        have e110 : ρ 67 = undef := (hp 13 rfl).1
        have e111 : ρ 65 = undef := (hp 11 rfl).1
        refine WL.pass (wanted_undef rfl rfl e111) rfl ?_
        exact WL.nil ⟨rfl, _, rfl, rfl, hs.cutG 0 0⟩ }
        {
        intro ρ w Γx Λx hs hu hp
        have e112 : ρ 68 = undef := (hp 14 rfl).1
        have e113 : ρ 65 = undef := (hp 11 rfl).1
        refine WL.pass (wanted_undef rfl rfl e113) rfl ?_
        exact WL.nil ⟨rfl, _, rfl, rfl, hs.cutG 0 0⟩ }
        {
        intro ρ w Γx Λx hs hu hp
        have e114 : ρ 65 = undef := (hp 11 rfl).1
        refine WL.pass (wanted_undef rfl rfl e114) rfl ?_
        exact WL.nil ⟨rfl, _, rfl, rfl, hs.cutG 0 0⟩ }
        {
        intro ρ w Γx Λx hs hu hp
        have e115 : ρ 70 = undef := (hp 16 rfl).1
        have e116 : ρ 65 = undef := (hp 11 rfl).1
        refine WL.pass (wanted_undef rfl rfl e116) rfl ?_
        exact WL.nil ⟨rfl, _, rfl, rfl, hs.cutG 0 0⟩ }
        {
        intro ρ w Γx Λx hs hu hp
        have e117 : ρ 69 = undef := (hp 15 rfl).1
        have e118 : ρ 71 = undef := (hp 17 rfl).1
        have e119 : ρ 65 = undef := (hp 11 rfl).1
        refine WL.pass (wanted_undef rfl rfl e119) rfl ?_
        exact WL.nil ⟨rfl, _, rfl, rfl, hs.cutG 0 0⟩ }
        {
        intro ρ w Γx Λx hs hu hp
        have e120 : ρ 65 = undef := (hp 11 rfl).1
        have e121 : ρ 72 = undef := (hp 18 rfl).1
        have e122 : ρ 61 = .bool x90 := (hp 7 rfl).1
        refine WL.pass ((wanted_of rfl rfl (bool_tr e122 hc92)).trans rfl) rfl ?_
        exact WL.nil ⟨rfl, _, rfl, rfl, hs.cutG 0 0⟩ }
        {
        intro ρ w Γx Λx hs hu hp
        have e123 : ρ 61 = .bool x90 := (hp 7 rfl).1
        have e124 : ρ 73 = undef := (hp 19 rfl).1
        refine WL.pickT (v := .bool true) (bool_tr e123 hc92) rfl ?_
        exact WL.nil ⟨rfl, _, rfl, rfl, hs.cutG 0 0⟩ }
        {
        intro ρ w hs hu125 hp
        obtain ⟨⟨⟨⟨⟨⟨⟨⟨⟨⟨⟨⟨⟨⟨⟨⟨⟨⟨⟨⟨⟨_, hp0_⟩, hp1_⟩, hp2_⟩, hp3_⟩, hp4_⟩, hp5_⟩, hp6_⟩, hp7_⟩, hp8_⟩, hp9_⟩, hp10_⟩, hp11_⟩, hp12_⟩, hp13_⟩, hp14_⟩, hp15_⟩, hp16_⟩, hp17_⟩, hp18_⟩, hp19_⟩, hp20_⟩ := hp
        have hs : St ok F w [vl t_history_Operation x5 (.agg cs7.toArray)] [blk g10 35 cs7, blk g2 80 [.int .i64 x1.f_last, .map (some g3), .map (some g4)], mapo (fun a : Int => .int .i64 a) tBool g3 x1.f_events, mapo (fun a : Int => .int .i64 a) (tInt .i64) g4 x1.f_returns] := hs
        have e126 : ρ 74 = .bool true := hp20_
        have e127 : ρ 73 = undef := hp19_
        have e128 : ρ 72 = undef := hp18_
        have e129 : ρ 71 = undef := hp17_
        have e130 : ρ 70 = undef := hp16_
        have e131 : ρ 69 = undef := hp15_
        have e132 : ρ 68 = undef := hp14_
        have e133 : ρ 67 = undef := hp13_
        have e134 : ρ 66 = undef := hp12_
        have e135 : ρ 65 = undef := hp11_
        have e136 : ρ 64 = undef := hp10_
        have e137 : ρ 63 = undef := hp9_
        have e138 : ρ 62 = undef := hp8_
        have e139 : ρ 61 = .bool x90 := hp7_
        have e140 : ρ 60 = .bool x90 := hp6_
        have e141 : ρ 59 = .int .i64 x5.Call := hp5_
        have e142 : ρ 58 = .pointer (some ⟨g10, 4, none⟩) := hp4_
        have e143 : ρ 57 = .map (some g3) := hp3_
        have e144 : ρ 56 = .pointer (some ⟨g2, 1, none⟩) := hp2_
        have e145 : ρ 55 = .pointer (some ⟨g2, 0, none⟩) := hp1_
        have e146 : ρ 54 = .pointer (some ⟨g2, 0, none⟩) := hp0_
        refine WA.step [21] (by kernel_rfl) (by simp) ⟨?_, trivial⟩
        refine WL.assign (v := .bool true) e126 ?_
        refine WL.nil ⟨rfl, _, rfl, ?_⟩
        refine WA.done (by kernel_rfl) ?_
        exact Jk58 true _ _ ((hu125 0 rfl).trans ((hu38 0 rfl).trans h25_0)) ((hu125 3 rfl).trans ((hu38 3 rfl).trans h25_3)) rfl ((hs.mask [true, true, true, true]).pick [0]) hf } }
        {
        rcases iteE hf with ⟨hc148, hf⟩ | ⟨hc148, hf⟩
        {
        obtain ⟨x150, exx150, hf⟩ := letE hf
        refine W.any (by kernel_rfl) 21 1 [true, true, true, true, true, true, true, true, true, true, true, true, true, true, true, true, true, true, true, true, true, false] rfl rfl (poAt [pv (.pointer (some ⟨g2, 0, none⟩)), pv (.pointer (some ⟨g2, 0, none⟩)), pv (.pointer (some ⟨g2, 1, none⟩)), pv (.map (some g3)), pv (.pointer (some ⟨g10, 4, none⟩)), pv (.int .i64 x5.Call), pv (.bool x90), pv (.bool x90), pv (.pointer (some ⟨g10, 5, none⟩)), pv (.int .i64 x5.Return), pv (.bool (x5.Return != 0)), pv (.bool (x5.Return != 0)), pv (.pointer (some ⟨g2, 0, none⟩)), pv (.pointer (some ⟨g2, 0, none⟩)), pv (.pointer (some ⟨g2, 1, none⟩)), pv (.map (some g3)), pv (.pointer (some ⟨g10, 5, none⟩)), pv (.int .i64 x5.Return), pv (.bool x150), pv (.bool x150), pv (.bool x150)]) (Λ := [blk g10 35 cs7, blk g2 80 [.int .i64 x1.f_last, .map (some g3), .map (some g4)], mapo (fun a : Int => .int .i64 a) tBool g3 x1.f_events, mapo (fun a : Int => .int .i64 a) (tInt .i64) g4 x1.f_returns]) hs (by kernel_rfl) (by kernel_rfl) (by kernel_rfl) ⟨⟨⟨⟨⟨⟨⟨⟨⟨⟨⟨⟨⟨⟨⟨⟨⟨⟨⟨⟨⟨trivial, ?_⟩, ?_⟩, ?_⟩, ?_⟩, ?_⟩, ?_⟩, ?_⟩, ?_⟩, ?_⟩, ?_⟩, ?_⟩, ?_⟩, ?_⟩, ?_⟩, ?_⟩, ?_⟩, ?_⟩, ?_⟩, ?_⟩, ?_⟩, ?_⟩ ?_
        {
        intro ρ w Γx Λx hs hu hp
        refine WL.move (v := .pointer (some ⟨g2, 0, none⟩)) ((hu 0 rfl).trans ((hu38 0 rfl).trans h25_0)) ?_
        exact WL.nil ⟨rfl, _, rfl, rfl, hs.cutG 0 0⟩ }
        {
        intro ρ w Γx Λx hs hu hp
        have e152 : ρ 54 = .pointer (some ⟨g2, 0, none⟩) := (hp 0 rfl).1
        refine WL.nilCheck (v := .pointer (some ⟨g2, 0, none⟩)) e152 rfl ?_
        exact WL.nil ⟨rfl, _, rfl, rfl, hs.cutG 0 0⟩ }
        {
        intro ρ w Γx Λx hs hu hp
        have e153 : ρ 55 = .pointer (some ⟨g2, 0, none⟩) := (hp 1 rfl).1
        refine WL.fieldAddr (m := 1) e153 FA80_1 rfl ?_
        exact WL.nil ⟨rfl, _, rfl, rfl, hs.cutG 0 0⟩ }
        {
        intro ρ w Γx Λx hs hu hp
        have e154 : ρ 56 = .pointer (some ⟨g2, 1, none⟩) := (hp 2 rfl).1
        refine WL.load1 (v := .map (some g3)) hs (Λx.length + 1) (getApp rfl) TI77 e154 rfl ?_
        exact WL.nil ⟨rfl, _, rfl, rfl, hs.cutG 0 0⟩ }
        {
        intro ρ w Γx Λx hs hu hp
        refine WL.fieldAddr (m := 4) ((hu 3 rfl).trans ((hu38 3 rfl).trans h25_3)) FA35_4 rfl ?_
        exact WL.nil ⟨rfl, _, rfl, rfl, hs.cutG 0 0⟩ }
        {
        intro ρ w Γx Λx hs hu hp
        have e155 : ρ 58 = .pointer (some ⟨g10, 4, none⟩) := (hp 4 rfl).1
        refine WL.loadF (z := x5.Call) F_history_Operation_Call hs (Λx.length + 0) (getApp rfl) (Γx.length + 0) (getApp rfl) rfl TI3 (.inr rfl) e155 rfl (fun v89 hs => ?_)
        obtain rfl := hs.int 0 rfl
        exact WL.nil ⟨rfl, _, rfl, rfl, hs.cutG 0 1⟩ }
        {
        intro ρ w Γx Λx hs hu hp
        have e156 : ρ 57 = .map (some g3) := (hp 3 rfl).1
        have e157 : ρ 59 = .int .i64 x5.Call := (hp 5 rfl).1
        refine WL.lookup (a := x5.Call) (z0 := false) hs (Λx.length + 2) (getApp rfl) (kkInt UN3) UN77 e156 e157 ZR4 (fun _ _ => ⟨[.bool false], rfl, rfl⟩) exx90 (fun v91 hs => ?_)
        obtain rfl := hs.bool 0 rfl
        exact WL.nil ⟨rfl, _, rfl, rfl, hs.cutG 0 1⟩ }
        {
        intro ρ w Γx Λx hs hu hp
        have e158 : ρ 60 = .bool x90 := (hp 6 rfl).1
        refine WL.move (v := .bool x90) e158 ?_
        exact WL.nil ⟨rfl, _, rfl, rfl, hs.cutG 0 0⟩ }
        {
        intro ρ w Γx Λx hs hu hp
        have e159 : ρ 61 = .bool x90 := (hp 7 rfl).1
        refine WL.fieldAddr (m := 5) ((hu 3 rfl).trans ((hu38 3 rfl).trans h25_3)) FA35_5 rfl ?_ (hg := (wanted_of rfl rfl (bool_tr e159 hc92)).trans rfl)
        exact WL.nil ⟨rfl, _, rfl, rfl, hs.cutG 0 0⟩ }
        {
        intro ρ w Γx Λx hs hu hp
        have e160 : ρ 62 = .pointer (some ⟨g10, 5, none⟩) := (hp 8 rfl).1
        have e161 : ρ 61 = .bool x90 := (hp 7 rfl).1
        refine WL.loadF (z := x5.Return) F_history_Operation_Return hs (Λx.length + 0) (getApp rfl) (Γx.length + 0) (getApp rfl) rfl TI3 (.inr rfl) e160 rfl (fun v147 hs => ?_) (hg := (wanted_of rfl rfl (bool_tr e161 hc92)).trans rfl)
        obtain rfl := hs.int 0 rfl
        exact WL.nil ⟨rfl, _, rfl, rfl, hs.cutG 0 1⟩ }
        {
        intro ρ w Γx Λx hs hu hp
        have e162 : ρ 63 = .int .i64 x5.Return := (hp 9 rfl).1
        have e163 : ρ 61 = .bool x90 := (hp 7 rfl).1
        refine WL.bin (v := .bool (x5.Return != 0)) e162 rfl (ib_neq _ _ _) ?_ (hg := (wanted_of rfl rfl (bool_tr e163 hc92)).trans rfl)
        exact WL.nil ⟨rfl, _, rfl, rfl, hs.cutG 0 0⟩ }
        {
        intro ρ w Γx Λx hs hu hp
        have e164 : ρ 64 = .bool (x5.Return != 0) := (hp 10 rfl).1
        have e165 : ρ 61 = .bool x90 := (hp 7 rfl).1
        refine WL.move (v := .bool (x5.Return != 0)) e164 ?_ (hg := (wanted_of rfl rfl (bool_tr e165 hc92)).trans rfl)
        exact WL.nil ⟨rfl, _, rfl, rfl, hs.cutG 0 0⟩ }
        {
        intro ρ w Γx Λx hs hu hp
        have e166 : ρ 65 = .bool (x5.Return != 0) := (hp 11 rfl).1
        refine WL.move (v := .pointer (some ⟨g2, 0, none⟩)) ((hu 0 rfl).trans ((hu38 0 rfl).trans h25_0)) ?_ (hg := (wanted_of rfl rfl (bool_tr e166 hc148)).trans rfl)
        exact WL.nil ⟨rfl, _, rfl, rfl, hs.cutG 0 0⟩ }
        {
        intro ρ w Γx Λx hs hu hp
        have e167 : ρ 66 = .pointer (some ⟨g2, 0, none⟩) := (hp 12 rfl).1
        have e168 : ρ 65 = .bool (x5.Return != 0) := (hp 11 rfl).1
        refine WL.nilCheck (v := .pointer (some ⟨g2, 0, none⟩)) e167 rfl ?_ (hg := (wanted_of rfl rfl (bool_tr e168 hc148)).trans rfl)
        exact WL.nil ⟨rfl, _, rfl, rfl, hs.cutG 0 0⟩ }
        {
        intro ρ w Γx Λx hs hu hp
        have e169 : ρ 67 = .pointer (some ⟨g2, 0, none⟩) := (hp 13 rfl).1
        have e170 : ρ 65 = .bool (x5.Return != 0) := (hp 11 rfl).1
        refine WL.fieldAddr (m := 1) e169 FA80_1 rfl ?_ (hg := (wanted_of rfl rfl (bool_tr e170 hc148)).trans rfl)
        exact WL.nil ⟨rfl, _, rfl, rfl, hs.cutG 0 0⟩ }
        {
        intro ρ w Γx Λx hs hu hp
        have e171 : ρ 68 = .pointer (some ⟨g2, 1, none⟩) := (hp 14 rfl).1
        have e172 : ρ 65 = .bool (x5.Return != 0) := (hp 11 rfl).1
        refine WL.load1 (v := .map (some g3)) hs (Λx.length + 1) (getApp rfl) TI77 e171 rfl ?_ (hg := (wanted_of rfl rfl (bool_tr e172 hc148)).trans rfl)
        exact WL.nil ⟨rfl, _, rfl, rfl, hs.cutG 0 0⟩ }
        {
        intro ρ w Γx Λx hs hu hp
        have e173 : ρ 65 = .bool (x5.Return != 0) := (hp 11 rfl).1
        refine WL.fieldAddr (m := 5) ((hu 3 rfl).trans ((hu38 3 rfl).trans h25_3)) FA35_5 rfl ?_ (hg := (wanted_of rfl rfl (bool_tr e173 hc148)).trans rfl)
        exact WL.nil ⟨rfl, _, rfl, rfl, hs.cutG 0 0⟩ }
        {
        intro ρ w Γx Λx hs hu hp
        have e174 : ρ 70 = .pointer (some ⟨g10, 5, none⟩) := (hp 16 rfl).1
        have e175 : ρ 65 = .bool (x5.Return != 0) := (hp 11 rfl).1
        refine WL.loadF (z := x5.Return) F_history_Operation_Return hs (Λx.length + 0) (getApp rfl) (Γx.length + 0) (getApp rfl) rfl TI3 (.inr rfl) e174 rfl (fun v149 hs => ?_) (hg := (wanted_of rfl rfl (bool_tr e175 hc148)).trans rfl)
        obtain rfl := hs.int 0 rfl
        exact WL.nil ⟨rfl, _, rfl, rfl, hs.cutG 0 1⟩ }
        {
        intro ρ w Γx Λx hs hu hp
        have e176 : ρ 69 = .map (some g3) := (hp 15 rfl).1
        have e177 : ρ 71 = .int .i64 x5.Return := (hp 17 rfl).1
        have e178 : ρ 65 = .bool (x5.Return != 0) := (hp 11 rfl).1
        refine WL.lookup (a := x5.Return) (z0 := false) hs (Λx.length + 2) (getApp rfl) (kkInt UN3) UN77 e176 e177 ZR4 (fun _ _ => ⟨[.bool false], rfl, rfl⟩) exx150 (fun v151 hs => ?_) (hg := (wanted_of rfl rfl (bool_tr e178 hc148)).trans rfl)
        obtain rfl := hs.bool 0 rfl
        exact WL.nil ⟨rfl, _, rfl, rfl, hs.cutG 0 1⟩ }
        {
        intro ρ w Γx Λx hs hu hp
        have e179 : ρ 65 = .bool (x5.Return != 0) := (hp 11 rfl).1
        have e180 : ρ 72 = .bool x150 := (hp 18 rfl).1
        have e181 : ρ 61 = .bool x90 := (hp 7 rfl).1
        refine WL.pickT (v := .bool x150) (bool_tr e179 hc148) e180 ?_ (hg := (wanted_of rfl rfl (bool_tr e181 hc92)).trans rfl)
        exact WL.nil ⟨rfl, _, rfl, rfl, hs.cutG 0 0⟩ }
        {
        intro ρ w Γx Λx hs hu hp
        have e182 : ρ 61 = .bool x90 := (hp 7 rfl).1
        have e183 : ρ 73 = .bool x150 := (hp 19 rfl).1
        refine WL.pickF (v := .bool x150) (bool_tr e182 hc92) e183 ?_
        exact WL.nil ⟨rfl, _, rfl, rfl, hs.cutG 0 0⟩ }
        {
        intro ρ w hs hu184 hp
        obtain ⟨⟨⟨⟨⟨⟨⟨⟨⟨⟨⟨⟨⟨⟨⟨⟨⟨⟨⟨⟨⟨_, hp0_⟩, hp1_⟩, hp2_⟩, hp3_⟩, hp4_⟩, hp5_⟩, hp6_⟩, hp7_⟩, hp8_⟩, hp9_⟩, hp10_⟩, hp11_⟩, hp12_⟩, hp13_⟩, hp14_⟩, hp15_⟩, hp16_⟩, hp17_⟩, hp18_⟩, hp19_⟩, hp20_⟩ := hp
        have hs : St ok F w [vl t_history_Operation x5 (.agg cs7.toArray)] [blk g10 35 cs7, blk g2 80 [.int .i64 x1.f_last, .map (some g3), .map (some g4)], mapo (fun a : Int => .int .i64 a) tBool g3 x1.f_events, mapo (fun a : Int => .int .i64 a) (tInt .i64) g4 x1.f_returns] := hs
        have e185 : ρ 74 = .bool x150 := hp20_
        have e186 : ρ 73 = .bool x150 := hp19_
        have e187 : ρ 72 = .bool x150 := hp18_
        have e188 : ρ 71 = .int .i64 x5.Return := hp17_
        have e189 : ρ 70 = .pointer (some ⟨g10, 5, none⟩) := hp16_
        have e190 : ρ 69 = .map (some g3) := hp15_
        have e191 : ρ 68 = .pointer (some ⟨g2, 1, none⟩) := hp14_
        have e192 : ρ 67 = .pointer (some ⟨g2, 0, none⟩) := hp13_
        have e193 : ρ 66 = .pointer (some ⟨g2, 0, none⟩) := hp12_
        have e194 : ρ 65 = .bool (x5.Return != 0) := hp11_
        have e195 : ρ 64 = .bool (x5.Return != 0) := hp10_
        have e196 : ρ 63 = .int .i64 x5.Return := hp9_
        have e197 : ρ 62 = .pointer (some ⟨g10, 5, none⟩) := hp8_
        have e198 : ρ 61 = .bool x90 := hp7_
        have e199 : ρ 60 = .bool x90 := hp6_
        have e200 : ρ 59 = .int .i64 x5.Call := hp5_
        have e201 : ρ 58 = .pointer (some ⟨g10, 4, none⟩) := hp4_
        have e202 : ρ 57 = .map (some g3) := hp3_
        have e203 : ρ 56 = .pointer (some ⟨g2, 1, none⟩) := hp2_
        have e204 : ρ 55 = .pointer (some ⟨g2, 0, none⟩) := hp1_
        have e205 : ρ 54 = .pointer (some ⟨g2, 0, none⟩) := hp0_
        refine WA.step [21] (by kernel_rfl) (by simp) ⟨?_, trivial⟩
        refine WL.assign (v := .bool x150) e185 ?_
        refine WL.nil ⟨rfl, _, rfl, ?_⟩
        refine WA.done (by kernel_rfl) ?_
        exact Jk58 x150 _ _ ((hu184 0 rfl).trans ((hu38 0 rfl).trans h25_0)) ((hu184 3 rfl).trans ((hu38 3 rfl).trans h25_3)) rfl ((hs.mask [true, true, true, true]).pick [0]) hf } }
        {
        refine W.any (by kernel_rfl) 21 1 [true, true, true, true, true, true, true, true, true, true, true, true, true, true, true, true, true, true, true, true, true, false] rfl rfl (poAt [pv (.pointer (some ⟨g2, 0, none⟩)), pv (.pointer (some ⟨g2, 0, none⟩)), pv (.pointer (some ⟨g2, 1, none⟩)), pv (.map (some g3)), pv (.pointer (some ⟨g10, 4, none⟩)), pv (.int .i64 x5.Call), pv (.bool x90), pv (.bool x90), pv (.pointer (some ⟨g10, 5, none⟩)), pv (.int .i64 x5.Return), pv (.bool (x5.Return != 0)), pv (.bool (x5.Return != 0)), pv (undef), pv (undef), pv (undef), pv (undef), pv (undef), pv (undef), pv (undef), pv (.bool false), pv (.bool false)]) (Λ := [blk g10 35 cs7, blk g2 80 [.int .i64 x1.f_last, .map (some g3), .map (some g4)], mapo (fun a : Int => .int .i64 a) tBool g3 x1.f_events, mapo (fun a : Int => .int .i64 a) (tInt .i64) g4 x1.f_returns]) hs (by kernel_rfl) (by kernel_rfl) (by kernel_rfl) ⟨⟨⟨⟨⟨⟨⟨⟨⟨⟨⟨⟨⟨⟨⟨⟨⟨⟨⟨⟨⟨trivial, ?_⟩, ?_⟩, ?_⟩, ?_⟩, ?_⟩, ?_⟩, ?_⟩, ?_⟩, ?_⟩, ?_⟩, ?_⟩, ?_⟩, ?_⟩, ?_⟩, ?_⟩, ?_⟩, ?_⟩, ?_⟩, ?_⟩, ?_⟩, ?_⟩ ?_
        {
        intro ρ w Γx Λx hs hu hp
        refine WL.move (v := .pointer (some ⟨g2, 0, none⟩)) ((hu 0 rfl).trans ((hu38 0 rfl).trans h25_0)) ?_
        exact WL.nil ⟨rfl, _, rfl, rfl, hs.cutG 0 0⟩ }
        {
        intro ρ w Γx Λx hs hu hp
        have e206 : ρ 54 = .pointer (some ⟨g2, 0, none⟩) := (hp 0 rfl).1
        refine WL.nilCheck (v := .pointer (some ⟨g2, 0, none⟩)) e206 rfl ?_
        exact WL.nil ⟨rfl, _, rfl, rfl, hs.cutG 0 0⟩ }
        {
        intro ρ w Γx Λx hs hu hp
        have e207 : ρ 55 = .pointer (some ⟨g2, 0, none⟩) := (hp 1 rfl).1
        refine WL.fieldAddr (m := 1) e207 FA80_1 rfl ?_
        exact WL.nil ⟨rfl, _, rfl, rfl, hs.cutG 0 0⟩ }
        {
        intro ρ w Γx Λx hs hu hp
        have e208 : ρ 56 = .pointer (some ⟨g2, 1, none⟩) := (hp 2 rfl).1
        refine WL.load1 (v := .map (some g3)) hs (Λx.length + 1) (getApp rfl) TI77 e208 rfl ?_
        exact WL.nil ⟨rfl, _, rfl, rfl, hs.cutG 0 0⟩ }
        {
        intro ρ w Γx Λx hs hu hp
        refine WL.fieldAddr (m := 4) ((hu 3 rfl).trans ((hu38 3 rfl).trans h25_3)) FA35_4 rfl ?_
        exact WL.nil ⟨rfl, _, rfl, rfl, hs.cutG 0 0⟩ }
        {
        intro ρ w Γx Λx hs hu hp
        have e209 : ρ 58 = .pointer (some ⟨g10, 4, none⟩) := (hp 4 rfl).1
        refine WL.loadF (z := x5.Call) F_history_Operation_Call hs (Λx.length + 0) (getApp rfl) (Γx.length + 0) (getApp rfl) rfl TI3 (.inr rfl) e209 rfl (fun v89 hs => ?_)
        obtain rfl := hs.int 0 rfl
        exact WL.nil ⟨rfl, _, rfl, rfl, hs.cutG 0 1⟩ }
        {
        intro ρ w Γx Λx hs hu hp
        have e210 : ρ 57 = .map (some g3) := (hp 3 rfl).1
        have e211 : ρ 59 = .int .i64 x5.Call := (hp 5 rfl).1
        refine WL.lookup (a := x5.Call) (z0 := false) hs (Λx.length + 2) (getApp rfl) (kkInt UN3) UN77 e210 e211 ZR4 (fun _ _ => ⟨[.bool false], rfl, rfl⟩) exx90 (fun v91 hs => ?_)
        obtain rfl := hs.bool 0 rfl
        exact WL.nil ⟨rfl, _, rfl, rfl, hs.cutG 0 1⟩ }
        {
        intro ρ w Γx Λx hs hu hp
        have e212 : ρ 60 = .bool x90 := (hp 6 rfl).1
        refine WL.move (v := .bool x90) e212 ?_
        exact WL.nil ⟨rfl, _, rfl, rfl, hs.cutG 0 0⟩ }
        {
        intro ρ w Γx Λx hs hu hp
        have e213 : ρ 61 = .bool x90 := (hp 7 rfl).1
        refine WL.fieldAddr (m := 5) ((hu 3 rfl).trans ((hu38 3 rfl).trans h25_3)) FA35_5 rfl ?_ (hg := (wanted_of rfl rfl (bool_tr e213 hc92)).trans rfl)
        exact WL.nil ⟨rfl, _, rfl, rfl, hs.cutG 0 0⟩ }
        {
        intro ρ w Γx Λx hs hu hp
        have e214 : ρ 62 = .pointer (some ⟨g10, 5, none⟩) := (hp 8 rfl).1
        have e215 : ρ 61 = .bool x90 := (hp 7 rfl).1
        refine WL.loadF (z := x5.Return) F_history_Operation_Return hs (Λx.length + 0) (getApp rfl) (Γx.length + 0) (getApp rfl) rfl TI3 (.inr rfl) e214 rfl (fun v147 hs => ?_) (hg := (wanted_of rfl rfl (bool_tr e215 hc92)).trans rfl)
        obtain rfl := hs.int 0 rfl
        exact WL.nil ⟨rfl, _, rfl, rfl, hs.cutG 0 1⟩ }
        {
        intro ρ w Γx Λx hs hu hp
        have e216 : ρ 63 = .int .i64 x5.Return := (hp 9 rfl).1
        have e217 : ρ 61 = .bool x90 := (hp 7 rfl).1
        refine WL.bin (v := .bool (x5.Return != 0)) e216 rfl (ib_neq _ _ _) ?_ (hg := (wanted_of rfl rfl (bool_tr e217 hc92)).trans rfl)
        exact WL.nil ⟨rfl, _, rfl, rfl, hs.cutG 0 0⟩ }
        {
        intro ρ w Γx Λx hs hu hp
        have e218 : ρ 64 = .bool (x5.Return != 0) := (hp 10 rfl).1
        have e219 : ρ 61 = .bool x90 := (hp 7 rfl).1
        refine WL.move (v := .bool (x5.Return != 0)) e218 ?_ (hg := (wanted_of rfl rfl (bool_tr e219 hc92)).trans rfl)
        exact WL.nil ⟨rfl, _, rfl, rfl, hs.cutG 0 0⟩ }
        {
        intro ρ w Γx Λx hs hu hp
        have e220 : ρ 65 = .bool (x5.Return != 0) := (hp 11 rfl).1
        refine WL.pass ((wanted_of rfl rfl (bool_tr e220 hc148)).trans rfl) rfl ?_
        exact WL.nil ⟨rfl, _, rfl, rfl, hs.cutG 0 0⟩ }
        {
        intro ρ w Γx Λx hs hu hp
        have e221 : ρ 66 = undef := (hp 12 rfl).1
        have e222 : ρ 65 = .bool (x5.Return != 0) := (hp 11 rfl).1
        refine WL.pass ((wanted_of rfl rfl (bool_tr e222 hc148)).trans rfl) rfl ?_
        exact WL.nil ⟨rfl, _, rfl, rfl, hs.cutG 0 0⟩ }
        {
        intro ρ w Γx Λx hs hu hp
        have e223 : ρ 67 = undef := (hp 13 rfl).1
        have e224 : ρ 65 = .bool (x5.Return != 0) := (hp 11 rfl).1
        refine WL.pass ((wanted_of rfl rfl (bool_tr e224 hc148)).trans rfl) rfl ?_
        exact WL.nil ⟨rfl, _, rfl, rfl, hs.cutG 0 0⟩ }
        {
        intro ρ w Γx Λx hs hu hp
        have e225 : ρ 68 = undef := (hp 14 rfl).1
        have e226 : ρ 65 = .bool (x5.Return != 0) := (hp 11 rfl).1
        refine WL.pass ((wanted_of rfl rfl (bool_tr e226 hc148)).trans rfl) rfl ?_
        exact WL.nil ⟨rfl, _, rfl, rfl, hs.cutG 0 0⟩ }
        {
        intro ρ w Γx Λx hs hu hp
        have e227 : ρ 65 = .bool (x5.Return != 0) := (hp 11 rfl).1
        refine WL.pass ((wanted_of rfl rfl (bool_tr e227 hc148)).trans rfl) rfl ?_
        exact WL.nil ⟨rfl, _, rfl, rfl, hs.cutG 0 0⟩ }
        {
        intro ρ w Γx Λx hs hu hp
        have e228 : ρ 70 = undef := (hp 16 rfl).1
        have e229 : ρ 65 = .bool (x5.Return != 0) := (hp 11 rfl).1
        refine WL.pass ((wanted_of rfl rfl (bool_tr e229 hc148)).trans rfl) rfl ?_
        exact WL.nil ⟨rfl, _, rfl, rfl, hs.cutG 0 0⟩ }
        {
        intro ρ w Γx Λx hs hu hp
        have e230 : ρ 69 = undef := (hp 15 rfl).1
        have e231 : ρ 71 = undef := (hp 17 rfl).1
        have e232 : ρ 65 = .bool (x5.Return != 0) := (hp 11 rfl).1
        refine WL.pass ((wanted_of rfl rfl (bool_tr e232 hc148)).trans rfl) rfl ?_
        exact WL.nil ⟨rfl, _, rfl, rfl, hs.cutG 0 0⟩ }
        {
        intro ρ w Γx Λx hs hu hp
        have e233 : ρ 65 = .bool (x5.Return != 0) := (hp 11 rfl).1
        have e234 : ρ 72 = undef := (hp 18 rfl).1
        have e235 : ρ 61 = .bool x90 := (hp 7 rfl).1
        refine WL.pickF (v := .bool false) (bool_tr e233 hc148) rfl ?_ (hg := (wanted_of rfl rfl (bool_tr e235 hc92)).trans rfl)
        exact WL.nil ⟨rfl, _, rfl, rfl, hs.cutG 0 0⟩ }
        {
        intro ρ w Γx Λx hs hu hp
        have e236 : ρ 61 = .bool x90 := (hp 7 rfl).1
        have e237 : ρ 73 = .bool false := (hp 19 rfl).1
        refine WL.pickF (v := .bool false) (bool_tr e236 hc92) e237 ?_
        exact WL.nil ⟨rfl, _, rfl, rfl, hs.cutG 0 0⟩ }
        {
        intro ρ w hs hu238 hp
        obtain ⟨⟨⟨⟨⟨⟨⟨⟨⟨⟨⟨⟨⟨⟨⟨⟨⟨⟨⟨⟨⟨_, hp0_⟩, hp1_⟩, hp2_⟩, hp3_⟩, hp4_⟩, hp5_⟩, hp6_⟩, hp7_⟩, hp8_⟩, hp9_⟩, hp10_⟩, hp11_⟩, hp12_⟩, hp13_⟩, hp14_⟩, hp15_⟩, hp16_⟩, hp17_⟩, hp18_⟩, hp19_⟩, hp20_⟩ := hp
        have hs : St ok F w [vl t_history_Operation x5 (.agg cs7.toArray)] [blk g10 35 cs7, blk g2 80 [.int .i64 x1.f_last, .map (some g3), .map (some g4)], mapo (fun a : Int => .int .i64 a) tBool g3 x1.f_events, mapo (fun a : Int => .int .i64 a) (tInt .i64) g4 x1.f_returns] := hs
        have e239 : ρ 74 = .bool false := hp20_
        have e240 : ρ 73 = .bool false := hp19_
        have e241 : ρ 72 = undef := hp18_
        have e242 : ρ 71 = undef := hp17_
        have e243 : ρ 70 = undef := hp16_
        have e244 : ρ 69 = undef := hp15_
        have e245 : ρ 68 = undef := hp14_
        have e246 : ρ 67 = undef := hp13_
        have e247 : ρ 66 = undef := hp12_
        have e248 : ρ 65 = .bool (x5.Return != 0) := hp11_
        have e249 : ρ 64 = .bool (x5.Return != 0) := hp10_
        have e250 : ρ 63 = .int .i64 x5.Return := hp9_
        have e251 : ρ 62 = .pointer (some ⟨g10, 5, none⟩) := hp8_
        have e252 : ρ 61 = .bool x90 := hp7_
        have e253 : ρ 60 = .bool x90 := hp6_
        have e254 : ρ 59 = .int .i64 x5.Call := hp5_
        have e255 : ρ 58 = .pointer (some ⟨g10, 4, none⟩) := hp4_
        have e256 : ρ 57 = .map (some g3) := hp3_
        have e257 : ρ 56 = .pointer (some ⟨g2, 1, none⟩) := hp2_
        have e258 : ρ 55 = .pointer (some ⟨g2, 0, none⟩) := hp1_
        have e259 : ρ 54 = .pointer (some ⟨g2, 0, none⟩) := hp0_
        refine WA.step [21] (by kernel_rfl) (by simp) ⟨?_, trivial⟩
        refine WL.assign (v := .bool false) e239 ?_
        refine WL.nil ⟨rfl, _, rfl, ?_⟩
        refine WA.done (by kernel_rfl) ?_
        exact Jk58 false _ _ ((hu238 0 rfl).trans ((hu38 0 rfl).trans h25_0)) ((hu238 3 rfl).trans ((hu38 3 rfl).trans h25_3)) rfl ((hs.mask [true, true, true, true]).pick [0]) hf } } } } } } }
      refine W.region ?_
      refine WL.fieldAddr (m := 4) h19_3 FA35_4 rfl ?_
      refine WL.loadF (z := x5.Call) F_history_Operation_Call hs 0 rfl 0 rfl rfl TI3 (.inr rfl) rfl rfl (fun v260 hs => ?_)
      obtain rfl := hs.int 0 rfl
      refine WL.bin (v := .bool (decide (x5.Call < 1))) rfl rfl (ib_lss _ _ _) ?_
      refine WL.move (v := .bool (decide (x5.Call < 1))) rfl ?_
      rcases iteE hf with ⟨hc261, hf⟩ | ⟨hc261, hf⟩
      {
      refine WL.pass ((wanted_of rfl rfl (bool_tr rfl hc261)).trans rfl) rfl ?_
      refine WL.pass ((wanted_of rfl rfl (bool_tr rfl hc261)).trans rfl) rfl ?_
      refine WL.pass ((wanted_of rfl rfl (bool_tr rfl hc261)).trans rfl) rfl ?_
      refine WL.pass ((wanted_of rfl rfl (bool_tr rfl hc261)).trans rfl) rfl ?_
      refine WL.pass (wanted_undef rfl rfl rfl) rfl ?_
      refine WL.pass (wanted_undef rfl rfl rfl) rfl ?_
      refine WL.pass (wanted_undef rfl rfl rfl) rfl ?_
      refine WL.pass (wanted_undef rfl rfl rfl) rfl ?_
      refine WL.pass (wanted_undef rfl rfl rfl) rfl ?_
      refine WL.pass ((wanted_of rfl rfl (bool_tr rfl hc261)).trans rfl) rfl ?_
      refine WL.pickT (v := .bool true) (bool_tr rfl hc261) rfl ?_
      refine WL.assign (v := .bool true) rfl ?_
      refine WL.nil ?_
      exact Jk27 true _ _ h19_0 h19_3 rfl ((hs.mask [true, true, true, true]).pick [1]) hf }
      {
      refine WL.fieldAddr (m := 5) h19_3 FA35_5 rfl ?_ (hg := (wanted_of rfl rfl (bool_tr rfl hc261)).trans rfl)
      refine WL.loadF (z := x5.Return) F_history_Operation_Return hs 0 rfl 1 rfl rfl TI3 (.inr rfl) rfl rfl (fun v262 hs => ?_) (hg := (wanted_of rfl rfl (bool_tr rfl hc261)).trans rfl)
      obtain rfl := hs.int 0 rfl
      refine WL.bin (v := .bool (x5.Return != 0)) rfl rfl (ib_neq _ _ _) ?_ (hg := (wanted_of rfl rfl (bool_tr rfl hc261)).trans rfl)
      refine WL.move (v := .bool (x5.Return != 0)) rfl ?_ (hg := (wanted_of rfl rfl (bool_tr rfl hc261)).trans rfl)
      rcases iteE hf with ⟨hc263, hf⟩ | ⟨hc263, hf⟩
      {
      refine WL.fieldAddr (m := 5) h19_3 FA35_5 rfl ?_ (hg := (wanted_of rfl rfl (bool_tr rfl hc263)).trans rfl)
      refine WL.loadF (z := x5.Return) F_history_Operation_Return hs 0 rfl 2 rfl rfl TI3 (.inr rfl) rfl rfl (fun v264 hs => ?_) (hg := (wanted_of rfl rfl (bool_tr rfl hc263)).trans rfl)
      obtain rfl := hs.int 0 rfl
      refine WL.fieldAddr (m := 4) h19_3 FA35_4 rfl ?_ (hg := (wanted_of rfl rfl (bool_tr rfl hc263)).trans rfl)
      refine WL.loadF (z := x5.Call) F_history_Operation_Call hs 0 rfl 3 rfl rfl TI3 (.inr rfl) rfl rfl (fun v265 hs => ?_) (hg := (wanted_of rfl rfl (bool_tr rfl hc263)).trans rfl)
      obtain rfl := hs.int 0 rfl
      refine WL.bin (v := .bool (decide (x5.Return ≤ x5.Call))) rfl rfl (ib_leq _ _ _) ?_ (hg := (wanted_of rfl rfl (bool_tr rfl hc263)).trans rfl)
      refine WL.pickT (v := .bool (decide (x5.Return ≤ x5.Call))) (bool_tr rfl hc263) rfl ?_ (hg := (wanted_of rfl rfl (bool_tr rfl hc261)).trans rfl)
      refine WL.pickF (v := .bool (decide (x5.Return ≤ x5.Call))) (bool_tr rfl hc261) rfl ?_
      refine WL.assign (v := .bool (decide (x5.Return ≤ x5.Call))) rfl ?_
      refine WL.nil ?_
      exact Jk27 (decide (x5.Return ≤ x5.Call)) _ _ h19_0 h19_3 rfl ((hs.mask [true, true, true, true]).pick [4]) hf }
      {
      refine WL.pass ((wanted_of rfl rfl (bool_tr rfl hc263)).trans rfl) rfl ?_
      refine WL.pass ((wanted_of rfl rfl (bool_tr rfl hc263)).trans rfl) rfl ?_
      refine WL.pass ((wanted_of rfl rfl (bool_tr rfl hc263)).trans rfl) rfl ?_
      refine WL.pass ((wanted_of rfl rfl (bool_tr rfl hc263)).trans rfl) rfl ?_
      refine WL.pass ((wanted_of rfl rfl (bool_tr rfl hc263)).trans rfl) rfl ?_
      refine WL.pickF (v := .bool false) (bool_tr rfl hc263) rfl ?_ (hg := (wanted_of rfl rfl (bool_tr rfl hc261)).trans rfl)
      refine WL.pickF (v := .bool false) (bool_tr rfl hc261) rfl ?_
      refine WL.assign (v := .bool false) rfl ?_
      refine WL.nil ?_
      exact Jk27 false _ _ h19_0 h19_3 rfl ((hs.mask [true, true, true, true]).pick [2]) hf } } }
    refine W.region ?_
    refine WL.fieldAddr (m := 1) h13_3 FA35_1 rfl ?_
    refine WL.loadF (z := x5.Kind) F_history_Operation_Kind hs 0 rfl 0 rfl rfl TI3 (.inr rfl) rfl rfl (fun v266 hs => ?_)
    obtain rfl := hs.int 0 rfl
    refine WL.bin (v := .bool (decide (x5.Kind < 1))) rfl rfl (ib_lss _ _ _) ?_
    refine WL.move (v := .bool (decide (x5.Kind < 1))) rfl ?_
    rcases iteE hf with ⟨hc267, hf⟩ | ⟨hc267, hf⟩
    {
    refine WL.pass ((wanted_of rfl rfl (bool_tr rfl hc267)).trans rfl) rfl ?_
    refine WL.pass ((wanted_of rfl rfl (bool_tr rfl hc267)).trans rfl) rfl ?_
    refine WL.pass ((wanted_of rfl rfl (bool_tr rfl hc267)).trans rfl) rfl ?_
    refine WL.pickT (v := .bool true) (bool_tr rfl hc267) rfl ?_
    refine WL.assign (v := .bool true) rfl ?_
    refine WL.nil ?_
    exact Jk21 true _ _ h13_0 h13_3 rfl ((hs.mask [true, true, true, true]).pick [1]) hf }
    {
    refine WL.fieldAddr (m := 1) h13_3 FA35_1 rfl ?_ (hg := (wanted_of rfl rfl (bool_tr rfl hc267)).trans rfl)
    refine WL.loadF (z := x5.Kind) F_history_Operation_Kind hs 0 rfl 1 rfl rfl TI3 (.inr rfl) rfl rfl (fun v268 hs => ?_) (hg := (wanted_of rfl rfl (bool_tr rfl hc267)).trans rfl)
    obtain rfl := hs.int 0 rfl
    refine WL.bin (v := .bool (decide (3 < x5.Kind))) rfl rfl (ib_gtr _ _ _) ?_ (hg := (wanted_of rfl rfl (bool_tr rfl hc267)).trans rfl)
    refine WL.pickF (v := .bool (decide (3 < x5.Kind))) (bool_tr rfl hc267) rfl ?_
    refine WL.assign (v := .bool (decide (3 < x5.Kind))) rfl ?_
    refine WL.nil ?_
    exact Jk21 (decide (3 < x5.Kind)) _ _ h13_0 h13_3 rfl ((hs.mask [true, true, true, true]).pick [2]) hf } }
  refine W.region ?_
  refine WL.fieldAddr (m := 0) rfl FA35_0 rfl ?_
  refine WL.loadF (z := x5.Process) F_history_Operation_Process hs 0 rfl 0 rfl rfl TI3 (.inr rfl) rfl rfl (fun v269 hs => ?_)
  obtain rfl := hs.int 0 rfl
  refine WL.bin (v := .bool (decide (x5.Process < 101))) rfl rfl (ib_lss _ _ _) ?_
  refine WL.move (v := .bool (decide (x5.Process < 101))) rfl ?_
  rcases iteE hf with ⟨hc270, hf⟩ | ⟨hc270, hf⟩
  {
  refine WL.pass ((wanted_of rfl rfl (bool_tr rfl hc270)).trans rfl) rfl ?_
  refine WL.pass ((wanted_of rfl rfl (bool_tr rfl hc270)).trans rfl) rfl ?_
  refine WL.pass ((wanted_of rfl rfl (bool_tr rfl hc270)).trans rfl) rfl ?_
  refine WL.pickT (v := .bool true) (bool_tr rfl hc270) rfl ?_
  refine WL.assign (v := .bool true) rfl ?_
  refine WL.nil ?_
  exact Jk15 true _ _ rfl rfl rfl ((hs.mask [true, true, true, true]).pick [1]) hf }
  {
  refine WL.fieldAddr (m := 0) rfl FA35_0 rfl ?_ (hg := (wanted_of rfl rfl (bool_tr rfl hc270)).trans rfl)
  refine WL.loadF (z := x5.Process) F_history_Operation_Process hs 0 rfl 1 rfl rfl TI3 (.inr rfl) rfl rfl (fun v271 hs => ?_) (hg := (wanted_of rfl rfl (bool_tr rfl hc270)).trans rfl)
  obtain rfl := hs.int 0 rfl
  refine WL.bin (v := .bool (decide (107 ≤ x5.Process))) rfl rfl (ib_geq _ _ _) ?_ (hg := (wanted_of rfl rfl (bool_tr rfl hc270)).trans rfl)
  refine WL.pickF (v := .bool (decide (107 ≤ x5.Process))) (bool_tr rfl hc270) rfl ?_
  refine WL.assign (v := .bool (decide (107 ≤ x5.Process))) rfl ?_
  refine WL.nil ?_
  exact Jk15 (decide (107 ≤ x5.Process)) _ _ rfl rfl rfl ((hs.mask [true, true, true, true]).pick [2]) hf }
end Go.Proofs.Ytbbeobiampbddaa
set_option linter.unusedVariables false
set_option linter.unusedSimpArgs false
set_option linter.unnecessarySimpa false
namespace Go.Proofs.YtbbeobiampbddaaL
open Go Go.RowKit
def freeDst (l : List Oper) (m i s : Nat) : Bool := (List.range m).all fun k => !hasDst s (dstOf l k) || reach l l.length k i
theorem freeDst_at {l : List Oper} {m i s k : Nat} (h : freeDst l m i s = true) (hk : k < m) (e : dstOf l k = some s) : reach l l.length k i = true := by
  simp only [freeDst, List.all_eq_true, List.mem_range, Bool.or_eq_true] at h
  rcases h k hk with h1 | h1
  · rw [e] at h1; simp [hasDst] at h1
  · exact h1
def tlAt (l : List (Value → List LObj)) (i : Nat) (v : Value) : List LObj := (l.getD i fun _ => []) v
def oblU (P : Program) (N : Nat) (l : List Oper) (ok0 : Nat → Prop) (w0 : Base) (Γ : List It) (Λ : List LObj) (ρ0 : Env) (po : Nat → PO) (tk : Nat → List Nat) (tl : Nat → Value → List LObj) (m i : Nat) : Prop :=
  match l[i]? with
  | none => True
  | some o => ∀ ρ w Γx Λx, St ok0 w0 w (Γx ++ Γ) (Λx ++ (((po i).Pre ++ (tk i).flatMap fun j => (po j).L (slotOf ρ (dstOf l j))) ++ Λ)) → (∀ s, notDst (l.take m) s = true → ρ s = ρ0 s) → (∀ s, freeDst l m i s = true → ρ s = ρ0 s) →
      (∀ j, reach l l.length i j = true → (po j).at_ l ρ (slotOf ρ (dstOf l j)) ∧ ∀ it ∈ (po j).G (slotOf ρ (dstOf l j)), it ∈ Γx) →
      WL P N l.toArray (oneQ ρ o.dst fun v w' => (po i).at_ l ρ (valOf o.dst v) ∧ St ok0 w0 w' ((po i).G (valOf o.dst v) ++ (Γx ++ Γ)) (((po i).L (valOf o.dst v) ++ (tk i).flatMap fun j => tl j (slotOf ρ (dstOf l j))) ++ (Λx ++ Λ))) [o] ρ w
section
variable {P : Program} {N : Nat} {Q : QE} {ρ ρ0 : Env} {w w1 : World} {w0 : Base} {l : List Oper} {ok0 : Nat → Prop} {Γ : List It} {Λ : List LObj}
theorem W.anyU {id : Nat} (hm : P.follows .mixedOrders = true) (m F : Nat) (B : List Bool) (hF : l.length - m = F) (hB : maskTo l.length m = B) (po : Nat → PO) (tk : Nat → List Nat) (tl : Nat → Value → List LObj) (hs : St ok0 w0 w1 Γ (catTo (fun i => (po i).Pre) m ++ Λ)) (hok : anyOkT l m = true) (hdd : distinctDst l = true) (hnd : needOk l m po = true) (htk : takeOk l m tk = true)
    (hops : upTo (oblU P N l ok0 w0 Γ Λ ρ0 po tk tl m) m)
    (hfin : ∀ ρ w, St ok0 w0 w (catTo (fun i => (po i).G (slotOf ρ (dstOf l i))) m ++ Γ) (catTo (fun i => if anyTakes tk m i = true then tl i (slotOf ρ (dstOf l i)) else (po i).L (slotOf ρ (dstOf l i))) m ++ Λ) → (∀ s, notDst (l.take m) s = true → ρ s = ρ0 s) →
      upTo (fun i => (po i).at_ l ρ (slotOf ρ (dstOf l i))) m → WA P N l Q F B ρ w) :
    W P N (.region id l.toArray true) Q ρ0 w1 := by
  intro a0 ha0
  refine wp_region_any hm ?_
  let con : Array Bool → Env → Nat → List LObj := fun listed ρ i => if takenIn tk m listed i = true then tl i (slotOf ρ (dstOf l i)) else if listed.getD i false = true then (po i).L (slotOf ρ (dstOf l i)) else (po i).Pre
  let InvA : Array Bool → Act → World → Prop := fun listed a w => ∃ (ρ : Env) (Γx : List It), Agree N a ρ ∧ St ok0 w0 w (Γx ++ Γ) (catTo (con listed ρ) m ++ Λ) ∧ (∀ s, (∀ k, k < m → listed.getD k false = true → dstOf l k ≠ some s) → ρ s = ρ0 s) ∧
    (∀ i, listed.getD i false = true → i < m ∧ (po i).at_ l ρ (slotOf ρ (dstOf l i)) ∧ ∀ it ∈ (po i).G (slotOf ρ (dstOf l i)), it ∈ Γx)
  have hsz : l.toArray.size = l.length := by simp
  have finish : ∀ listed a w, InvA listed a w → (∀ i, i < m → listed.getD i false = true) → wpAny P .any l.toArray (lift N Q) F B.toArray a w := by
    rintro listed a w ⟨ρ, Γx, hρ, hst, hu, hp⟩ hall
    refine hfin ρ w (St.sub (Γ := Γx ++ Γ) ?_ fun it hit => ?_) (fun s hsn => hu s fun k hk _ => fun e => notDst_of hsn (i := k) (by simpa [dstOf, List.getElem?_take, hk] using e)) (upTo.mk m fun i hi => (hp i (hall i hi)).2.1) a hρ
    · rw [catTo_congr (f := con listed ρ) (g := fun i => if anyTakes tk m i = true then tl i (slotOf ρ (dstOf l i)) else (po i).L (slotOf ρ (dstOf l i))) fun i hi => by
        show (if _ then _ else if _ then _ else _) = _
        rw [taken_all (fun j hj => hall j hj), if_pos (hall i hi)]] at hst
      exact hst
    · rcases List.mem_append.1 hit with hit | hit
      · obtain ⟨i, hi, hx⟩ := mem_catTo hit
        exact List.mem_append.2 (.inl ((hp i (hall i hi)).2.2 it hx))
      · exact List.mem_append.2 (.inr hit)
  have hdeps : ∀ {listed : Array Bool} {i : Nat}, i ∈ Region.ready .any l.toArray listed → i < l.length ∧ listed.getD i true = false ∧ ∀ d ∈ depsOf l i, listed.getD d false = true := by
    intro listed i hi
    rw [mem_ready] at hi
    obtain ⟨h0, o, ho, hall⟩ := hi
    have ho' : l[i]? = some o := by simpa using ho
    refine ⟨(List.getElem?_eq_some_iff.1 ho').1, h0, fun d hd => ?_⟩
    simp only [depsOf, ho', Option.map_some, Option.getD_some, List.mem_map, List.mem_filter] at hd
    obtain ⟨e, ⟨he, hb⟩, rfl⟩ := hd
    exact hall e (by simpa using he) hb
  have hready : ∀ {listed : Array Bool}, Region.ready .any l.toArray listed = [] → listed.size = l.length → ∀ i, i < l.length → listed.getD i false = true := by
    intro listed hr hls i
    induction i using Nat.strongRecOn with
    | _ i ih =>
      intro hi
      cases hb : listed.getD i false with
      | true => rfl
      | false =>
        exfalso
        have hin : i ∈ Region.ready .any l.toArray listed := by
          rw [mem_ready]
          refine ⟨?_, l[i], by simp [hi], fun e he hbd => ?_⟩
          · have : i < listed.size := by omega
            simp [this] at hb ⊢
            exact hb
          · have hd : e.on ∈ depsOf l i := by
              simp only [depsOf, List.getElem?_eq_getElem hi, Option.map_some, Option.getD_some, List.mem_map, List.mem_filter]
              exact ⟨e, ⟨by simpa using he, hbd⟩, rfl⟩
            have hlt := anyOkT_lt hok hi hd
            exact ih e.on hlt (by omega)
        rw [hr] at hin
        cases hin
  have hset : ∀ {listed : Array Bool} {i j : Nat}, listed.size = l.length → i < l.length → ((listed.setIfInBounds i true).getD j false = true ↔ (j = i ∨ listed.getD j false = true)) := by
    intro listed i j hls hi
    by_cases hij : i = j
    · subst hij
      have : i < listed.size := by omega
      simp [this]
    · rw [getD_set_ne false hij]
      constructor
      · exact .inr
      · rintro (h | h)
        · exact absurd h.symm hij
        · exact h
  have main : ∀ fuel listed a w, listed.size = l.length → leftOf listed l.length = fuel →
      (∀ k, listed.getD k false = true → ∀ d ∈ depsOf l k, listed.getD d false = true) → InvA listed a w → wpAny P .any l.toArray (lift N Q) fuel listed a w := by
    intro fuel
    induction fuel with
    | zero =>
      intro listed a w hls hlf hcl hI
      have hall : ∀ i, i < l.length → listed.getD i false = true := by
        intro i hi
        have h1 := leftOf_zero hlf i hi
        have : i < listed.size := by omega
        simp [this] at h1 ⊢
        exact h1
      refine ⟨?_, ?_⟩
      · cases hr : Region.ready .any l.toArray listed with
        | nil => rfl
        | cons i rs =>
          exfalso
          obtain ⟨h1, h2, _⟩ := hdeps (listed := listed) (i := i) (by rw [hr]; simp)
          rw [leftOf_zero hlf i h1] at h2
          cases h2
      · have hmn : m = l.length := by
          obtain ⟨ρ, Γx, hρ, hst, hu, hp⟩ := hI
          rcases Nat.lt_or_ge m l.length with h | h
          · have := (hp m (hall m h)).1; omega
          · have := anyOkT_le hok; omega
        have h0 := finish listed a w hI fun i hi => hall i (by omega)
        have hF0 : F = 0 := by omega
        subst hF0
        exact h0.2
    | succ fuel ih =>
      intro listed a w hls hlf hcl hI
      have hne : Region.ready .any l.toArray listed ≠ [] := by
        intro hr
        have hall := hready hr hls
        have : ∀ n, n ≤ l.length → leftOf listed n = 0 := by
          intro n
          induction n with
          | zero => exact fun _ => rfl
          | succ n ihn =>
            intro hn
            have h1 := hall n (by omega)
            have : n < listed.size := by omega
            have h2 : listed.getD n true = true := by simp [this] at h1 ⊢; exact h1
            rw [leftOf, ihn (by omega), h2]; rfl
        rw [this l.length (Nat.le_refl _)] at hlf
        cases hlf
      refine ⟨fun hr => absurd hr hne, fun i hi => ?_⟩
      obtain ⟨hin, hi0, hid⟩ := hdeps hi
      have hri : ∀ j, reach l l.length i j = true → listed.getD j false = true := fun j hj => reach_listed hcl _ i j hid hj
      have ho : l[i]? = some l[i] := List.getElem?_eq_getElem hin
      have ho2 : l.toArray[i]? = some l[i] := by simpa using ho
      have hls' : (listed.setIfInBounds i true).size = l.length := by simpa using hls
      have hlf' : leftOf (listed.setIfInBounds i true) l.length = fuel := by
        have := leftOf_set hi0 l.length
        rw [if_pos hin] at this
        omega
      have hcl' : ∀ k, (listed.setIfInBounds i true).getD k false = true → ∀ d ∈ depsOf l k, (listed.setIfInBounds i true).getD d false = true := by
        intro k hk d hd
        rcases (hset hls hin).1 hk with rfl | hk
        · exact getD_set_true (hid d hd)
        · exact getD_set_true (hcl k hk d hd)
      have hif : listed.getD i false = false := by
        have : i < listed.size := by omega
        simp [this] at hi0 ⊢
        exact hi0
      rcases Nat.lt_or_ge i m with him | him
      · obtain ⟨ρ, Γx, hρ, hst, hu, hp⟩ := hI
        have hob := hops.at_ i him
        unfold oblU at hob
        rw [ho] at hob
        have hnt : takenIn tk m listed i = false := by
          cases hb : takenIn tk m listed i with
          | false => rfl
          | true =>
            obtain ⟨k, hk, hkl, hkt⟩ := takenIn_iff.1 hb
            have := reach_listed hcl _ k i (hcl k hkl) ((takeOk_at htk hk i hkt).1)
            rw [hif] at this; cases this
        have hci : con listed ρ i = (po i).Pre := by
          show (if _ then _ else if _ then _ else _) = _
          rw [hnt, hif, if_neg (by simp), if_neg (by simp)]
        have hcj1 : ∀ j ∈ tk i, con listed ρ j = (po j).L (slotOf ρ (dstOf l j)) := by
          intro j hj
          have h1 := takeOk_at htk him j hj
          have h2 : takenIn tk m listed j = false := by
            cases hb : takenIn tk m listed j with
            | false => rfl
            | true =>
              obtain ⟨k, hk, hkl, hkt⟩ := takenIn_iff.1 hb
              have : k = i := takeOk_one htk hk him hkt hj
              subst this
              rw [hif] at hkl; cases hkl
          show (if _ then _ else if _ then _ else _) = _
          rw [h2, hri j h1.1, if_neg (by simp), if_pos rfl]
        have hjs : (i :: tk i).Nodup := List.nodup_cons.2 ⟨fun h => by have := (takeOk_at htk him i h).2.1; omega, takeOk_nodup htk him⟩
        have hjlt : ∀ j ∈ i :: tk i, j < m := by
          intro j hj
          rcases List.mem_cons.1 hj with rfl | hj
          · exact him
          · have := (takeOk_at htk him j hj).2.1; omega
        have hfl : (i :: tk i).flatMap (con listed ρ) = (po i).Pre ++ (tk i).flatMap fun j => (po j).L (slotOf ρ (dstOf l j)) := by
          rw [List.flatMap_cons, hci, flatMapC hcj1]
        have hst1 : St ok0 w0 w (Γx ++ Γ) (catTo (fun j => if j ∈ i :: tk i then [] else con listed ρ j) m ++ (((po i).Pre ++ (tk i).flatMap fun j => (po j).L (slotOf ρ (dstOf l j))) ++ Λ)) := by
          refine hst.perm ?_
          have := (catTo_takes (con listed ρ) (i :: tk i) hjs hjlt).append_right Λ
          rw [hfl] at this
          refine this.trans ((List.perm_append_comm.append_right Λ).trans ?_)
          rw [List.append_assoc]
        refine wpOp_of_WL ho2 hρ (hob ρ w Γx _ hst1 (fun s hsn => hu s fun k hk _ => fun e => notDst_of hsn (i := k) (by simpa [dstOf, List.getElem?_take, hk] using e)) (fun s hsf => hu s fun k hk hkl e => by
          have h1 := freeDst_at hsf hk e
          have := reach_listed hcl _ k i (hcl k hkl) h1
          rw [hif] at this; cases this) fun j hj => (hp j (hri j hj)).2) fun a' v w' ha' hR => ih _ a' w' hls' hlf' hcl' ?_
        have hdi : dstOf l i = l[i].dst := by simp [dstOf, ho]
        have hsame : ∀ j, j ≠ i → slotOf (putE ρ l[i].dst v) (dstOf l j) = slotOf ρ (dstOf l j) := fun j hj => slot_put fun t ht e => hj (distinct_of hdd e (hdi.trans ht))
        have hcs : ∀ j, j ∉ i :: tk i → con (listed.setIfInBounds i true) (putE ρ l[i].dst v) j = con listed ρ j := by
          intro j hj
          have hji : j ≠ i := fun e => hj (by simp [e])
          have hjt : j ∉ tk i := fun e => hj (by simp [e])
          have ht : takenIn tk m (listed.setIfInBounds i true) j = takenIn tk m listed j := by
            rw [Bool.eq_iff_iff, takenIn_iff, takenIn_iff]
            constructor
            · rintro ⟨k, hk, hkl, hkt⟩
              rcases (hset hls hin).1 hkl with rfl | hkl
              · exact absurd hkt hjt
              · exact ⟨k, hk, hkl, hkt⟩
            · rintro ⟨k, hk, hkl, hkt⟩
              exact ⟨k, hk, (hset hls hin).2 (.inr hkl), hkt⟩
          show (if _ then _ else if _ then _ else _) = (if _ then _ else if _ then _ else _)
          rw [ht, getD_set_ne false (fun e => hji e.symm), hsame j hji]
        have hct : ∀ j ∈ tk i, con (listed.setIfInBounds i true) (putE ρ l[i].dst v) j = tl j (slotOf ρ (dstOf l j)) := by
          intro j hj
          have hji : j ≠ i := fun e => by have := (takeOk_at htk him j hj).2.1; omega
          have ht : takenIn tk m (listed.setIfInBounds i true) j = true := takenIn_iff.2 ⟨i, him, (hset hls hin).2 (.inl rfl), hj⟩
          show (if _ then _ else if _ then _ else _) = _
          rw [ht, if_pos rfl, hsame j hji]
        have hnt2 : takenIn tk m (listed.setIfInBounds i true) i = false := by
          cases hb : takenIn tk m (listed.setIfInBounds i true) i with
          | false => rfl
          | true =>
            obtain ⟨k, hk, hkl, hkt⟩ := takenIn_iff.1 hb
            have h1 := takeOk_at htk hk i hkt
            rcases (hset hls hin).1 hkl with rfl | hkl
            · have := h1.2.1; omega
            · have := reach_listed hcl _ k i (hcl k hkl) h1.1
              rw [hif] at this; cases this
        have hci2 : con (listed.setIfInBounds i true) (putE ρ l[i].dst v) i = (po i).L (valOf l[i].dst v) := by
          show (if _ then _ else if _ then _ else _) = _
          rw [hnt2, if_neg (by simp), if_pos ((hset hls hin).2 (.inl rfl)), hdi, slot_val]
        have hat : ∀ j, j < m → (∀ k, reach l l.length j k = true → listed.getD k false = true) → ∀ v', (po j).at_ l ρ v' → (po j).at_ l (putE ρ l[i].dst v) v' := by
          intro j hjm hk v' h
          have e : ((po j).needs.map fun k => slotOf (putE ρ l[i].dst v) (dstOf l k)) = (po j).needs.map fun k => slotOf ρ (dstOf l k) := by
            refine List.map_congr_left fun k hkn => hsame k ?_
            rintro rfl
            simp only [needOk, List.all_eq_true, List.mem_range] at hnd
            have := hk _ (hnd j hjm _ hkn)
            rw [hif] at this
            cases this
          unfold PO.at_
          rw [e]
          exact h
        have hcj := hri
        refine ⟨_, (po i).G (valOf l[i].dst v) ++ Γx, ha', ?_, fun s hsn => ?_, fun j hj => ?_⟩
        · rw [List.append_assoc]
          refine hR.2.perm ?_
          have hfl2 : (i :: tk i).flatMap (con (listed.setIfInBounds i true) (putE ρ l[i].dst v)) = (po i).L (valOf l[i].dst v) ++ (tk i).flatMap fun j => tl j (slotOf ρ (dstOf l j)) := by
            rw [List.flatMap_cons, hci2, flatMapC hct]
          have h9 := (catTo_takes (con (listed.setIfInBounds i true) (putE ρ l[i].dst v)) (i :: tk i) hjs hjlt).append_right Λ
          rw [hfl2, catTo_congr (f := fun j => if j ∈ i :: tk i then [] else con (listed.setIfInBounds i true) (putE ρ l[i].dst v) j) (g := fun j => if j ∈ i :: tk i then [] else con listed ρ j) (fun j _ => by
            by_cases e : j ∈ i :: tk i
            · rw [if_pos e, if_pos e]
            · rw [if_neg e, if_neg e, hcs j e]), List.append_assoc] at h9
          exact h9.symm
        · cases hd : l[i].dst with
          | none => exact hu s fun k hk hkl => hsn k hk ((hset hls hin).2 (.inr hkl))
          | some t =>
            have : s ≠ t := by
              rintro rfl
              exact hsn i him ((hset hls hin).2 (.inl rfl)) (by simp [dstOf, ho, hd])
            show upd ρ t v s = ρ0 s
            rw [upd_ne _ _ this]
            exact hu s fun k hk hkl => hsn k hk ((hset hls hin).2 (.inr hkl))
        · by_cases hji : j = i
          · subst hji
            refine ⟨him, ?_⟩
            rw [hdi, slot_val]
            exact ⟨hat j him hcj _ hR.1, fun it hit => List.mem_append.2 (.inl hit)⟩
          · have hj' := ((hset hls hin).1 hj).resolve_left hji
            rw [hsame j hji]
            exact ⟨(hp j hj').1, hat j (hp j hj').1 (fun k hk => reach_listed hcl _ j k (hcl j hj') hk) _ (hp j hj').2.1, fun it hit => List.mem_append.2 (.inr ((hp j hj').2.2 it hit))⟩
      · have hall : ∀ j, j < m → listed.getD j false = true := fun j hj => hri j (anyOkT_all hok hin him hj)
        have h0 := finish listed a w hI hall
        obtain ⟨ρ, Γx, hρ, hst, hu, hp⟩ := hI
        have hl2 : ∀ j, j < l.length → (listed.getD j false = true ↔ j < m) := fun j hj => ⟨fun h => (hp j h).1, fun h => hall j h⟩
        have e1 := listed_mask l.length m hls hl2
        have e2 := leftOf_mask l.length m (anyOkT_le hok) hls hl2
        have e3 : F = fuel + 1 := by omega
        rw [← hB, ← e1, e3] at h0
        exact h0.2 i hi
  have hfull : leftOf (Array.replicate l.length false) l.length = l.length := by
    have : ∀ n, n ≤ l.length → leftOf (Array.replicate l.length false) n = n := by
      intro n
      induction n with
      | zero => exact fun _ => rfl
      | succ n ih =>
        intro hn
        have h2 : (Array.replicate l.length false).getD n true = false := by
          have : n < l.length := by omega
          simp [this]
        rw [leftOf, ih (by omega), h2]; rfl
    exact this _ (Nat.le_refl _)
  have hnone : ∀ i, (Array.replicate l.length false).getD i false ≠ true := by
    intro i hi
    rcases Nat.lt_or_ge i l.length with h | h <;> simp [h] at hi
  suffices hgo : InvA (Array.replicate l.length false) a0 { w1 with drawn := w1.drawn + 1 } by
    have := main l.length (Array.replicate l.length false) a0 { w1 with drawn := w1.drawn + 1 } (by simp) hfull (fun k hk => absurd hk (hnone k)) hgo
    simpa using this
  refine ⟨ρ0, [], ha0, ?_, fun _ _ => rfl, fun i hi => absurd hi (hnone i)⟩
  rw [catTo_congr (f := con (Array.replicate l.length false) ρ0) (g := fun i => (po i).Pre) fun i _ => by
    have h1 : takenIn tk m (Array.replicate l.length false) i = false := by
      cases hb : takenIn tk m (Array.replicate l.length false) i with
      | false => rfl
      | true => obtain ⟨k, hk, hkl, hkt⟩ := takenIn_iff.1 hb; exact absurd hkl (hnone k)
    show (if _ then _ else if _ then _ else _) = _
    rw [h1, if_neg (by simp), if_neg (hnone i)]]
  exact hs.drew
end
end Go.Proofs.YtbbeobiampbddaaL
