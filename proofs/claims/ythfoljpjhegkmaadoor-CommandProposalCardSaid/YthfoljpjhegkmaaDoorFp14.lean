import Derived.Test.YthfoljpjhegkmaaDoorFh
import Derived.Test.YthfoljpjhegkmaaDoorFp12
import Derived.Test.YthfoljpjhegkmaaDoorFp13
set_option linter.unusedVariables false
set_option linter.unusedSimpArgs false
namespace Go.Proofs.YthfoljpjhegkmaaDoor
open Go Go.RowKit Go.Proofs.YthfoljpjhegkmaaDoorL
set_option maxRecDepth 100000
set_option maxHeartbeats 4000000
/-! elasticstore/elasticstoreref06.ValidateProposal: function 20 -/
theorem esref06_ValidateProposal.calls {ok : Nat → Prop} {w0 : World} {x1 : api_Proposal} {v2 : Value} {r : Int} (hf : esref06_ValidateProposal x1 = some r) (i0 : (vl t_api_Proposal x1 v2).holds ok w0) :
    Calls Tryd.prog 20 #[v2] w0 fun e w' => ∃ v, e = .returned v ∧ ∃ y : Unit, v = .int .i64 r ∧ St ok (bz w0) w' [] [] := by
  unfold esref06_ValidateProposal at hf
  refine calls_of_W (fn := Tryd.f20) (N := 80) Tryd.func20 rfl Tryd.ntmps20 rfl ?_
  have hs : St ok (bz w0) w0 [vl t_api_Proposal x1 v2] [] := St.init (All.cons i0 All.nil)
  clear i0
  obtain ⟨cs3, hl4, rfl⟩ := hs.aggv (n := 3) 0 rfl rfl rfl
  refine W.seqK fun K5 hK5 => ?_
  refine W.region ?_
  refine WL.box (vs := cs3) hs rfl rfl (fun g6 w hs => ?_)
  refine WL.assign (v := .int .i64 0) rfl ?_
  refine WL.nil ?_
  refine hK5 _ _ ?_
  refine W.seqK fun K7 hK7 => ?_
  refine W.block ?_
  refine W.seqK fun K8 hK8 => ?_
  have Jk11 : ∀ (x10 : Bool) (ρ : Env) (w : World), ρ 1 = .pointer (some ⟨g6, 0, none⟩) → ρ 6 = .bool x10 → St ok (bz w0) w [vl t_api_Proposal x1 (.agg cs3.toArray)] [blk g6 54 cs3] → esref06_ValidateProposal.j4 x1 x10 = some r → K8 ρ w := by
    intro x10 ρ w h9_1 h9_6 hs hf
    refine hK8 _ _ ?_
    unfold esref06_ValidateProposal.j4 at hf
    rcases iteE hf with ⟨hc12, hf⟩ | ⟨hc12, hf⟩
    {
    refine W.cond_true (bool_tr h9_6 hc12) ?_
    refine W.seqK fun K13 hK13 => ?_
    refine W.region ?_
    refine WL.assign (v := .int .i64 9) rfl ?_
    refine WL.nil ?_
    refine hK13 _ _ ?_
    refine W.ret ?_
    have hr := Option.some.inj hf; subst hr
    exact ⟨_, resOk_one rfl rfl, (), rfl, (hs.mask []).pick []⟩ }
    {
    refine W.cond_false (bool_tr h9_6 hc12) ?_
    refine W.seqK fun K14 hK14 => ?_
    refine W.region ?_
    refine WL.fieldAddr (m := 2) h9_1 FA54_2 rfl ?_
    refine WL.loadF (z := x1.Changes) F_api_Proposal_Changes hs 0 rfl 0 rfl rfl TI38 (.inr rfl) rfl rfl (fun v15 hs => ?_)
    obtain ⟨a16, c17, rfl⟩ := hs.slice 0 rfl
    refine WL.len (v := .slice a16 (x1.Changes).length c17) rfl (len_slice UN38) ?_
    refine WL.bin (v := .bool (((x1.Changes).length : Int) == 0)) rfl rfl (ib_eql _ _ _) ?_
    refine WL.assign (v := .bool (((x1.Changes).length : Int) == 0)) rfl ?_
    refine WL.nil ?_
    refine hK14 _ _ ?_
    rcases iteE hf with ⟨hc18, hf⟩ | ⟨hc18, hf⟩
    {
    refine W.cond_true (bool_tr rfl hc18) ?_
    refine W.seqK fun K19 hK19 => ?_
    refine W.region ?_
    refine WL.assign (v := .int .i64 2) rfl ?_
    refine WL.nil ?_
    refine hK19 _ _ ?_
    refine W.ret ?_
    have hr := Option.some.inj hf; subst hr
    exact ⟨_, resOk_one rfl rfl, (), rfl, (hs.mask []).pick []⟩ }
    {
    refine W.cond_false (bool_tr rfl hc18) ?_
    refine W.seqK fun K20 hK20 => ?_
    refine W.region ?_
    refine WL.fieldAddr (m := 2) h9_1 FA54_2 rfl ?_
    refine WL.loadF (z := x1.Changes) F_api_Proposal_Changes hs 0 rfl 1 rfl rfl TI38 (.inr rfl) rfl rfl (fun v21 hs => ?_)
    obtain ⟨a22, c23, rfl⟩ := hs.slice 0 rfl
    refine WL.len (v := .slice a22 (x1.Changes).length c23) rfl (len_slice UN38) ?_
    refine WL.bin (v := .bool (decide (6 < ((x1.Changes).length : Int)))) rfl rfl (ib_gtr _ _ _) ?_
    refine WL.assign (v := .bool (decide (6 < ((x1.Changes).length : Int)))) rfl ?_
    refine WL.nil ?_
    refine hK20 _ _ ?_
    rcases iteE hf with ⟨hc24, hf⟩ | ⟨hc24, hf⟩
    {
    refine W.cond_true (bool_tr rfl hc24) ?_
    refine W.seqK fun K25 hK25 => ?_
    refine W.region ?_
    refine WL.assign (v := .int .i64 3) rfl ?_
    refine WL.nil ?_
    refine hK25 _ _ ?_
    refine W.ret ?_
    have hr := Option.some.inj hf; subst hr
    exact ⟨_, resOk_one rfl rfl, (), rfl, (hs.mask []).pick []⟩ }
    {
    refine W.cond_false (bool_tr rfl hc24) ?_
    refine W.skip ?_
    refine hK7 _ _ ?_
    refine W.seqK fun K26 hK26 => ?_
    have Jk28 : ∀  (ρ : Env) (w : World), St ok (bz w0) w [] [] → esref06_ValidateProposal.j1 = some r → K26 ρ w := by
      intro  ρ w  hs hf
      refine hK26 _ _ ?_
      unfold esref06_ValidateProposal.j1 at hf
      refine W.seqK fun K29 hK29 => ?_
      refine W.region ?_
      refine WL.assign (v := .int .i64 0) rfl ?_
      refine WL.nil ?_
      refine hK29 _ _ ?_
      refine W.ret ?_
      have hr := Option.some.inj hf; subst hr
      exact ⟨_, resOk_one rfl rfl, (), rfl, (hs.mask []).pick []⟩
    refine W.seqK fun K30 hK30 => ?_
    refine W.region ?_
    refine WL.assign (v := .int .i64 0) rfl ?_
    refine WL.nil ?_
    refine hK30 _ _ ?_
    refine W.block ?_
    obtain ⟨bs33, hbs33, hfs33⟩ := bindE hf
    refine W.loop hbs33 (fun s ρ w => match s with | x32 => ρ 1 = .pointer (some ⟨g6, 0, none⟩) ∧ ρ 3 = .int .i64 x32 ∧ St ok (bz w0) w [vl t_api_Proposal x1 (.agg cs3.toArray)] [blk g6 54 cs3]) ⟨h9_1, rfl, (hs.mask [true]).pick [2]⟩ ?_
    intro x32 ρ w os33 hI hf hbbs33
    obtain ⟨h31_1, h31_3, hs⟩ := hI
    unfold esref06_ValidateProposal.l2 at hf
    refine W.seqK fun K34 hK34 => ?_
    refine W.seqK fun K35 hK35 => ?_
    refine W.region ?_
    refine WL.move (v := .int .i64 x32) h31_3 ?_
    refine WL.fieldAddr (m := 2) h31_1 FA54_2 rfl ?_
    refine WL.loadF (z := x1.Changes) F_api_Proposal_Changes hs 0 rfl 0 rfl rfl TI38 (.inr rfl) rfl rfl (fun v36 hs => ?_)
    obtain ⟨a37, c38, rfl⟩ := hs.slice 0 rfl
    refine WL.len (v := .slice a37 (x1.Changes).length c38) rfl (len_slice UN38) ?_
    refine WL.bin (v := .bool (decide (x32 < ((x1.Changes).length : Int)))) rfl rfl (ib_lss _ _ _) ?_
    refine WL.nil ?_
    refine hK35 _ _ ?_
    rcases iteE hf with ⟨hc39, hf⟩ | ⟨hc39, hf⟩
    {
    refine W.cond_true (bool_tr rfl hc39) ?_
    refine W.skip ?_
    refine hK34 _ _ ?_
    refine W.seqK fun K40 hK40 => ?_
    have Jk42 : ∀  (ρ : Env) (w : World), ρ 1 = .pointer (some ⟨g6, 0, none⟩) → ρ 3 = .int .i64 x32 → St ok (bz w0) w [vl t_api_Proposal x1 (.agg cs3.toArray)] [blk g6 54 cs3] → esref06_ValidateProposal.j2 x32 = some os33 → K40 ρ w := by
      intro  ρ w h41_1 h41_3 hs hf
      refine hK40 _ _ ?_
      unfold esref06_ValidateProposal.j2 at hf
      refine W.region ?_
      refine WL.move (v := .int .i64 x32) h41_3 ?_
      obtain ⟨x43, ex43, hf⟩ := letE hf
      refine WL.bin (v := .int .i64 x43) rfl rfl (ib_as ex43 (ib_add _ _ _)) ?_
      refine WL.assign (v := .int .i64 x43) rfl ?_
      refine WL.nil ?_
      exact ⟨_, (Option.some.inj hf).symm, h41_1, rfl, (hs.mask [true]).pick [0]⟩
    refine W.block ?_
    refine W.seqK fun K44 hK44 => ?_
    refine W.seqK fun K45 hK45 => ?_
    refine W.region ?_
    refine WL.fieldAddr (m := 2) h31_1 FA54_2 rfl ?_
    refine WL.loadF (z := x1.Changes) F_api_Proposal_Changes hs 0 rfl 1 rfl rfl TI38 (.inr rfl) rfl rfl (fun v46 hs => ?_)
    obtain ⟨a47, c48, rfl⟩ := hs.slice 0 rfl
    refine WL.move (v := .int .i64 x32) h31_3 ?_
    obtain ⟨x49, hxx49, hf⟩ := bindE hf
    refine WL.indexAddr hs 0 rfl UN38 TI26 rfl rfl hxx49 (fun ad50 hs => ?_)
    refine WL.loadP hs 0 rfl TI26 (.inl rfl) rfl (fun v51 hs => ?_)
    obtain ⟨cs52, hl53, rfl⟩ := hs.aggv (n := 7) 0 rfl rfl rfl
    obtain ⟨x54, hxx54, hf⟩ := bindE hf
    refine WL.call (vs := [.agg cs52.toArray]) hs FN28 ⟨rfl, trivial⟩ (fun ok hA => esref06_ValidateChange.calls (x1 := x49) hxx54 (hA.get 0 rfl)) ?_
    rintro _ w hs
    refine WL.assign (v := .int .i64 x54) rfl ?_
    refine WL.nil ?_
    refine hK45 _ _ ?_
    refine W.seqK fun K55 hK55 => ?_
    refine W.region ?_
    refine WL.move (v := .int .i64 x54) rfl ?_
    refine WL.bin (v := .bool (x54 != 0)) rfl rfl (ib_neq _ _ _) ?_
    refine WL.nil ?_
    refine hK55 _ _ ?_
    rcases iteE hf with ⟨hc56, hf⟩ | ⟨hc56, hf⟩
    {
    refine W.cond_true (bool_tr rfl hc56) ?_
    refine W.seqK fun K57 hK57 => ?_
    refine W.region ?_
    refine WL.move (v := .int .i64 x54) rfl ?_
    refine WL.assign (v := .int .i64 x54) rfl ?_
    refine WL.nil ?_
    refine hK57 _ _ ?_
    refine W.ret ?_
    have hr := Option.some.inj hf; subst hr
    have hr := hbbs33 _ rfl; subst hr
    have hf := hfs33
    have hr := Option.some.inj hf; subst hr
    exact ⟨_, resOk_one rfl rfl, (), rfl, (hs.mask []).pick []⟩ }
    {
    refine W.cond_false (bool_tr rfl hc56) ?_
    refine W.skip ?_
    refine hK44 _ _ ?_
    refine W.seqK fun K58 hK58 => ?_
    refine W.region ?_
    refine WL.assign (v := .int .i64 0) rfl ?_
    refine WL.nil ?_
    refine hK58 _ _ ?_
    refine W.block ?_
    obtain ⟨bs61, hbs61, hfs61⟩ := bindE hf
    refine W.loop hbs61 (fun s ρ w => match s with | x60 => ρ 1 = .pointer (some ⟨g6, 0, none⟩) ∧ ρ 3 = .int .i64 x32 ∧ ρ 5 = .int .i64 x60 ∧ St ok (bz w0) w [vl t_api_Proposal x1 (.agg cs3.toArray)] [blk g6 54 cs3]) ⟨h31_1, h31_3, rfl, (hs.mask [true]).pick [4]⟩ ?_
    intro x60 ρ w os61 hI hf hbbs61
    obtain ⟨h59_1, h59_3, h59_5, hs⟩ := hI
    unfold esref06_ValidateProposal.l1 at hf
    refine W.seqK fun K62 hK62 => ?_
    refine W.seqK fun K63 hK63 => ?_
    refine W.region ?_
    refine WL.move (v := .int .i64 x60) h59_5 ?_
    refine WL.move (v := .int .i64 x32) h59_3 ?_
    refine WL.bin (v := .bool (decide (x60 < x32))) rfl rfl (ib_lss _ _ _) ?_
    refine WL.nil ?_
    refine hK63 _ _ ?_
    rcases iteE hf with ⟨hc64, hf⟩ | ⟨hc64, hf⟩
    {
    refine W.cond_true (bool_tr rfl hc64) ?_
    refine W.skip ?_
    refine hK62 _ _ ?_
    refine W.seqK fun K65 hK65 => ?_
    refine W.block ?_
    refine W.seqK fun K66 hK66 => ?_
    have Jk69 : ∀ (x68 : Bool) (ρ : Env) (w : World), ρ 1 = .pointer (some ⟨g6, 0, none⟩) → ρ 3 = .int .i64 x32 → ρ 5 = .int .i64 x60 → ρ 79 = .bool x68 → St ok (bz w0) w [vl t_api_Proposal x1 (.agg cs3.toArray)] [blk g6 54 cs3] → esref06_ValidateProposal.j3 x60 x68 = some os61 → K66 ρ w := by
      intro x68 ρ w h67_1 h67_3 h67_5 h67_79 hs hf
      refine hK66 _ _ ?_
      unfold esref06_ValidateProposal.j3 at hf
      rcases iteE hf with ⟨hc70, hf⟩ | ⟨hc70, hf⟩
      {
      refine W.cond_true (bool_tr h67_79 hc70) ?_
      refine W.seqK fun K71 hK71 => ?_
      refine W.region ?_
      refine WL.assign (v := .int .i64 5) rfl ?_
      refine WL.nil ?_
      refine hK71 _ _ ?_
      refine W.ret ?_
      have hr := Option.some.inj hf; subst hr
      have hr := hbbs61 _ rfl; subst hr
      have hf := hfs61
      have hr := Option.some.inj hf; subst hr
      have hr := hbbs33 _ rfl; subst hr
      have hf := hfs33
      have hr := Option.some.inj hf; subst hr
      exact ⟨_, resOk_one rfl rfl, (), rfl, (hs.mask []).pick []⟩ }
      {
      refine W.cond_false (bool_tr h67_79 hc70) ?_
      refine W.skip ?_
      refine hK65 _ _ ?_
      refine W.region ?_
      refine WL.move (v := .int .i64 x60) h67_5 ?_
      obtain ⟨x72, ex72, hf⟩ := letE hf
      refine WL.bin (v := .int .i64 x72) rfl rfl (ib_as ex72 (ib_add _ _ _)) ?_
      refine WL.assign (v := .int .i64 x72) rfl ?_
      refine WL.nil ?_
      exact ⟨_, (Option.some.inj hf).symm, h67_1, h67_3, rfl, (hs.mask [true]).pick [0]⟩ }
    obtain ⟨x76, hxx76, hf⟩ := bindE hf
    obtain ⟨x83, hxx83, hf⟩ := bindE hf
    rcases iteE hf with ⟨hc87, hf⟩ | ⟨hc87, hf⟩
    {
    obtain ⟨x91, hxx91, hf⟩ := bindE hf
    obtain ⟨x98, hxx98, hf⟩ := bindE hf
    refine W.any (by kernel_rfl) 28 0 [true, true, true, true, true, true, true, true, true, true, true, true, true, true, true, true, true, true, true, true, true, true, true, true, true, true, true, true] rfl rfl (poAt [pv (.pointer (some ⟨g6, 2, none⟩)), pq (fun y : (Option Addr × Nat) => .slice y.1 (x1.Changes).length y.2) (fun v => [vl (tSlice t_api_Change) x1.Changes v]) (fun v => []), pv (.int .i64 x60), pq (fun y : Addr => .pointer (some y)) (fun v => [pl t_api_Change x76 (adOf v)]) (fun v => []), pq (fun y : Addr => .pointer (some y)) (fun v => [pl (tInt .i64) x76.Kind (adOf v)]) (fun v => []), pv (.int .i64 x76.Kind), pv (.pointer (some ⟨g6, 2, none⟩)), pq (fun y : (Option Addr × Nat) => .slice y.1 (x1.Changes).length y.2) (fun v => [vl (tSlice t_api_Change) x1.Changes v]) (fun v => []), pv (.int .i64 x32), pq (fun y : Addr => .pointer (some y)) (fun v => [pl t_api_Change x83 (adOf v)]) (fun v => []), pq (fun y : Addr => .pointer (some y)) (fun v => [pl (tInt .i64) x83.Kind (adOf v)]) (fun v => []), pv (.int .i64 x83.Kind), pv (.bool (x76.Kind == x83.Kind)), pv (.bool (x76.Kind == x83.Kind)), pv (.pointer (some ⟨g6, 2, none⟩)), pq (fun y : (Option Addr × Nat) => .slice y.1 (x1.Changes).length y.2) (fun v => [vl (tSlice t_api_Change) x1.Changes v]) (fun v => []), pv (.int .i64 x60), pq (fun y : Addr => .pointer (some y)) (fun v => [pl t_api_Change x91 (adOf v)]) (fun v => []), pq (fun y : Addr => .pointer (some y)) (fun v => [pl (tInt .i64) x91.Server (adOf v)]) (fun v => []), pv (.int .i64 x91.Server), pv (.pointer (some ⟨g6, 2, none⟩)), pq (fun y : (Option Addr × Nat) => .slice y.1 (x1.Changes).length y.2) (fun v => [vl (tSlice t_api_Change) x1.Changes v]) (fun v => []), pv (.int .i64 x32), pq (fun y : Addr => .pointer (some y)) (fun v => [pl t_api_Change x98 (adOf v)]) (fun v => []), pq (fun y : Addr => .pointer (some y)) (fun v => [pl (tInt .i64) x98.Server (adOf v)]) (fun v => []), pv (.int .i64 x98.Server), pv (.bool (x91.Server == x98.Server)), pv (.bool (x91.Server == x98.Server))]) (Λ := [blk g6 54 cs3]) hs (by kernel_rfl) (by kernel_rfl) (by kernel_rfl) ⟨⟨⟨⟨⟨⟨⟨⟨⟨⟨⟨⟨⟨⟨⟨⟨⟨⟨⟨⟨⟨⟨⟨⟨⟨⟨⟨⟨trivial, ?_⟩, ?_⟩, ?_⟩, ?_⟩, ?_⟩, ?_⟩, ?_⟩, ?_⟩, ?_⟩, ?_⟩, ?_⟩, ?_⟩, ?_⟩, ?_⟩, ?_⟩, ?_⟩, ?_⟩, ?_⟩, ?_⟩, ?_⟩, ?_⟩, ?_⟩, ?_⟩, ?_⟩, ?_⟩, ?_⟩, ?_⟩, ?_⟩ ?_
    {
    intro ρ w Γx Λx hs hu hp
    refine WL.fieldAddr (m := 2) ((hu 1 rfl).trans h59_1) FA54_2 rfl ?_
    exact WL.nil ⟨rfl, _, rfl, rfl, hs.cutG 0 0⟩ }
    {
    intro ρ w Γx Λx hs hu hp
    have e102 : ρ 52 = .pointer (some ⟨g6, 2, none⟩) := (hp 0 rfl).1
    refine WL.loadF (z := x1.Changes) F_api_Proposal_Changes hs (Λx.length + 0) (getApp rfl) (Γx.length + 0) (getApp rfl) rfl TI38 (.inr rfl) e102 rfl (fun v73 hs => ?_)
    obtain ⟨a74, c75, rfl⟩ := hs.slice 0 rfl
    have hs := hs.add (it := vl (tSlice t_api_Change) x1.Changes (.slice a74 (x1.Changes).length c75)) fun ok hA => hA.get 0 rfl
    exact WL.nil ⟨rfl, _, rfl, ⟨(a74, c75), rfl⟩, hs.cutG 1 1⟩ }
    {
    intro ρ w Γx Λx hs hu hp
    refine WL.move (v := .int .i64 x60) ((hu 5 rfl).trans h59_5) ?_
    exact WL.nil ⟨rfl, _, rfl, rfl, hs.cutG 0 0⟩ }
    {
    intro ρ w Γx Λx hs hu hp
    obtain ⟨⟨⟨a103, c104⟩, e105r⟩, hm106⟩ := hp 1 rfl
    have e105 : ρ 53 = .slice a103 (x1.Changes).length c104 := e105r
    rw [e105r] at hm106
    have hs := hs.memo1 (it := vl (tSlice t_api_Change) x1.Changes (.slice a103 (x1.Changes).length c104)) (List.mem_append.2 (.inl (hm106 _ (List.mem_of_getElem? (i := 0) rfl))))
    have e107 : ρ 54 = .int .i64 x60 := (hp 2 rfl).1
    refine WL.indexAddr hs 0 rfl UN38 TI26 e105 e107 hxx76 (fun ad77 hs => ?_)
    have hs := hs.add (it := pl t_api_Change x76 ad77) fun ok hA => hA.get 0 rfl
    exact WL.nil ⟨rfl, _, rfl, ⟨ad77, rfl⟩, hs.cutG 1 2⟩ }
    {
    intro ρ w Γx Λx hs hu hp
    obtain ⟨⟨ad108, e109r⟩, hm110⟩ := hp 3 rfl
    have e109 : ρ 55 = .pointer (some ad108) := e109r
    rw [e109r] at hm110
    have hs := hs.memo1 (it := pl t_api_Change x76 ad108) (List.mem_append.2 (.inl (hm110 _ (List.mem_of_getElem? (i := 0) rfl))))
    refine WL.fieldAddrP (z := x76.Kind) F_api_Change_Kind hs 0 rfl e109 FA26_0 rfl (fun ad78 hs => ?_)
    have hs := hs.add (it := pl (tInt .i64) x76.Kind ad78) fun ok hA => hA.get 0 rfl
    exact WL.nil ⟨rfl, _, rfl, ⟨ad78, rfl⟩, hs.cutG 1 2⟩ }
    {
    intro ρ w Γx Λx hs hu hp
    obtain ⟨⟨ad111, e112r⟩, hm113⟩ := hp 4 rfl
    have e112 : ρ 56 = .pointer (some ad111) := e112r
    rw [e112r] at hm113
    have hs := hs.memo1 (it := pl (tInt .i64) x76.Kind ad111) (List.mem_append.2 (.inl (hm113 _ (List.mem_of_getElem? (i := 0) rfl))))
    refine WL.loadP hs 0 rfl TI3 (.inr rfl) e112 (fun v79 hs => ?_)
    obtain rfl := hs.int 0 rfl
    exact WL.nil ⟨rfl, _, rfl, rfl, hs.cutG 0 2⟩ }
    {
    intro ρ w Γx Λx hs hu hp
    refine WL.fieldAddr (m := 2) ((hu 1 rfl).trans h59_1) FA54_2 rfl ?_
    exact WL.nil ⟨rfl, _, rfl, rfl, hs.cutG 0 0⟩ }
    {
    intro ρ w Γx Λx hs hu hp
    have e114 : ρ 58 = .pointer (some ⟨g6, 2, none⟩) := (hp 6 rfl).1
    refine WL.loadF (z := x1.Changes) F_api_Proposal_Changes hs (Λx.length + 0) (getApp rfl) (Γx.length + 0) (getApp rfl) rfl TI38 (.inr rfl) e114 rfl (fun v80 hs => ?_)
    obtain ⟨a81, c82, rfl⟩ := hs.slice 0 rfl
    have hs := hs.add (it := vl (tSlice t_api_Change) x1.Changes (.slice a81 (x1.Changes).length c82)) fun ok hA => hA.get 0 rfl
    exact WL.nil ⟨rfl, _, rfl, ⟨(a81, c82), rfl⟩, hs.cutG 1 1⟩ }
    {
    intro ρ w Γx Λx hs hu hp
    refine WL.move (v := .int .i64 x32) ((hu 3 rfl).trans h59_3) ?_
    exact WL.nil ⟨rfl, _, rfl, rfl, hs.cutG 0 0⟩ }
    {
    intro ρ w Γx Λx hs hu hp
    obtain ⟨⟨⟨a115, c116⟩, e117r⟩, hm118⟩ := hp 7 rfl
    have e117 : ρ 59 = .slice a115 (x1.Changes).length c116 := e117r
    rw [e117r] at hm118
    have hs := hs.memo1 (it := vl (tSlice t_api_Change) x1.Changes (.slice a115 (x1.Changes).length c116)) (List.mem_append.2 (.inl (hm118 _ (List.mem_of_getElem? (i := 0) rfl))))
    have e119 : ρ 60 = .int .i64 x32 := (hp 8 rfl).1
    refine WL.indexAddr hs 0 rfl UN38 TI26 e117 e119 hxx83 (fun ad84 hs => ?_)
    have hs := hs.add (it := pl t_api_Change x83 ad84) fun ok hA => hA.get 0 rfl
    exact WL.nil ⟨rfl, _, rfl, ⟨ad84, rfl⟩, hs.cutG 1 2⟩ }
    {
    intro ρ w Γx Λx hs hu hp
    obtain ⟨⟨ad120, e121r⟩, hm122⟩ := hp 9 rfl
    have e121 : ρ 61 = .pointer (some ad120) := e121r
    rw [e121r] at hm122
    have hs := hs.memo1 (it := pl t_api_Change x83 ad120) (List.mem_append.2 (.inl (hm122 _ (List.mem_of_getElem? (i := 0) rfl))))
    refine WL.fieldAddrP (z := x83.Kind) F_api_Change_Kind hs 0 rfl e121 FA26_0 rfl (fun ad85 hs => ?_)
    have hs := hs.add (it := pl (tInt .i64) x83.Kind ad85) fun ok hA => hA.get 0 rfl
    exact WL.nil ⟨rfl, _, rfl, ⟨ad85, rfl⟩, hs.cutG 1 2⟩ }
    {
    intro ρ w Γx Λx hs hu hp
    obtain ⟨⟨ad123, e124r⟩, hm125⟩ := hp 10 rfl
    have e124 : ρ 62 = .pointer (some ad123) := e124r
    rw [e124r] at hm125
    have hs := hs.memo1 (it := pl (tInt .i64) x83.Kind ad123) (List.mem_append.2 (.inl (hm125 _ (List.mem_of_getElem? (i := 0) rfl))))
    refine WL.loadP hs 0 rfl TI3 (.inr rfl) e124 (fun v86 hs => ?_)
    obtain rfl := hs.int 0 rfl
    exact WL.nil ⟨rfl, _, rfl, rfl, hs.cutG 0 2⟩ }
    {
    intro ρ w Γx Λx hs hu hp
    have e126 : ρ 57 = .int .i64 x76.Kind := (hp 5 rfl).1
    have e127 : ρ 63 = .int .i64 x83.Kind := (hp 11 rfl).1
    refine WL.bin (v := .bool (x76.Kind == x83.Kind)) e126 e127 (ib_eql _ _ _) ?_
    exact WL.nil ⟨rfl, _, rfl, rfl, hs.cutG 0 0⟩ }
    {
    intro ρ w Γx Λx hs hu hp
    have e128 : ρ 64 = .bool (x76.Kind == x83.Kind) := (hp 12 rfl).1
    refine WL.move (v := .bool (x76.Kind == x83.Kind)) e128 ?_
    exact WL.nil ⟨rfl, _, rfl, rfl, hs.cutG 0 0⟩ }
    {
    intro ρ w Γx Λx hs hu hp
    have e129 : ρ 65 = .bool (x76.Kind == x83.Kind) := (hp 13 rfl).1
    refine WL.fieldAddr (m := 2) ((hu 1 rfl).trans h59_1) FA54_2 rfl ?_ (hg := (wanted_of rfl rfl (bool_tr e129 hc87)).trans rfl)
    exact WL.nil ⟨rfl, _, rfl, rfl, hs.cutG 0 0⟩ }
    {
    intro ρ w Γx Λx hs hu hp
    have e130 : ρ 66 = .pointer (some ⟨g6, 2, none⟩) := (hp 14 rfl).1
    have e131 : ρ 65 = .bool (x76.Kind == x83.Kind) := (hp 13 rfl).1
    refine WL.loadF (z := x1.Changes) F_api_Proposal_Changes hs (Λx.length + 0) (getApp rfl) (Γx.length + 0) (getApp rfl) rfl TI38 (.inr rfl) e130 rfl (fun v88 hs => ?_) (hg := (wanted_of rfl rfl (bool_tr e131 hc87)).trans rfl)
    obtain ⟨a89, c90, rfl⟩ := hs.slice 0 rfl
    have hs := hs.add (it := vl (tSlice t_api_Change) x1.Changes (.slice a89 (x1.Changes).length c90)) fun ok hA => hA.get 0 rfl
    exact WL.nil ⟨rfl, _, rfl, ⟨(a89, c90), rfl⟩, hs.cutG 1 1⟩ }
    {
    intro ρ w Γx Λx hs hu hp
    have e132 : ρ 65 = .bool (x76.Kind == x83.Kind) := (hp 13 rfl).1
    refine WL.move (v := .int .i64 x60) ((hu 5 rfl).trans h59_5) ?_ (hg := (wanted_of rfl rfl (bool_tr e132 hc87)).trans rfl)
    exact WL.nil ⟨rfl, _, rfl, rfl, hs.cutG 0 0⟩ }
    {
    intro ρ w Γx Λx hs hu hp
    obtain ⟨⟨⟨a133, c134⟩, e135r⟩, hm136⟩ := hp 15 rfl
    have e135 : ρ 67 = .slice a133 (x1.Changes).length c134 := e135r
    rw [e135r] at hm136
    have hs := hs.memo1 (it := vl (tSlice t_api_Change) x1.Changes (.slice a133 (x1.Changes).length c134)) (List.mem_append.2 (.inl (hm136 _ (List.mem_of_getElem? (i := 0) rfl))))
    have e137 : ρ 68 = .int .i64 x60 := (hp 16 rfl).1
    have e138 : ρ 65 = .bool (x76.Kind == x83.Kind) := (hp 13 rfl).1
    refine WL.indexAddr hs 0 rfl UN38 TI26 e135 e137 hxx91 (fun ad92 hs => ?_) (hg := (wanted_of rfl rfl (bool_tr e138 hc87)).trans rfl)
    have hs := hs.add (it := pl t_api_Change x91 ad92) fun ok hA => hA.get 0 rfl
    exact WL.nil ⟨rfl, _, rfl, ⟨ad92, rfl⟩, hs.cutG 1 2⟩ }
    {
    intro ρ w Γx Λx hs hu hp
    obtain ⟨⟨ad139, e140r⟩, hm141⟩ := hp 17 rfl
    have e140 : ρ 69 = .pointer (some ad139) := e140r
    rw [e140r] at hm141
    have hs := hs.memo1 (it := pl t_api_Change x91 ad139) (List.mem_append.2 (.inl (hm141 _ (List.mem_of_getElem? (i := 0) rfl))))
    have e142 : ρ 65 = .bool (x76.Kind == x83.Kind) := (hp 13 rfl).1
    refine WL.fieldAddrP (z := x91.Server) F_api_Change_Server hs 0 rfl e140 FA26_1 rfl (fun ad93 hs => ?_) (hg := (wanted_of rfl rfl (bool_tr e142 hc87)).trans rfl)
    have hs := hs.add (it := pl (tInt .i64) x91.Server ad93) fun ok hA => hA.get 0 rfl
    exact WL.nil ⟨rfl, _, rfl, ⟨ad93, rfl⟩, hs.cutG 1 2⟩ }
    {
    intro ρ w Γx Λx hs hu hp
    obtain ⟨⟨ad143, e144r⟩, hm145⟩ := hp 18 rfl
    have e144 : ρ 70 = .pointer (some ad143) := e144r
    rw [e144r] at hm145
    have hs := hs.memo1 (it := pl (tInt .i64) x91.Server ad143) (List.mem_append.2 (.inl (hm145 _ (List.mem_of_getElem? (i := 0) rfl))))
    have e146 : ρ 65 = .bool (x76.Kind == x83.Kind) := (hp 13 rfl).1
    refine WL.loadP hs 0 rfl TI3 (.inr rfl) e144 (fun v94 hs => ?_) (hg := (wanted_of rfl rfl (bool_tr e146 hc87)).trans rfl)
    obtain rfl := hs.int 0 rfl
    exact WL.nil ⟨rfl, _, rfl, rfl, hs.cutG 0 2⟩ }
    {
    intro ρ w Γx Λx hs hu hp
    have e147 : ρ 65 = .bool (x76.Kind == x83.Kind) := (hp 13 rfl).1
    refine WL.fieldAddr (m := 2) ((hu 1 rfl).trans h59_1) FA54_2 rfl ?_ (hg := (wanted_of rfl rfl (bool_tr e147 hc87)).trans rfl)
    exact WL.nil ⟨rfl, _, rfl, rfl, hs.cutG 0 0⟩ }
    {
    intro ρ w Γx Λx hs hu hp
    have e148 : ρ 72 = .pointer (some ⟨g6, 2, none⟩) := (hp 20 rfl).1
    have e149 : ρ 65 = .bool (x76.Kind == x83.Kind) := (hp 13 rfl).1
    refine WL.loadF (z := x1.Changes) F_api_Proposal_Changes hs (Λx.length + 0) (getApp rfl) (Γx.length + 0) (getApp rfl) rfl TI38 (.inr rfl) e148 rfl (fun v95 hs => ?_) (hg := (wanted_of rfl rfl (bool_tr e149 hc87)).trans rfl)
    obtain ⟨a96, c97, rfl⟩ := hs.slice 0 rfl
    have hs := hs.add (it := vl (tSlice t_api_Change) x1.Changes (.slice a96 (x1.Changes).length c97)) fun ok hA => hA.get 0 rfl
    exact WL.nil ⟨rfl, _, rfl, ⟨(a96, c97), rfl⟩, hs.cutG 1 1⟩ }
    {
    intro ρ w Γx Λx hs hu hp
    have e150 : ρ 65 = .bool (x76.Kind == x83.Kind) := (hp 13 rfl).1
    refine WL.move (v := .int .i64 x32) ((hu 3 rfl).trans h59_3) ?_ (hg := (wanted_of rfl rfl (bool_tr e150 hc87)).trans rfl)
    exact WL.nil ⟨rfl, _, rfl, rfl, hs.cutG 0 0⟩ }
    {
    intro ρ w Γx Λx hs hu hp
    obtain ⟨⟨⟨a151, c152⟩, e153r⟩, hm154⟩ := hp 21 rfl
    have e153 : ρ 73 = .slice a151 (x1.Changes).length c152 := e153r
    rw [e153r] at hm154
    have hs := hs.memo1 (it := vl (tSlice t_api_Change) x1.Changes (.slice a151 (x1.Changes).length c152)) (List.mem_append.2 (.inl (hm154 _ (List.mem_of_getElem? (i := 0) rfl))))
    have e155 : ρ 74 = .int .i64 x32 := (hp 22 rfl).1
    have e156 : ρ 65 = .bool (x76.Kind == x83.Kind) := (hp 13 rfl).1
    refine WL.indexAddr hs 0 rfl UN38 TI26 e153 e155 hxx98 (fun ad99 hs => ?_) (hg := (wanted_of rfl rfl (bool_tr e156 hc87)).trans rfl)
    have hs := hs.add (it := pl t_api_Change x98 ad99) fun ok hA => hA.get 0 rfl
    exact WL.nil ⟨rfl, _, rfl, ⟨ad99, rfl⟩, hs.cutG 1 2⟩ }
    {
    intro ρ w Γx Λx hs hu hp
    obtain ⟨⟨ad157, e158r⟩, hm159⟩ := hp 23 rfl
    have e158 : ρ 75 = .pointer (some ad157) := e158r
    rw [e158r] at hm159
    have hs := hs.memo1 (it := pl t_api_Change x98 ad157) (List.mem_append.2 (.inl (hm159 _ (List.mem_of_getElem? (i := 0) rfl))))
    have e160 : ρ 65 = .bool (x76.Kind == x83.Kind) := (hp 13 rfl).1
    refine WL.fieldAddrP (z := x98.Server) F_api_Change_Server hs 0 rfl e158 FA26_1 rfl (fun ad100 hs => ?_) (hg := (wanted_of rfl rfl (bool_tr e160 hc87)).trans rfl)
    have hs := hs.add (it := pl (tInt .i64) x98.Server ad100) fun ok hA => hA.get 0 rfl
    exact WL.nil ⟨rfl, _, rfl, ⟨ad100, rfl⟩, hs.cutG 1 2⟩ }
    {
    intro ρ w Γx Λx hs hu hp
    obtain ⟨⟨ad161, e162r⟩, hm163⟩ := hp 24 rfl
    have e162 : ρ 76 = .pointer (some ad161) := e162r
    rw [e162r] at hm163
    have hs := hs.memo1 (it := pl (tInt .i64) x98.Server ad161) (List.mem_append.2 (.inl (hm163 _ (List.mem_of_getElem? (i := 0) rfl))))
    have e164 : ρ 65 = .bool (x76.Kind == x83.Kind) := (hp 13 rfl).1
    refine WL.loadP hs 0 rfl TI3 (.inr rfl) e162 (fun v101 hs => ?_) (hg := (wanted_of rfl rfl (bool_tr e164 hc87)).trans rfl)
    obtain rfl := hs.int 0 rfl
    exact WL.nil ⟨rfl, _, rfl, rfl, hs.cutG 0 2⟩ }
    {
    intro ρ w Γx Λx hs hu hp
    have e165 : ρ 71 = .int .i64 x91.Server := (hp 19 rfl).1
    have e166 : ρ 77 = .int .i64 x98.Server := (hp 25 rfl).1
    have e167 : ρ 65 = .bool (x76.Kind == x83.Kind) := (hp 13 rfl).1
    refine WL.bin (v := .bool (x91.Server == x98.Server)) e165 e166 (ib_eql _ _ _) ?_ (hg := (wanted_of rfl rfl (bool_tr e167 hc87)).trans rfl)
    exact WL.nil ⟨rfl, _, rfl, rfl, hs.cutG 0 0⟩ }
    {
    intro ρ w Γx Λx hs hu hp
    have e168 : ρ 65 = .bool (x76.Kind == x83.Kind) := (hp 13 rfl).1
    have e169 : ρ 78 = .bool (x91.Server == x98.Server) := (hp 26 rfl).1
    refine WL.pickT (v := .bool (x91.Server == x98.Server)) (bool_tr e168 hc87) e169 ?_
    exact WL.nil ⟨rfl, _, rfl, rfl, hs.cutG 0 0⟩ }
    {
    intro ρ w hs hu170 hp
    obtain ⟨⟨⟨⟨⟨⟨⟨⟨⟨⟨⟨⟨⟨⟨⟨⟨⟨⟨⟨⟨⟨⟨⟨⟨⟨⟨⟨⟨_, hp0_⟩, hp1_⟩, hp2_⟩, hp3_⟩, hp4_⟩, hp5_⟩, hp6_⟩, hp7_⟩, hp8_⟩, hp9_⟩, hp10_⟩, hp11_⟩, hp12_⟩, hp13_⟩, hp14_⟩, hp15_⟩, hp16_⟩, hp17_⟩, hp18_⟩, hp19_⟩, hp20_⟩, hp21_⟩, hp22_⟩, hp23_⟩, hp24_⟩, hp25_⟩, hp26_⟩, hp27_⟩ := hp
    have hs : St ok (bz w0) w [pl (tInt .i64) x98.Server (adOf (ρ 76)), pl t_api_Change x98 (adOf (ρ 75)), vl (tSlice t_api_Change) x1.Changes (ρ 73), pl (tInt .i64) x91.Server (adOf (ρ 70)), pl t_api_Change x91 (adOf (ρ 69)), vl (tSlice t_api_Change) x1.Changes (ρ 67), pl (tInt .i64) x83.Kind (adOf (ρ 62)), pl t_api_Change x83 (adOf (ρ 61)), vl (tSlice t_api_Change) x1.Changes (ρ 59), pl (tInt .i64) x76.Kind (adOf (ρ 56)), pl t_api_Change x76 (adOf (ρ 55)), vl (tSlice t_api_Change) x1.Changes (ρ 53), vl t_api_Proposal x1 (.agg cs3.toArray)] [blk g6 54 cs3] := hs
    have e171 : ρ 79 = .bool (x91.Server == x98.Server) := hp27_
    have e172 : ρ 78 = .bool (x91.Server == x98.Server) := hp26_
    have e173 : ρ 77 = .int .i64 x98.Server := hp25_
    obtain ⟨ad174, e175⟩ := hp24_
    have e175 : ρ 76 = .pointer (some ad174) := e175
    try rw [e175] at hs
    obtain ⟨ad176, e177⟩ := hp23_
    have e177 : ρ 75 = .pointer (some ad176) := e177
    try rw [e177] at hs
    have e178 : ρ 74 = .int .i64 x32 := hp22_
    obtain ⟨⟨a179, c180⟩, e181⟩ := hp21_
    have e181 : ρ 73 = .slice a179 (x1.Changes).length c180 := e181
    try rw [e181] at hs
    have e182 : ρ 72 = .pointer (some ⟨g6, 2, none⟩) := hp20_
    have e183 : ρ 71 = .int .i64 x91.Server := hp19_
    obtain ⟨ad184, e185⟩ := hp18_
    have e185 : ρ 70 = .pointer (some ad184) := e185
    try rw [e185] at hs
    obtain ⟨ad186, e187⟩ := hp17_
    have e187 : ρ 69 = .pointer (some ad186) := e187
    try rw [e187] at hs
    have e188 : ρ 68 = .int .i64 x60 := hp16_
    obtain ⟨⟨a189, c190⟩, e191⟩ := hp15_
    have e191 : ρ 67 = .slice a189 (x1.Changes).length c190 := e191
    try rw [e191] at hs
    have e192 : ρ 66 = .pointer (some ⟨g6, 2, none⟩) := hp14_
    have e193 : ρ 65 = .bool (x76.Kind == x83.Kind) := hp13_
    have e194 : ρ 64 = .bool (x76.Kind == x83.Kind) := hp12_
    have e195 : ρ 63 = .int .i64 x83.Kind := hp11_
    obtain ⟨ad196, e197⟩ := hp10_
    have e197 : ρ 62 = .pointer (some ad196) := e197
    try rw [e197] at hs
    obtain ⟨ad198, e199⟩ := hp9_
    have e199 : ρ 61 = .pointer (some ad198) := e199
    try rw [e199] at hs
    have e200 : ρ 60 = .int .i64 x32 := hp8_
    obtain ⟨⟨a201, c202⟩, e203⟩ := hp7_
    have e203 : ρ 59 = .slice a201 (x1.Changes).length c202 := e203
    try rw [e203] at hs
    have e204 : ρ 58 = .pointer (some ⟨g6, 2, none⟩) := hp6_
    have e205 : ρ 57 = .int .i64 x76.Kind := hp5_
    obtain ⟨ad206, e207⟩ := hp4_
    have e207 : ρ 56 = .pointer (some ad206) := e207
    try rw [e207] at hs
    obtain ⟨ad208, e209⟩ := hp3_
    have e209 : ρ 55 = .pointer (some ad208) := e209
    try rw [e209] at hs
    have e210 : ρ 54 = .int .i64 x60 := hp2_
    obtain ⟨⟨a211, c212⟩, e213⟩ := hp1_
    have e213 : ρ 53 = .slice a211 (x1.Changes).length c212 := e213
    try rw [e213] at hs
    have e214 : ρ 52 = .pointer (some ⟨g6, 2, none⟩) := hp0_
    refine WA.done (by kernel_rfl) ?_
    exact Jk69 (x91.Server == x98.Server) _ _ ((hu170 1 rfl).trans h59_1) ((hu170 3 rfl).trans h59_3) ((hu170 5 rfl).trans h59_5) e171 ((hs.mask [true]).pick [12]) hf } }
    {
    refine W.any (by kernel_rfl) 28 0 [true, true, true, true, true, true, true, true, true, true, true, true, true, true, true, true, true, true, true, true, true, true, true, true, true, true, true, true] rfl rfl (poAt [pv (.pointer (some ⟨g6, 2, none⟩)), pq (fun y : (Option Addr × Nat) => .slice y.1 (x1.Changes).length y.2) (fun v => [vl (tSlice t_api_Change) x1.Changes v]) (fun v => []), pv (.int .i64 x60), pq (fun y : Addr => .pointer (some y)) (fun v => [pl t_api_Change x76 (adOf v)]) (fun v => []), pq (fun y : Addr => .pointer (some y)) (fun v => [pl (tInt .i64) x76.Kind (adOf v)]) (fun v => []), pv (.int .i64 x76.Kind), pv (.pointer (some ⟨g6, 2, none⟩)), pq (fun y : (Option Addr × Nat) => .slice y.1 (x1.Changes).length y.2) (fun v => [vl (tSlice t_api_Change) x1.Changes v]) (fun v => []), pv (.int .i64 x32), pq (fun y : Addr => .pointer (some y)) (fun v => [pl t_api_Change x83 (adOf v)]) (fun v => []), pq (fun y : Addr => .pointer (some y)) (fun v => [pl (tInt .i64) x83.Kind (adOf v)]) (fun v => []), pv (.int .i64 x83.Kind), pv (.bool (x76.Kind == x83.Kind)), pv (.bool (x76.Kind == x83.Kind)), pv (undef), pv (undef), pv (undef), pv (undef), pv (undef), pv (undef), pv (undef), pv (undef), pv (undef), pv (undef), pv (undef), pv (undef), pv (undef), pv (.bool false)]) (Λ := [blk g6 54 cs3]) hs (by kernel_rfl) (by kernel_rfl) (by kernel_rfl) ⟨⟨⟨⟨⟨⟨⟨⟨⟨⟨⟨⟨⟨⟨⟨⟨⟨⟨⟨⟨⟨⟨⟨⟨⟨⟨⟨⟨trivial, ?_⟩, ?_⟩, ?_⟩, ?_⟩, ?_⟩, ?_⟩, ?_⟩, ?_⟩, ?_⟩, ?_⟩, ?_⟩, ?_⟩, ?_⟩, ?_⟩, ?_⟩, ?_⟩, ?_⟩, ?_⟩, ?_⟩, ?_⟩, ?_⟩, ?_⟩, ?_⟩, ?_⟩, ?_⟩, ?_⟩, ?_⟩, ?_⟩ ?_
    {
    intro ρ w Γx Λx hs hu hp
    refine WL.fieldAddr (m := 2) ((hu 1 rfl).trans h59_1) FA54_2 rfl ?_
    exact WL.nil ⟨rfl, _, rfl, rfl, hs.cutG 0 0⟩ }
    {
    intro ρ w Γx Λx hs hu hp
    have e215 : ρ 52 = .pointer (some ⟨g6, 2, none⟩) := (hp 0 rfl).1
    refine WL.loadF (z := x1.Changes) F_api_Proposal_Changes hs (Λx.length + 0) (getApp rfl) (Γx.length + 0) (getApp rfl) rfl TI38 (.inr rfl) e215 rfl (fun v73 hs => ?_)
    obtain ⟨a74, c75, rfl⟩ := hs.slice 0 rfl
    have hs := hs.add (it := vl (tSlice t_api_Change) x1.Changes (.slice a74 (x1.Changes).length c75)) fun ok hA => hA.get 0 rfl
    exact WL.nil ⟨rfl, _, rfl, ⟨(a74, c75), rfl⟩, hs.cutG 1 1⟩ }
    {
    intro ρ w Γx Λx hs hu hp
    refine WL.move (v := .int .i64 x60) ((hu 5 rfl).trans h59_5) ?_
    exact WL.nil ⟨rfl, _, rfl, rfl, hs.cutG 0 0⟩ }
    {
    intro ρ w Γx Λx hs hu hp
    obtain ⟨⟨⟨a216, c217⟩, e218r⟩, hm219⟩ := hp 1 rfl
    have e218 : ρ 53 = .slice a216 (x1.Changes).length c217 := e218r
    rw [e218r] at hm219
    have hs := hs.memo1 (it := vl (tSlice t_api_Change) x1.Changes (.slice a216 (x1.Changes).length c217)) (List.mem_append.2 (.inl (hm219 _ (List.mem_of_getElem? (i := 0) rfl))))
    have e220 : ρ 54 = .int .i64 x60 := (hp 2 rfl).1
    refine WL.indexAddr hs 0 rfl UN38 TI26 e218 e220 hxx76 (fun ad77 hs => ?_)
    have hs := hs.add (it := pl t_api_Change x76 ad77) fun ok hA => hA.get 0 rfl
    exact WL.nil ⟨rfl, _, rfl, ⟨ad77, rfl⟩, hs.cutG 1 2⟩ }
    {
    intro ρ w Γx Λx hs hu hp
    obtain ⟨⟨ad221, e222r⟩, hm223⟩ := hp 3 rfl
    have e222 : ρ 55 = .pointer (some ad221) := e222r
    rw [e222r] at hm223
    have hs := hs.memo1 (it := pl t_api_Change x76 ad221) (List.mem_append.2 (.inl (hm223 _ (List.mem_of_getElem? (i := 0) rfl))))
    refine WL.fieldAddrP (z := x76.Kind) F_api_Change_Kind hs 0 rfl e222 FA26_0 rfl (fun ad78 hs => ?_)
    have hs := hs.add (it := pl (tInt .i64) x76.Kind ad78) fun ok hA => hA.get 0 rfl
    exact WL.nil ⟨rfl, _, rfl, ⟨ad78, rfl⟩, hs.cutG 1 2⟩ }
    {
    intro ρ w Γx Λx hs hu hp
    obtain ⟨⟨ad224, e225r⟩, hm226⟩ := hp 4 rfl
    have e225 : ρ 56 = .pointer (some ad224) := e225r
    rw [e225r] at hm226
    have hs := hs.memo1 (it := pl (tInt .i64) x76.Kind ad224) (List.mem_append.2 (.inl (hm226 _ (List.mem_of_getElem? (i := 0) rfl))))
    refine WL.loadP hs 0 rfl TI3 (.inr rfl) e225 (fun v79 hs => ?_)
    obtain rfl := hs.int 0 rfl
    exact WL.nil ⟨rfl, _, rfl, rfl, hs.cutG 0 2⟩ }
    {
    intro ρ w Γx Λx hs hu hp
    refine WL.fieldAddr (m := 2) ((hu 1 rfl).trans h59_1) FA54_2 rfl ?_
    exact WL.nil ⟨rfl, _, rfl, rfl, hs.cutG 0 0⟩ }
    {
    intro ρ w Γx Λx hs hu hp
    have e227 : ρ 58 = .pointer (some ⟨g6, 2, none⟩) := (hp 6 rfl).1
    refine WL.loadF (z := x1.Changes) F_api_Proposal_Changes hs (Λx.length + 0) (getApp rfl) (Γx.length + 0) (getApp rfl) rfl TI38 (.inr rfl) e227 rfl (fun v80 hs => ?_)
    obtain ⟨a81, c82, rfl⟩ := hs.slice 0 rfl
    have hs := hs.add (it := vl (tSlice t_api_Change) x1.Changes (.slice a81 (x1.Changes).length c82)) fun ok hA => hA.get 0 rfl
    exact WL.nil ⟨rfl, _, rfl, ⟨(a81, c82), rfl⟩, hs.cutG 1 1⟩ }
    {
    intro ρ w Γx Λx hs hu hp
    refine WL.move (v := .int .i64 x32) ((hu 3 rfl).trans h59_3) ?_
    exact WL.nil ⟨rfl, _, rfl, rfl, hs.cutG 0 0⟩ }
    {
    intro ρ w Γx Λx hs hu hp
    obtain ⟨⟨⟨a228, c229⟩, e230r⟩, hm231⟩ := hp 7 rfl
    have e230 : ρ 59 = .slice a228 (x1.Changes).length c229 := e230r
    rw [e230r] at hm231
    have hs := hs.memo1 (it := vl (tSlice t_api_Change) x1.Changes (.slice a228 (x1.Changes).length c229)) (List.mem_append.2 (.inl (hm231 _ (List.mem_of_getElem? (i := 0) rfl))))
    have e232 : ρ 60 = .int .i64 x32 := (hp 8 rfl).1
    refine WL.indexAddr hs 0 rfl UN38 TI26 e230 e232 hxx83 (fun ad84 hs => ?_)
    have hs := hs.add (it := pl t_api_Change x83 ad84) fun ok hA => hA.get 0 rfl
    exact WL.nil ⟨rfl, _, rfl, ⟨ad84, rfl⟩, hs.cutG 1 2⟩ }
    {
    intro ρ w Γx Λx hs hu hp
    obtain ⟨⟨ad233, e234r⟩, hm235⟩ := hp 9 rfl
    have e234 : ρ 61 = .pointer (some ad233) := e234r
    rw [e234r] at hm235
    have hs := hs.memo1 (it := pl t_api_Change x83 ad233) (List.mem_append.2 (.inl (hm235 _ (List.mem_of_getElem? (i := 0) rfl))))
    refine WL.fieldAddrP (z := x83.Kind) F_api_Change_Kind hs 0 rfl e234 FA26_0 rfl (fun ad85 hs => ?_)
    have hs := hs.add (it := pl (tInt .i64) x83.Kind ad85) fun ok hA => hA.get 0 rfl
    exact WL.nil ⟨rfl, _, rfl, ⟨ad85, rfl⟩, hs.cutG 1 2⟩ }
    {
    intro ρ w Γx Λx hs hu hp
    obtain ⟨⟨ad236, e237r⟩, hm238⟩ := hp 10 rfl
    have e237 : ρ 62 = .pointer (some ad236) := e237r
    rw [e237r] at hm238
    have hs := hs.memo1 (it := pl (tInt .i64) x83.Kind ad236) (List.mem_append.2 (.inl (hm238 _ (List.mem_of_getElem? (i := 0) rfl))))
    refine WL.loadP hs 0 rfl TI3 (.inr rfl) e237 (fun v86 hs => ?_)
    obtain rfl := hs.int 0 rfl
    exact WL.nil ⟨rfl, _, rfl, rfl, hs.cutG 0 2⟩ }
    {
    intro ρ w Γx Λx hs hu hp
    have e239 : ρ 57 = .int .i64 x76.Kind := (hp 5 rfl).1
    have e240 : ρ 63 = .int .i64 x83.Kind := (hp 11 rfl).1
    refine WL.bin (v := .bool (x76.Kind == x83.Kind)) e239 e240 (ib_eql _ _ _) ?_
    exact WL.nil ⟨rfl, _, rfl, rfl, hs.cutG 0 0⟩ }
    {
    intro ρ w Γx Λx hs hu hp
    have e241 : ρ 64 = .bool (x76.Kind == x83.Kind) := (hp 12 rfl).1
    refine WL.move (v := .bool (x76.Kind == x83.Kind)) e241 ?_
    exact WL.nil ⟨rfl, _, rfl, rfl, hs.cutG 0 0⟩ }
    {
    intro ρ w Γx Λx hs hu hp
    have e242 : ρ 65 = .bool (x76.Kind == x83.Kind) := (hp 13 rfl).1
    refine WL.pass ((wanted_of rfl rfl (bool_tr e242 hc87)).trans rfl) rfl ?_
    exact WL.nil ⟨rfl, _, rfl, rfl, hs.cutG 0 0⟩ }
    {
    intro ρ w Γx Λx hs hu hp
    have e243 : ρ 66 = undef := (hp 14 rfl).1
    have e244 : ρ 65 = .bool (x76.Kind == x83.Kind) := (hp 13 rfl).1
    refine WL.pass ((wanted_of rfl rfl (bool_tr e244 hc87)).trans rfl) rfl ?_
    exact WL.nil ⟨rfl, _, rfl, rfl, hs.cutG 0 0⟩ }
    {
    intro ρ w Γx Λx hs hu hp
    have e245 : ρ 65 = .bool (x76.Kind == x83.Kind) := (hp 13 rfl).1
    refine WL.pass ((wanted_of rfl rfl (bool_tr e245 hc87)).trans rfl) rfl ?_
    exact WL.nil ⟨rfl, _, rfl, rfl, hs.cutG 0 0⟩ }
    {
    intro ρ w Γx Λx hs hu hp
    have e246 : ρ 67 = undef := (hp 15 rfl).1
    have e247 : ρ 68 = undef := (hp 16 rfl).1
    have e248 : ρ 65 = .bool (x76.Kind == x83.Kind) := (hp 13 rfl).1
    refine WL.pass ((wanted_of rfl rfl (bool_tr e248 hc87)).trans rfl) rfl ?_
    exact WL.nil ⟨rfl, _, rfl, rfl, hs.cutG 0 0⟩ }
    {
    intro ρ w Γx Λx hs hu hp
    have e249 : ρ 69 = undef := (hp 17 rfl).1
    have e250 : ρ 65 = .bool (x76.Kind == x83.Kind) := (hp 13 rfl).1
    refine WL.pass ((wanted_of rfl rfl (bool_tr e250 hc87)).trans rfl) rfl ?_
    exact WL.nil ⟨rfl, _, rfl, rfl, hs.cutG 0 0⟩ }
    {
    intro ρ w Γx Λx hs hu hp
    have e251 : ρ 70 = undef := (hp 18 rfl).1
    have e252 : ρ 65 = .bool (x76.Kind == x83.Kind) := (hp 13 rfl).1
    refine WL.pass ((wanted_of rfl rfl (bool_tr e252 hc87)).trans rfl) rfl ?_
    exact WL.nil ⟨rfl, _, rfl, rfl, hs.cutG 0 0⟩ }
    {
    intro ρ w Γx Λx hs hu hp
    have e253 : ρ 65 = .bool (x76.Kind == x83.Kind) := (hp 13 rfl).1
    refine WL.pass ((wanted_of rfl rfl (bool_tr e253 hc87)).trans rfl) rfl ?_
    exact WL.nil ⟨rfl, _, rfl, rfl, hs.cutG 0 0⟩ }
    {
    intro ρ w Γx Λx hs hu hp
    have e254 : ρ 72 = undef := (hp 20 rfl).1
    have e255 : ρ 65 = .bool (x76.Kind == x83.Kind) := (hp 13 rfl).1
    refine WL.pass ((wanted_of rfl rfl (bool_tr e255 hc87)).trans rfl) rfl ?_
    exact WL.nil ⟨rfl, _, rfl, rfl, hs.cutG 0 0⟩ }
    {
    intro ρ w Γx Λx hs hu hp
    have e256 : ρ 65 = .bool (x76.Kind == x83.Kind) := (hp 13 rfl).1
    refine WL.pass ((wanted_of rfl rfl (bool_tr e256 hc87)).trans rfl) rfl ?_
    exact WL.nil ⟨rfl, _, rfl, rfl, hs.cutG 0 0⟩ }
    {
    intro ρ w Γx Λx hs hu hp
    have e257 : ρ 73 = undef := (hp 21 rfl).1
    have e258 : ρ 74 = undef := (hp 22 rfl).1
    have e259 : ρ 65 = .bool (x76.Kind == x83.Kind) := (hp 13 rfl).1
    refine WL.pass ((wanted_of rfl rfl (bool_tr e259 hc87)).trans rfl) rfl ?_
    exact WL.nil ⟨rfl, _, rfl, rfl, hs.cutG 0 0⟩ }
    {
    intro ρ w Γx Λx hs hu hp
    have e260 : ρ 75 = undef := (hp 23 rfl).1
    have e261 : ρ 65 = .bool (x76.Kind == x83.Kind) := (hp 13 rfl).1
    refine WL.pass ((wanted_of rfl rfl (bool_tr e261 hc87)).trans rfl) rfl ?_
    exact WL.nil ⟨rfl, _, rfl, rfl, hs.cutG 0 0⟩ }
    {
    intro ρ w Γx Λx hs hu hp
    have e262 : ρ 76 = undef := (hp 24 rfl).1
    have e263 : ρ 65 = .bool (x76.Kind == x83.Kind) := (hp 13 rfl).1
    refine WL.pass ((wanted_of rfl rfl (bool_tr e263 hc87)).trans rfl) rfl ?_
    exact WL.nil ⟨rfl, _, rfl, rfl, hs.cutG 0 0⟩ }
    {
    intro ρ w Γx Λx hs hu hp
    have e264 : ρ 71 = undef := (hp 19 rfl).1
    have e265 : ρ 77 = undef := (hp 25 rfl).1
    have e266 : ρ 65 = .bool (x76.Kind == x83.Kind) := (hp 13 rfl).1
    refine WL.pass ((wanted_of rfl rfl (bool_tr e266 hc87)).trans rfl) rfl ?_
    exact WL.nil ⟨rfl, _, rfl, rfl, hs.cutG 0 0⟩ }
    {
    intro ρ w Γx Λx hs hu hp
    have e267 : ρ 65 = .bool (x76.Kind == x83.Kind) := (hp 13 rfl).1
    have e268 : ρ 78 = undef := (hp 26 rfl).1
    refine WL.pickF (v := .bool false) (bool_tr e267 hc87) rfl ?_
    exact WL.nil ⟨rfl, _, rfl, rfl, hs.cutG 0 0⟩ }
    {
    intro ρ w hs hu269 hp
    obtain ⟨⟨⟨⟨⟨⟨⟨⟨⟨⟨⟨⟨⟨⟨⟨⟨⟨⟨⟨⟨⟨⟨⟨⟨⟨⟨⟨⟨_, hp0_⟩, hp1_⟩, hp2_⟩, hp3_⟩, hp4_⟩, hp5_⟩, hp6_⟩, hp7_⟩, hp8_⟩, hp9_⟩, hp10_⟩, hp11_⟩, hp12_⟩, hp13_⟩, hp14_⟩, hp15_⟩, hp16_⟩, hp17_⟩, hp18_⟩, hp19_⟩, hp20_⟩, hp21_⟩, hp22_⟩, hp23_⟩, hp24_⟩, hp25_⟩, hp26_⟩, hp27_⟩ := hp
    have hs : St ok (bz w0) w [pl (tInt .i64) x83.Kind (adOf (ρ 62)), pl t_api_Change x83 (adOf (ρ 61)), vl (tSlice t_api_Change) x1.Changes (ρ 59), pl (tInt .i64) x76.Kind (adOf (ρ 56)), pl t_api_Change x76 (adOf (ρ 55)), vl (tSlice t_api_Change) x1.Changes (ρ 53), vl t_api_Proposal x1 (.agg cs3.toArray)] [blk g6 54 cs3] := hs
    have e270 : ρ 79 = .bool false := hp27_
    have e271 : ρ 78 = undef := hp26_
    have e272 : ρ 77 = undef := hp25_
    have e273 : ρ 76 = undef := hp24_
    have e274 : ρ 75 = undef := hp23_
    have e275 : ρ 74 = undef := hp22_
    have e276 : ρ 73 = undef := hp21_
    have e277 : ρ 72 = undef := hp20_
    have e278 : ρ 71 = undef := hp19_
    have e279 : ρ 70 = undef := hp18_
    have e280 : ρ 69 = undef := hp17_
    have e281 : ρ 68 = undef := hp16_
    have e282 : ρ 67 = undef := hp15_
    have e283 : ρ 66 = undef := hp14_
    have e284 : ρ 65 = .bool (x76.Kind == x83.Kind) := hp13_
    have e285 : ρ 64 = .bool (x76.Kind == x83.Kind) := hp12_
    have e286 : ρ 63 = .int .i64 x83.Kind := hp11_
    obtain ⟨ad287, e288⟩ := hp10_
    have e288 : ρ 62 = .pointer (some ad287) := e288
    try rw [e288] at hs
    obtain ⟨ad289, e290⟩ := hp9_
    have e290 : ρ 61 = .pointer (some ad289) := e290
    try rw [e290] at hs
    have e291 : ρ 60 = .int .i64 x32 := hp8_
    obtain ⟨⟨a292, c293⟩, e294⟩ := hp7_
    have e294 : ρ 59 = .slice a292 (x1.Changes).length c293 := e294
    try rw [e294] at hs
    have e295 : ρ 58 = .pointer (some ⟨g6, 2, none⟩) := hp6_
    have e296 : ρ 57 = .int .i64 x76.Kind := hp5_
    obtain ⟨ad297, e298⟩ := hp4_
    have e298 : ρ 56 = .pointer (some ad297) := e298
    try rw [e298] at hs
    obtain ⟨ad299, e300⟩ := hp3_
    have e300 : ρ 55 = .pointer (some ad299) := e300
    try rw [e300] at hs
    have e301 : ρ 54 = .int .i64 x60 := hp2_
    obtain ⟨⟨a302, c303⟩, e304⟩ := hp1_
    have e304 : ρ 53 = .slice a302 (x1.Changes).length c303 := e304
    try rw [e304] at hs
    have e305 : ρ 52 = .pointer (some ⟨g6, 2, none⟩) := hp0_
    refine WA.done (by kernel_rfl) ?_
    exact Jk69 false _ _ ((hu269 1 rfl).trans h59_1) ((hu269 3 rfl).trans h59_3) ((hu269 5 rfl).trans h59_5) e270 ((hs.mask [true]).pick [6]) hf } } }
    {
    refine W.cond_false (bool_tr rfl hc64) ?_
    refine W.exit ?_
    have hr := Option.some.inj hf; subst hr
    have hr := hbbs61 _ rfl; subst hr
    have hf := hfs61
    exact Jk42  _ _ h59_1 h59_3 ((hs.mask [true]).pick [0]) hf } } }
    {
    refine W.cond_false (bool_tr rfl hc39) ?_
    refine W.exit ?_
    have hr := Option.some.inj hf; subst hr
    have hr := hbbs33 _ rfl; subst hr
    have hf := hfs33
    exact Jk28  _ _  ((hs.mask []).pick []) hf } } } }
  refine W.region ?_
  refine WL.fieldAddr (m := 0) rfl FA54_0 rfl ?_
  refine WL.loadF (z := x1.Admin) F_api_Proposal_Admin hs 0 rfl 0 rfl rfl TI3 (.inr rfl) rfl rfl (fun v308 hs => ?_)
  obtain rfl := hs.int 0 rfl
  obtain ⟨x309, hxx309, hf⟩ := bindE hf
  refine WL.call (vs := [.int .i64 x1.Admin]) hs FN43 ⟨rfl, trivial⟩ (fun ok hA => esref06_Admin.calls (x1 := x1.Admin) hxx309) ?_
  rintro _ w hs
  refine WL.not rfl ?_
  refine WL.move (v := .bool (!x309)) rfl ?_
  rcases iteE hf with ⟨hc310, hf⟩ | ⟨hc310, hf⟩
  {
  refine WL.pass ((wanted_of rfl rfl (bool_tr rfl hc310)).trans rfl) rfl ?_
  refine WL.pass ((wanted_of rfl rfl (bool_tr rfl hc310)).trans rfl) rfl ?_
  refine WL.pass ((wanted_of rfl rfl (bool_tr rfl hc310)).trans rfl) rfl ?_
  refine WL.pickT (v := .bool true) (bool_tr rfl hc310) rfl ?_
  refine WL.move (v := .bool true) rfl ?_
  refine WL.pass ((wanted_of rfl rfl rfl).trans rfl) rfl ?_
  refine WL.pass ((wanted_of rfl rfl rfl).trans rfl) rfl ?_
  refine WL.pass ((wanted_of rfl rfl rfl).trans rfl) rfl ?_
  refine WL.pickT (v := .bool true) rfl rfl ?_
  refine WL.assign (v := .bool true) rfl ?_
  refine WL.nil ?_
  exact Jk11 true _ _ rfl rfl ((hs.mask [true]).pick [1]) hf }
  {
  refine WL.fieldAddr (m := 1) rfl FA54_1 rfl ?_ (hg := (wanted_of rfl rfl (bool_tr rfl hc310)).trans rfl)
  refine WL.loadF (z := x1.Number) F_api_Proposal_Number hs 0 rfl 1 rfl rfl TI3 (.inr rfl) rfl rfl (fun v311 hs => ?_) (hg := (wanted_of rfl rfl (bool_tr rfl hc310)).trans rfl)
  obtain rfl := hs.int 0 rfl
  refine WL.bin (v := .bool (decide (x1.Number < 1))) rfl rfl (ib_lss _ _ _) ?_ (hg := (wanted_of rfl rfl (bool_tr rfl hc310)).trans rfl)
  refine WL.pickF (v := .bool (decide (x1.Number < 1))) (bool_tr rfl hc310) rfl ?_
  refine WL.move (v := .bool (decide (x1.Number < 1))) rfl ?_
  rcases iteE hf with ⟨hc312, hf⟩ | ⟨hc312, hf⟩
  {
  refine WL.pass ((wanted_of rfl rfl (bool_tr rfl hc312)).trans rfl) rfl ?_
  refine WL.pass ((wanted_of rfl rfl (bool_tr rfl hc312)).trans rfl) rfl ?_
  refine WL.pass ((wanted_of rfl rfl (bool_tr rfl hc312)).trans rfl) rfl ?_
  refine WL.pickT (v := .bool true) (bool_tr rfl hc312) rfl ?_
  refine WL.assign (v := .bool true) rfl ?_
  refine WL.nil ?_
  exact Jk11 true _ _ rfl rfl ((hs.mask [true]).pick [2]) hf }
  {
  refine WL.fieldAddr (m := 1) rfl FA54_1 rfl ?_ (hg := (wanted_of rfl rfl (bool_tr rfl hc312)).trans rfl)
  refine WL.loadF (z := x1.Number) F_api_Proposal_Number hs 0 rfl 2 rfl rfl TI3 (.inr rfl) rfl rfl (fun v313 hs => ?_) (hg := (wanted_of rfl rfl (bool_tr rfl hc312)).trans rfl)
  obtain rfl := hs.int 0 rfl
  refine WL.bin (v := .bool (decide (3 < x1.Number))) rfl rfl (ib_gtr _ _ _) ?_ (hg := (wanted_of rfl rfl (bool_tr rfl hc312)).trans rfl)
  refine WL.pickF (v := .bool (decide (3 < x1.Number))) (bool_tr rfl hc312) rfl ?_
  refine WL.assign (v := .bool (decide (3 < x1.Number))) rfl ?_
  refine WL.nil ?_
  exact Jk11 (decide (3 < x1.Number)) _ _ rfl rfl ((hs.mask [true]).pick [3]) hf } }
end Go.Proofs.YthfoljpjhegkmaaDoor
