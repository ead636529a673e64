import Derived.Test.YthfoljpjhegkmaaDoorFh
import Derived.Test.YthfoljpjhegkmaaDoorFp8
set_option linter.unusedVariables false
set_option linter.unusedSimpArgs false
namespace Go.Proofs.YthfoljpjhegkmaaDoor
open Go Go.RowKit Go.Proofs.YthfoljpjhegkmaaDoorL
set_option maxRecDepth 100000
set_option maxHeartbeats 4000000
/-! elasticstore/elasticstoreref10.Weigh: function 45 -/
theorem esref10_Weigh.calls {ok : Nat → Prop} {w0 : World} {x1 : List api_WeightEntry} {x4 : api_WeightEntry} {a2 : Option Addr} {c3 : Nat} {v5 : Value} {r : List api_WeightEntry} (hf : esref10_Weigh x1 x4 = some r) (i0 : (vl (tSlice t_api_WeightEntry) x1 (.slice a2 x1.length c3)).holds ok w0) (i1 : (vl t_api_WeightEntry x4 v5).holds ok w0) :
    Calls Tryd.prog 45 #[.slice a2 x1.length c3, v5] w0 fun e w' => ∃ v, e = .returned v ∧ ∃ y : (Option Addr × Nat × Nat), v = .slice y.1 y.2.1 y.2.2 ∧ St ok (bz w0) w' [] [own t_api_WeightEntry 59 (.slice y.1 y.2.1 y.2.2) r] := by
  unfold esref10_Weigh at hf
  refine calls_of_W (fn := Tryd.f45) (N := 86) Tryd.func45 rfl Tryd.ntmps45 rfl ?_
  have hs : St ok (bz w0) w0 [vl (tSlice t_api_WeightEntry) x1 (.slice a2 x1.length c3), vl t_api_WeightEntry x4 v5] [] := St.init (All.cons i0 (All.cons i1 All.nil))
  clear i0 i1
  obtain ⟨cs6, hl7, rfl⟩ := hs.aggv (n := 5) 1 rfl rfl rfl
  refine W.seqK fun K8 hK8 => ?_
  refine W.region ?_
  refine WL.box (vs := cs6) hs rfl rfl (fun g9 w hs => ?_)
  refine WL.assign (v := .slice none 0 0) rfl ?_
  refine WL.nil ?_
  refine hK8 _ _ ?_
  refine W.seqK fun K10 hK10 => ?_
  refine W.region ?_
  refine WL.assign (v := .slice none 0 0) rfl ?_
  refine WL.nil ?_
  refine hK10 _ _ ?_
  refine W.seqK fun K11 hK11 => ?_
  refine W.region ?_
  refine WL.assign (v := .bool false) rfl ?_
  refine WL.nil ?_
  refine hK11 _ _ ?_
  refine W.seqK fun K12 hK12 => ?_
  have hs := hs.ownNil t_api_WeightEntry 59
  have Jk19 : ∀ (x14 : List api_WeightEntry) (x18 : Bool) (a15 : Option Addr) (c16 : Nat) (n17 : Nat) (ρ : Env) (w : World), ρ 3 = .pointer (some ⟨g9, 0, none⟩) → ρ 5 = .slice a15 n17 c16 → ρ 6 = .bool x18 → St ok (bz w0) w [vl t_api_WeightEntry x4 (.agg cs6.toArray)] [own t_api_WeightEntry 59 (.slice a15 n17 c16) x14, blk g9 59 cs6] → esref10_Weigh.j2 x4 x14 x18 = some r → K12 ρ w := by
    intro x14 x18 a15 c16 n17 ρ w h13_3 h13_5 h13_6 hs hf
    refine hK12 _ _ ?_
    unfold esref10_Weigh.j2 at hf
    refine W.seqK fun K20 hK20 => ?_
    have Jk26 : ∀ (x22 : List api_WeightEntry) (a23 : Option Addr) (c24 : Nat) (n25 : Nat) (ρ : Env) (w : World), ρ 5 = .slice a23 n25 c24 → St ok (bz w0) w [] [own t_api_WeightEntry 59 (.slice a23 n25 c24) x22] → esref10_Weigh.j1 x22 = some r → K20 ρ w := by
      intro x22 a23 c24 n25 ρ w h21_5 hs hf
      refine hK20 _ _ ?_
      unfold esref10_Weigh.j1 at hf
      refine W.seqK fun K27 hK27 => ?_
      refine W.region ?_
      refine WL.move (v := .slice a23 n25 c24) h21_5 ?_
      refine WL.assign (v := .slice a23 n25 c24) rfl ?_
      refine WL.nil ?_
      refine hK27 _ _ ?_
      refine W.ret ?_
      have hr := Option.some.inj hf; subst hr
      exact ⟨_, resOk_one rfl rfl, (a23, n25, c24), rfl, (hs.mask [true]).pick []⟩
    refine W.seqK fun K28 hK28 => ?_
    refine W.region ?_
    refine WL.move (v := .bool x18) h13_6 ?_
    refine WL.not rfl ?_
    refine WL.nil ?_
    refine hK28 _ _ ?_
    rcases iteE hf with ⟨hc29, hf⟩ | ⟨hc29, hf⟩
    {
    refine W.cond_true (bool_tr rfl hc29) ?_
    refine W.region ?_
    refine WL.move (v := .slice a15 n17 c16) h13_5 ?_
    refine WL.loadAll hs 1 rfl TI59 h13_3 hl7 ?_
    refine WL.buildSlice (n := 1) (vs := [(0, .agg cs6.toArray)]) (cs := cs6) hs ⟨⟨rfl, rfl⟩, trivial⟩ (bls PS34 (by decide) (by simp [fillS, fillL, Value.cells, hl7])) (fun g30 w hs => ?_)
    obtain ⟨x31, hxx31, hf⟩ := bindE hf
    obtain ⟨hbx31, hex31⟩ := appE hxx31
    refine WL.append (ys := [x4]) (zs := x31) hs 1 rfl 0 rfl UN34 EI59 rfl rfl (fun ok hA => (Cells.one (T := t_api_WeightEntry) (R_agg (hA.get 0 rfl) rfl))) hbx31 (by omega) hex31 (fun v32 w hs => ?_)
    obtain ⟨a33, n35, c34, rfl⟩ := hs.ownv3 1 rfl
    refine WL.assign (v := .slice a33 n35 c34) rfl ?_
    refine WL.nil ?_
    exact Jk26 x31 a33 c34 n35 _ _ rfl ((hs.mask [false, true]).pick []) hf }
    {
    refine W.cond_false (bool_tr rfl hc29) ?_
    refine W.skip ?_
    exact Jk26 x14 a15 c16 n17 _ _ h13_5 ((hs.mask [true]).pick []) hf }
  refine W.seqK fun K36 hK36 => ?_
  refine W.region ?_
  refine WL.assign (v := .int .i64 0) rfl ?_
  refine WL.nil ?_
  refine hK36 _ _ ?_
  refine W.block ?_
  obtain ⟨bs44, hbs44, hfs44⟩ := bindE hf
  refine W.loop hbs44 (fun s ρ w => match s with | (x38, x42, x43) => ∃ (a39 : Option Addr), ∃ (c40 : Nat), ∃ (n41 : Nat), ρ 0 = .slice a2 x1.length c3 ∧ ρ 3 = .pointer (some ⟨g9, 0, none⟩) ∧ ρ 5 = .slice a39 n41 c40 ∧ ρ 6 = .bool x42 ∧ ρ 7 = .int .i64 x43 ∧ St ok (bz w0) w [vl (tSlice t_api_WeightEntry) x1 (.slice a2 x1.length c3), vl t_api_WeightEntry x4 (.agg cs6.toArray)] [own t_api_WeightEntry 59 (.slice a39 n41 c40) x38, blk g9 59 cs6]) ⟨none, 0, 0, rfl, rfl, rfl, rfl, rfl, (hs.mask [true, true]).pick [0, 1]⟩ ?_
  intro s ρ w os44 hI hf hbbs44
  obtain ⟨x38, x42, x43⟩ := s
  obtain ⟨a39, c40, n41, h37_0, h37_3, h37_5, h37_6, h37_7, hs⟩ := hI
  unfold esref10_Weigh.l1 at hf
  refine W.seqK fun K45 hK45 => ?_
  refine W.seqK fun K46 hK46 => ?_
  refine W.region ?_
  refine WL.move (v := .int .i64 x43) h37_7 ?_
  refine WL.move (v := .slice a2 x1.length c3) h37_0 ?_
  refine WL.len (v := .slice a2 x1.length c3) rfl (len_slice UN34) ?_
  refine WL.bin (v := .bool (decide (x43 < (x1.length : Int)))) rfl rfl (ib_lss _ _ _) ?_
  refine WL.nil ?_
  refine hK46 _ _ ?_
  rcases iteE hf with ⟨hc47, hf⟩ | ⟨hc47, hf⟩
  {
  refine W.cond_true (bool_tr rfl hc47) ?_
  refine W.skip ?_
  refine hK45 _ _ ?_
  refine W.seqK fun K48 hK48 => ?_
  have Jk55 : ∀ (x50 : List api_WeightEntry) (x54 : Bool) (a51 : Option Addr) (c52 : Nat) (n53 : Nat) (ρ : Env) (w : World), ρ 0 = .slice a2 x1.length c3 → ρ 3 = .pointer (some ⟨g9, 0, none⟩) → ρ 5 = .slice a51 n53 c52 → ρ 6 = .bool x54 → ρ 7 = .int .i64 x43 → St ok (bz w0) w [vl (tSlice t_api_WeightEntry) x1 (.slice a2 x1.length c3), vl t_api_WeightEntry x4 (.agg cs6.toArray)] [own t_api_WeightEntry 59 (.slice a51 n53 c52) x50, blk g9 59 cs6] → esref10_Weigh.j3 x43 x50 x54 = some os44 → K48 ρ w := by
    intro x50 x54 a51 c52 n53 ρ w h49_0 h49_3 h49_5 h49_6 h49_7 hs hf
    refine hK48 _ _ ?_
    unfold esref10_Weigh.j3 at hf
    refine W.region ?_
    refine WL.move (v := .int .i64 x43) h49_7 ?_
    obtain ⟨x56, ex56, hf⟩ := letE hf
    refine WL.bin (v := .int .i64 x56) rfl rfl (ib_as ex56 (ib_add _ _ _)) ?_
    refine WL.assign (v := .int .i64 x56) rfl ?_
    refine WL.nil ?_
    exact ⟨_, (Option.some.inj hf).symm, a51, c52, n53, h49_0, h49_3, h49_5, h49_6, rfl, (hs.mask [true, true]).pick [0, 1]⟩
  refine W.block ?_
  refine W.block ?_
  refine W.seqK fun K57 hK57 => ?_
  have Jk60 : ∀ (x59 : Bool) (ρ : Env) (w : World), ρ 0 = .slice a2 x1.length c3 → ρ 3 = .pointer (some ⟨g9, 0, none⟩) → ρ 5 = .slice a39 n41 c40 → ρ 6 = .bool x42 → ρ 7 = .int .i64 x43 → ρ 21 = .bool x59 → St ok (bz w0) w [vl (tSlice t_api_WeightEntry) x1 (.slice a2 x1.length c3), vl t_api_WeightEntry x4 (.agg cs6.toArray)] [own t_api_WeightEntry 59 (.slice a39 n41 c40) x38, blk g9 59 cs6] → esref10_Weigh.j5 x1 x4 x38 x42 x43 x59 = some os44 → K57 ρ w := by
    intro x59 ρ w h58_0 h58_3 h58_5 h58_6 h58_7 h58_21 hs hf
    refine hK57 _ _ ?_
    unfold esref10_Weigh.j5 at hf
    rcases iteE hf with ⟨hc61, hf⟩ | ⟨hc61, hf⟩
    {
    refine W.cond_true (bool_tr h58_21 hc61) ?_
    refine W.seqK fun K62 hK62 => ?_
    refine W.region ?_
    refine WL.move (v := .slice a39 n41 c40) h58_5 ?_
    refine WL.loadAll hs 1 rfl TI59 h58_3 hl7 ?_
    refine WL.buildSlice (n := 1) (vs := [(0, .agg cs6.toArray)]) (cs := cs6) hs ⟨⟨rfl, rfl⟩, trivial⟩ (bls PS34 (by decide) (by simp [fillS, fillL, Value.cells, hl7])) (fun g63 w hs => ?_)
    obtain ⟨x64, hxx64, hf⟩ := bindE hf
    obtain ⟨hbx64, hex64⟩ := appE hxx64
    refine WL.append (ys := [x4]) (zs := x64) hs 1 rfl 0 rfl UN34 EI59 rfl rfl (fun ok hA => (Cells.one (T := t_api_WeightEntry) (R_agg (hA.get 1 rfl) rfl))) hbx64 (by omega) hex64 (fun v65 w hs => ?_)
    obtain ⟨a66, n68, c67, rfl⟩ := hs.ownv3 1 rfl
    refine WL.assign (v := .slice a66 n68 c67) rfl ?_
    refine WL.nil ?_
    refine hK62 _ _ ?_
    refine W.region ?_
    refine WL.assign (v := .bool true) rfl ?_
    refine WL.nil ?_
    exact Jk55 x64 true a66 c67 n68 _ _ h58_0 h58_3 rfl rfl h58_7 ((hs.mask [false, true, true]).pick [0, 1]) hf }
    {
    refine W.cond_false (bool_tr h58_21 hc61) ?_
    refine W.seqK fun K69 hK69 => ?_
    obtain ⟨x70, hxx70, hf⟩ := bindE hf
    refine W.any (by kernel_rfl) 8 1 [true, true, true, true, true, true, true, true, false] rfl rfl (poAt [pv (.slice a2 x1.length c3), pv (.int .i64 x43), pq (fun y : Addr => .pointer (some y)) (fun v => [pl t_api_WeightEntry x70 (adOf v)]) (fun v => []), pq (fun y : Addr => .pointer (some y)) (fun v => [pl (tInt .i64) x70.Server (adOf v)]) (fun v => []), pv (.int .i64 x70.Server), pv (.pointer (some ⟨g9, 0, none⟩)), pv (.int .i64 x4.Server), pv (.bool (x70.Server == x4.Server))]) (Λ := [own t_api_WeightEntry 59 (.slice a39 n41 c40) x38, blk g9 59 cs6]) hs (by kernel_rfl) (by kernel_rfl) (by kernel_rfl) ⟨⟨⟨⟨⟨⟨⟨⟨trivial, ?_⟩, ?_⟩, ?_⟩, ?_⟩, ?_⟩, ?_⟩, ?_⟩, ?_⟩ ?_
    {
    intro ρ w Γx Λx hs hu hp
    refine WL.move (v := .slice a2 x1.length c3) ((hu 0 rfl).trans h58_0) ?_
    exact WL.nil ⟨rfl, _, rfl, rfl, hs.cutG 0 0⟩ }
    {
    intro ρ w Γx Λx hs hu hp
    refine WL.move (v := .int .i64 x43) ((hu 7 rfl).trans h58_7) ?_
    exact WL.nil ⟨rfl, _, rfl, rfl, hs.cutG 0 0⟩ }
    {
    intro ρ w Γx Λx hs hu hp
    have e75 : ρ 43 = .slice a2 x1.length c3 := (hp 0 rfl).1
    have e76 : ρ 44 = .int .i64 x43 := (hp 1 rfl).1
    refine WL.indexAddr hs (Γx.length + 0) (getApp rfl) UN34 TI59 e75 e76 hxx70 (fun ad71 hs => ?_)
    have hs := hs.add (it := pl t_api_WeightEntry x70 ad71) fun ok hA => hA.get 0 rfl
    exact WL.nil ⟨rfl, _, rfl, ⟨ad71, rfl⟩, hs.cutG 1 1⟩ }
    {
    intro ρ w Γx Λx hs hu hp
    obtain ⟨⟨ad77, e78r⟩, hm79⟩ := hp 2 rfl
    have e78 : ρ 45 = .pointer (some ad77) := e78r
    rw [e78r] at hm79
    have hs := hs.memo1 (it := pl t_api_WeightEntry x70 ad77) (List.mem_append.2 (.inl (hm79 _ (List.mem_of_getElem? (i := 0) rfl))))
    refine WL.fieldAddrP (z := x70.Server) F_api_WeightEntry_Server hs 0 rfl e78 FA59_0 rfl (fun ad72 hs => ?_)
    have hs := hs.add (it := pl (tInt .i64) x70.Server ad72) fun ok hA => hA.get 0 rfl
    exact WL.nil ⟨rfl, _, rfl, ⟨ad72, rfl⟩, hs.cutG 1 2⟩ }
    {
    intro ρ w Γx Λx hs hu hp
    obtain ⟨⟨ad80, e81r⟩, hm82⟩ := hp 3 rfl
    have e81 : ρ 46 = .pointer (some ad80) := e81r
    rw [e81r] at hm82
    have hs := hs.memo1 (it := pl (tInt .i64) x70.Server ad80) (List.mem_append.2 (.inl (hm82 _ (List.mem_of_getElem? (i := 0) rfl))))
    refine WL.loadP hs 0 rfl TI3 (.inr rfl) e81 (fun v73 hs => ?_)
    obtain rfl := hs.int 0 rfl
    exact WL.nil ⟨rfl, _, rfl, rfl, hs.cutG 0 2⟩ }
    {
    intro ρ w Γx Λx hs hu hp
    refine WL.fieldAddr (m := 0) ((hu 3 rfl).trans h58_3) FA59_0 rfl ?_
    exact WL.nil ⟨rfl, _, rfl, rfl, hs.cutG 0 0⟩ }
    {
    intro ρ w Γx Λx hs hu hp
    have e83 : ρ 48 = .pointer (some ⟨g9, 0, none⟩) := (hp 5 rfl).1
    refine WL.loadF (z := x4.Server) F_api_WeightEntry_Server hs (Λx.length + 1) (getApp rfl) (Γx.length + 1) (getApp rfl) rfl TI3 (.inr rfl) e83 rfl (fun v74 hs => ?_)
    obtain rfl := hs.int 0 rfl
    exact WL.nil ⟨rfl, _, rfl, rfl, hs.cutG 0 1⟩ }
    {
    intro ρ w Γx Λx hs hu hp
    have e84 : ρ 47 = .int .i64 x70.Server := (hp 4 rfl).1
    have e85 : ρ 49 = .int .i64 x4.Server := (hp 6 rfl).1
    refine WL.bin (v := .bool (x70.Server == x4.Server)) e84 e85 (ib_eql _ _ _) ?_
    exact WL.nil ⟨rfl, _, rfl, rfl, hs.cutG 0 0⟩ }
    {
    intro ρ w hs hu86 hp
    obtain ⟨⟨⟨⟨⟨⟨⟨⟨_, hp0_⟩, hp1_⟩, hp2_⟩, hp3_⟩, hp4_⟩, hp5_⟩, hp6_⟩, hp7_⟩ := hp
    have hs : St ok (bz w0) w [pl (tInt .i64) x70.Server (adOf (ρ 46)), pl t_api_WeightEntry x70 (adOf (ρ 45)), vl (tSlice t_api_WeightEntry) x1 (.slice a2 x1.length c3), vl t_api_WeightEntry x4 (.agg cs6.toArray)] [own t_api_WeightEntry 59 (.slice a39 n41 c40) x38, blk g9 59 cs6] := hs
    have e87 : ρ 50 = .bool (x70.Server == x4.Server) := hp7_
    have e88 : ρ 49 = .int .i64 x4.Server := hp6_
    have e89 : ρ 48 = .pointer (some ⟨g9, 0, none⟩) := hp5_
    have e90 : ρ 47 = .int .i64 x70.Server := hp4_
    obtain ⟨ad91, e92⟩ := hp3_
    have e92 : ρ 46 = .pointer (some ad91) := e92
    try rw [e92] at hs
    obtain ⟨ad93, e94⟩ := hp2_
    have e94 : ρ 45 = .pointer (some ad93) := e94
    try rw [e94] at hs
    have e95 : ρ 44 = .int .i64 x43 := hp1_
    have e96 : ρ 43 = .slice a2 x1.length c3 := hp0_
    refine WA.step [8] (by kernel_rfl) (by simp) ⟨?_, trivial⟩
    refine WL.assign (v := .bool (x70.Server == x4.Server)) e87 ?_
    refine WL.nil ⟨rfl, _, rfl, ?_⟩
    refine WA.done (by kernel_rfl) ?_
    refine hK69 _ _ ?_
    rcases iteE hf with ⟨hc97, hf⟩ | ⟨hc97, hf⟩
    {
    refine W.cond_true (bool_tr rfl hc97) ?_
    refine W.seqK fun K98 hK98 => ?_
    refine W.region ?_
    refine WL.move (v := .slice a39 n41 c40) ((hu86 5 rfl).trans h58_5) ?_
    refine WL.move (v := .slice a2 x1.length c3) ((hu86 0 rfl).trans h58_0) ?_
    refine WL.move (v := .int .i64 x43) ((hu86 7 rfl).trans h58_7) ?_
    obtain ⟨x99, hxx99, hf⟩ := bindE hf
    refine WL.indexAddr hs 2 rfl UN34 TI59 rfl rfl hxx99 (fun ad100 hs => ?_)
    refine WL.loadP hs 0 rfl TI59 (.inl rfl) rfl (fun v101 hs => ?_)
    obtain ⟨cs102, hl103, rfl⟩ := hs.aggv (n := 5) 0 rfl rfl rfl
    refine WL.buildSlice (n := 1) (vs := [(0, .agg cs102.toArray)]) (cs := cs102) hs ⟨⟨rfl, rfl⟩, trivial⟩ (bls PS34 (by decide) (by simp [fillS, fillL, Value.cells, hl103])) (fun g104 w hs => ?_)
    obtain ⟨x105, hxx105, hf⟩ := bindE hf
    obtain ⟨hbx105, hex105⟩ := appE hxx105
    refine WL.append (ys := [x99]) (zs := x105) hs 1 rfl 0 rfl UN34 EI59 rfl rfl (fun ok hA => (Cells.one (T := t_api_WeightEntry) (R_agg (hA.get 0 rfl) rfl))) hbx105 (by omega) hex105 (fun v106 w hs => ?_)
    obtain ⟨a107, n109, c108, rfl⟩ := hs.ownv3 1 rfl
    refine WL.assign (v := .slice a107 n109 c108) rfl ?_
    refine WL.nil ?_
    refine hK98 _ _ ?_
    refine W.region ?_
    refine WL.assign (v := .bool true) rfl ?_
    refine WL.nil ?_
    exact Jk55 x105 true a107 c108 n109 _ _ ((hu86 0 rfl).trans h58_0) ((hu86 3 rfl).trans h58_3) rfl rfl ((hu86 7 rfl).trans h58_7) ((hs.mask [false, true, true]).pick [4, 5]) hf }
    {
    refine W.cond_false (bool_tr rfl hc97) ?_
    refine W.seqK fun K110 hK110 => ?_
    have Jk113 : ∀ (x112 : Bool) (ρ : Env) (w : World), ρ 0 = .slice a2 x1.length c3 → ρ 3 = .pointer (some ⟨g9, 0, none⟩) → ρ 5 = .slice a39 n41 c40 → ρ 6 = .bool x42 → ρ 7 = .int .i64 x43 → ρ 58 = .bool x112 → St ok (bz w0) w [vl (tSlice t_api_WeightEntry) x1 (.slice a2 x1.length c3), vl t_api_WeightEntry x4 (.agg cs6.toArray)] [own t_api_WeightEntry 59 (.slice a39 n41 c40) x38, blk g9 59 cs6] → esref10_Weigh.j4 x1 x4 x38 x42 x43 x112 = some os44 → K110 ρ w := by
      intro x112 ρ w h111_0 h111_3 h111_5 h111_6 h111_7 h111_58 hs hf
      refine hK110 _ _ ?_
      unfold esref10_Weigh.j4 at hf
      rcases iteE hf with ⟨hc114, hf⟩ | ⟨hc114, hf⟩
      {
      refine W.cond_true (bool_tr h111_58 hc114) ?_
      refine W.seqK fun K115 hK115 => ?_
      obtain ⟨x116, hxx116, hf⟩ := bindE hf
      refine W.any (by kernel_rfl) 7 2 [true, true, true, true, true, true, true, false, false] rfl rfl (poAt [pv (.slice a39 n41 c40), pv (.agg cs6.toArray), pv (.slice a2 x1.length c3), pv (.int .i64 x43), pq (fun y : Addr => .pointer (some y)) (fun v => [pl t_api_WeightEntry x116 (adOf v)]) (fun v => []), pq (fun y : List Value => .agg y.toArray) (fun v => [vl t_api_WeightEntry x116 v]) (fun v => []), pq (fun y : (Option Addr × Nat) => .slice y.1 ([x4, x116]).length y.2) (fun v => [vl (tSlice t_api_WeightEntry) [x4, x116] v]) (fun v => [])]) (Λ := [own t_api_WeightEntry 59 (.slice a39 n41 c40) x38, blk g9 59 cs6]) hs (by kernel_rfl) (by kernel_rfl) (by kernel_rfl) ⟨⟨⟨⟨⟨⟨⟨trivial, ?_⟩, ?_⟩, ?_⟩, ?_⟩, ?_⟩, ?_⟩, ?_⟩ ?_
      {
      intro ρ w Γx Λx hs hu hp
      refine WL.move (v := .slice a39 n41 c40) ((hu 5 rfl).trans h111_5) ?_
      exact WL.nil ⟨rfl, _, rfl, rfl, hs.cutG 0 0⟩ }
      {
      intro ρ w Γx Λx hs hu hp
      refine WL.loadAll hs (Λx.length + 1) (getApp rfl) TI59 ((hu 3 rfl).trans h111_3) hl7 ?_
      exact WL.nil ⟨rfl, _, rfl, rfl, hs.cutG 0 0⟩ }
      {
      intro ρ w Γx Λx hs hu hp
      refine WL.move (v := .slice a2 x1.length c3) ((hu 0 rfl).trans h111_0) ?_
      exact WL.nil ⟨rfl, _, rfl, rfl, hs.cutG 0 0⟩ }
      {
      intro ρ w Γx Λx hs hu hp
      refine WL.move (v := .int .i64 x43) ((hu 7 rfl).trans h111_7) ?_
      exact WL.nil ⟨rfl, _, rfl, rfl, hs.cutG 0 0⟩ }
      {
      intro ρ w Γx Λx hs hu hp
      have e123 : ρ 73 = .slice a2 x1.length c3 := (hp 2 rfl).1
      have e124 : ρ 74 = .int .i64 x43 := (hp 3 rfl).1
      refine WL.indexAddr hs (Γx.length + 0) (getApp rfl) UN34 TI59 e123 e124 hxx116 (fun ad117 hs => ?_)
      have hs := hs.add (it := pl t_api_WeightEntry x116 ad117) fun ok hA => hA.get 0 rfl
      exact WL.nil ⟨rfl, _, rfl, ⟨ad117, rfl⟩, hs.cutG 1 1⟩ }
      {
      intro ρ w Γx Λx hs hu hp
      obtain ⟨⟨ad125, e126r⟩, hm127⟩ := hp 4 rfl
      have e126 : ρ 75 = .pointer (some ad125) := e126r
      rw [e126r] at hm127
      have hs := hs.memo1 (it := pl t_api_WeightEntry x116 ad125) (List.mem_append.2 (.inl (hm127 _ (List.mem_of_getElem? (i := 0) rfl))))
      refine WL.loadP hs 0 rfl TI59 (.inl rfl) e126 (fun v118 hs => ?_)
      obtain ⟨cs119, hl120, rfl⟩ := hs.aggv (n := 5) 0 rfl rfl rfl
      have hs := hs.add (it := vl t_api_WeightEntry x116 (.agg cs119.toArray)) fun ok hA => hA.get 0 rfl
      exact WL.nil ⟨rfl, _, rfl, ⟨cs119, rfl⟩, hs.cutG 1 2⟩ }
      {
      intro ρ w Γx Λx hs hu hp
      have e128 : ρ 72 = .agg cs6.toArray := (hp 1 rfl).1
      obtain ⟨⟨cs129, e131r⟩, hm132⟩ := hp 5 rfl
      have e131 : ρ 76 = .agg cs129.toArray := e131r
      rw [e131r] at hm132
      have hs := hs.memo1 (it := vl t_api_WeightEntry x116 (.agg cs129.toArray)) (List.mem_append.2 (.inl (hm132 _ (List.mem_of_getElem? (i := 0) rfl))))
      have hl130 := hs.agglen (n := 5) 0 rfl rfl rfl
      refine WL.buildSliceB (ys := [x4, x116]) (n := 2) (vs := [(0, .agg cs6.toArray), (1, .agg cs129.toArray)]) (cs := cs6 ++ cs129) hs ⟨⟨rfl, e128⟩, ⟨⟨rfl, e131⟩, trivial⟩⟩ (bls PS34 (by decide) (by simp [fillS, fillL, Value.cells, hl7, hl130])) (fun ok hA => (Cells.app (Cells.one (T := t_api_WeightEntry) (R_agg (hA.get (Γx.length + 1 + 1) (getApp1 rfl)) rfl)) (Cells.one (T := t_api_WeightEntry) (R_agg (hA.get 0 rfl) rfl)))) rfl (by decide) (fun a122 w hBl hs => ?_)
      have hs := hs.add (it := vl (tSlice t_api_WeightEntry) [x4, x116] (.slice a122 ([x4, x116]).length 2)) fun ok hA => hA.get 0 rfl
      exact WL.nil ⟨rfl, _, rfl, ⟨(a122, 2), rfl⟩, hs.cutG 1 2⟩ }
      {
      intro ρ w hs hu133 hp
      obtain ⟨⟨⟨⟨⟨⟨⟨_, hp0_⟩, hp1_⟩, hp2_⟩, hp3_⟩, hp4_⟩, hp5_⟩, hp6_⟩ := hp
      have hs : St ok (bz w0) w [vl (tSlice t_api_WeightEntry) [x4, x116] (ρ 77), vl t_api_WeightEntry x116 (ρ 76), pl t_api_WeightEntry x116 (adOf (ρ 75)), vl (tSlice t_api_WeightEntry) x1 (.slice a2 x1.length c3), vl t_api_WeightEntry x4 (.agg cs6.toArray)] [own t_api_WeightEntry 59 (.slice a39 n41 c40) x38, blk g9 59 cs6] := hs
      obtain ⟨⟨a134, c135⟩, e136⟩ := hp6_
      have e136 : ρ 77 = .slice a134 ([x4, x116]).length c135 := e136
      try rw [e136] at hs
      obtain ⟨cs137, e139⟩ := hp5_
      have e139 : ρ 76 = .agg cs137.toArray := e139
      try rw [e139] at hs
      obtain ⟨ad140, e141⟩ := hp4_
      have e141 : ρ 75 = .pointer (some ad140) := e141
      try rw [e141] at hs
      have e142 : ρ 74 = .int .i64 x43 := hp3_
      have e143 : ρ 73 = .slice a2 x1.length c3 := hp2_
      have e144 : ρ 72 = .agg cs6.toArray := hp1_
      have e145 : ρ 71 = .slice a39 n41 c40 := hp0_
      have hl138 := hs.agglen (n := 5) 1 rfl rfl rfl
      refine WA.step [7] (by kernel_rfl) (by simp) ⟨?_, trivial⟩
      obtain ⟨x146, hxx146, hf⟩ := bindE hf
      obtain ⟨hbx146, hex146⟩ := appE hxx146
      refine WL.appendS (zs := x146) hs 0 rfl 0 rfl UN34 UN34 EI59 e145 e136 hbx146 (by omega) hex146 (fun v147 w hs => ?_)
      obtain ⟨a148, n150, c149, rfl⟩ := hs.ownv3 0 rfl
      refine WL.nil ⟨rfl, _, rfl, ?_⟩
      refine WA.step [8] (by kernel_rfl) (by simp) ⟨?_, trivial⟩
      refine WL.assign (v := .slice a148 n150 c149) rfl ?_
      refine WL.nil ⟨rfl, _, rfl, ?_⟩
      refine WA.done (by kernel_rfl) ?_
      refine hK115 _ _ ?_
      refine W.region ?_
      refine WL.assign (v := .bool true) rfl ?_
      refine WL.nil ?_
      exact Jk55 x146 true a148 c149 n150 _ _ ((hu133 0 rfl).trans h111_0) ((hu133 3 rfl).trans h111_3) rfl rfl ((hu133 7 rfl).trans h111_7) ((hs.mask [true, true]).pick [3, 4]) hf } }
      {
      refine W.cond_false (bool_tr h111_58 hc114) ?_
      refine W.region ?_
      refine WL.move (v := .slice a39 n41 c40) h111_5 ?_
      refine WL.move (v := .slice a2 x1.length c3) h111_0 ?_
      refine WL.move (v := .int .i64 x43) h111_7 ?_
      obtain ⟨x151, hxx151, hf⟩ := bindE hf
      refine WL.indexAddr hs 0 rfl UN34 TI59 rfl rfl hxx151 (fun ad152 hs => ?_)
      refine WL.loadP hs 0 rfl TI59 (.inl rfl) rfl (fun v153 hs => ?_)
      obtain ⟨cs154, hl155, rfl⟩ := hs.aggv (n := 5) 0 rfl rfl rfl
      refine WL.buildSlice (n := 1) (vs := [(0, .agg cs154.toArray)]) (cs := cs154) hs ⟨⟨rfl, rfl⟩, trivial⟩ (bls PS34 (by decide) (by simp [fillS, fillL, Value.cells, hl155])) (fun g156 w hs => ?_)
      obtain ⟨x157, hxx157, hf⟩ := bindE hf
      obtain ⟨hbx157, hex157⟩ := appE hxx157
      refine WL.append (ys := [x151]) (zs := x157) hs 1 rfl 0 rfl UN34 EI59 rfl rfl (fun ok hA => (Cells.one (T := t_api_WeightEntry) (R_agg (hA.get 0 rfl) rfl))) hbx157 (by omega) hex157 (fun v158 w hs => ?_)
      obtain ⟨a159, n161, c160, rfl⟩ := hs.ownv3 1 rfl
      refine WL.assign (v := .slice a159 n161 c160) rfl ?_
      refine WL.nil ?_
      exact Jk55 x157 x42 a159 c160 n161 _ _ h111_0 h111_3 rfl h111_6 h111_7 ((hs.mask [false, true, true]).pick [2, 3]) hf }
    rcases iteE hf with ⟨hc162, hf⟩ | ⟨hc162, hf⟩
    {
    obtain ⟨x163, hxx163, hf⟩ := bindE hf
    refine W.any (by kernel_rfl) 12 1 [true, true, true, true, true, true, true, true, true, true, true, true, false] rfl rfl (poAt [pv (.bool x42), pv (.bool (!x42)), pv (.bool (!x42)), pv (.slice a2 x1.length c3), pv (.int .i64 x43), pq (fun y : Addr => .pointer (some y)) (fun v => [pl t_api_WeightEntry x163 (adOf v)]) (fun v => []), pq (fun y : Addr => .pointer (some y)) (fun v => [pl (tInt .i64) x163.Server (adOf v)]) (fun v => []), pv (.int .i64 x163.Server), pv (.pointer (some ⟨g9, 0, none⟩)), pv (.int .i64 x4.Server), pv (.bool (decide (x4.Server < x163.Server))), pv (.bool (decide (x4.Server < x163.Server)))]) (Λ := [own t_api_WeightEntry 59 (.slice a39 n41 c40) x38, blk g9 59 cs6]) hs (by kernel_rfl) (by kernel_rfl) (by kernel_rfl) ⟨⟨⟨⟨⟨⟨⟨⟨⟨⟨⟨⟨trivial, ?_⟩, ?_⟩, ?_⟩, ?_⟩, ?_⟩, ?_⟩, ?_⟩, ?_⟩, ?_⟩, ?_⟩, ?_⟩, ?_⟩ ?_
    {
    intro ρ w Γx Λx hs hu hp
    refine WL.move (v := .bool x42) ((hu 6 rfl).trans ((hu86 6 rfl).trans h58_6)) ?_
    exact WL.nil ⟨rfl, _, rfl, rfl, hs.cutG 0 0⟩ }
    {
    intro ρ w Γx Λx hs hu hp
    have e168 : ρ 59 = .bool x42 := (hp 0 rfl).1
    refine WL.not e168 ?_
    exact WL.nil ⟨rfl, _, rfl, rfl, hs.cutG 0 0⟩ }
    {
    intro ρ w Γx Λx hs hu hp
    have e169 : ρ 60 = .bool (!x42) := (hp 1 rfl).1
    refine WL.move (v := .bool (!x42)) e169 ?_
    exact WL.nil ⟨rfl, _, rfl, rfl, hs.cutG 0 0⟩ }
    {
    intro ρ w Γx Λx hs hu hp
    have e170 : ρ 61 = .bool (!x42) := (hp 2 rfl).1
    refine WL.move (v := .slice a2 x1.length c3) ((hu 0 rfl).trans ((hu86 0 rfl).trans h58_0)) ?_ (hg := (wanted_of rfl rfl (bool_tr e170 hc162)).trans rfl)
    exact WL.nil ⟨rfl, _, rfl, rfl, hs.cutG 0 0⟩ }
    {
    intro ρ w Γx Λx hs hu hp
    have e171 : ρ 61 = .bool (!x42) := (hp 2 rfl).1
    refine WL.move (v := .int .i64 x43) ((hu 7 rfl).trans ((hu86 7 rfl).trans h58_7)) ?_ (hg := (wanted_of rfl rfl (bool_tr e171 hc162)).trans rfl)
    exact WL.nil ⟨rfl, _, rfl, rfl, hs.cutG 0 0⟩ }
    {
    intro ρ w Γx Λx hs hu hp
    have e172 : ρ 62 = .slice a2 x1.length c3 := (hp 3 rfl).1
    have e173 : ρ 63 = .int .i64 x43 := (hp 4 rfl).1
    have e174 : ρ 61 = .bool (!x42) := (hp 2 rfl).1
    refine WL.indexAddr hs (Γx.length + 2) (getApp rfl) UN34 TI59 e172 e173 hxx163 (fun ad164 hs => ?_) (hg := (wanted_of rfl rfl (bool_tr e174 hc162)).trans rfl)
    have hs := hs.add (it := pl t_api_WeightEntry x163 ad164) fun ok hA => hA.get 0 rfl
    exact WL.nil ⟨rfl, _, rfl, ⟨ad164, rfl⟩, hs.cutG 1 1⟩ }
    {
    intro ρ w Γx Λx hs hu hp
    obtain ⟨⟨ad175, e176r⟩, hm177⟩ := hp 5 rfl
    have e176 : ρ 64 = .pointer (some ad175) := e176r
    rw [e176r] at hm177
    have hs := hs.memo1 (it := pl t_api_WeightEntry x163 ad175) (List.mem_append.2 (.inl (hm177 _ (List.mem_of_getElem? (i := 0) rfl))))
    have e178 : ρ 61 = .bool (!x42) := (hp 2 rfl).1
    refine WL.fieldAddrP (z := x163.Server) F_api_WeightEntry_Server hs 0 rfl e176 FA59_0 rfl (fun ad165 hs => ?_) (hg := (wanted_of rfl rfl (bool_tr e178 hc162)).trans rfl)
    have hs := hs.add (it := pl (tInt .i64) x163.Server ad165) fun ok hA => hA.get 0 rfl
    exact WL.nil ⟨rfl, _, rfl, ⟨ad165, rfl⟩, hs.cutG 1 2⟩ }
    {
    intro ρ w Γx Λx hs hu hp
    obtain ⟨⟨ad179, e180r⟩, hm181⟩ := hp 6 rfl
    have e180 : ρ 65 = .pointer (some ad179) := e180r
    rw [e180r] at hm181
    have hs := hs.memo1 (it := pl (tInt .i64) x163.Server ad179) (List.mem_append.2 (.inl (hm181 _ (List.mem_of_getElem? (i := 0) rfl))))
    have e182 : ρ 61 = .bool (!x42) := (hp 2 rfl).1
    refine WL.loadP hs 0 rfl TI3 (.inr rfl) e180 (fun v166 hs => ?_) (hg := (wanted_of rfl rfl (bool_tr e182 hc162)).trans rfl)
    obtain rfl := hs.int 0 rfl
    exact WL.nil ⟨rfl, _, rfl, rfl, hs.cutG 0 2⟩ }
    {
    intro ρ w Γx Λx hs hu hp
    have e183 : ρ 61 = .bool (!x42) := (hp 2 rfl).1
    refine WL.fieldAddr (m := 0) ((hu 3 rfl).trans ((hu86 3 rfl).trans h58_3)) FA59_0 rfl ?_ (hg := (wanted_of rfl rfl (bool_tr e183 hc162)).trans rfl)
    exact WL.nil ⟨rfl, _, rfl, rfl, hs.cutG 0 0⟩ }
    {
    intro ρ w Γx Λx hs hu hp
    have e184 : ρ 67 = .pointer (some ⟨g9, 0, none⟩) := (hp 8 rfl).1
    have e185 : ρ 61 = .bool (!x42) := (hp 2 rfl).1
    refine WL.loadF (z := x4.Server) F_api_WeightEntry_Server hs (Λx.length + 1) (getApp rfl) (Γx.length + 3) (getApp rfl) rfl TI3 (.inr rfl) e184 rfl (fun v167 hs => ?_) (hg := (wanted_of rfl rfl (bool_tr e185 hc162)).trans rfl)
    obtain rfl := hs.int 0 rfl
    exact WL.nil ⟨rfl, _, rfl, rfl, hs.cutG 0 1⟩ }
    {
    intro ρ w Γx Λx hs hu hp
    have e186 : ρ 66 = .int .i64 x163.Server := (hp 7 rfl).1
    have e187 : ρ 68 = .int .i64 x4.Server := (hp 9 rfl).1
    have e188 : ρ 61 = .bool (!x42) := (hp 2 rfl).1
    refine WL.bin (v := .bool (decide (x4.Server < x163.Server))) e186 e187 (ib_gtr _ _ _) ?_ (hg := (wanted_of rfl rfl (bool_tr e188 hc162)).trans rfl)
    exact WL.nil ⟨rfl, _, rfl, rfl, hs.cutG 0 0⟩ }
    {
    intro ρ w Γx Λx hs hu hp
    have e189 : ρ 61 = .bool (!x42) := (hp 2 rfl).1
    have e190 : ρ 69 = .bool (decide (x4.Server < x163.Server)) := (hp 10 rfl).1
    refine WL.pickT (v := .bool (decide (x4.Server < x163.Server))) (bool_tr e189 hc162) e190 ?_
    exact WL.nil ⟨rfl, _, rfl, rfl, hs.cutG 0 0⟩ }
    {
    intro ρ w hs hu191 hp
    obtain ⟨⟨⟨⟨⟨⟨⟨⟨⟨⟨⟨⟨_, hp0_⟩, hp1_⟩, hp2_⟩, hp3_⟩, hp4_⟩, hp5_⟩, hp6_⟩, hp7_⟩, hp8_⟩, hp9_⟩, hp10_⟩, hp11_⟩ := hp
    have hs : St ok (bz w0) w [pl (tInt .i64) x163.Server (adOf (ρ 65)), pl t_api_WeightEntry x163 (adOf (ρ 64)), pl (tInt .i64) x70.Server ad91, pl t_api_WeightEntry x70 ad93, vl (tSlice t_api_WeightEntry) x1 (.slice a2 x1.length c3), vl t_api_WeightEntry x4 (.agg cs6.toArray)] [own t_api_WeightEntry 59 (.slice a39 n41 c40) x38, blk g9 59 cs6] := hs
    have e192 : ρ 70 = .bool (decide (x4.Server < x163.Server)) := hp11_
    have e193 : ρ 69 = .bool (decide (x4.Server < x163.Server)) := hp10_
    have e194 : ρ 68 = .int .i64 x4.Server := hp9_
    have e195 : ρ 67 = .pointer (some ⟨g9, 0, none⟩) := hp8_
    have e196 : ρ 66 = .int .i64 x163.Server := hp7_
    obtain ⟨ad197, e198⟩ := hp6_
    have e198 : ρ 65 = .pointer (some ad197) := e198
    try rw [e198] at hs
    obtain ⟨ad199, e200⟩ := hp5_
    have e200 : ρ 64 = .pointer (some ad199) := e200
    try rw [e200] at hs
    have e201 : ρ 63 = .int .i64 x43 := hp4_
    have e202 : ρ 62 = .slice a2 x1.length c3 := hp3_
    have e203 : ρ 61 = .bool (!x42) := hp2_
    have e204 : ρ 60 = .bool (!x42) := hp1_
    have e205 : ρ 59 = .bool x42 := hp0_
    refine WA.step [12] (by kernel_rfl) (by simp) ⟨?_, trivial⟩
    refine WL.assign (v := .bool (decide (x4.Server < x163.Server))) e192 ?_
    refine WL.nil ⟨rfl, _, rfl, ?_⟩
    refine WA.done (by kernel_rfl) ?_
    exact Jk113 (decide (x4.Server < x163.Server)) _ _ ((hu191 0 rfl).trans ((hu86 0 rfl).trans h58_0)) ((hu191 3 rfl).trans ((hu86 3 rfl).trans h58_3)) ((hu191 5 rfl).trans ((hu86 5 rfl).trans h58_5)) ((hu191 6 rfl).trans ((hu86 6 rfl).trans h58_6)) ((hu191 7 rfl).trans ((hu86 7 rfl).trans h58_7)) rfl ((hs.mask [true, true]).pick [4, 5]) hf } }
    {
    refine W.any (by kernel_rfl) 12 1 [true, true, true, true, true, true, true, true, true, true, true, true, false] rfl rfl (poAt [pv (.bool x42), pv (.bool (!x42)), pv (.bool (!x42)), pv (undef), pv (undef), pv (undef), pv (undef), pv (undef), pv (undef), pv (undef), pv (undef), pv (.bool false)]) (Λ := [own t_api_WeightEntry 59 (.slice a39 n41 c40) x38, blk g9 59 cs6]) hs (by kernel_rfl) (by kernel_rfl) (by kernel_rfl) ⟨⟨⟨⟨⟨⟨⟨⟨⟨⟨⟨⟨trivial, ?_⟩, ?_⟩, ?_⟩, ?_⟩, ?_⟩, ?_⟩, ?_⟩, ?_⟩, ?_⟩, ?_⟩, ?_⟩, ?_⟩ ?_
    {
    intro ρ w Γx Λx hs hu hp
    refine WL.move (v := .bool x42) ((hu 6 rfl).trans ((hu86 6 rfl).trans h58_6)) ?_
    exact WL.nil ⟨rfl, _, rfl, rfl, hs.cutG 0 0⟩ }
    {
    intro ρ w Γx Λx hs hu hp
    have e206 : ρ 59 = .bool x42 := (hp 0 rfl).1
    refine WL.not e206 ?_
    exact WL.nil ⟨rfl, _, rfl, rfl, hs.cutG 0 0⟩ }
    {
    intro ρ w Γx Λx hs hu hp
    have e207 : ρ 60 = .bool (!x42) := (hp 1 rfl).1
    refine WL.move (v := .bool (!x42)) e207 ?_
    exact WL.nil ⟨rfl, _, rfl, rfl, hs.cutG 0 0⟩ }
    {
    intro ρ w Γx Λx hs hu hp
    have e208 : ρ 61 = .bool (!x42) := (hp 2 rfl).1
    refine WL.pass ((wanted_of rfl rfl (bool_tr e208 hc162)).trans rfl) rfl ?_
    exact WL.nil ⟨rfl, _, rfl, rfl, hs.cutG 0 0⟩ }
    {
    intro ρ w Γx Λx hs hu hp
    have e209 : ρ 61 = .bool (!x42) := (hp 2 rfl).1
    refine WL.pass ((wanted_of rfl rfl (bool_tr e209 hc162)).trans rfl) rfl ?_
    exact WL.nil ⟨rfl, _, rfl, rfl, hs.cutG 0 0⟩ }
    {
    intro ρ w Γx Λx hs hu hp
    have e210 : ρ 62 = undef := (hp 3 rfl).1
    have e211 : ρ 63 = undef := (hp 4 rfl).1
    have e212 : ρ 61 = .bool (!x42) := (hp 2 rfl).1
    refine WL.pass ((wanted_of rfl rfl (bool_tr e212 hc162)).trans rfl) rfl ?_
    exact WL.nil ⟨rfl, _, rfl, rfl, hs.cutG 0 0⟩ }
    {
    intro ρ w Γx Λx hs hu hp
    have e213 : ρ 64 = undef := (hp 5 rfl).1
    have e214 : ρ 61 = .bool (!x42) := (hp 2 rfl).1
    refine WL.pass ((wanted_of rfl rfl (bool_tr e214 hc162)).trans rfl) rfl ?_
    exact WL.nil ⟨rfl, _, rfl, rfl, hs.cutG 0 0⟩ }
    {
    intro ρ w Γx Λx hs hu hp
    have e215 : ρ 65 = undef := (hp 6 rfl).1
    have e216 : ρ 61 = .bool (!x42) := (hp 2 rfl).1
    refine WL.pass ((wanted_of rfl rfl (bool_tr e216 hc162)).trans rfl) rfl ?_
    exact WL.nil ⟨rfl, _, rfl, rfl, hs.cutG 0 0⟩ }
    {
    intro ρ w Γx Λx hs hu hp
    have e217 : ρ 61 = .bool (!x42) := (hp 2 rfl).1
    refine WL.pass ((wanted_of rfl rfl (bool_tr e217 hc162)).trans rfl) rfl ?_
    exact WL.nil ⟨rfl, _, rfl, rfl, hs.cutG 0 0⟩ }
    {
    intro ρ w Γx Λx hs hu hp
    have e218 : ρ 67 = undef := (hp 8 rfl).1
    have e219 : ρ 61 = .bool (!x42) := (hp 2 rfl).1
    refine WL.pass ((wanted_of rfl rfl (bool_tr e219 hc162)).trans rfl) rfl ?_
    exact WL.nil ⟨rfl, _, rfl, rfl, hs.cutG 0 0⟩ }
    {
    intro ρ w Γx Λx hs hu hp
    have e220 : ρ 66 = undef := (hp 7 rfl).1
    have e221 : ρ 68 = undef := (hp 9 rfl).1
    have e222 : ρ 61 = .bool (!x42) := (hp 2 rfl).1
    refine WL.pass ((wanted_of rfl rfl (bool_tr e222 hc162)).trans rfl) rfl ?_
    exact WL.nil ⟨rfl, _, rfl, rfl, hs.cutG 0 0⟩ }
    {
    intro ρ w Γx Λx hs hu hp
    have e223 : ρ 61 = .bool (!x42) := (hp 2 rfl).1
    have e224 : ρ 69 = undef := (hp 10 rfl).1
    refine WL.pickF (v := .bool false) (bool_tr e223 hc162) rfl ?_
    exact WL.nil ⟨rfl, _, rfl, rfl, hs.cutG 0 0⟩ }
    {
    intro ρ w hs hu225 hp
    obtain ⟨⟨⟨⟨⟨⟨⟨⟨⟨⟨⟨⟨_, hp0_⟩, hp1_⟩, hp2_⟩, hp3_⟩, hp4_⟩, hp5_⟩, hp6_⟩, hp7_⟩, hp8_⟩, hp9_⟩, hp10_⟩, hp11_⟩ := hp
    have hs : St ok (bz w0) w [pl (tInt .i64) x70.Server ad91, pl t_api_WeightEntry x70 ad93, vl (tSlice t_api_WeightEntry) x1 (.slice a2 x1.length c3), vl t_api_WeightEntry x4 (.agg cs6.toArray)] [own t_api_WeightEntry 59 (.slice a39 n41 c40) x38, blk g9 59 cs6] := hs
    have e226 : ρ 70 = .bool false := hp11_
    have e227 : ρ 69 = undef := hp10_
    have e228 : ρ 68 = undef := hp9_
    have e229 : ρ 67 = undef := hp8_
    have e230 : ρ 66 = undef := hp7_
    have e231 : ρ 65 = undef := hp6_
    have e232 : ρ 64 = undef := hp5_
    have e233 : ρ 63 = undef := hp4_
    have e234 : ρ 62 = undef := hp3_
    have e235 : ρ 61 = .bool (!x42) := hp2_
    have e236 : ρ 60 = .bool (!x42) := hp1_
    have e237 : ρ 59 = .bool x42 := hp0_
    refine WA.step [12] (by kernel_rfl) (by simp) ⟨?_, trivial⟩
    refine WL.assign (v := .bool false) e226 ?_
    refine WL.nil ⟨rfl, _, rfl, ?_⟩
    refine WA.done (by kernel_rfl) ?_
    exact Jk113 false _ _ ((hu225 0 rfl).trans ((hu86 0 rfl).trans h58_0)) ((hu225 3 rfl).trans ((hu86 3 rfl).trans h58_3)) ((hu225 5 rfl).trans ((hu86 5 rfl).trans h58_5)) ((hu225 6 rfl).trans ((hu86 6 rfl).trans h58_6)) ((hu225 7 rfl).trans ((hu86 7 rfl).trans h58_7)) rfl ((hs.mask [true, true]).pick [2, 3]) hf } } } } }
  obtain ⟨x238, hxx238, hf⟩ := bindE hf
  rcases iteE hf with ⟨hc243, hf⟩ | ⟨hc243, hf⟩
  {
  obtain ⟨x244, hxx244, hf⟩ := bindE hf
  obtain ⟨x249, hxx249, hf⟩ := bindE hf
  refine W.any (by kernel_rfl) 16 1 [true, true, true, true, true, true, true, true, true, true, true, true, true, true, true, true, false] rfl rfl (poAt [pv (.slice a2 x1.length c3), pv (.int .i64 x43), pq (fun y : Addr => .pointer (some y)) (fun v => [pl t_api_WeightEntry x238 (adOf v)]) (fun v => []), pq (fun y : Addr => .pointer (some y)) (fun v => [pl (tInt .i64) x238.Server (adOf v)]) (fun v => []), pv (.int .i64 x238.Server), pv (.pointer (some ⟨g9, 0, none⟩)), pv (.int .i64 x4.Server), pv (.bool (x238.Server == x4.Server)), pv (.bool (x238.Server == x4.Server)), pv (.agg cs6.toArray), pv (.slice a2 x1.length c3), pv (.int .i64 x43), pq (fun y : Addr => .pointer (some y)) (fun v => [pl t_api_WeightEntry x244 (adOf v)]) (fun v => []), pq (fun y : List Value => .agg y.toArray) (fun v => [vl t_api_WeightEntry x244 v]) (fun v => []), pv (.bool x249), pv (.bool x249)]) (Λ := [own t_api_WeightEntry 59 (.slice a39 n41 c40) x38, blk g9 59 cs6]) hs (by kernel_rfl) (by kernel_rfl) (by kernel_rfl) ⟨⟨⟨⟨⟨⟨⟨⟨⟨⟨⟨⟨⟨⟨⟨⟨trivial, ?_⟩, ?_⟩, ?_⟩, ?_⟩, ?_⟩, ?_⟩, ?_⟩, ?_⟩, ?_⟩, ?_⟩, ?_⟩, ?_⟩, ?_⟩, ?_⟩, ?_⟩, ?_⟩ ?_
  {
  intro ρ w Γx Λx hs hu hp
  refine WL.move (v := .slice a2 x1.length c3) ((hu 0 rfl).trans h37_0) ?_
  exact WL.nil ⟨rfl, _, rfl, rfl, hs.cutG 0 0⟩ }
  {
  intro ρ w Γx Λx hs hu hp
  refine WL.move (v := .int .i64 x43) ((hu 7 rfl).trans h37_7) ?_
  exact WL.nil ⟨rfl, _, rfl, rfl, hs.cutG 0 0⟩ }
  {
  intro ρ w Γx Λx hs hu hp
  have e250 : ρ 22 = .slice a2 x1.length c3 := (hp 0 rfl).1
  have e251 : ρ 23 = .int .i64 x43 := (hp 1 rfl).1
  refine WL.indexAddr hs (Γx.length + 0) (getApp rfl) UN34 TI59 e250 e251 hxx238 (fun ad239 hs => ?_)
  have hs := hs.add (it := pl t_api_WeightEntry x238 ad239) fun ok hA => hA.get 0 rfl
  exact WL.nil ⟨rfl, _, rfl, ⟨ad239, rfl⟩, hs.cutG 1 1⟩ }
  {
  intro ρ w Γx Λx hs hu hp
  obtain ⟨⟨ad252, e253r⟩, hm254⟩ := hp 2 rfl
  have e253 : ρ 24 = .pointer (some ad252) := e253r
  rw [e253r] at hm254
  have hs := hs.memo1 (it := pl t_api_WeightEntry x238 ad252) (List.mem_append.2 (.inl (hm254 _ (List.mem_of_getElem? (i := 0) rfl))))
  refine WL.fieldAddrP (z := x238.Server) F_api_WeightEntry_Server hs 0 rfl e253 FA59_0 rfl (fun ad240 hs => ?_)
  have hs := hs.add (it := pl (tInt .i64) x238.Server ad240) fun ok hA => hA.get 0 rfl
  exact WL.nil ⟨rfl, _, rfl, ⟨ad240, rfl⟩, hs.cutG 1 2⟩ }
  {
  intro ρ w Γx Λx hs hu hp
  obtain ⟨⟨ad255, e256r⟩, hm257⟩ := hp 3 rfl
  have e256 : ρ 25 = .pointer (some ad255) := e256r
  rw [e256r] at hm257
  have hs := hs.memo1 (it := pl (tInt .i64) x238.Server ad255) (List.mem_append.2 (.inl (hm257 _ (List.mem_of_getElem? (i := 0) rfl))))
  refine WL.loadP hs 0 rfl TI3 (.inr rfl) e256 (fun v241 hs => ?_)
  obtain rfl := hs.int 0 rfl
  exact WL.nil ⟨rfl, _, rfl, rfl, hs.cutG 0 2⟩ }
  {
  intro ρ w Γx Λx hs hu hp
  refine WL.fieldAddr (m := 0) ((hu 3 rfl).trans h37_3) FA59_0 rfl ?_
  exact WL.nil ⟨rfl, _, rfl, rfl, hs.cutG 0 0⟩ }
  {
  intro ρ w Γx Λx hs hu hp
  have e258 : ρ 27 = .pointer (some ⟨g9, 0, none⟩) := (hp 5 rfl).1
  refine WL.loadF (z := x4.Server) F_api_WeightEntry_Server hs (Λx.length + 1) (getApp rfl) (Γx.length + 1) (getApp rfl) rfl TI3 (.inr rfl) e258 rfl (fun v242 hs => ?_)
  obtain rfl := hs.int 0 rfl
  exact WL.nil ⟨rfl, _, rfl, rfl, hs.cutG 0 1⟩ }
  {
  intro ρ w Γx Λx hs hu hp
  have e259 : ρ 26 = .int .i64 x238.Server := (hp 4 rfl).1
  have e260 : ρ 28 = .int .i64 x4.Server := (hp 6 rfl).1
  refine WL.bin (v := .bool (x238.Server == x4.Server)) e259 e260 (ib_eql _ _ _) ?_
  exact WL.nil ⟨rfl, _, rfl, rfl, hs.cutG 0 0⟩ }
  {
  intro ρ w Γx Λx hs hu hp
  have e261 : ρ 29 = .bool (x238.Server == x4.Server) := (hp 7 rfl).1
  refine WL.move (v := .bool (x238.Server == x4.Server)) e261 ?_
  exact WL.nil ⟨rfl, _, rfl, rfl, hs.cutG 0 0⟩ }
  {
  intro ρ w Γx Λx hs hu hp
  have e262 : ρ 30 = .bool (x238.Server == x4.Server) := (hp 8 rfl).1
  refine WL.loadAll hs (Λx.length + 1) (getApp rfl) TI59 ((hu 3 rfl).trans h37_3) hl7 ?_ (hg := (wanted_of rfl rfl (bool_tr e262 hc243)).trans rfl)
  exact WL.nil ⟨rfl, _, rfl, rfl, hs.cutG 0 0⟩ }
  {
  intro ρ w Γx Λx hs hu hp
  have e263 : ρ 30 = .bool (x238.Server == x4.Server) := (hp 8 rfl).1
  refine WL.move (v := .slice a2 x1.length c3) ((hu 0 rfl).trans h37_0) ?_ (hg := (wanted_of rfl rfl (bool_tr e263 hc243)).trans rfl)
  exact WL.nil ⟨rfl, _, rfl, rfl, hs.cutG 0 0⟩ }
  {
  intro ρ w Γx Λx hs hu hp
  have e264 : ρ 30 = .bool (x238.Server == x4.Server) := (hp 8 rfl).1
  refine WL.move (v := .int .i64 x43) ((hu 7 rfl).trans h37_7) ?_ (hg := (wanted_of rfl rfl (bool_tr e264 hc243)).trans rfl)
  exact WL.nil ⟨rfl, _, rfl, rfl, hs.cutG 0 0⟩ }
  {
  intro ρ w Γx Λx hs hu hp
  have e265 : ρ 32 = .slice a2 x1.length c3 := (hp 10 rfl).1
  have e266 : ρ 33 = .int .i64 x43 := (hp 11 rfl).1
  have e267 : ρ 30 = .bool (x238.Server == x4.Server) := (hp 8 rfl).1
  refine WL.indexAddr hs (Γx.length + 0) (getApp rfl) UN34 TI59 e265 e266 hxx244 (fun ad245 hs => ?_) (hg := (wanted_of rfl rfl (bool_tr e267 hc243)).trans rfl)
  have hs := hs.add (it := pl t_api_WeightEntry x244 ad245) fun ok hA => hA.get 0 rfl
  exact WL.nil ⟨rfl, _, rfl, ⟨ad245, rfl⟩, hs.cutG 1 1⟩ }
  {
  intro ρ w Γx Λx hs hu hp
  obtain ⟨⟨ad268, e269r⟩, hm270⟩ := hp 12 rfl
  have e269 : ρ 34 = .pointer (some ad268) := e269r
  rw [e269r] at hm270
  have hs := hs.memo1 (it := pl t_api_WeightEntry x244 ad268) (List.mem_append.2 (.inl (hm270 _ (List.mem_of_getElem? (i := 0) rfl))))
  have e271 : ρ 30 = .bool (x238.Server == x4.Server) := (hp 8 rfl).1
  refine WL.loadP hs 0 rfl TI59 (.inl rfl) e269 (fun v246 hs => ?_) (hg := (wanted_of rfl rfl (bool_tr e271 hc243)).trans rfl)
  obtain ⟨cs247, hl248, rfl⟩ := hs.aggv (n := 5) 0 rfl rfl rfl
  have hs := hs.add (it := vl t_api_WeightEntry x244 (.agg cs247.toArray)) fun ok hA => hA.get 0 rfl
  exact WL.nil ⟨rfl, _, rfl, ⟨cs247, rfl⟩, hs.cutG 1 2⟩ }
  {
  intro ρ w Γx Λx hs hu hp
  have e272 : ρ 31 = .agg cs6.toArray := (hp 9 rfl).1
  obtain ⟨⟨cs273, e275r⟩, hm276⟩ := hp 13 rfl
  have e275 : ρ 35 = .agg cs273.toArray := e275r
  rw [e275r] at hm276
  have hs := hs.memo1 (it := vl t_api_WeightEntry x244 (.agg cs273.toArray)) (List.mem_append.2 (.inl (hm276 _ (List.mem_of_getElem? (i := 0) rfl))))
  have hl274 := hs.agglen (n := 5) 0 rfl rfl rfl
  have e277 : ρ 30 = .bool (x238.Server == x4.Server) := (hp 8 rfl).1
  refine WL.call (vs := [.agg cs6.toArray, .agg cs273.toArray]) hs FN46 ⟨e272, ⟨e275, trivial⟩⟩ (fun ok hA => esref10_later.calls (x1 := x4) (x5 := x244) hxx249 (hA.get (Γx.length + 1 + 1) (getApp1 rfl)) (hA.get 0 rfl)) ?_ (hg := (wanted_of rfl rfl (bool_tr e277 hc243)).trans rfl)
  rintro _ w hs
  exact WL.nil ⟨rfl, _, rfl, rfl, hs.cutG 0 1⟩ }
  {
  intro ρ w Γx Λx hs hu hp
  have e278 : ρ 30 = .bool (x238.Server == x4.Server) := (hp 8 rfl).1
  have e279 : ρ 36 = .bool x249 := (hp 14 rfl).1
  refine WL.pickT (v := .bool x249) (bool_tr e278 hc243) e279 ?_
  exact WL.nil ⟨rfl, _, rfl, rfl, hs.cutG 0 0⟩ }
  {
  intro ρ w hs hu280 hp
  obtain ⟨⟨⟨⟨⟨⟨⟨⟨⟨⟨⟨⟨⟨⟨⟨⟨_, hp0_⟩, hp1_⟩, hp2_⟩, hp3_⟩, hp4_⟩, hp5_⟩, hp6_⟩, hp7_⟩, hp8_⟩, hp9_⟩, hp10_⟩, hp11_⟩, hp12_⟩, hp13_⟩, hp14_⟩, hp15_⟩ := hp
  have hs : St ok (bz w0) w [vl t_api_WeightEntry x244 (ρ 35), pl t_api_WeightEntry x244 (adOf (ρ 34)), pl (tInt .i64) x238.Server (adOf (ρ 25)), pl t_api_WeightEntry x238 (adOf (ρ 24)), vl (tSlice t_api_WeightEntry) x1 (.slice a2 x1.length c3), vl t_api_WeightEntry x4 (.agg cs6.toArray)] [own t_api_WeightEntry 59 (.slice a39 n41 c40) x38, blk g9 59 cs6] := hs
  have e281 : ρ 37 = .bool x249 := hp15_
  have e282 : ρ 36 = .bool x249 := hp14_
  obtain ⟨cs283, e285⟩ := hp13_
  have e285 : ρ 35 = .agg cs283.toArray := e285
  try rw [e285] at hs
  obtain ⟨ad286, e287⟩ := hp12_
  have e287 : ρ 34 = .pointer (some ad286) := e287
  try rw [e287] at hs
  have e288 : ρ 33 = .int .i64 x43 := hp11_
  have e289 : ρ 32 = .slice a2 x1.length c3 := hp10_
  have e290 : ρ 31 = .agg cs6.toArray := hp9_
  have e291 : ρ 30 = .bool (x238.Server == x4.Server) := hp8_
  have e292 : ρ 29 = .bool (x238.Server == x4.Server) := hp7_
  have e293 : ρ 28 = .int .i64 x4.Server := hp6_
  have e294 : ρ 27 = .pointer (some ⟨g9, 0, none⟩) := hp5_
  have e295 : ρ 26 = .int .i64 x238.Server := hp4_
  obtain ⟨ad296, e297⟩ := hp3_
  have e297 : ρ 25 = .pointer (some ad296) := e297
  try rw [e297] at hs
  obtain ⟨ad298, e299⟩ := hp2_
  have e299 : ρ 24 = .pointer (some ad298) := e299
  try rw [e299] at hs
  have e300 : ρ 23 = .int .i64 x43 := hp1_
  have e301 : ρ 22 = .slice a2 x1.length c3 := hp0_
  have hl284 := hs.agglen (n := 5) 0 rfl rfl rfl
  refine WA.step [16] (by kernel_rfl) (by simp) ⟨?_, trivial⟩
  refine WL.assign (v := .bool x249) e281 ?_
  refine WL.nil ⟨rfl, _, rfl, ?_⟩
  refine WA.done (by kernel_rfl) ?_
  exact Jk60 x249 _ _ ((hu280 0 rfl).trans h37_0) ((hu280 3 rfl).trans h37_3) ((hu280 5 rfl).trans h37_5) ((hu280 6 rfl).trans h37_6) ((hu280 7 rfl).trans h37_7) rfl ((hs.mask [true, true]).pick [4, 5]) hf } }
  {
  refine W.any (by kernel_rfl) 16 1 [true, true, true, true, true, true, true, true, true, true, true, true, true, true, true, true, false] rfl rfl (poAt [pv (.slice a2 x1.length c3), pv (.int .i64 x43), pq (fun y : Addr => .pointer (some y)) (fun v => [pl t_api_WeightEntry x238 (adOf v)]) (fun v => []), pq (fun y : Addr => .pointer (some y)) (fun v => [pl (tInt .i64) x238.Server (adOf v)]) (fun v => []), pv (.int .i64 x238.Server), pv (.pointer (some ⟨g9, 0, none⟩)), pv (.int .i64 x4.Server), pv (.bool (x238.Server == x4.Server)), pv (.bool (x238.Server == x4.Server)), pv (undef), pv (undef), pv (undef), pv (undef), pv (undef), pv (undef), pv (.bool false)]) (Λ := [own t_api_WeightEntry 59 (.slice a39 n41 c40) x38, blk g9 59 cs6]) hs (by kernel_rfl) (by kernel_rfl) (by kernel_rfl) ⟨⟨⟨⟨⟨⟨⟨⟨⟨⟨⟨⟨⟨⟨⟨⟨trivial, ?_⟩, ?_⟩, ?_⟩, ?_⟩, ?_⟩, ?_⟩, ?_⟩, ?_⟩, ?_⟩, ?_⟩, ?_⟩, ?_⟩, ?_⟩, ?_⟩, ?_⟩, ?_⟩ ?_
  {
  intro ρ w Γx Λx hs hu hp
  refine WL.move (v := .slice a2 x1.length c3) ((hu 0 rfl).trans h37_0) ?_
  exact WL.nil ⟨rfl, _, rfl, rfl, hs.cutG 0 0⟩ }
  {
  intro ρ w Γx Λx hs hu hp
  refine WL.move (v := .int .i64 x43) ((hu 7 rfl).trans h37_7) ?_
  exact WL.nil ⟨rfl, _, rfl, rfl, hs.cutG 0 0⟩ }
  {
  intro ρ w Γx Λx hs hu hp
  have e302 : ρ 22 = .slice a2 x1.length c3 := (hp 0 rfl).1
  have e303 : ρ 23 = .int .i64 x43 := (hp 1 rfl).1
  refine WL.indexAddr hs (Γx.length + 0) (getApp rfl) UN34 TI59 e302 e303 hxx238 (fun ad239 hs => ?_)
  have hs := hs.add (it := pl t_api_WeightEntry x238 ad239) fun ok hA => hA.get 0 rfl
  exact WL.nil ⟨rfl, _, rfl, ⟨ad239, rfl⟩, hs.cutG 1 1⟩ }
  {
  intro ρ w Γx Λx hs hu hp
  obtain ⟨⟨ad304, e305r⟩, hm306⟩ := hp 2 rfl
  have e305 : ρ 24 = .pointer (some ad304) := e305r
  rw [e305r] at hm306
  have hs := hs.memo1 (it := pl t_api_WeightEntry x238 ad304) (List.mem_append.2 (.inl (hm306 _ (List.mem_of_getElem? (i := 0) rfl))))
  refine WL.fieldAddrP (z := x238.Server) F_api_WeightEntry_Server hs 0 rfl e305 FA59_0 rfl (fun ad240 hs => ?_)
  have hs := hs.add (it := pl (tInt .i64) x238.Server ad240) fun ok hA => hA.get 0 rfl
  exact WL.nil ⟨rfl, _, rfl, ⟨ad240, rfl⟩, hs.cutG 1 2⟩ }
  {
  intro ρ w Γx Λx hs hu hp
  obtain ⟨⟨ad307, e308r⟩, hm309⟩ := hp 3 rfl
  have e308 : ρ 25 = .pointer (some ad307) := e308r
  rw [e308r] at hm309
  have hs := hs.memo1 (it := pl (tInt .i64) x238.Server ad307) (List.mem_append.2 (.inl (hm309 _ (List.mem_of_getElem? (i := 0) rfl))))
  refine WL.loadP hs 0 rfl TI3 (.inr rfl) e308 (fun v241 hs => ?_)
  obtain rfl := hs.int 0 rfl
  exact WL.nil ⟨rfl, _, rfl, rfl, hs.cutG 0 2⟩ }
  {
  intro ρ w Γx Λx hs hu hp
  refine WL.fieldAddr (m := 0) ((hu 3 rfl).trans h37_3) FA59_0 rfl ?_
  exact WL.nil ⟨rfl, _, rfl, rfl, hs.cutG 0 0⟩ }
  {
  intro ρ w Γx Λx hs hu hp
  have e310 : ρ 27 = .pointer (some ⟨g9, 0, none⟩) := (hp 5 rfl).1
  refine WL.loadF (z := x4.Server) F_api_WeightEntry_Server hs (Λx.length + 1) (getApp rfl) (Γx.length + 1) (getApp rfl) rfl TI3 (.inr rfl) e310 rfl (fun v242 hs => ?_)
  obtain rfl := hs.int 0 rfl
  exact WL.nil ⟨rfl, _, rfl, rfl, hs.cutG 0 1⟩ }
  {
  intro ρ w Γx Λx hs hu hp
  have e311 : ρ 26 = .int .i64 x238.Server := (hp 4 rfl).1
  have e312 : ρ 28 = .int .i64 x4.Server := (hp 6 rfl).1
  refine WL.bin (v := .bool (x238.Server == x4.Server)) e311 e312 (ib_eql _ _ _) ?_
  exact WL.nil ⟨rfl, _, rfl, rfl, hs.cutG 0 0⟩ }
  {
  intro ρ w Γx Λx hs hu hp
  have e313 : ρ 29 = .bool (x238.Server == x4.Server) := (hp 7 rfl).1
  refine WL.move (v := .bool (x238.Server == x4.Server)) e313 ?_
  exact WL.nil ⟨rfl, _, rfl, rfl, hs.cutG 0 0⟩ }
  {
  intro ρ w Γx Λx hs hu hp
  have e314 : ρ 30 = .bool (x238.Server == x4.Server) := (hp 8 rfl).1
  refine WL.pass ((wanted_of rfl rfl (bool_tr e314 hc243)).trans rfl) rfl ?_
  exact WL.nil ⟨rfl, _, rfl, rfl, hs.cutG 0 0⟩ }
  {
  intro ρ w Γx Λx hs hu hp
  have e315 : ρ 30 = .bool (x238.Server == x4.Server) := (hp 8 rfl).1
  refine WL.pass ((wanted_of rfl rfl (bool_tr e315 hc243)).trans rfl) rfl ?_
  exact WL.nil ⟨rfl, _, rfl, rfl, hs.cutG 0 0⟩ }
  {
  intro ρ w Γx Λx hs hu hp
  have e316 : ρ 30 = .bool (x238.Server == x4.Server) := (hp 8 rfl).1
  refine WL.pass ((wanted_of rfl rfl (bool_tr e316 hc243)).trans rfl) rfl ?_
  exact WL.nil ⟨rfl, _, rfl, rfl, hs.cutG 0 0⟩ }
  {
  intro ρ w Γx Λx hs hu hp
  have e317 : ρ 32 = undef := (hp 10 rfl).1
  have e318 : ρ 33 = undef := (hp 11 rfl).1
  have e319 : ρ 30 = .bool (x238.Server == x4.Server) := (hp 8 rfl).1
  refine WL.pass ((wanted_of rfl rfl (bool_tr e319 hc243)).trans rfl) rfl ?_
  exact WL.nil ⟨rfl, _, rfl, rfl, hs.cutG 0 0⟩ }
  {
  intro ρ w Γx Λx hs hu hp
  have e320 : ρ 34 = undef := (hp 12 rfl).1
  have e321 : ρ 30 = .bool (x238.Server == x4.Server) := (hp 8 rfl).1
  refine WL.pass ((wanted_of rfl rfl (bool_tr e321 hc243)).trans rfl) rfl ?_
  exact WL.nil ⟨rfl, _, rfl, rfl, hs.cutG 0 0⟩ }
  {
  intro ρ w Γx Λx hs hu hp
  have e322 : ρ 31 = undef := (hp 9 rfl).1
  have e323 : ρ 35 = undef := (hp 13 rfl).1
  have e324 : ρ 30 = .bool (x238.Server == x4.Server) := (hp 8 rfl).1
  refine WL.pass ((wanted_of rfl rfl (bool_tr e324 hc243)).trans rfl) rfl ?_
  exact WL.nil ⟨rfl, _, rfl, rfl, hs.cutG 0 0⟩ }
  {
  intro ρ w Γx Λx hs hu hp
  have e325 : ρ 30 = .bool (x238.Server == x4.Server) := (hp 8 rfl).1
  have e326 : ρ 36 = undef := (hp 14 rfl).1
  refine WL.pickF (v := .bool false) (bool_tr e325 hc243) rfl ?_
  exact WL.nil ⟨rfl, _, rfl, rfl, hs.cutG 0 0⟩ }
  {
  intro ρ w hs hu327 hp
  obtain ⟨⟨⟨⟨⟨⟨⟨⟨⟨⟨⟨⟨⟨⟨⟨⟨_, hp0_⟩, hp1_⟩, hp2_⟩, hp3_⟩, hp4_⟩, hp5_⟩, hp6_⟩, hp7_⟩, hp8_⟩, hp9_⟩, hp10_⟩, hp11_⟩, hp12_⟩, hp13_⟩, hp14_⟩, hp15_⟩ := hp
  have hs : St ok (bz w0) w [pl (tInt .i64) x238.Server (adOf (ρ 25)), pl t_api_WeightEntry x238 (adOf (ρ 24)), vl (tSlice t_api_WeightEntry) x1 (.slice a2 x1.length c3), vl t_api_WeightEntry x4 (.agg cs6.toArray)] [own t_api_WeightEntry 59 (.slice a39 n41 c40) x38, blk g9 59 cs6] := hs
  have e328 : ρ 37 = .bool false := hp15_
  have e329 : ρ 36 = undef := hp14_
  have e330 : ρ 35 = undef := hp13_
  have e331 : ρ 34 = undef := hp12_
  have e332 : ρ 33 = undef := hp11_
  have e333 : ρ 32 = undef := hp10_
  have e334 : ρ 31 = undef := hp9_
  have e335 : ρ 30 = .bool (x238.Server == x4.Server) := hp8_
  have e336 : ρ 29 = .bool (x238.Server == x4.Server) := hp7_
  have e337 : ρ 28 = .int .i64 x4.Server := hp6_
  have e338 : ρ 27 = .pointer (some ⟨g9, 0, none⟩) := hp5_
  have e339 : ρ 26 = .int .i64 x238.Server := hp4_
  obtain ⟨ad340, e341⟩ := hp3_
  have e341 : ρ 25 = .pointer (some ad340) := e341
  try rw [e341] at hs
  obtain ⟨ad342, e343⟩ := hp2_
  have e343 : ρ 24 = .pointer (some ad342) := e343
  try rw [e343] at hs
  have e344 : ρ 23 = .int .i64 x43 := hp1_
  have e345 : ρ 22 = .slice a2 x1.length c3 := hp0_
  refine WA.step [16] (by kernel_rfl) (by simp) ⟨?_, trivial⟩
  refine WL.assign (v := .bool false) e328 ?_
  refine WL.nil ⟨rfl, _, rfl, ?_⟩
  refine WA.done (by kernel_rfl) ?_
  exact Jk60 false _ _ ((hu327 0 rfl).trans h37_0) ((hu327 3 rfl).trans h37_3) ((hu327 5 rfl).trans h37_5) ((hu327 6 rfl).trans h37_6) ((hu327 7 rfl).trans h37_7) rfl ((hs.mask [true, true]).pick [2, 3]) hf } } }
  {
  refine W.cond_false (bool_tr rfl hc47) ?_
  refine W.exit ?_
  have hr := Option.some.inj hf; subst hr
  have hr := hbbs44 _ rfl; subst hr
  have hf := hfs44
  exact Jk19 x38 x42 a39 c40 n41 _ _ h37_3 h37_5 h37_6 ((hs.mask [true, true]).pick [1]) hf }
theorem esref10_Weigh.callc {ok : Nat → Prop} {w0 : World} {x1 : List api_WeightEntry} {x4 : api_WeightEntry} {a2 : Option Addr} {c3 : Nat} {v5 : Value} {r : List api_WeightEntry} (hf : esref10_Weigh x1 x4 = some r) (i0 : (vl (tSlice t_api_WeightEntry) x1 (.slice a2 x1.length c3)).holds ok w0) (i1 : (vl t_api_WeightEntry x4 v5).holds ok w0) :
    Calls Tryd.prog 45 #[.slice a2 x1.length c3, v5] w0 fun e w' => ∃ v, e = .returned v ∧ ∃ y : (Option Addr × Nat), v = .slice y.1 r.length y.2 ∧ St ok (bz w0) w' [vl (tSlice t_api_WeightEntry) r (.slice y.1 r.length y.2)] [] := by
  refine (esref10_Weigh.calls (ok := ok) (w0 := w0) (x1 := x1) (x4 := x4) hf i0 i1).mono ?_
  rintro e w' ⟨v, rfl, ⟨a348, n349, c350⟩, rfl, hs⟩
  obtain rfl := hs.ownLen 0 rfl
  have hs := hs.freezeOwn 0 rfl
  exact ⟨_, rfl, (a348, c350), rfl, hs.pick [0]⟩
end Go.Proofs.YthfoljpjhegkmaaDoor
