import Derived.Test.YtahobbichanccaaFh
import Derived.Test.YtahobbichanccaaFp4
set_option linter.unusedVariables false
set_option linter.unusedSimpArgs false
namespace Go.Proofs.Ytahobbichanccaa
open Go Go.RowKit Go.Proofs.YtahobbichanccaaL
set_option maxRecDepth 100000
set_option maxHeartbeats 400000
/-! elasticstore/elasticstoreref36.Partition: function 36 -/
theorem esref36_Partition.calls {ok : Nat → Prop} {w0 : World} {x1 : network_Network} {x5 : List network_Side} {v2 : Value} {a6 : Option Addr} {c7 : Nat} {r : network_Network} (hf : esref36_Partition x1 x5 = some r) (i0 : (vl t_network_Network x1 v2).holds ok w0) (i1 : (vl (tSlice t_network_Side) x5 (.slice a6 x5.length c7)).holds ok w0) :
    Calls Try.prog 36 #[v2, .slice a6 x5.length c7] w0 fun e w' => ∃ v, e = .returned v ∧ ∃ y : (Option Addr × Nat × Nat) × (Option Addr × Nat), v = .agg ([.int .i64 r.Next, .slice y.1.1 y.1.2.1 y.1.2.2, .slice y.2.1 (r.Sides).length y.2.2] : List Value).toArray ∧ St ok (bz w0) w' [vl (tSlice t_network_Side) r.Sides (.slice y.2.1 (r.Sides).length y.2.2)] [own t_network_Packet 51 (.slice y.1.1 y.1.2.1 y.1.2.2) r.Packets] := by
  unfold esref36_Partition at hf
  refine calls_of_W (fn := Try.f36) (N := 89) Try.func36 rfl Try.ntmps36 rfl ?_
  have hs : St ok (bz w0) w0 [vl t_network_Network x1 v2, vl (tSlice t_network_Side) x5 (.slice a6 x5.length c7)] [] := St.init (All.cons i0 (All.cons i1 All.nil))
  clear i0 i1
  obtain ⟨cs3, hl4, rfl⟩ := hs.aggv (n := 3) 0 rfl rfl rfl
  refine W.seqK fun K8 hK8 => ?_
  refine W.region ?_
  refine WL.box (vs := cs3) hs rfl rfl (fun g9 w hs => ?_)
  refine WL.alloc hs ZV27 (fun g10 w hs => ?_)
  refine WL.nil ?_
  refine hK8 _ _ ?_
  refine W.seqK fun K11 hK11 => ?_
  refine W.region ?_
  refine WL.loadAll hs 1 rfl TI27 rfl hl4 ?_
  have hs := hs.add (it := vl (tSlice t_api_Message) [] (.slice none 0 0)) fun ok hA => V_nil
  obtain ⟨x12, hxx12, hf⟩ := bindE hf
  refine WL.call (vs := [.agg cs3.toArray, .slice none 0 0]) hs FN39 ⟨rfl, ⟨rfl, trivial⟩⟩ (fun ok hA => esref36_Send.calls (a6 := none) (c7 := 0) (x1 := x1) (x5 := []) hxx12 (hA.get 1 rfl) (hA.get 0 rfl)) ?_
  rintro ⟨⟨a13, n14, c15⟩, ⟨a16, n17, c18⟩⟩ w hs
  refine WL.alloc hs ZV27 (fun g19 w hs => ?_)
  refine WL.storeAll (vs := [.int .i64 x12.Next, .slice a13 n14 c15, .slice a16 n17 c18]) hs 0 rfl TI27 rfl rfl rfl rfl (ones_of rfl) rfl (fun w hs => ?_)
  refine WL.nil ?_
  refine hK11 _ _ ?_
  refine W.seqK fun K20 hK20 => ?_
  refine W.region ?_
  refine WL.fieldAddr (m := 2) rfl FA27_2 rfl ?_
  refine WL.store (vs := [.slice none 0 0]) (cs' := [.int .i64 x12.Next, .slice a13 n14 c15, .slice none 0 0]) hs 0 rfl TI23 rfl rfl rfl rfl (ones_of rfl) (Nat.le_of_ble_eq_true rfl) rfl (fun w hs => ?_)
  refine WL.nil ?_
  refine hK20 _ _ ?_
  refine W.seqK fun K21 hK21 => ?_
  have Jk26 : ∀ (x23 : List network_Side) (a24 : Option Addr) (c25 : Nat) (ρ : Env) (w : World), ρ 4 = .pointer (some ⟨g10, 0, none⟩) → ρ 5 = .pointer (some ⟨g19, 0, none⟩) → St ok (bz w0) w [vl (tSlice t_network_Side) x23 (.slice a24 x23.length c25)] [blk g19 27 [.int .i64 x12.Next, .slice a13 n14 c15, .slice a24 x23.length c25], own t_network_Packet 51 (.slice a13 n14 c15) x12.Packets, blk g10 27 [.int .i64 0, .slice none 0 0, .slice none 0 0]] → esref36_Partition.j1 x12 x23 = some r → K21 ρ w := by
    intro x23 a24 c25 ρ w h22_4 h22_5 hs hf
    refine hK21 _ _ ?_
    unfold esref36_Partition.j1 at hf
    refine W.seqK fun K27 hK27 => ?_
    refine W.region ?_
    refine WL.loadN (vs := [.int .i64 x12.Next, .slice a13 n14 c15, .slice a24 x23.length c25]) hs 0 rfl TI27 h22_5 rfl rfl ?_
    refine WL.storeAll (vs := [.int .i64 x12.Next, .slice a13 n14 c15, .slice a24 x23.length c25]) hs 2 rfl TI27 h22_4 rfl rfl rfl (ones_of rfl) rfl (fun w hs => ?_)
    refine WL.nil ?_
    refine hK27 _ _ ?_
    refine W.ret ?_
    have hr := Option.some.inj hf; subst hr
    exact ⟨_, resOk_one rfl (res_all hs 2 rfl TI27 h22_4 rfl), ((a13, n14, c15), (a24, c25)), rfl, (hs.mask [false, true]).pick [0]⟩
  refine W.seqK fun K28 hK28 => ?_
  refine W.region ?_
  refine WL.assign (v := .int .i64 0) rfl ?_
  refine WL.nil ?_
  refine hK28 _ _ ?_
  refine W.block ?_
  obtain ⟨bs34, hbs34, hfs34⟩ := bindE hf
  have hs := hs.add (it := vl (tSlice t_network_Side) [] (.slice none 0 0)) fun ok hA => V_nil
  refine W.loop hbs34 (fun s ρ w => match s with | (x30, x31) => ∃ (a32 : Option Addr), ∃ (c33 : Nat), ρ 1 = .slice a6 x5.length c7 ∧ ρ 4 = .pointer (some ⟨g10, 0, none⟩) ∧ ρ 5 = .pointer (some ⟨g19, 0, none⟩) ∧ ρ 6 = .int .i64 x30 ∧ St ok (bz w0) w [vl (tSlice t_network_Side) x5 (.slice a6 x5.length c7), vl (tSlice t_network_Side) x31 (.slice a32 x31.length c33)] [blk g19 27 [.int .i64 x12.Next, .slice a13 n14 c15, .slice a32 x31.length c33], own t_network_Packet 51 (.slice a13 n14 c15) x12.Packets, blk g10 27 [.int .i64 0, .slice none 0 0, .slice none 0 0]]) ⟨none, 0, rfl, rfl, rfl, rfl, (hs.mask [true, true, false, true]).pick [3, 0]⟩ ?_
  intro s ρ w os34 hI hf hbbs34
  obtain ⟨x30, x31⟩ := s
  obtain ⟨a32, c33, h29_1, h29_4, h29_5, h29_6, hs⟩ := hI
  unfold esref36_Partition.l3 at hf
  refine W.seqK fun K35 hK35 => ?_
  refine W.seqK fun K36 hK36 => ?_
  refine W.region ?_
  refine WL.move (v := .int .i64 x30) h29_6 ?_
  refine WL.move (v := .slice a6 x5.length c7) h29_1 ?_
  refine WL.len (v := .slice a6 x5.length c7) rfl (len_slice UN23) ?_
  refine WL.bin (v := .bool (decide (x30 < (x5.length : Int)))) rfl rfl (ib_lss _ _ _) ?_
  refine WL.nil ?_
  refine hK36 _ _ ?_
  rcases iteE hf with ⟨hc37, hf⟩ | ⟨hc37, hf⟩
  · refine W.cond_true (bool_tr rfl hc37) ?_
    refine W.skip ?_
    refine hK35 _ _ ?_
    refine W.seqK fun K38 hK38 => ?_
    have Jk43 : ∀ (x40 : List network_Side) (a41 : Option Addr) (c42 : Nat) (ρ : Env) (w : World), ρ 1 = .slice a6 x5.length c7 → ρ 4 = .pointer (some ⟨g10, 0, none⟩) → ρ 5 = .pointer (some ⟨g19, 0, none⟩) → ρ 6 = .int .i64 x30 → St ok (bz w0) w [vl (tSlice t_network_Side) x5 (.slice a6 x5.length c7), vl (tSlice t_network_Side) x40 (.slice a41 x40.length c42)] [blk g19 27 [.int .i64 x12.Next, .slice a13 n14 c15, .slice a41 x40.length c42], own t_network_Packet 51 (.slice a13 n14 c15) x12.Packets, blk g10 27 [.int .i64 0, .slice none 0 0, .slice none 0 0]] → esref36_Partition.j2 x30 x40 = some os34 → K38 ρ w := by
      intro x40 a41 c42 ρ w h39_1 h39_4 h39_5 h39_6 hs hf
      refine hK38 _ _ ?_
      unfold esref36_Partition.j2 at hf
      refine W.region ?_
      refine WL.move (v := .int .i64 x30) h39_6 ?_
      obtain ⟨x44, ex44, hf⟩ := letE hf
      refine WL.bin (v := .int .i64 x44) rfl rfl (ib_as ex44 (ib_add _ _ _)) ?_
      refine WL.assign (v := .int .i64 x44) rfl ?_
      refine WL.nil ?_
      exact ⟨_, (Option.some.inj hf).symm, a41, c42, h39_1, h39_4, h39_5, rfl, (hs.mask [true, true, true]).pick [0, 1]⟩
    refine W.block ?_
    refine W.seqK fun K45 hK45 => ?_
    refine W.region ?_
    refine WL.assign (v := .slice none 0 0) rfl ?_
    refine WL.nil ?_
    refine hK45 _ _ ?_
    refine W.seqK fun K46 hK46 => ?_
    have hs := hs.ownNil t_network_Side 69
    have Jk52 : ∀ (x48 : List network_Side) (a49 : Option Addr) (c50 : Nat) (n51 : Nat) (ρ : Env) (w : World), ρ 1 = .slice a6 x5.length c7 → ρ 4 = .pointer (some ⟨g10, 0, none⟩) → ρ 5 = .pointer (some ⟨g19, 0, none⟩) → ρ 6 = .int .i64 x30 → ρ 7 = .slice a49 n51 c50 → St ok (bz w0) w [vl (tSlice t_network_Side) x5 (.slice a6 x5.length c7), vl (tSlice t_network_Side) x31 (.slice a32 x31.length c33)] [own t_network_Side 69 (.slice a49 n51 c50) x48, blk g19 27 [.int .i64 x12.Next, .slice a13 n14 c15, .slice a32 x31.length c33], own t_network_Packet 51 (.slice a13 n14 c15) x12.Packets, blk g10 27 [.int .i64 0, .slice none 0 0, .slice none 0 0]] → esref36_Partition.j6 x5 x30 x31 x48 = some os34 → K46 ρ w := by
      intro x48 a49 c50 n51 ρ w h47_1 h47_4 h47_5 h47_6 h47_7 hs hf
      refine hK46 _ _ ?_
      unfold esref36_Partition.j6 at hf
      refine W.seqK fun K53 hK53 => ?_
      have Jk59 : ∀ (x55 : List network_Side) (a56 : Option Addr) (c57 : Nat) (n58 : Nat) (ρ : Env) (w : World), ρ 1 = .slice a6 x5.length c7 → ρ 4 = .pointer (some ⟨g10, 0, none⟩) → ρ 5 = .pointer (some ⟨g19, 0, none⟩) → ρ 6 = .int .i64 x30 → ρ 7 = .slice a56 n58 c57 → St ok (bz w0) w [vl (tSlice t_network_Side) x5 (.slice a6 x5.length c7), vl (tSlice t_network_Side) x31 (.slice a32 x31.length c33)] [own t_network_Side 69 (.slice a56 n58 c57) x55, blk g19 27 [.int .i64 x12.Next, .slice a13 n14 c15, .slice a32 x31.length c33], own t_network_Packet 51 (.slice a13 n14 c15) x12.Packets, blk g10 27 [.int .i64 0, .slice none 0 0, .slice none 0 0]] → esref36_Partition.j5 x5 x30 x31 x55 = some os34 → K53 ρ w := by
        intro x55 a56 c57 n58 ρ w h54_1 h54_4 h54_5 h54_6 h54_7 hs hf
        refine hK53 _ _ ?_
        unfold esref36_Partition.j5 at hf
        refine W.seqK fun K60 hK60 => ?_
        have Jk66 : ∀ (x62 : List network_Side) (a63 : Option Addr) (c64 : Nat) (n65 : Nat) (ρ : Env) (w : World), ρ 1 = .slice a6 x5.length c7 → ρ 4 = .pointer (some ⟨g10, 0, none⟩) → ρ 5 = .pointer (some ⟨g19, 0, none⟩) → ρ 6 = .int .i64 x30 → ρ 7 = .slice a63 n65 c64 → St ok (bz w0) w [vl (tSlice t_network_Side) x5 (.slice a6 x5.length c7), vl (tSlice t_network_Side) x31 (.slice a32 x31.length c33)] [own t_network_Side 69 (.slice a63 n65 c64) x62, blk g19 27 [.int .i64 x12.Next, .slice a13 n14 c15, .slice a32 x31.length c33], own t_network_Packet 51 (.slice a13 n14 c15) x12.Packets, blk g10 27 [.int .i64 0, .slice none 0 0, .slice none 0 0]] → esref36_Partition.j3 x30 x62 = some os34 → K60 ρ w := by
          intro x62 a63 c64 n65 ρ w h61_1 h61_4 h61_5 h61_6 h61_7 hs hf
          refine hK60 _ _ ?_
          unfold esref36_Partition.j3 at hf
          refine W.region ?_
          refine WL.move (v := .slice a63 n65 c64) h61_7 ?_
          refine WL.fieldAddr (m := 2) h61_5 FA27_2 rfl ?_
          refine WL.store (vs := [.slice a63 n65 c64]) (cs' := [.int .i64 x12.Next, .slice a13 n14 c15, .slice a63 n65 c64]) hs 1 rfl TI23 rfl rfl rfl rfl (ones_of rfl) (Nat.le_of_ble_eq_true rfl) rfl (fun w hs => ?_)
          refine WL.nil ?_
          obtain rfl := hs.ownLen 0 rfl
          have hs := hs.freezeOwn 0 rfl
          exact Jk43 x62 a63 c64 _ _ h61_1 h61_4 h61_5 h61_6 ((hs.mask [true, true, true]).pick [1, 0]) hf
        refine W.seqK fun K67 hK67 => ?_
        refine W.region ?_
        refine WL.assign (v := .int .i64 0) rfl ?_
        refine WL.nil ?_
        refine hK67 _ _ ?_
        refine W.block ?_
        obtain ⟨bs74, hbs74, hfs74⟩ := bindE hf
        refine W.loop hbs74 (fun s ρ w => match s with | (x69, x73) => ∃ (a70 : Option Addr), ∃ (c71 : Nat), ∃ (n72 : Nat), ρ 1 = .slice a6 x5.length c7 ∧ ρ 4 = .pointer (some ⟨g10, 0, none⟩) ∧ ρ 5 = .pointer (some ⟨g19, 0, none⟩) ∧ ρ 6 = .int .i64 x30 ∧ ρ 7 = .slice a70 n72 c71 ∧ ρ 9 = .int .i64 x73 ∧ St ok (bz w0) w [vl (tSlice t_network_Side) x5 (.slice a6 x5.length c7), vl (tSlice t_network_Side) x31 (.slice a32 x31.length c33)] [own t_network_Side 69 (.slice a70 n72 c71) x69, blk g19 27 [.int .i64 x12.Next, .slice a13 n14 c15, .slice a32 x31.length c33], own t_network_Packet 51 (.slice a13 n14 c15) x12.Packets, blk g10 27 [.int .i64 0, .slice none 0 0, .slice none 0 0]]) ⟨a56, c57, n58, h54_1, h54_4, h54_5, h54_6, h54_7, rfl, (hs.mask [true, true, true, true]).pick [0, 1]⟩ ?_
        intro s ρ w os74 hI hf hbbs74
        obtain ⟨x69, x73⟩ := s
        obtain ⟨a70, c71, n72, h68_1, h68_4, h68_5, h68_6, h68_7, h68_9, hs⟩ := hI
        unfold esref36_Partition.l1 at hf
        refine W.seqK fun K75 hK75 => ?_
        refine W.seqK fun K76 hK76 => ?_
        refine W.region ?_
        refine WL.move (v := .int .i64 x73) h68_9 ?_
        refine WL.fieldAddr (m := 2) h68_5 FA27_2 rfl ?_
        refine WL.load1 (v := .slice a32 x31.length c33) hs 1 rfl TI23 rfl rfl ?_
        refine WL.len (v := .slice a32 x31.length c33) rfl (len_slice UN23) ?_
        refine WL.bin (v := .bool (decide (x73 < (x31.length : Int)))) rfl rfl (ib_lss _ _ _) ?_
        refine WL.nil ?_
        refine hK76 _ _ ?_
        rcases iteE hf with ⟨hc77, hf⟩ | ⟨hc77, hf⟩
        · refine W.cond_true (bool_tr rfl hc77) ?_
          refine W.skip ?_
          refine hK75 _ _ ?_
          refine W.seqK fun K78 hK78 => ?_
          have Jk84 : ∀ (x80 : List network_Side) (a81 : Option Addr) (c82 : Nat) (n83 : Nat) (ρ : Env) (w : World), ρ 1 = .slice a6 x5.length c7 → ρ 4 = .pointer (some ⟨g10, 0, none⟩) → ρ 5 = .pointer (some ⟨g19, 0, none⟩) → ρ 6 = .int .i64 x30 → ρ 7 = .slice a81 n83 c82 → ρ 9 = .int .i64 x73 → St ok (bz w0) w [vl (tSlice t_network_Side) x5 (.slice a6 x5.length c7), vl (tSlice t_network_Side) x31 (.slice a32 x31.length c33)] [own t_network_Side 69 (.slice a81 n83 c82) x80, blk g19 27 [.int .i64 x12.Next, .slice a13 n14 c15, .slice a32 x31.length c33], own t_network_Packet 51 (.slice a13 n14 c15) x12.Packets, blk g10 27 [.int .i64 0, .slice none 0 0, .slice none 0 0]] → esref36_Partition.j4 x73 x80 = some os74 → K78 ρ w := by
            intro x80 a81 c82 n83 ρ w h79_1 h79_4 h79_5 h79_6 h79_7 h79_9 hs hf
            refine hK78 _ _ ?_
            unfold esref36_Partition.j4 at hf
            refine W.region ?_
            refine WL.move (v := .int .i64 x73) h79_9 ?_
            obtain ⟨x85, ex85, hf⟩ := letE hf
            refine WL.bin (v := .int .i64 x85) rfl rfl (ib_as ex85 (ib_add _ _ _)) ?_
            refine WL.assign (v := .int .i64 x85) rfl ?_
            refine WL.nil ?_
            exact ⟨_, (Option.some.inj hf).symm, a81, c82, n83, h79_1, h79_4, h79_5, h79_6, h79_7, rfl, (hs.mask [true, true, true, true]).pick [0, 1]⟩
          refine W.block ?_
          refine W.seqK fun K86 hK86 => ?_
          obtain ⟨x87, hxx87, hf⟩ := bindE hf
          obtain ⟨x91, hxx91, hf⟩ := bindE hf
          refine W.any (by kernel_rfl) 12 0 [true, true, true, true, true, true, true, true, true, true, true, true] rfl rfl (poAt [pv (.pointer (some ⟨g19, 2, none⟩)), pv (.slice a32 x31.length c33), pv (.int .i64 x73), pq (fun y : Addr => .pointer (some y)) (fun v => [pl t_network_Side x87 (adOf v)]) (fun v => []), pq (fun y : Addr => .pointer (some y)) (fun v => [pl (tInt .i64) x87.Process (adOf v)]) (fun v => []), pv (.int .i64 x87.Process), pv (.slice a6 x5.length c7), pv (.int .i64 x30), pq (fun y : Addr => .pointer (some y)) (fun v => [pl t_network_Side x91 (adOf v)]) (fun v => []), pq (fun y : Addr => .pointer (some y)) (fun v => [pl (tInt .i64) x91.Process (adOf v)]) (fun v => []), pv (.int .i64 x91.Process), pv (.bool (decide (x91.Process < x87.Process)))]) (Λ := [own t_network_Side 69 (.slice a70 n72 c71) x69, blk g19 27 [.int .i64 x12.Next, .slice a13 n14 c15, .slice a32 x31.length c33], own t_network_Packet 51 (.slice a13 n14 c15) x12.Packets, blk g10 27 [.int .i64 0, .slice none 0 0, .slice none 0 0]]) hs (by kernel_rfl) (by kernel_rfl) (by kernel_rfl) ⟨⟨⟨⟨⟨⟨⟨⟨⟨⟨⟨⟨trivial, ?_⟩, ?_⟩, ?_⟩, ?_⟩, ?_⟩, ?_⟩, ?_⟩, ?_⟩, ?_⟩, ?_⟩, ?_⟩, ?_⟩ ?_
          · intro ρ w Γx Λx hs hu hp
            refine WL.fieldAddr (m := 2) ((hu 5 rfl).trans h68_5) FA27_2 rfl ?_
            exact WL.nil ⟨rfl, _, rfl, rfl, hs.cutG 0 0⟩
          · intro ρ w Γx Λx hs hu hp
            have e95 : ρ 66 = .pointer (some ⟨g19, 2, none⟩) := (hp 0 rfl).1
            refine WL.load1 (v := .slice a32 x31.length c33) hs (Λx.length + 1) (getApp rfl) TI23 e95 rfl ?_
            exact WL.nil ⟨rfl, _, rfl, rfl, hs.cutG 0 0⟩
          · intro ρ w Γx Λx hs hu hp
            refine WL.move (v := .int .i64 x73) ((hu 9 rfl).trans h68_9) ?_
            exact WL.nil ⟨rfl, _, rfl, rfl, hs.cutG 0 0⟩
          · intro ρ w Γx Λx hs hu hp
            have e96 : ρ 67 = .slice a32 x31.length c33 := (hp 1 rfl).1
            have e97 : ρ 68 = .int .i64 x73 := (hp 2 rfl).1
            refine WL.indexAddr hs (Γx.length + 1) (getApp rfl) UN23 TI69 e96 e97 hxx87 (fun ad88 hs => ?_)
            have hs := hs.add (it := pl t_network_Side x87 ad88) fun ok hA => hA.get 0 rfl
            exact WL.nil ⟨rfl, _, rfl, ⟨ad88, rfl⟩, hs.cutG 1 1⟩
          · intro ρ w Γx Λx hs hu hp
            obtain ⟨⟨ad98, e99r⟩, hm100⟩ := hp 3 rfl
            have e99 : ρ 69 = .pointer (some ad98) := e99r
            rw [e99r] at hm100
            have hs := hs.memo1 (it := pl t_network_Side x87 ad98) (List.mem_append.2 (.inl (hm100 _ (List.mem_of_getElem? (i := 0) rfl))))
            refine WL.fieldAddrP (z := x87.Process) F_network_Side_Process hs 0 rfl e99 FA69_0 rfl (fun ad89 hs => ?_)
            have hs := hs.add (it := pl (tInt .i64) x87.Process ad89) fun ok hA => hA.get 0 rfl
            exact WL.nil ⟨rfl, _, rfl, ⟨ad89, rfl⟩, hs.cutG 1 2⟩
          · intro ρ w Γx Λx hs hu hp
            obtain ⟨⟨ad101, e102r⟩, hm103⟩ := hp 4 rfl
            have e102 : ρ 70 = .pointer (some ad101) := e102r
            rw [e102r] at hm103
            have hs := hs.memo1 (it := pl (tInt .i64) x87.Process ad101) (List.mem_append.2 (.inl (hm103 _ (List.mem_of_getElem? (i := 0) rfl))))
            refine WL.loadP hs 0 rfl TI3 (.inr rfl) e102 (fun v90 hs => ?_)
            obtain rfl := hs.int 0 rfl
            exact WL.nil ⟨rfl, _, rfl, rfl, hs.cutG 0 2⟩
          · intro ρ w Γx Λx hs hu hp
            refine WL.move (v := .slice a6 x5.length c7) ((hu 1 rfl).trans h68_1) ?_
            exact WL.nil ⟨rfl, _, rfl, rfl, hs.cutG 0 0⟩
          · intro ρ w Γx Λx hs hu hp
            refine WL.move (v := .int .i64 x30) ((hu 6 rfl).trans h68_6) ?_
            exact WL.nil ⟨rfl, _, rfl, rfl, hs.cutG 0 0⟩
          · intro ρ w Γx Λx hs hu hp
            have e104 : ρ 72 = .slice a6 x5.length c7 := (hp 6 rfl).1
            have e105 : ρ 73 = .int .i64 x30 := (hp 7 rfl).1
            refine WL.indexAddr hs (Γx.length + 0) (getApp rfl) UN23 TI69 e104 e105 hxx91 (fun ad92 hs => ?_)
            have hs := hs.add (it := pl t_network_Side x91 ad92) fun ok hA => hA.get 0 rfl
            exact WL.nil ⟨rfl, _, rfl, ⟨ad92, rfl⟩, hs.cutG 1 1⟩
          · intro ρ w Γx Λx hs hu hp
            obtain ⟨⟨ad106, e107r⟩, hm108⟩ := hp 8 rfl
            have e107 : ρ 74 = .pointer (some ad106) := e107r
            rw [e107r] at hm108
            have hs := hs.memo1 (it := pl t_network_Side x91 ad106) (List.mem_append.2 (.inl (hm108 _ (List.mem_of_getElem? (i := 0) rfl))))
            refine WL.fieldAddrP (z := x91.Process) F_network_Side_Process hs 0 rfl e107 FA69_0 rfl (fun ad93 hs => ?_)
            have hs := hs.add (it := pl (tInt .i64) x91.Process ad93) fun ok hA => hA.get 0 rfl
            exact WL.nil ⟨rfl, _, rfl, ⟨ad93, rfl⟩, hs.cutG 1 2⟩
          · intro ρ w Γx Λx hs hu hp
            obtain ⟨⟨ad109, e110r⟩, hm111⟩ := hp 9 rfl
            have e110 : ρ 75 = .pointer (some ad109) := e110r
            rw [e110r] at hm111
            have hs := hs.memo1 (it := pl (tInt .i64) x91.Process ad109) (List.mem_append.2 (.inl (hm111 _ (List.mem_of_getElem? (i := 0) rfl))))
            refine WL.loadP hs 0 rfl TI3 (.inr rfl) e110 (fun v94 hs => ?_)
            obtain rfl := hs.int 0 rfl
            exact WL.nil ⟨rfl, _, rfl, rfl, hs.cutG 0 2⟩
          · intro ρ w Γx Λx hs hu hp
            have e112 : ρ 71 = .int .i64 x87.Process := (hp 5 rfl).1
            have e113 : ρ 76 = .int .i64 x91.Process := (hp 10 rfl).1
            refine WL.bin (v := .bool (decide (x91.Process < x87.Process))) e112 e113 (ib_gtr _ _ _) ?_
            exact WL.nil ⟨rfl, _, rfl, rfl, hs.cutG 0 0⟩
          · intro ρ w hs hu114 hp
            obtain ⟨⟨⟨⟨⟨⟨⟨⟨⟨⟨⟨⟨_, hp0_⟩, hp1_⟩, hp2_⟩, hp3_⟩, hp4_⟩, hp5_⟩, hp6_⟩, hp7_⟩, hp8_⟩, hp9_⟩, hp10_⟩, hp11_⟩ := hp
            have hs : St ok (bz w0) w [pl (tInt .i64) x91.Process (adOf (ρ 75)), pl t_network_Side x91 (adOf (ρ 74)), pl (tInt .i64) x87.Process (adOf (ρ 70)), pl t_network_Side x87 (adOf (ρ 69)), vl (tSlice t_network_Side) x5 (.slice a6 x5.length c7), vl (tSlice t_network_Side) x31 (.slice a32 x31.length c33)] [own t_network_Side 69 (.slice a70 n72 c71) x69, blk g19 27 [.int .i64 x12.Next, .slice a13 n14 c15, .slice a32 x31.length c33], own t_network_Packet 51 (.slice a13 n14 c15) x12.Packets, blk g10 27 [.int .i64 0, .slice none 0 0, .slice none 0 0]] := hs
            have e115 : ρ 77 = .bool (decide (x91.Process < x87.Process)) := hp11_
            have e116 : ρ 76 = .int .i64 x91.Process := hp10_
            obtain ⟨ad117, e118⟩ := hp9_
            have e118 : ρ 75 = .pointer (some ad117) := e118
            try rw [e118] at hs
            obtain ⟨ad119, e120⟩ := hp8_
            have e120 : ρ 74 = .pointer (some ad119) := e120
            try rw [e120] at hs
            have e121 : ρ 73 = .int .i64 x30 := hp7_
            have e122 : ρ 72 = .slice a6 x5.length c7 := hp6_
            have e123 : ρ 71 = .int .i64 x87.Process := hp5_
            obtain ⟨ad124, e125⟩ := hp4_
            have e125 : ρ 70 = .pointer (some ad124) := e125
            try rw [e125] at hs
            obtain ⟨ad126, e127⟩ := hp3_
            have e127 : ρ 69 = .pointer (some ad126) := e127
            try rw [e127] at hs
            have e128 : ρ 68 = .int .i64 x73 := hp2_
            have e129 : ρ 67 = .slice a32 x31.length c33 := hp1_
            have e130 : ρ 66 = .pointer (some ⟨g19, 2, none⟩) := hp0_
            refine WA.done (by kernel_rfl) ?_
            refine hK86 _ _ ?_
            rcases iteE hf with ⟨hc131, hf⟩ | ⟨hc131, hf⟩
            · refine W.cond_true (bool_tr e115 hc131) ?_
              refine W.region ?_
              refine WL.move (v := .slice a70 n72 c71) ((hu114 7 rfl).trans h68_7) ?_
              refine WL.fieldAddr (m := 2) ((hu114 5 rfl).trans h68_5) FA27_2 rfl ?_
              refine WL.load1 (v := .slice a32 x31.length c33) hs 1 rfl TI23 rfl rfl ?_
              refine WL.move (v := .int .i64 x73) ((hu114 9 rfl).trans h68_9) ?_
              obtain ⟨x132, hxx132, hf⟩ := bindE hf
              refine WL.indexAddr hs 5 rfl UN23 TI69 rfl rfl hxx132 (fun ad133 hs => ?_)
              refine WL.loadP hs 0 rfl TI69 (.inl rfl) rfl (fun v134 hs => ?_)
              obtain ⟨cs135, hl136, rfl⟩ := hs.aggv (n := 2) 0 rfl rfl rfl
              refine WL.buildSlice (n := 1) (vs := [(0, .agg cs135.toArray)]) (cs := cs135) hs ⟨⟨rfl, rfl⟩, trivial⟩ (bls PS23 (by decide) (by simp [fillS, fillL, Value.cells, hl136])) (fun g137 w hs => ?_)
              obtain ⟨x138, hxx138, hf⟩ := bindE hf
              obtain ⟨hbx138, hex138⟩ := appE hxx138
              refine WL.append (ys := [x132]) (zs := x138) hs 1 rfl 0 rfl UN23 EI69 rfl rfl (fun ok hA => (Cells.one (T := t_network_Side) (R_agg (hA.get 0 rfl) rfl))) hbx138 (by omega) hex138 (fun v139 w hs => ?_)
              obtain ⟨a140, n142, c141, rfl⟩ := hs.ownv3 1 rfl
              refine WL.assign (v := .slice a140 n142 c141) rfl ?_
              refine WL.nil ?_
              exact Jk84 x138 a140 c141 n142 _ _ ((hu114 1 rfl).trans h68_1) ((hu114 4 rfl).trans h68_4) ((hu114 5 rfl).trans h68_5) ((hu114 6 rfl).trans h68_6) rfl ((hu114 9 rfl).trans h68_9) ((hs.mask [false, true, true, true, true]).pick [6, 7]) hf
            · refine W.cond_false (bool_tr e115 hc131) ?_
              refine W.skip ?_
              exact Jk84 x69 a70 c71 n72 _ _ ((hu114 1 rfl).trans h68_1) ((hu114 4 rfl).trans h68_4) ((hu114 5 rfl).trans h68_5) ((hu114 6 rfl).trans h68_6) ((hu114 7 rfl).trans h68_7) ((hu114 9 rfl).trans h68_9) ((hs.mask [true, true, true, true]).pick [4, 5]) hf
        · refine W.cond_false (bool_tr rfl hc77) ?_
          refine W.exit ?_
          have hr := Option.some.inj hf; subst hr
          have hr := hbbs74 _ rfl; subst hr
          have hf := hfs74
          exact Jk66 x69 a70 c71 n72 _ _ h68_1 h68_4 h68_5 h68_6 h68_7 ((hs.mask [true, true, true, true]).pick [0, 1]) hf
      refine W.seqK fun K144 hK144 => ?_
      refine W.region ?_
      refine WL.move (v := .slice a6 x5.length c7) h47_1 ?_
      refine WL.move (v := .int .i64 x30) h47_6 ?_
      obtain ⟨x145, hxx145, hf⟩ := bindE hf
      refine WL.indexAddr hs 0 rfl UN23 TI69 rfl rfl hxx145 (fun ad146 hs => ?_)
      refine WL.fieldAddrP (z := x145.Side) F_network_Side_Side hs 0 rfl rfl FA69_1 rfl (fun ad147 hs => ?_)
      refine WL.loadP hs 0 rfl TI3 (.inr rfl) rfl (fun v148 hs => ?_)
      obtain rfl := hs.int 0 rfl
      refine WL.bin (v := .bool (x145.Side != 0)) rfl rfl (ib_neq _ _ _) ?_
      refine WL.nil ?_
      refine hK144 _ _ ?_
      rcases iteE hf with ⟨hc149, hf⟩ | ⟨hc149, hf⟩
      · refine W.cond_true (bool_tr rfl hc149) ?_
        refine W.region ?_
        refine WL.move (v := .slice a49 n51 c50) h47_7 ?_
        refine WL.move (v := .slice a6 x5.length c7) h47_1 ?_
        refine WL.move (v := .int .i64 x30) h47_6 ?_
        obtain ⟨x150, hxx150, hf⟩ := bindE hf
        refine WL.indexAddr hs 3 rfl UN23 TI69 rfl rfl hxx150 (fun ad151 hs => ?_)
        refine WL.loadP hs 0 rfl TI69 (.inl rfl) rfl (fun v152 hs => ?_)
        obtain ⟨cs153, hl154, rfl⟩ := hs.aggv (n := 2) 0 rfl rfl rfl
        refine WL.buildSlice (n := 1) (vs := [(0, .agg cs153.toArray)]) (cs := cs153) hs ⟨⟨rfl, rfl⟩, trivial⟩ (bls PS23 (by decide) (by simp [fillS, fillL, Value.cells, hl154])) (fun g155 w hs => ?_)
        obtain ⟨x156, hxx156, hf⟩ := bindE hf
        obtain ⟨hbx156, hex156⟩ := appE hxx156
        refine WL.append (ys := [x150]) (zs := x156) hs 1 rfl 0 rfl UN23 EI69 rfl rfl (fun ok hA => (Cells.one (T := t_network_Side) (R_agg (hA.get 0 rfl) rfl))) hbx156 (by omega) hex156 (fun v157 w hs => ?_)
        obtain ⟨a158, n160, c159, rfl⟩ := hs.ownv3 1 rfl
        refine WL.assign (v := .slice a158 n160 c159) rfl ?_
        refine WL.nil ?_
        exact Jk59 x156 a158 c159 n160 _ _ h47_1 h47_4 h47_5 h47_6 rfl ((hs.mask [false, true, true, true, true]).pick [5, 6]) hf
      · refine W.cond_false (bool_tr rfl hc149) ?_
        refine W.skip ?_
        exact Jk59 x48 a49 c50 n51 _ _ h47_1 h47_4 h47_5 h47_6 h47_7 ((hs.mask [true, true, true, true]).pick [3, 4]) hf
    refine W.seqK fun K161 hK161 => ?_
    refine W.region ?_
    refine WL.assign (v := .int .i64 0) rfl ?_
    refine WL.nil ?_
    refine hK161 _ _ ?_
    refine W.block ?_
    obtain ⟨bs168, hbs168, hfs168⟩ := bindE hf
    refine W.loop hbs168 (fun s ρ w => match s with | (x163, x167) => ∃ (a164 : Option Addr), ∃ (c165 : Nat), ∃ (n166 : Nat), ρ 1 = .slice a6 x5.length c7 ∧ ρ 4 = .pointer (some ⟨g10, 0, none⟩) ∧ ρ 5 = .pointer (some ⟨g19, 0, none⟩) ∧ ρ 6 = .int .i64 x30 ∧ ρ 7 = .slice a164 n166 c165 ∧ ρ 8 = .int .i64 x167 ∧ St ok (bz w0) w [vl (tSlice t_network_Side) x5 (.slice a6 x5.length c7), vl (tSlice t_network_Side) x31 (.slice a32 x31.length c33)] [own t_network_Side 69 (.slice a164 n166 c165) x163, blk g19 27 [.int .i64 x12.Next, .slice a13 n14 c15, .slice a32 x31.length c33], own t_network_Packet 51 (.slice a13 n14 c15) x12.Packets, blk g10 27 [.int .i64 0, .slice none 0 0, .slice none 0 0]]) ⟨none, 0, 0, h29_1, h29_4, h29_5, h29_6, rfl, rfl, (hs.mask [true, true, true, true]).pick [0, 1]⟩ ?_
    intro s ρ w os168 hI hf hbbs168
    obtain ⟨x163, x167⟩ := s
    obtain ⟨a164, c165, n166, h162_1, h162_4, h162_5, h162_6, h162_7, h162_8, hs⟩ := hI
    unfold esref36_Partition.l2 at hf
    refine W.seqK fun K169 hK169 => ?_
    refine W.seqK fun K170 hK170 => ?_
    refine W.region ?_
    refine WL.move (v := .int .i64 x167) h162_8 ?_
    refine WL.fieldAddr (m := 2) h162_5 FA27_2 rfl ?_
    refine WL.load1 (v := .slice a32 x31.length c33) hs 1 rfl TI23 rfl rfl ?_
    refine WL.len (v := .slice a32 x31.length c33) rfl (len_slice UN23) ?_
    refine WL.bin (v := .bool (decide (x167 < (x31.length : Int)))) rfl rfl (ib_lss _ _ _) ?_
    refine WL.nil ?_
    refine hK170 _ _ ?_
    rcases iteE hf with ⟨hc171, hf⟩ | ⟨hc171, hf⟩
    · refine W.cond_true (bool_tr rfl hc171) ?_
      refine W.skip ?_
      refine hK169 _ _ ?_
      refine W.seqK fun K172 hK172 => ?_
      have Jk178 : ∀ (x174 : List network_Side) (a175 : Option Addr) (c176 : Nat) (n177 : Nat) (ρ : Env) (w : World), ρ 1 = .slice a6 x5.length c7 → ρ 4 = .pointer (some ⟨g10, 0, none⟩) → ρ 5 = .pointer (some ⟨g19, 0, none⟩) → ρ 6 = .int .i64 x30 → ρ 7 = .slice a175 n177 c176 → ρ 8 = .int .i64 x167 → St ok (bz w0) w [vl (tSlice t_network_Side) x5 (.slice a6 x5.length c7), vl (tSlice t_network_Side) x31 (.slice a32 x31.length c33)] [own t_network_Side 69 (.slice a175 n177 c176) x174, blk g19 27 [.int .i64 x12.Next, .slice a13 n14 c15, .slice a32 x31.length c33], own t_network_Packet 51 (.slice a13 n14 c15) x12.Packets, blk g10 27 [.int .i64 0, .slice none 0 0, .slice none 0 0]] → esref36_Partition.j7 x167 x174 = some os168 → K172 ρ w := by
        intro x174 a175 c176 n177 ρ w h173_1 h173_4 h173_5 h173_6 h173_7 h173_8 hs hf
        refine hK172 _ _ ?_
        unfold esref36_Partition.j7 at hf
        refine W.region ?_
        refine WL.move (v := .int .i64 x167) h173_8 ?_
        obtain ⟨x179, ex179, hf⟩ := letE hf
        refine WL.bin (v := .int .i64 x179) rfl rfl (ib_as ex179 (ib_add _ _ _)) ?_
        refine WL.assign (v := .int .i64 x179) rfl ?_
        refine WL.nil ?_
        exact ⟨_, (Option.some.inj hf).symm, a175, c176, n177, h173_1, h173_4, h173_5, h173_6, h173_7, rfl, (hs.mask [true, true, true, true]).pick [0, 1]⟩
      refine W.block ?_
      refine W.seqK fun K180 hK180 => ?_
      obtain ⟨x181, hxx181, hf⟩ := bindE hf
      obtain ⟨x185, hxx185, hf⟩ := bindE hf
      refine W.any (by kernel_rfl) 12 0 [true, true, true, true, true, true, true, true, true, true, true, true] rfl rfl (poAt [pv (.pointer (some ⟨g19, 2, none⟩)), pv (.slice a32 x31.length c33), pv (.int .i64 x167), pq (fun y : Addr => .pointer (some y)) (fun v => [pl t_network_Side x181 (adOf v)]) (fun v => []), pq (fun y : Addr => .pointer (some y)) (fun v => [pl (tInt .i64) x181.Process (adOf v)]) (fun v => []), pv (.int .i64 x181.Process), pv (.slice a6 x5.length c7), pv (.int .i64 x30), pq (fun y : Addr => .pointer (some y)) (fun v => [pl t_network_Side x185 (adOf v)]) (fun v => []), pq (fun y : Addr => .pointer (some y)) (fun v => [pl (tInt .i64) x185.Process (adOf v)]) (fun v => []), pv (.int .i64 x185.Process), pv (.bool (decide (x181.Process < x185.Process)))]) (Λ := [own t_network_Side 69 (.slice a164 n166 c165) x163, blk g19 27 [.int .i64 x12.Next, .slice a13 n14 c15, .slice a32 x31.length c33], own t_network_Packet 51 (.slice a13 n14 c15) x12.Packets, blk g10 27 [.int .i64 0, .slice none 0 0, .slice none 0 0]]) hs (by kernel_rfl) (by kernel_rfl) (by kernel_rfl) ⟨⟨⟨⟨⟨⟨⟨⟨⟨⟨⟨⟨trivial, ?_⟩, ?_⟩, ?_⟩, ?_⟩, ?_⟩, ?_⟩, ?_⟩, ?_⟩, ?_⟩, ?_⟩, ?_⟩, ?_⟩ ?_
      · intro ρ w Γx Λx hs hu hp
        refine WL.fieldAddr (m := 2) ((hu 5 rfl).trans h162_5) FA27_2 rfl ?_
        exact WL.nil ⟨rfl, _, rfl, rfl, hs.cutG 0 0⟩
      · intro ρ w Γx Λx hs hu hp
        have e189 : ρ 26 = .pointer (some ⟨g19, 2, none⟩) := (hp 0 rfl).1
        refine WL.load1 (v := .slice a32 x31.length c33) hs (Λx.length + 1) (getApp rfl) TI23 e189 rfl ?_
        exact WL.nil ⟨rfl, _, rfl, rfl, hs.cutG 0 0⟩
      · intro ρ w Γx Λx hs hu hp
        refine WL.move (v := .int .i64 x167) ((hu 8 rfl).trans h162_8) ?_
        exact WL.nil ⟨rfl, _, rfl, rfl, hs.cutG 0 0⟩
      · intro ρ w Γx Λx hs hu hp
        have e190 : ρ 27 = .slice a32 x31.length c33 := (hp 1 rfl).1
        have e191 : ρ 28 = .int .i64 x167 := (hp 2 rfl).1
        refine WL.indexAddr hs (Γx.length + 1) (getApp rfl) UN23 TI69 e190 e191 hxx181 (fun ad182 hs => ?_)
        have hs := hs.add (it := pl t_network_Side x181 ad182) fun ok hA => hA.get 0 rfl
        exact WL.nil ⟨rfl, _, rfl, ⟨ad182, rfl⟩, hs.cutG 1 1⟩
      · intro ρ w Γx Λx hs hu hp
        obtain ⟨⟨ad192, e193r⟩, hm194⟩ := hp 3 rfl
        have e193 : ρ 29 = .pointer (some ad192) := e193r
        rw [e193r] at hm194
        have hs := hs.memo1 (it := pl t_network_Side x181 ad192) (List.mem_append.2 (.inl (hm194 _ (List.mem_of_getElem? (i := 0) rfl))))
        refine WL.fieldAddrP (z := x181.Process) F_network_Side_Process hs 0 rfl e193 FA69_0 rfl (fun ad183 hs => ?_)
        have hs := hs.add (it := pl (tInt .i64) x181.Process ad183) fun ok hA => hA.get 0 rfl
        exact WL.nil ⟨rfl, _, rfl, ⟨ad183, rfl⟩, hs.cutG 1 2⟩
      · intro ρ w Γx Λx hs hu hp
        obtain ⟨⟨ad195, e196r⟩, hm197⟩ := hp 4 rfl
        have e196 : ρ 30 = .pointer (some ad195) := e196r
        rw [e196r] at hm197
        have hs := hs.memo1 (it := pl (tInt .i64) x181.Process ad195) (List.mem_append.2 (.inl (hm197 _ (List.mem_of_getElem? (i := 0) rfl))))
        refine WL.loadP hs 0 rfl TI3 (.inr rfl) e196 (fun v184 hs => ?_)
        obtain rfl := hs.int 0 rfl
        exact WL.nil ⟨rfl, _, rfl, rfl, hs.cutG 0 2⟩
      · intro ρ w Γx Λx hs hu hp
        refine WL.move (v := .slice a6 x5.length c7) ((hu 1 rfl).trans h162_1) ?_
        exact WL.nil ⟨rfl, _, rfl, rfl, hs.cutG 0 0⟩
      · intro ρ w Γx Λx hs hu hp
        refine WL.move (v := .int .i64 x30) ((hu 6 rfl).trans h162_6) ?_
        exact WL.nil ⟨rfl, _, rfl, rfl, hs.cutG 0 0⟩
      · intro ρ w Γx Λx hs hu hp
        have e198 : ρ 32 = .slice a6 x5.length c7 := (hp 6 rfl).1
        have e199 : ρ 33 = .int .i64 x30 := (hp 7 rfl).1
        refine WL.indexAddr hs (Γx.length + 0) (getApp rfl) UN23 TI69 e198 e199 hxx185 (fun ad186 hs => ?_)
        have hs := hs.add (it := pl t_network_Side x185 ad186) fun ok hA => hA.get 0 rfl
        exact WL.nil ⟨rfl, _, rfl, ⟨ad186, rfl⟩, hs.cutG 1 1⟩
      · intro ρ w Γx Λx hs hu hp
        obtain ⟨⟨ad200, e201r⟩, hm202⟩ := hp 8 rfl
        have e201 : ρ 34 = .pointer (some ad200) := e201r
        rw [e201r] at hm202
        have hs := hs.memo1 (it := pl t_network_Side x185 ad200) (List.mem_append.2 (.inl (hm202 _ (List.mem_of_getElem? (i := 0) rfl))))
        refine WL.fieldAddrP (z := x185.Process) F_network_Side_Process hs 0 rfl e201 FA69_0 rfl (fun ad187 hs => ?_)
        have hs := hs.add (it := pl (tInt .i64) x185.Process ad187) fun ok hA => hA.get 0 rfl
        exact WL.nil ⟨rfl, _, rfl, ⟨ad187, rfl⟩, hs.cutG 1 2⟩
      · intro ρ w Γx Λx hs hu hp
        obtain ⟨⟨ad203, e204r⟩, hm205⟩ := hp 9 rfl
        have e204 : ρ 35 = .pointer (some ad203) := e204r
        rw [e204r] at hm205
        have hs := hs.memo1 (it := pl (tInt .i64) x185.Process ad203) (List.mem_append.2 (.inl (hm205 _ (List.mem_of_getElem? (i := 0) rfl))))
        refine WL.loadP hs 0 rfl TI3 (.inr rfl) e204 (fun v188 hs => ?_)
        obtain rfl := hs.int 0 rfl
        exact WL.nil ⟨rfl, _, rfl, rfl, hs.cutG 0 2⟩
      · intro ρ w Γx Λx hs hu hp
        have e206 : ρ 31 = .int .i64 x181.Process := (hp 5 rfl).1
        have e207 : ρ 36 = .int .i64 x185.Process := (hp 10 rfl).1
        refine WL.bin (v := .bool (decide (x181.Process < x185.Process))) e206 e207 (ib_lss _ _ _) ?_
        exact WL.nil ⟨rfl, _, rfl, rfl, hs.cutG 0 0⟩
      · intro ρ w hs hu208 hp
        obtain ⟨⟨⟨⟨⟨⟨⟨⟨⟨⟨⟨⟨_, hp0_⟩, hp1_⟩, hp2_⟩, hp3_⟩, hp4_⟩, hp5_⟩, hp6_⟩, hp7_⟩, hp8_⟩, hp9_⟩, hp10_⟩, hp11_⟩ := hp
        have hs : St ok (bz w0) w [pl (tInt .i64) x185.Process (adOf (ρ 35)), pl t_network_Side x185 (adOf (ρ 34)), pl (tInt .i64) x181.Process (adOf (ρ 30)), pl t_network_Side x181 (adOf (ρ 29)), vl (tSlice t_network_Side) x5 (.slice a6 x5.length c7), vl (tSlice t_network_Side) x31 (.slice a32 x31.length c33)] [own t_network_Side 69 (.slice a164 n166 c165) x163, blk g19 27 [.int .i64 x12.Next, .slice a13 n14 c15, .slice a32 x31.length c33], own t_network_Packet 51 (.slice a13 n14 c15) x12.Packets, blk g10 27 [.int .i64 0, .slice none 0 0, .slice none 0 0]] := hs
        have e209 : ρ 37 = .bool (decide (x181.Process < x185.Process)) := hp11_
        have e210 : ρ 36 = .int .i64 x185.Process := hp10_
        obtain ⟨ad211, e212⟩ := hp9_
        have e212 : ρ 35 = .pointer (some ad211) := e212
        try rw [e212] at hs
        obtain ⟨ad213, e214⟩ := hp8_
        have e214 : ρ 34 = .pointer (some ad213) := e214
        try rw [e214] at hs
        have e215 : ρ 33 = .int .i64 x30 := hp7_
        have e216 : ρ 32 = .slice a6 x5.length c7 := hp6_
        have e217 : ρ 31 = .int .i64 x181.Process := hp5_
        obtain ⟨ad218, e219⟩ := hp4_
        have e219 : ρ 30 = .pointer (some ad218) := e219
        try rw [e219] at hs
        obtain ⟨ad220, e221⟩ := hp3_
        have e221 : ρ 29 = .pointer (some ad220) := e221
        try rw [e221] at hs
        have e222 : ρ 28 = .int .i64 x167 := hp2_
        have e223 : ρ 27 = .slice a32 x31.length c33 := hp1_
        have e224 : ρ 26 = .pointer (some ⟨g19, 2, none⟩) := hp0_
        refine WA.done (by kernel_rfl) ?_
        refine hK180 _ _ ?_
        rcases iteE hf with ⟨hc225, hf⟩ | ⟨hc225, hf⟩
        · refine W.cond_true (bool_tr e209 hc225) ?_
          refine W.region ?_
          refine WL.move (v := .slice a164 n166 c165) ((hu208 7 rfl).trans h162_7) ?_
          refine WL.fieldAddr (m := 2) ((hu208 5 rfl).trans h162_5) FA27_2 rfl ?_
          refine WL.load1 (v := .slice a32 x31.length c33) hs 1 rfl TI23 rfl rfl ?_
          refine WL.move (v := .int .i64 x167) ((hu208 8 rfl).trans h162_8) ?_
          obtain ⟨x226, hxx226, hf⟩ := bindE hf
          refine WL.indexAddr hs 5 rfl UN23 TI69 rfl rfl hxx226 (fun ad227 hs => ?_)
          refine WL.loadP hs 0 rfl TI69 (.inl rfl) rfl (fun v228 hs => ?_)
          obtain ⟨cs229, hl230, rfl⟩ := hs.aggv (n := 2) 0 rfl rfl rfl
          refine WL.buildSlice (n := 1) (vs := [(0, .agg cs229.toArray)]) (cs := cs229) hs ⟨⟨rfl, rfl⟩, trivial⟩ (bls PS23 (by decide) (by simp [fillS, fillL, Value.cells, hl230])) (fun g231 w hs => ?_)
          obtain ⟨x232, hxx232, hf⟩ := bindE hf
          obtain ⟨hbx232, hex232⟩ := appE hxx232
          refine WL.append (ys := [x226]) (zs := x232) hs 1 rfl 0 rfl UN23 EI69 rfl rfl (fun ok hA => (Cells.one (T := t_network_Side) (R_agg (hA.get 0 rfl) rfl))) hbx232 (by omega) hex232 (fun v233 w hs => ?_)
          obtain ⟨a234, n236, c235, rfl⟩ := hs.ownv3 1 rfl
          refine WL.assign (v := .slice a234 n236 c235) rfl ?_
          refine WL.nil ?_
          exact Jk178 x232 a234 c235 n236 _ _ ((hu208 1 rfl).trans h162_1) ((hu208 4 rfl).trans h162_4) ((hu208 5 rfl).trans h162_5) ((hu208 6 rfl).trans h162_6) rfl ((hu208 8 rfl).trans h162_8) ((hs.mask [false, true, true, true, true]).pick [6, 7]) hf
        · refine W.cond_false (bool_tr e209 hc225) ?_
          refine W.skip ?_
          exact Jk178 x163 a164 c165 n166 _ _ ((hu208 1 rfl).trans h162_1) ((hu208 4 rfl).trans h162_4) ((hu208 5 rfl).trans h162_5) ((hu208 6 rfl).trans h162_6) ((hu208 7 rfl).trans h162_7) ((hu208 8 rfl).trans h162_8) ((hs.mask [true, true, true, true]).pick [4, 5]) hf
    · refine W.cond_false (bool_tr rfl hc171) ?_
      refine W.exit ?_
      have hr := Option.some.inj hf; subst hr
      have hr := hbbs168 _ rfl; subst hr
      have hf := hfs168
      exact Jk52 x163 a164 c165 n166 _ _ h162_1 h162_4 h162_5 h162_6 h162_7 ((hs.mask [true, true, true, true]).pick [0, 1]) hf
  · refine W.cond_false (bool_tr rfl hc37) ?_
    refine W.exit ?_
    have hr := Option.some.inj hf; subst hr
    have hr := hbbs34 _ rfl; subst hr
    have hf := hfs34
    exact Jk26 x31 a32 c33 _ _ h29_4 h29_5 ((hs.mask [true, true, true]).pick [1]) hf
theorem esref36_Partition.callc {ok : Nat → Prop} {w0 : World} {x1 : network_Network} {x5 : List network_Side} {v2 : Value} {a6 : Option Addr} {c7 : Nat} {r : network_Network} (hf : esref36_Partition x1 x5 = some r) (i0 : (vl t_network_Network x1 v2).holds ok w0) (i1 : (vl (tSlice t_network_Side) x5 (.slice a6 x5.length c7)).holds ok w0) :
    Calls Try.prog 36 #[v2, .slice a6 x5.length c7] w0 fun e w' => ∃ v, e = .returned v ∧ ∃ y : List Value, v = .agg y.toArray ∧ St ok (bz w0) w' [vl t_network_Network r (.agg y.toArray)] [] := by
  refine (esref36_Partition.calls (ok := ok) (w0 := w0) (x1 := x1) (x5 := x5) hf i0 i1).mono ?_
  rintro e w' ⟨v, rfl, ⟨⟨a239, n240, c241⟩, ⟨a242, c243⟩⟩, rfl, hs⟩
  obtain rfl := hs.ownLen 0 rfl
  have hs := hs.freezeOwn 0 rfl
  have hs := hs.add (it := vl t_network_Network (⟨r.Next, r.Packets, r.Sides⟩ : network_Network) (.agg [.int .i64 r.Next, .slice a239 (r.Packets).length c241, .slice a242 (r.Sides).length c243].toArray)) fun ok hA => V_agg (show t_network_Network.R ok _ _ _ from ⟨[.int .i64 r.Next], [.slice a239 (r.Packets).length c241, .slice a242 (r.Sides).length c243], rfl, rfl, ⟨[.slice a239 (r.Packets).length c241], [.slice a242 (r.Sides).length c243], rfl, (R_one (hA.get 0 rfl)), (R_one (hA.get 1 rfl))⟩⟩) rfl
  exact ⟨_, rfl, [.int .i64 r.Next, .slice a239 (r.Packets).length c241, .slice a242 (r.Sides).length c243], rfl, hs.pick [0]⟩
/-! elasticstore/network.Purge$1: function 55 -/
theorem network_Purge_1.calls {ok : Nat → Prop} {w0 : World} {x1 : network_Packet} {x5 : Int} {v2 : Value} {ad6 : Addr} {r : Bool} (hf : network_Purge_1 x1 x5 = some r) (i0 : (vl t_network_Packet x1 v2).holds ok w0) (i1 : (pl (tInt .i64) x5 ad6).holds ok w0) :
    Calls Try.prog 55 #[v2, .pointer (some ad6)] w0 fun e w' => ∃ v, e = .returned v ∧ ∃ y : Unit, v = .bool r ∧ St ok (bz w0) w' [] [] := by
  unfold network_Purge_1 at hf
  refine calls_of_W (fn := Try.f55) (N := 9) Try.func55 rfl Try.ntmps55 rfl ?_
  have hs : St ok (bz w0) w0 [vl t_network_Packet x1 v2, pl (tInt .i64) x5 ad6] [] := St.init (All.cons i0 (All.cons i1 All.nil))
  clear i0 i1
  obtain ⟨cs3, hl4, rfl⟩ := hs.aggv (n := 19) 0 rfl rfl rfl
  refine W.seqK fun K7 hK7 => ?_
  refine W.region ?_
  refine WL.box (vs := cs3) hs rfl rfl (fun g8 w hs => ?_)
  refine WL.assign (v := .bool false) rfl ?_
  refine WL.nil ?_
  refine hK7 _ _ ?_
  refine W.seqK fun K9 hK9 => ?_
  refine W.region ?_
  refine WL.fieldAddr (m := 1) rfl FA51_1 rfl ?_
  refine WL.fieldAddr (m := 3) rfl FA49_2 rfl ?_
  refine WL.loadF (z := x1.Message.To) (F_network_Packet_Message.comp F_api_Message_To) hs 0 rfl 0 rfl rfl TI3 (.inr rfl) rfl rfl (fun v10 hs => ?_)
  obtain rfl := hs.int 0 rfl
  refine WL.loadP hs 2 rfl TI3 (.inr rfl) rfl (fun v11 hs => ?_)
  obtain rfl := hs.int 0 rfl
  refine WL.bin (v := .bool (x1.Message.To == x5)) rfl rfl (ib_eql _ _ _) ?_
  refine WL.assign (v := .bool (x1.Message.To == x5)) rfl ?_
  refine WL.nil ?_
  refine hK9 _ _ ?_
  refine W.ret ?_
  have hr := Option.some.inj hf; subst hr
  exact ⟨_, resOk_one rfl rfl, (), rfl, (hs.mask []).pick []⟩
/-! slices.IndexFunc[[]elasticstore/network.Packet,elasticstore/network.Packet]: function 70 -/
theorem slices_IndexFunc_Packet.calls {ok : Nat → Prop} {w0 : World} {x1 : List network_Packet} {x4 : network_Packet → Option Bool} {a2 : Option Addr} {c3 : Nat} {v5 : Value} {r : Int} (hf : slices_IndexFunc_Packet x1 x4 = some r) (i0 : (vl (tSlice t_network_Packet) x1 (.slice a2 x1.length c3)).holds ok w0) (i1 : (vl (tFun Try.prog (argK1 t_network_Packet) (fun r : Bool => .bool r)) x4 v5).holds ok w0) :
    Calls Try.prog 70 #[.slice a2 x1.length c3, v5] w0 fun e w' => ∃ v, e = .returned v ∧ ∃ y : Unit, v = .int .i64 r ∧ St ok (bz w0) w' [] [] := by
  unfold slices_IndexFunc_Packet at hf
  refine calls_of_W (fn := Try.f70) (N := 19) Try.func70 rfl Try.ntmps70 rfl ?_
  have hs : St ok (bz w0) w0 [vl (tSlice t_network_Packet) x1 (.slice a2 x1.length c3), vl (tFun Try.prog (argK1 t_network_Packet) (fun r : Bool => .bool r)) x4 v5] [] := St.init (All.cons i0 (All.cons i1 All.nil))
  clear i0 i1
  refine W.seqK fun K6 hK6 => ?_
  refine W.region ?_
  refine WL.assign (v := .int .i64 0) rfl ?_
  refine WL.nil ?_
  refine hK6 _ _ ?_
  refine W.seqK fun K7 hK7 => ?_
  have Jk9 : ∀  (ρ : Env) (w : World), St ok (bz w0) w [] [] → slices_IndexFunc_Packet.j1 = some r → K7 ρ w := by
    intro  ρ w  hs hf
    refine hK7 _ _ ?_
    unfold slices_IndexFunc_Packet.j1 at hf
    refine W.seqK fun K10 hK10 => ?_
    refine W.region ?_
    refine WL.assign (v := .int .i64 (-1)) rfl ?_
    refine WL.nil ?_
    refine hK10 _ _ ?_
    refine W.ret ?_
    have hr := Option.some.inj hf; subst hr
    exact ⟨_, resOk_one rfl rfl, (), rfl, (hs.mask []).pick []⟩
  refine W.seqK fun K11 hK11 => ?_
  refine W.region ?_
  refine WL.move (v := .slice a2 x1.length c3) rfl ?_
  refine WL.len (v := .slice a2 x1.length c3) rfl (len_slice UN25) ?_
  refine WL.move (v := .int .i64 0) rfl ?_
  refine WL.nil ?_
  refine hK11 _ _ ?_
  refine W.block ?_
  obtain ⟨bs14, hbs14, hfs14⟩ := bindE hf
  refine W.loop hbs14 (fun s ρ w => match s with | x13 => ρ 0 = .slice a2 x1.length c3 ∧ ρ 1 = v5 ∧ ρ 7 = .int .i64 (x1.length : Int) ∧ ρ 8 = .int .i64 x13 ∧ St ok (bz w0) w [vl (tSlice t_network_Packet) x1 (.slice a2 x1.length c3), vl (tFun Try.prog (argK1 t_network_Packet) (fun r : Bool => .bool r)) x4 v5] []) ⟨rfl, rfl, rfl, rfl, (hs.mask []).pick [0, 1]⟩ ?_
  intro x13 ρ w os14 hI hf hbbs14
  obtain ⟨h12_0, h12_1, h12_7, h12_8, hs⟩ := hI
  unfold slices_IndexFunc_Packet.l1 at hf
  refine W.seqK fun K15 hK15 => ?_
  refine W.region ?_
  refine WL.bin (v := .bool (decide (x13 < (x1.length : Int)))) h12_8 h12_7 (ib_lss _ _ _) ?_
  refine WL.nil ?_
  refine hK15 _ _ ?_
  refine W.seqK fun K16 hK16 => ?_
  rcases iteE hf with ⟨hc17, hf⟩ | ⟨hc17, hf⟩
  · refine W.cond_true (bool_tr rfl hc17) ?_
    refine W.skip ?_
    refine hK16 _ _ ?_
    refine W.seqK fun K18 hK18 => ?_
    refine W.block ?_
    refine W.seqK fun K19 hK19 => ?_
    refine W.region ?_
    refine WL.move (v := .int .i64 x13) h12_8 ?_
    refine WL.assign (v := .int .i64 x13) rfl ?_
    refine WL.nil ?_
    refine hK19 _ _ ?_
    refine W.seqK fun K20 hK20 => ?_
    refine W.region ?_
    refine WL.move (v := v5) h12_1 ?_
    refine WL.move (v := .slice a2 x1.length c3) h12_0 ?_
    refine WL.move (v := .int .i64 x13) rfl ?_
    obtain ⟨x21, hxx21, hf⟩ := bindE hf
    refine WL.indexAddr hs 0 rfl UN25 TI51 rfl rfl hxx21 (fun ad22 hs => ?_)
    refine WL.loadP hs 0 rfl TI51 (.inl rfl) rfl (fun v23 hs => ?_)
    obtain ⟨cs24, hl25, rfl⟩ := hs.aggv (n := 19) 0 rfl rfl rfl
    obtain ⟨x26, hxx26, hf⟩ := bindE hf
    refine WL.callF (x := x21) (vs := [.agg cs24.toArray]) hs 3 rfl rfl ⟨rfl, trivial⟩ (fun ok hA => ⟨_, rfl, hA.get 0 rfl⟩) hxx26 (fun w hs => ?_)
    refine WL.nil ?_
    refine hK20 _ _ ?_
    rcases iteE hf with ⟨hc27, hf⟩ | ⟨hc27, hf⟩
    · refine W.cond_true (bool_tr rfl hc27) ?_
      refine W.seqK fun K28 hK28 => ?_
      refine W.region ?_
      refine WL.move (v := .int .i64 x13) rfl ?_
      refine WL.assign (v := .int .i64 x13) rfl ?_
      refine WL.nil ?_
      refine hK28 _ _ ?_
      refine W.ret ?_
      have hr := Option.some.inj hf; subst hr
      have hr := hbbs14 _ rfl; subst hr
      have hf := hfs14
      have hr := Option.some.inj hf; subst hr
      exact ⟨_, resOk_one rfl rfl, (), rfl, (hs.mask []).pick []⟩
    · refine W.cond_false (bool_tr rfl hc27) ?_
      refine W.skip ?_
      refine hK18 _ _ ?_
      refine W.region ?_
      obtain ⟨x29, ex29, hf⟩ := letE hf
      refine WL.bin (v := .int .i64 x29) h12_8 rfl (ib_as ex29 (ib_add _ _ _)) ?_
      refine WL.move (v := .int .i64 x29) rfl ?_
      refine WL.nil ?_
      exact ⟨_, (Option.some.inj hf).symm, h12_0, h12_1, h12_7, rfl, (hs.mask []).pick [2, 3]⟩
  · refine W.cond_false (bool_tr rfl hc17) ?_
    refine W.exit ?_
    have hr := Option.some.inj hf; subst hr
    have hr := hbbs14 _ rfl; subst hr
    have hf := hfs14
    exact Jk9  _ _  ((hs.mask []).pick []) hf
/-! slices.DeleteFunc[[]elasticstore/network.Packet,elasticstore/network.Packet]: function 54 -/
theorem slices_DeleteFunc_Packet.calls {ok : Nat → Prop} {w0 : World} {F : Base} {x1 : List network_Packet} {x5 : network_Packet → Option Bool} {a2 : Option Addr} {n3 c4 : Nat} {v6 : Value} {r : List network_Packet} (hf : slices_DeleteFunc_Packet x1 x5 = some r) (hs : St ok F w0 [vl (tFun Try.prog (argK1 t_network_Packet) (fun r : Bool => .bool r)) x5 v6] [own t_network_Packet 51 (.slice a2 n3 c4) x1]) :
    Calls Try.prog 54 #[.slice a2 n3 c4, v6] w0 fun e w' => ∃ v, e = .returned v ∧ ∃ y : (Option Addr × Nat × Nat), v = .slice y.1 y.2.1 y.2.2 ∧ St ok F w' [] [own t_network_Packet 51 (.slice y.1 y.2.1 y.2.2) r] := by
  unfold slices_DeleteFunc_Packet at hf
  refine calls_of_W (fn := Try.f54) (N := 42) Try.func54 rfl Try.ntmps54 rfl ?_
  refine W.seqK fun K7 hK7 => ?_
  refine W.region ?_
  refine WL.assign (v := .slice none 0 0) rfl ?_
  refine WL.nil ?_
  refine hK7 _ _ ?_
  refine W.seqK fun K8 hK8 => ?_
  refine W.region ?_
  refine WL.move (v := .slice a2 n3 c4) rfl ?_
  refine WL.move (v := v6) rfl ?_
  obtain ⟨x9, hxx9, hf⟩ := bindE hf
  refine WL.callL (vs := [.slice a2 x1.length c4, v6]) hs FN70 ⟨(Eq.trans rfl (sl_len (hs.ownLen 0 rfl))), ⟨rfl, trivial⟩⟩ (slices_IndexFunc_Packet.calls (x1 := x1) (x4 := x5) hxx9 (hs.ownN 0 rfl) (hs.allT.get 0 rfl)) ?_
  rintro _ w hs
  refine WL.assign (v := .int .i64 x9) rfl ?_
  refine WL.nil ?_
  refine hK8 _ _ ?_
  refine W.seqK fun K10 hK10 => ?_
  refine W.seqK fun K11 hK11 => ?_
  refine W.region ?_
  refine WL.move (v := .int .i64 x9) rfl ?_
  refine WL.bin (v := .bool (x9 == (-1))) rfl rfl (ib_eql _ _ _) ?_
  refine WL.nil ?_
  refine hK11 _ _ ?_
  rcases iteE hf with ⟨hc12, hf⟩ | ⟨hc12, hf⟩
  · refine W.cond_true (bool_tr rfl hc12) ?_
    refine W.seqK fun K13 hK13 => ?_
    refine W.region ?_
    refine WL.move (v := .slice a2 n3 c4) rfl ?_
    refine WL.assign (v := .slice a2 n3 c4) rfl ?_
    refine WL.nil ?_
    refine hK13 _ _ ?_
    refine W.ret ?_
    have hr := Option.some.inj hf; subst hr
    exact ⟨_, resOk_one rfl rfl, (a2, n3, c4), rfl, (hs.mask [true]).pick []⟩
  · refine W.cond_false (bool_tr rfl hc12) ?_
    refine W.skip ?_
    refine hK10 _ _ ?_
    refine W.seqK fun K14 hK14 => ?_
    have Jk18 : ∀ (x15 : List network_Packet) (x17 : Int) (ρ : Env) (w : World), ρ 0 = .slice a2 n3 c4 → ρ 5 = .int .i64 x17 → St ok F w [] [own t_network_Packet 51 (.slice a2 n3 c4) x15] → slices_DeleteFunc_Packet.j1 x15 x17 = some r → K14 ρ w := by
      intro x15 x17 ρ w h16_0 h16_5 hs hf
      refine hK14 _ _ ?_
      unfold slices_DeleteFunc_Packet.j1 at hf
      refine W.seqK fun K19 hK19 => ?_
      refine W.region ?_
      refine WL.move (v := .slice a2 n3 c4) h16_0 ?_
      refine WL.move (v := .int .i64 x17) h16_5 ?_
      obtain ⟨hn20, hf⟩ := guardE hf
      refine WL.view_l hs 0 rfl UN25 TI51 rfl rfl hn20 ?_
      obtain ⟨x21, hxx21, hf⟩ := bindE hf
      refine WL.clearO (l := x17) (z := (⟨0, ⟨0, 0, 0, ⟨0, 0⟩, 0, 0, ⟨[], []⟩, ⟨[], []⟩, false, ⟨[], []⟩, [], [], [], false⟩⟩)) hs 0 rfl UN25 rfl ZR51 (fun ok => (show t_network_Packet.R ok _ (⟨0, ⟨0, 0, 0, ⟨0, 0⟩, 0, 0, ⟨[], []⟩, ⟨[], []⟩, false, ⟨[], []⟩, [], [], [], false⟩⟩ : network_Packet) _ from ⟨[.int .i64 0], [.int .i64 0, .int .i64 0, .int .i64 0, .int .i64 0, .int .i64 0, .int .i64 0, .int .i64 0, .slice none 0 0, .slice none 0 0, .slice none 0 0, .slice none 0 0, .bool false, .slice none 0 0, .slice none 0 0, .slice none 0 0, .slice none 0 0, .slice none 0 0, .bool false], rfl, rfl, ⟨[.int .i64 0], [.int .i64 0, .int .i64 0, .int .i64 0, .int .i64 0, .int .i64 0, .int .i64 0, .slice none 0 0, .slice none 0 0, .slice none 0 0, .slice none 0 0, .bool false, .slice none 0 0, .slice none 0 0, .slice none 0 0, .slice none 0 0, .slice none 0 0, .bool false], rfl, rfl, ⟨[.int .i64 0], [.int .i64 0, .int .i64 0, .int .i64 0, .int .i64 0, .int .i64 0, .slice none 0 0, .slice none 0 0, .slice none 0 0, .slice none 0 0, .bool false, .slice none 0 0, .slice none 0 0, .slice none 0 0, .slice none 0 0, .slice none 0 0, .bool false], rfl, rfl, ⟨[.int .i64 0], [.int .i64 0, .int .i64 0, .int .i64 0, .int .i64 0, .slice none 0 0, .slice none 0 0, .slice none 0 0, .slice none 0 0, .bool false, .slice none 0 0, .slice none 0 0, .slice none 0 0, .slice none 0 0, .slice none 0 0, .bool false], rfl, rfl, ⟨[.int .i64 0, .int .i64 0], [.int .i64 0, .int .i64 0, .slice none 0 0, .slice none 0 0, .slice none 0 0, .slice none 0 0, .bool false, .slice none 0 0, .slice none 0 0, .slice none 0 0, .slice none 0 0, .slice none 0 0, .bool false], rfl, ⟨[.int .i64 0], [.int .i64 0], rfl, rfl, rfl⟩, ⟨[.int .i64 0], [.int .i64 0, .slice none 0 0, .slice none 0 0, .slice none 0 0, .slice none 0 0, .bool false, .slice none 0 0, .slice none 0 0, .slice none 0 0, .slice none 0 0, .slice none 0 0, .bool false], rfl, rfl, ⟨[.int .i64 0], [.slice none 0 0, .slice none 0 0, .slice none 0 0, .slice none 0 0, .bool false, .slice none 0 0, .slice none 0 0, .slice none 0 0, .slice none 0 0, .slice none 0 0, .bool false], rfl, rfl, ⟨[.slice none 0 0, .slice none 0 0], [.slice none 0 0, .slice none 0 0, .bool false, .slice none 0 0, .slice none 0 0, .slice none 0 0, .slice none 0 0, .slice none 0 0, .bool false], rfl, ⟨[.slice none 0 0], [.slice none 0 0], rfl, R_nil, R_nil⟩, ⟨[.slice none 0 0, .slice none 0 0], [.bool false, .slice none 0 0, .slice none 0 0, .slice none 0 0, .slice none 0 0, .slice none 0 0, .bool false], rfl, ⟨[.slice none 0 0], [.slice none 0 0], rfl, R_nil, R_nil⟩, ⟨[.bool false], [.slice none 0 0, .slice none 0 0, .slice none 0 0, .slice none 0 0, .slice none 0 0, .bool false], rfl, rfl, ⟨[.slice none 0 0, .slice none 0 0], [.slice none 0 0, .slice none 0 0, .slice none 0 0, .bool false], rfl, ⟨[.slice none 0 0], [.slice none 0 0], rfl, R_nil, R_nil⟩, ⟨[.slice none 0 0], [.slice none 0 0, .slice none 0 0, .bool false], rfl, R_nil, ⟨[.slice none 0 0], [.slice none 0 0, .bool false], rfl, R_nil, ⟨[.slice none 0 0], [.bool false], rfl, R_nil, rfl⟩⟩⟩⟩⟩⟩⟩⟩⟩⟩⟩⟩⟩⟩)) (by decide) hxx21 (fun w hs => ?_)
      refine WL.nil ?_
      refine hK19 _ _ ?_
      refine W.seqK fun K22 hK22 => ?_
      refine W.region ?_
      refine WL.move (v := .slice a2 n3 c4) h16_0 ?_
      refine WL.move (v := .int .i64 x17) h16_5 ?_
      obtain ⟨x23, hxx23, hf⟩ := bindE hf
      refine WL.sliceO_h hs 0 rfl UN25 TI51 rfl rfl hxx23 (fun hs => ?_)
      refine WL.assign (v := .slice a2 x23.length c4) rfl ?_
      refine WL.nil ?_
      refine hK22 _ _ ?_
      refine W.ret ?_
      have hr := Option.some.inj hf; subst hr
      exact ⟨_, resOk_one rfl rfl, (a2, x23.length, c4), rfl, (hs.mask [true]).pick []⟩
    refine W.seqK fun K24 hK24 => ?_
    refine W.region ?_
    refine WL.move (v := .int .i64 x9) rfl ?_
    obtain ⟨x25, ex25, hf⟩ := letE hf
    refine WL.bin (v := .int .i64 x25) rfl rfl (ib_as ex25 (ib_add _ _ _)) ?_
    refine WL.assign (v := .int .i64 x25) rfl ?_
    refine WL.nil ?_
    refine hK24 _ _ ?_
    refine W.block ?_
    obtain ⟨bs30, hbs30, hfs30⟩ := bindE hf
    refine W.loop hbs30 (fun s ρ w => match s with | (x26, x28, x29) => ρ 0 = .slice a2 n3 c4 ∧ ρ 1 = v6 ∧ ρ 5 = .int .i64 x28 ∧ ρ 6 = .int .i64 x29 ∧ St ok F w [vl (tFun Try.prog (argK1 t_network_Packet) (fun r : Bool => .bool r)) x5 v6] [own t_network_Packet 51 (.slice a2 n3 c4) x26]) ⟨rfl, rfl, rfl, rfl, (hs.mask [true]).pick [0]⟩ ?_
    intro s ρ w os30 hI hf hbbs30
    obtain ⟨x26, x28, x29⟩ := s
    obtain ⟨h27_0, h27_1, h27_5, h27_6, hs⟩ := hI
    unfold slices_DeleteFunc_Packet.l1 at hf
    refine W.seqK fun K31 hK31 => ?_
    refine W.seqK fun K32 hK32 => ?_
    refine W.region ?_
    refine WL.move (v := .int .i64 x29) h27_6 ?_
    refine WL.move (v := .slice a2 n3 c4) h27_0 ?_
    refine WL.len (v := .slice a2 n3 c4) rfl (len_own hs 0 rfl UN25) ?_
    refine WL.bin (v := .bool (decide (x29 < (x26.length : Int)))) rfl rfl (ib_lss _ _ _) ?_
    refine WL.nil ?_
    refine hK32 _ _ ?_
    rcases iteE hf with ⟨hc33, hf⟩ | ⟨hc33, hf⟩
    · refine W.cond_true (bool_tr rfl hc33) ?_
      refine W.skip ?_
      refine hK31 _ _ ?_
      refine W.seqK fun K34 hK34 => ?_
      have Jk38 : ∀ (x35 : List network_Packet) (x37 : Int) (ρ : Env) (w : World), ρ 0 = .slice a2 n3 c4 → ρ 1 = v6 → ρ 5 = .int .i64 x37 → ρ 6 = .int .i64 x29 → St ok F w [vl (tFun Try.prog (argK1 t_network_Packet) (fun r : Bool => .bool r)) x5 v6] [own t_network_Packet 51 (.slice a2 n3 c4) x35] → slices_DeleteFunc_Packet.j2 x29 x35 x37 = some os30 → K34 ρ w := by
        intro x35 x37 ρ w h36_0 h36_1 h36_5 h36_6 hs hf
        refine hK34 _ _ ?_
        unfold slices_DeleteFunc_Packet.j2 at hf
        refine W.region ?_
        refine WL.move (v := .int .i64 x29) h36_6 ?_
        obtain ⟨x39, ex39, hf⟩ := letE hf
        refine WL.bin (v := .int .i64 x39) rfl rfl (ib_as ex39 (ib_add _ _ _)) ?_
        refine WL.assign (v := .int .i64 x39) rfl ?_
        refine WL.nil ?_
        exact ⟨_, (Option.some.inj hf).symm, h36_0, h36_1, h36_5, rfl, (hs.mask [true]).pick [0]⟩
      refine W.block ?_
      refine W.seqK fun K40 hK40 => ?_
      refine W.region ?_
      refine WL.move (v := .slice a2 n3 c4) h27_0 ?_
      refine WL.move (v := .int .i64 x29) h27_6 ?_
      obtain ⟨x41, hxx41, hf⟩ := bindE hf
      refine WL.indexAddrO hs 0 rfl UN25 TI51 rfl rfl hxx41 (fun ad42 hatad42 => ?_)
      refine WL.loadO hs 0 rfl TI51 (.inl rfl) hatad42 hxx41 rfl (fun v43 hs => ?_)
      obtain ⟨cs44, hl45, rfl⟩ := hs.aggv (n := 19) 0 rfl rfl rfl
      refine WL.alloc hs ZV51 (fun g46 w hs => ?_)
      refine WL.storeAll (vs := cs44) hs 0 rfl TI51 rfl rfl rfl hl45 (hs.ones 0 rfl rfl) rfl (fun w hs => ?_)
      refine WL.nil ?_
      refine hK40 _ _ ?_
      refine W.seqK fun K47 hK47 => ?_
      refine W.region ?_
      refine WL.move (v := v6) h27_1 ?_
      refine WL.loadAll hs 0 rfl TI51 rfl hl45 ?_
      obtain ⟨x48, hxx48, hf⟩ := bindE hf
      refine WL.callF (x := x41) (vs := [.agg cs44.toArray]) hs 1 rfl rfl ⟨rfl, trivial⟩ (fun ok hA => ⟨_, rfl, hA.get 0 rfl⟩) hxx48 (fun w hs => ?_)
      refine WL.not rfl ?_
      refine WL.nil ?_
      refine hK47 _ _ ?_
      rcases iteE hf with ⟨hc49, hf⟩ | ⟨hc49, hf⟩
      · refine W.cond_true (bool_tr rfl hc49) ?_
        refine W.seqK fun K50 hK50 => ?_
        refine W.region ?_
        refine WL.move (v := .slice a2 n3 c4) h27_0 ?_
        refine WL.move (v := .int .i64 x28) h27_5 ?_
        refine WL.loadAll hs 0 rfl TI51 rfl hl45 ?_
        obtain ⟨x51, hxx51, hf⟩ := bindE hf
        refine WL.indexAddrO hs 1 rfl UN25 TI51 rfl rfl hxx51 (fun ad52 hatad52 => ?_)
        obtain ⟨x53, exx53, hf⟩ := letE hf
        refine WL.storeO (y := x41) (vs := cs44) (zs := x53) hs 1 rfl TI51 hatad52 hxx51 rfl rfl rfl (fun ok hA => (R_agg (hA.get 0 rfl) rfl)) exx53 (fun w hs => ?_)
        refine WL.nil ?_
        refine hK50 _ _ ?_
        refine W.region ?_
        refine WL.move (v := .int .i64 x28) h27_5 ?_
        obtain ⟨x54, ex54, hf⟩ := letE hf
        refine WL.bin (v := .int .i64 x54) rfl rfl (ib_as ex54 (ib_add _ _ _)) ?_
        refine WL.assign (v := .int .i64 x54) rfl ?_
        refine WL.nil ?_
        exact Jk38 x53 x54 _ _ h27_0 h27_1 rfl h27_6 ((hs.mask [false, true]).pick [1]) hf
      · refine W.cond_false (bool_tr rfl hc49) ?_
        refine W.skip ?_
        exact Jk38 x26 x28 _ _ h27_0 h27_1 h27_5 h27_6 ((hs.mask [false, true]).pick [1]) hf
    · refine W.cond_false (bool_tr rfl hc33) ?_
      refine W.exit ?_
      have hr := Option.some.inj hf; subst hr
      have hr := hbbs30 _ rfl; subst hr
      have hf := hfs30
      exact Jk18 x26 x28 _ _ h27_0 h27_5 ((hs.mask [true]).pick []) hf
end Go.Proofs.Ytahobbichanccaa
