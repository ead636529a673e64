import Derived.Test.YtahobbichanccaaFh
set_option linter.unusedVariables false
set_option linter.unusedSimpArgs false
namespace Go.Proofs.Ytahobbichanccaa
open Go Go.RowKit Go.Proofs.YtahobbichanccaaL
set_option maxRecDepth 100000
set_option maxHeartbeats 400000
/-! elasticstore/elasticstoreref36.Send: function 39 -/
theorem esref36_Send.calls {ok : Nat → Prop} {w0 : World} {x1 : network_Network} {x5 : List api_Message} {v2 : Value} {a6 : Option Addr} {c7 : Nat} {r : network_Network} (hf : esref36_Send x1 x5 = some r) (i0 : (vl t_network_Network x1 v2).holds ok w0) (i1 : (vl (tSlice t_api_Message) x5 (.slice a6 x5.length c7)).holds ok w0) :
    Calls Try.prog 39 #[v2, .slice a6 x5.length c7] w0 fun e w' => ∃ v, e = .returned v ∧ ∃ y : (Option Addr × Nat × Nat) × (Option Addr × Nat × Nat), v = .agg ([.int .i64 r.Next, .slice y.1.1 y.1.2.1 y.1.2.2, .slice y.2.1 y.2.2.1 y.2.2.2] : List Value).toArray ∧ St ok (bz w0) w' [] [own t_network_Packet 51 (.slice y.1.1 y.1.2.1 y.1.2.2) r.Packets, own t_network_Side 69 (.slice y.2.1 y.2.2.1 y.2.2.2) r.Sides] := by
  unfold esref36_Send at hf
  refine calls_of_W (fn := Try.f39) (N := 47) Try.func39 rfl Try.ntmps39 rfl ?_
  have hs : St ok (bz w0) w0 [vl t_network_Network x1 v2, vl (tSlice t_api_Message) x5 (.slice a6 x5.length c7)] [] := St.init (All.cons i0 (All.cons i1 All.nil))
  clear i0 i1
  obtain ⟨cs3, hl4, rfl⟩ := hs.aggv (n := 3) 0 rfl rfl rfl
  refine W.seqK fun K8 hK8 => ?_
  refine W.region ?_
  refine WL.box (vs := cs3) hs rfl rfl (fun g9 w hs => ?_)
  refine WL.alloc hs ZV27 (fun g10 w hs => ?_)
  refine WL.nil ?_
  refine hK8 _ _ ?_
  refine W.seqK fun K11 hK11 => ?_
  obtain ⟨x17, hxx17, hf⟩ := bindE hf
  obtain ⟨hbx17, hex17⟩ := appE hxx17
  obtain ⟨x26, hxx26, hf⟩ := bindE hf
  obtain ⟨hbx26, hex26⟩ := appE hxx26
  refine W.any (by kernel_rfl) 12 1 [true, true, true, true, true, true, true, true, true, true, true, true, false] rfl rfl (poAt [pv (.pointer (some ⟨g9, 0, none⟩)), pv (.int .i64 x1.Next), pq (fun y : Option Addr => .slice y 0 0) (fun v => []) (fun v => []), pv (.pointer (some ⟨g9, 1, none⟩)), pq (fun y : (Option Addr × Nat) => .slice y.1 (x1.Packets).length y.2) (fun v => [vl (tSlice t_network_Packet) x1.Packets v]) (fun v => []), pq (fun y : (Option Addr × Nat × Nat) => .slice y.1 y.2.1 y.2.2) (fun v => []) (fun v => [own t_network_Packet 51 v x17]), pq (fun y : Option Addr => .slice y 0 0) (fun v => []) (fun v => []), pv (.pointer (some ⟨g9, 2, none⟩)), pq (fun y : (Option Addr × Nat) => .slice y.1 (x1.Sides).length y.2) (fun v => [vl (tSlice t_network_Side) x1.Sides v]) (fun v => []), pq (fun y : (Option Addr × Nat × Nat) => .slice y.1 y.2.1 y.2.2) (fun v => []) (fun v => [own t_network_Side 69 v x26]), pn [5, 9] (fun r => .agg ([.int .i64 x1.Next, r.getD 0 undef, r.getD 1 undef] : List Value).toArray), pq (fun y : Nat => .pointer (some ⟨y, 0, none⟩)) (fun v => []) (fun v => [blk (gOf v) 27 [.int .i64 0, .slice none 0 0, .slice none 0 0]])]) (Λ := [blk g10 27 [.int .i64 0, .slice none 0 0, .slice none 0 0], blk g9 27 cs3]) hs (by kernel_rfl) (by kernel_rfl) (by kernel_rfl) ⟨⟨⟨⟨⟨⟨⟨⟨⟨⟨⟨⟨trivial, ?_⟩, ?_⟩, ?_⟩, ?_⟩, ?_⟩, ?_⟩, ?_⟩, ?_⟩, ?_⟩, ?_⟩, ?_⟩, ?_⟩ ?_
  · intro ρ w Γx Λx hs hu hp
    refine WL.fieldAddr (m := 0) (hu 2 rfl) FA27_0 rfl ?_
    exact WL.nil ⟨rfl, _, rfl, rfl, hs.cutG 0 0⟩
  · intro ρ w Γx Λx hs hu hp
    have e32 : ρ 7 = .pointer (some ⟨g9, 0, none⟩) := (hp 0 rfl).1
    refine WL.loadF (z := x1.Next) F_network_Network_Next hs (Λx.length + 1) (getApp rfl) (Γx.length + 0) (getApp rfl) rfl TI3 (.inr rfl) e32 rfl (fun v12 hs => ?_)
    obtain rfl := hs.int 0 rfl
    exact WL.nil ⟨rfl, _, rfl, rfl, hs.cutG 0 1⟩
  · intro ρ w Γx Λx hs hu hp
    refine WL.buildSlice0 hs UN25 TI51 (fun a13 w hs => ?_)
    exact WL.nil ⟨rfl, _, rfl, ⟨a13, rfl⟩, hs.cutG 0 0⟩
  · intro ρ w Γx Λx hs hu hp
    refine WL.fieldAddr (m := 1) (hu 2 rfl) FA27_1 rfl ?_
    exact WL.nil ⟨rfl, _, rfl, rfl, hs.cutG 0 0⟩
  · intro ρ w Γx Λx hs hu hp
    have e33 : ρ 10 = .pointer (some ⟨g9, 1, none⟩) := (hp 3 rfl).1
    refine WL.loadF (z := x1.Packets) F_network_Network_Packets hs (Λx.length + 1) (getApp rfl) (Γx.length + 0) (getApp rfl) rfl TI25 (.inr rfl) e33 rfl (fun v14 hs => ?_)
    obtain ⟨a15, c16, rfl⟩ := hs.slice 0 rfl
    have hs := hs.add (it := vl (tSlice t_network_Packet) x1.Packets (.slice a15 (x1.Packets).length c16)) fun ok hA => hA.get 0 rfl
    exact WL.nil ⟨rfl, _, rfl, ⟨(a15, c16), rfl⟩, hs.cutG 1 1⟩
  · intro ρ w Γx Λx hs hu hp
    obtain ⟨⟨a34, e35r⟩, hm36⟩ := hp 2 rfl
    have e35 : ρ 9 = .slice a34 0 0 := e35r
    obtain ⟨⟨⟨a37, c38⟩, e39r⟩, hm40⟩ := hp 4 rfl
    have e39 : ρ 11 = .slice a37 (x1.Packets).length c38 := e39r
    rw [e39r] at hm40
    have hs := hs.memo1 (it := vl (tSlice t_network_Packet) x1.Packets (.slice a37 (x1.Packets).length c38)) (List.mem_append.2 (.inl (hm40 _ (List.mem_of_getElem? (i := 0) rfl))))
    have hs := hs.ownEmpty t_network_Packet 51 a34
    refine WL.appendS (zs := x17) hs 0 rfl 0 rfl UN25 UN25 EI51 e35 e39 hbx17 (by omega) hex17 (fun v18 w hs => ?_)
    obtain ⟨a19, n21, c20, rfl⟩ := hs.ownv3 0 rfl
    exact WL.nil ⟨rfl, _, rfl, ⟨(a19, n21, c20), rfl⟩, hs.cutG 0 1⟩
  · intro ρ w Γx Λx hs hu hp
    refine WL.buildSlice0 hs UN23 TI69 (fun a22 w hs => ?_)
    exact WL.nil ⟨rfl, _, rfl, ⟨a22, rfl⟩, hs.cutG 0 0⟩
  · intro ρ w Γx Λx hs hu hp
    refine WL.fieldAddr (m := 2) (hu 2 rfl) FA27_2 rfl ?_
    exact WL.nil ⟨rfl, _, rfl, rfl, hs.cutG 0 0⟩
  · intro ρ w Γx Λx hs hu hp
    have e41 : ρ 14 = .pointer (some ⟨g9, 2, none⟩) := (hp 7 rfl).1
    refine WL.loadF (z := x1.Sides) F_network_Network_Sides hs (Λx.length + 1) (getApp rfl) (Γx.length + 0) (getApp rfl) rfl TI23 (.inr rfl) e41 rfl (fun v23 hs => ?_)
    obtain ⟨a24, c25, rfl⟩ := hs.slice 0 rfl
    have hs := hs.add (it := vl (tSlice t_network_Side) x1.Sides (.slice a24 (x1.Sides).length c25)) fun ok hA => hA.get 0 rfl
    exact WL.nil ⟨rfl, _, rfl, ⟨(a24, c25), rfl⟩, hs.cutG 1 1⟩
  · intro ρ w Γx Λx hs hu hp
    obtain ⟨⟨a42, e43r⟩, hm44⟩ := hp 6 rfl
    have e43 : ρ 13 = .slice a42 0 0 := e43r
    obtain ⟨⟨⟨a45, c46⟩, e47r⟩, hm48⟩ := hp 8 rfl
    have e47 : ρ 15 = .slice a45 (x1.Sides).length c46 := e47r
    rw [e47r] at hm48
    have hs := hs.memo1 (it := vl (tSlice t_network_Side) x1.Sides (.slice a45 (x1.Sides).length c46)) (List.mem_append.2 (.inl (hm48 _ (List.mem_of_getElem? (i := 0) rfl))))
    have hs := hs.ownEmpty t_network_Side 69 a42
    refine WL.appendS (zs := x26) hs 0 rfl 0 rfl UN23 UN23 EI69 e43 e47 hbx26 (by omega) hex26 (fun v27 w hs => ?_)
    obtain ⟨a28, n30, c29, rfl⟩ := hs.ownv3 0 rfl
    exact WL.nil ⟨rfl, _, rfl, ⟨(a28, n30, c29), rfl⟩, hs.cutG 0 1⟩
  · intro ρ w Γx Λx hs hu hp
    have e49 : ρ 8 = .int .i64 x1.Next := (hp 1 rfl).1
    obtain ⟨⟨⟨a50, n52, c51⟩, e53r⟩, hm54⟩ := hp 5 rfl
    have e53 : ρ 12 = .slice a50 n52 c51 := e53r
    obtain ⟨⟨⟨a55, n57, c56⟩, e58r⟩, hm59⟩ := hp 9 rfl
    have e58 : ρ 16 = .slice a55 n57 c56 := e58r
    refine WL.build (vs := [(0, .int .i64 x1.Next), (1, .slice a50 n52 c51), (2, .slice a55 n57 c56)]) (cs := [.int .i64 x1.Next, .slice a50 n52 c51, .slice a55 n57 c56]) ⟨⟨rfl, e49⟩, ⟨⟨rfl, e53⟩, ⟨⟨rfl, e58⟩, trivial⟩⟩⟩ (bld PL27 rfl) ?_
    exact WL.nil ⟨rfl, _, rfl, (show (.agg ([.int .i64 x1.Next, .slice a50 n52 c51, .slice a55 n57 c56] : List Value).toArray : Value) = (.agg ([.int .i64 x1.Next, ρ 12, ρ 16] : List Value).toArray : Value) by rw [e53, e58]), hs.cutG 0 0⟩
  · intro ρ w Γx Λx hs hu hp
    refine WL.alloc hs ZV27 (fun g31 w hs => ?_)
    exact WL.nil ⟨rfl, _, rfl, ⟨g31, rfl⟩, hs.cutG 0 0⟩
  · intro ρ w hs hu60 hp
    obtain ⟨⟨⟨⟨⟨⟨⟨⟨⟨⟨⟨⟨_, hp0_⟩, hp1_⟩, hp2_⟩, hp3_⟩, hp4_⟩, hp5_⟩, hp6_⟩, hp7_⟩, hp8_⟩, hp9_⟩, hp10_⟩, hp11_⟩ := hp
    have hs : St ok (bz w0) w [vl (tSlice t_network_Side) x1.Sides (ρ 15), vl (tSlice t_network_Packet) x1.Packets (ρ 11), vl t_network_Network x1 (.agg cs3.toArray), vl (tSlice t_api_Message) x5 (.slice a6 x5.length c7)] [blk (gOf ((ρ 5))) 27 [.int .i64 0, .slice none 0 0, .slice none 0 0], own t_network_Side 69 ((ρ 16)) x26, own t_network_Packet 51 ((ρ 12)) x17, blk g10 27 [.int .i64 0, .slice none 0 0, .slice none 0 0], blk g9 27 cs3] := hs
    obtain ⟨g61, e62⟩ := hp11_
    have e62 : ρ 5 = .pointer (some ⟨g61, 0, none⟩) := e62
    try rw [e62] at hs
    obtain ⟨⟨a63, n65, c64⟩, e66⟩ := hp9_
    have e66 : ρ 16 = .slice a63 n65 c64 := e66
    try rw [e66] at hs
    obtain ⟨⟨a67, c68⟩, e69⟩ := hp8_
    have e69 : ρ 15 = .slice a67 (x1.Sides).length c68 := e69
    try rw [e69] at hs
    have e70 : ρ 14 = .pointer (some ⟨g9, 2, none⟩) := hp7_
    obtain ⟨a71, e72⟩ := hp6_
    have e72 : ρ 13 = .slice a71 0 0 := e72
    try rw [e72] at hs
    obtain ⟨⟨a73, n75, c74⟩, e76⟩ := hp5_
    have e76 : ρ 12 = .slice a73 n75 c74 := e76
    try rw [e76] at hs
    obtain ⟨⟨a77, c78⟩, e79⟩ := hp4_
    have e79 : ρ 11 = .slice a77 (x1.Packets).length c78 := e79
    try rw [e79] at hs
    have e80 : ρ 10 = .pointer (some ⟨g9, 1, none⟩) := hp3_
    obtain ⟨a81, e82⟩ := hp2_
    have e82 : ρ 9 = .slice a81 0 0 := e82
    try rw [e82] at hs
    have e83 : ρ 8 = .int .i64 x1.Next := hp1_
    have e84 : ρ 7 = .pointer (some ⟨g9, 0, none⟩) := hp0_
    have e85 : ρ 17 = .agg ([.int .i64 x1.Next, ρ 12, ρ 16] : List Value).toArray := hp10_
    rw [e76, e66] at e85
    refine WA.step [12] (by kernel_rfl) (by simp) ⟨?_, trivial⟩
    refine WL.storeAll (vs := [.int .i64 x1.Next, .slice a73 n75 c74, .slice a63 n65 c64]) hs 0 rfl TI27 e62 e85 rfl rfl (ones_of rfl) rfl (fun w hs => ?_)
    refine WL.nil ⟨rfl, _, rfl, ?_⟩
    refine WA.done (by kernel_rfl) ?_
    refine hK11 _ _ ?_
    refine W.seqK fun K86 hK86 => ?_
    have Jk93 : ∀ (x88 : Int) (x89 : List network_Packet) (a90 : Option Addr) (c91 : Nat) (n92 : Nat) (ρ : Env) (w : World), ρ 4 = .pointer (some ⟨g10, 0, none⟩) → ρ 5 = .pointer (some ⟨g61, 0, none⟩) → St ok (bz w0) w [] [blk g61 27 [.int .i64 x88, .slice a90 n92 c91, .slice a63 n65 c64], own t_network_Side 69 (.slice a63 n65 c64) x26, own t_network_Packet 51 (.slice a90 n92 c91) x89, blk g10 27 [.int .i64 0, .slice none 0 0, .slice none 0 0]] → esref36_Send.j1 x26 x88 x89 = some r → K86 ρ w := by
      intro x88 x89 a90 c91 n92 ρ w h87_4 h87_5 hs hf
      refine hK86 _ _ ?_
      unfold esref36_Send.j1 at hf
      refine W.seqK fun K94 hK94 => ?_
      refine W.region ?_
      refine WL.loadN (vs := [.int .i64 x88, .slice a90 n92 c91, .slice a63 n65 c64]) hs 0 rfl TI27 h87_5 rfl rfl ?_
      refine WL.storeAll (vs := [.int .i64 x88, .slice a90 n92 c91, .slice a63 n65 c64]) hs 3 rfl TI27 h87_4 rfl rfl rfl (ones_of rfl) rfl (fun w hs => ?_)
      refine WL.nil ?_
      refine hK94 _ _ ?_
      refine W.ret ?_
      have hr := Option.some.inj hf; subst hr
      have hs := hs.front 1 rfl
      have hs := hs.front 2 rfl
      exact ⟨_, resOk_one rfl (res_all hs 3 rfl TI27 h87_4 rfl), ((a90, n92, c91), (a63, n65, c64)), rfl, (hs.mask [true, true]).pick []⟩
    refine W.seqK fun K95 hK95 => ?_
    refine W.region ?_
    refine WL.assign (v := .int .i64 0) rfl ?_
    refine WL.nil ?_
    refine hK95 _ _ ?_
    refine W.block ?_
    obtain ⟨bs103, hbs103, hfs103⟩ := bindE hf
    refine W.loop hbs103 (fun s ρ w => match s with | (x97, x98, x99) => ∃ (a100 : Option Addr), ∃ (c101 : Nat), ∃ (n102 : Nat), ρ 1 = .slice a6 x5.length c7 ∧ ρ 4 = .pointer (some ⟨g10, 0, none⟩) ∧ ρ 5 = .pointer (some ⟨g61, 0, none⟩) ∧ ρ 6 = .int .i64 x97 ∧ St ok (bz w0) w [vl (tSlice t_api_Message) x5 (.slice a6 x5.length c7)] [blk g61 27 [.int .i64 x98, .slice a100 n102 c101, .slice a63 n65 c64], own t_network_Side 69 (.slice a63 n65 c64) x26, own t_network_Packet 51 (.slice a100 n102 c101) x99, blk g10 27 [.int .i64 0, .slice none 0 0, .slice none 0 0]]) ⟨a73, c74, n75, (hu60 1 rfl), (hu60 4 rfl), e62, rfl, (hs.mask [true, true, true, true]).pick [3]⟩ ?_
    intro s ρ w os103 hI hf hbbs103
    obtain ⟨x97, x98, x99⟩ := s
    obtain ⟨a100, c101, n102, h96_1, h96_4, h96_5, h96_6, hs⟩ := hI
    unfold esref36_Send.l1 at hf
    refine W.seqK fun K104 hK104 => ?_
    refine W.seqK fun K105 hK105 => ?_
    have Jk108 : ∀ (x107 : Bool) (ρ : Env) (w : World), ρ 1 = .slice a6 x5.length c7 → ρ 4 = .pointer (some ⟨g10, 0, none⟩) → ρ 5 = .pointer (some ⟨g61, 0, none⟩) → ρ 6 = .int .i64 x97 → ρ 27 = .bool x107 → St ok (bz w0) w [vl (tSlice t_api_Message) x5 (.slice a6 x5.length c7)] [blk g61 27 [.int .i64 x98, .slice a100 n102 c101, .slice a63 n65 c64], own t_network_Side 69 (.slice a63 n65 c64) x26, own t_network_Packet 51 (.slice a100 n102 c101) x99, blk g10 27 [.int .i64 0, .slice none 0 0, .slice none 0 0]] → esref36_Send.j2 x5 x97 x98 x99 x107 = some os103 → K105 ρ w := by
      intro x107 ρ w h106_1 h106_4 h106_5 h106_6 h106_27 hs hf
      refine hK105 _ _ ?_
      unfold esref36_Send.j2 at hf
      rcases iteE hf with ⟨hc109, hf⟩ | ⟨hc109, hf⟩
      · refine W.cond_true (bool_tr h106_27 hc109) ?_
        refine W.skip ?_
        refine hK104 _ _ ?_
        refine W.seqK fun K110 hK110 => ?_
        refine W.block ?_
        refine W.seqK fun K111 hK111 => ?_
        obtain ⟨x112, hxx112, hf⟩ := bindE hf
        refine W.any (by kernel_rfl) 10 3 [true, true, true, true, true, true, true, true, true, true, false, false, false] rfl rfl (poAt [pv (.pointer (some ⟨g61, 1, none⟩)), pv (.slice a100 n102 c101), pv (.pointer (some ⟨g61, 0, none⟩)), pv (.int .i64 x98), pv (.slice a6 x5.length c7), pv (.int .i64 x97), pq (fun y : Addr => .pointer (some y)) (fun v => [pl t_api_Message x112 (adOf v)]) (fun v => []), pq (fun y : List Value => .agg y.toArray) (fun v => [vl t_api_Message x112 v]) (fun v => []), pn [7] (fun r => .agg ([.int .i64 x98] ++ cellsOf (r.getD 0 undef) : List Value).toArray), pq (fun y : (Option Addr × Nat) => .slice y.1 ([(⟨x98, x112⟩ : network_Packet)]).length y.2) (fun v => [vl (tSlice t_network_Packet) [(⟨x98, x112⟩ : network_Packet)] v]) (fun v => [])]) (Λ := [blk g61 27 [.int .i64 x98, .slice a100 n102 c101, .slice a63 n65 c64], own t_network_Side 69 (.slice a63 n65 c64) x26, own t_network_Packet 51 (.slice a100 n102 c101) x99, blk g10 27 [.int .i64 0, .slice none 0 0, .slice none 0 0]]) hs (by kernel_rfl) (by kernel_rfl) (by kernel_rfl) ⟨⟨⟨⟨⟨⟨⟨⟨⟨⟨trivial, ?_⟩, ?_⟩, ?_⟩, ?_⟩, ?_⟩, ?_⟩, ?_⟩, ?_⟩, ?_⟩, ?_⟩ ?_
        · intro ρ w Γx Λx hs hu hp
          refine WL.fieldAddr (m := 1) ((hu 5 rfl).trans h106_5) FA27_1 rfl ?_
          exact WL.nil ⟨rfl, _, rfl, rfl, hs.cutG 0 0⟩
        · intro ρ w Γx Λx hs hu hp
          have e119 : ρ 30 = .pointer (some ⟨g61, 1, none⟩) := (hp 0 rfl).1
          refine WL.load1 (v := .slice a100 n102 c101) hs (Λx.length + 0) (getApp rfl) TI25 e119 rfl ?_
          exact WL.nil ⟨rfl, _, rfl, rfl, hs.cutG 0 0⟩
        · intro ρ w Γx Λx hs hu hp
          refine WL.fieldAddr (m := 0) ((hu 5 rfl).trans h106_5) FA27_0 rfl ?_
          exact WL.nil ⟨rfl, _, rfl, rfl, hs.cutG 0 0⟩
        · intro ρ w Γx Λx hs hu hp
          have e120 : ρ 32 = .pointer (some ⟨g61, 0, none⟩) := (hp 2 rfl).1
          refine WL.load1 (v := .int .i64 x98) hs (Λx.length + 0) (getApp rfl) TI3 e120 rfl ?_
          exact WL.nil ⟨rfl, _, rfl, rfl, hs.cutG 0 0⟩
        · intro ρ w Γx Λx hs hu hp
          refine WL.move (v := .slice a6 x5.length c7) ((hu 1 rfl).trans h106_1) ?_
          exact WL.nil ⟨rfl, _, rfl, rfl, hs.cutG 0 0⟩
        · intro ρ w Γx Λx hs hu hp
          refine WL.move (v := .int .i64 x97) ((hu 6 rfl).trans h106_6) ?_
          exact WL.nil ⟨rfl, _, rfl, rfl, hs.cutG 0 0⟩
        · intro ρ w Γx Λx hs hu hp
          have e121 : ρ 34 = .slice a6 x5.length c7 := (hp 4 rfl).1
          have e122 : ρ 35 = .int .i64 x97 := (hp 5 rfl).1
          refine WL.indexAddr hs (Γx.length + 0) (getApp rfl) UN30 TI49 e121 e122 hxx112 (fun ad113 hs => ?_)
          have hs := hs.add (it := pl t_api_Message x112 ad113) fun ok hA => hA.get 0 rfl
          exact WL.nil ⟨rfl, _, rfl, ⟨ad113, rfl⟩, hs.cutG 1 1⟩
        · intro ρ w Γx Λx hs hu hp
          obtain ⟨⟨ad123, e124r⟩, hm125⟩ := hp 6 rfl
          have e124 : ρ 36 = .pointer (some ad123) := e124r
          rw [e124r] at hm125
          have hs := hs.memo1 (it := pl t_api_Message x112 ad123) (List.mem_append.2 (.inl (hm125 _ (List.mem_of_getElem? (i := 0) rfl))))
          refine WL.loadP hs 0 rfl TI49 (.inl rfl) e124 (fun v114 hs => ?_)
          obtain ⟨cs115, hl116, rfl⟩ := hs.aggv (n := 18) 0 rfl rfl rfl
          have hs := hs.add (it := vl t_api_Message x112 (.agg cs115.toArray)) fun ok hA => hA.get 0 rfl
          exact WL.nil ⟨rfl, _, rfl, ⟨cs115, rfl⟩, hs.cutG 1 2⟩
        · intro ρ w Γx Λx hs hu hp
          have e126 : ρ 33 = .int .i64 x98 := (hp 3 rfl).1
          obtain ⟨⟨cs127, e129r⟩, hm130⟩ := hp 7 rfl
          have e129 : ρ 37 = .agg cs127.toArray := e129r
          rw [e129r] at hm130
          have hs := hs.memo1 (it := vl t_api_Message x112 (.agg cs127.toArray)) (List.mem_append.2 (.inl (hm130 _ (List.mem_of_getElem? (i := 0) rfl))))
          have hl128 := hs.agglen (n := 18) 0 rfl rfl rfl
          refine WL.build (vs := [(0, .int .i64 x98), (1, .agg cs127.toArray)]) (cs := ([.int .i64 x98] : List Value) ++ cs127) ⟨⟨rfl, e126⟩, ⟨⟨rfl, e129⟩, trivial⟩⟩ (bld PL51 (by simp [fillL, Value.cells, hl128])) ?_
          exact WL.nil ⟨rfl, _, rfl, (show (.agg (([.int .i64 x98] : List Value) ++ cs127 : List Value).toArray : Value) = (.agg ([.int .i64 x98] ++ cellsOf (ρ 37) : List Value).toArray : Value) by rw [e129]; rfl), hs.cutG 0 1⟩
        · intro ρ w Γx Λx hs hu hp
          obtain ⟨⟨cs131, e133r⟩, hm134⟩ := hp 7 rfl
          have e133 : ρ 37 = .agg cs131.toArray := e133r
          rw [e133r] at hm134
          have hs := hs.memo1 (it := vl t_api_Message x112 (.agg cs131.toArray)) (List.mem_append.2 (.inl (hm134 _ (List.mem_of_getElem? (i := 0) rfl))))
          have hl132 := hs.agglen (n := 18) 0 rfl rfl rfl
          have e135 : ρ 38 = .agg ([.int .i64 x98] ++ cellsOf (ρ 37) : List Value).toArray := (hp 8 rfl).1
          rw [e133] at e135
          simp only [cellsOf] at e135
          refine WL.buildSliceB (ys := [(⟨x98, x112⟩ : network_Packet)]) (n := 1) (vs := [(0, .agg (([.int .i64 x98] : List Value) ++ cs131 : List Value).toArray)]) (cs := ([.int .i64 x98] : List Value) ++ cs131) hs ⟨⟨rfl, e135⟩, trivial⟩ (bls PS25 (by decide) (by simp [fillS, fillL, Value.cells, hl132])) (fun ok hA => (Cells.one (T := t_network_Packet) (show t_network_Packet.R ok _ (⟨x98, x112⟩ : network_Packet) _ from ⟨[.int .i64 x98], cs131, by simp, rfl, (R_agg (hA.get 0 rfl) rfl)⟩))) rfl (by decide) (fun a118 w hBl hs => ?_)
          have hs := hs.add (it := vl (tSlice t_network_Packet) [(⟨x98, x112⟩ : network_Packet)] (.slice a118 ([(⟨x98, x112⟩ : network_Packet)]).length 1)) fun ok hA => hA.get 0 rfl
          exact WL.nil ⟨rfl, _, rfl, ⟨(a118, 1), rfl⟩, hs.cutG 1 2⟩
        · intro ρ w hs hu136 hp
          obtain ⟨⟨⟨⟨⟨⟨⟨⟨⟨⟨_, hp0_⟩, hp1_⟩, hp2_⟩, hp3_⟩, hp4_⟩, hp5_⟩, hp6_⟩, hp7_⟩, hp8_⟩, hp9_⟩ := hp
          have hs : St ok (bz w0) w [vl (tSlice t_network_Packet) [(⟨x98, x112⟩ : network_Packet)] (ρ 39), vl t_api_Message x112 (ρ 37), pl t_api_Message x112 (adOf (ρ 36)), vl (tSlice t_api_Message) x5 (.slice a6 x5.length c7)] [blk g61 27 [.int .i64 x98, .slice a100 n102 c101, .slice a63 n65 c64], own t_network_Side 69 (.slice a63 n65 c64) x26, own t_network_Packet 51 (.slice a100 n102 c101) x99, blk g10 27 [.int .i64 0, .slice none 0 0, .slice none 0 0]] := hs
          obtain ⟨⟨a137, c138⟩, e139⟩ := hp9_
          have e139 : ρ 39 = .slice a137 ([(⟨x98, x112⟩ : network_Packet)]).length c138 := e139
          try rw [e139] at hs
          obtain ⟨cs140, e142⟩ := hp7_
          have e142 : ρ 37 = .agg cs140.toArray := e142
          try rw [e142] at hs
          obtain ⟨ad143, e144⟩ := hp6_
          have e144 : ρ 36 = .pointer (some ad143) := e144
          try rw [e144] at hs
          have e145 : ρ 35 = .int .i64 x97 := hp5_
          have e146 : ρ 34 = .slice a6 x5.length c7 := hp4_
          have e147 : ρ 33 = .int .i64 x98 := hp3_
          have e148 : ρ 32 = .pointer (some ⟨g61, 0, none⟩) := hp2_
          have e149 : ρ 31 = .slice a100 n102 c101 := hp1_
          have e150 : ρ 30 = .pointer (some ⟨g61, 1, none⟩) := hp0_
          have e151 : ρ 38 = .agg ([.int .i64 x98] ++ cellsOf (ρ 37) : List Value).toArray := hp8_
          rw [e142] at e151
          simp only [cellsOf] at e151
          have hl141 := hs.agglen (n := 18) 1 rfl rfl rfl
          refine WA.step [10] (by kernel_rfl) (by simp) ⟨?_, trivial⟩
          obtain ⟨x152, hxx152, hf⟩ := bindE hf
          obtain ⟨hbx152, hex152⟩ := appE hxx152
          refine WL.appendS (zs := x152) hs 2 rfl 0 rfl UN25 UN25 EI51 e149 e139 hbx152 (by omega) hex152 (fun v153 w hs => ?_)
          obtain ⟨a154, n156, c155, rfl⟩ := hs.ownv3 2 rfl
          refine WL.nil ⟨rfl, _, rfl, ?_⟩
          refine WA.step [11] (by kernel_rfl) (by simp) ⟨?_, trivial⟩
          refine WL.fieldAddr (m := 1) ((hu136 5 rfl).trans h106_5) FA27_1 rfl ?_
          refine WL.nil ⟨rfl, _, rfl, ?_⟩
          refine WA.step [12] (by kernel_rfl) (by simp) ⟨?_, trivial⟩
          refine WL.store (vs := [.slice a154 n156 c155]) (cs' := [.int .i64 x98, .slice a154 n156 c155, .slice a63 n65 c64]) hs 0 rfl TI25 rfl rfl rfl rfl (ones_of rfl) (Nat.le_of_ble_eq_true rfl) rfl (fun w hs => ?_)
          refine WL.nil ⟨rfl, _, rfl, ?_⟩
          refine WA.done (by kernel_rfl) ?_
          refine hK111 _ _ ?_
          refine W.region ?_
          refine WL.fieldAddr (m := 0) ((hu136 5 rfl).trans h106_5) FA27_0 rfl ?_
          refine WL.load1 (v := .int .i64 x98) hs 0 rfl TI3 rfl rfl ?_
          obtain ⟨x157, ex157, hf⟩ := letE hf
          refine WL.bin (v := .int .i64 x157) rfl rfl (ib_as ex157 (ib_add _ _ _)) ?_
          refine WL.fieldAddr (m := 0) ((hu136 5 rfl).trans h106_5) FA27_0 rfl ?_
          refine WL.store (vs := [.int .i64 x157]) (cs' := [.int .i64 x157, .slice a154 n156 c155, .slice a63 n65 c64]) hs 0 rfl TI3 rfl rfl rfl rfl (ones_of rfl) (Nat.le_of_ble_eq_true rfl) rfl (fun w hs => ?_)
          refine WL.nil ?_
          refine hK110 _ _ ?_
          refine W.region ?_
          refine WL.move (v := .int .i64 x97) ((hu136 6 rfl).trans h106_6) ?_
          obtain ⟨x158, ex158, hf⟩ := letE hf
          refine WL.bin (v := .int .i64 x158) rfl rfl (ib_as ex158 (ib_add _ _ _)) ?_
          refine WL.assign (v := .int .i64 x158) rfl ?_
          refine WL.nil ?_
          exact ⟨_, (Option.some.inj hf).symm, a154, c155, n156, ((hu136 1 rfl).trans h106_1), ((hu136 4 rfl).trans h106_4), ((hu136 5 rfl).trans h106_5), rfl, (hs.mask [true, true, true, true]).pick [3]⟩
      · refine W.cond_false (bool_tr h106_27 hc109) ?_
        refine W.exit ?_
        have hr := Option.some.inj hf; subst hr
        have hr := hbbs103 _ rfl; subst hr
        have hf := hfs103
        exact Jk93 x98 x99 a100 c101 n102 _ _ h106_4 h106_5 ((hs.mask [true, true, true, true]).pick []) hf
    refine W.region ?_
    refine WL.move (v := .int .i64 x97) h96_6 ?_
    refine WL.move (v := .slice a6 x5.length c7) h96_1 ?_
    refine WL.len (v := .slice a6 x5.length c7) rfl (len_slice UN30) ?_
    refine WL.bin (v := .bool (decide (x97 < (x5.length : Int)))) rfl rfl (ib_lss _ _ _) ?_
    refine WL.move (v := .bool (decide (x97 < (x5.length : Int)))) rfl ?_
    rcases iteE hf with ⟨hc159, hf⟩ | ⟨hc159, hf⟩
    · refine WL.fieldAddr (m := 1) h96_5 FA27_1 rfl ?_ (hg := (wanted_of rfl rfl (bool_tr rfl hc159)).trans rfl)
      refine WL.load1 (v := .slice a100 n102 c101) hs 0 rfl TI25 rfl rfl ?_ (hg := (wanted_of rfl rfl (bool_tr rfl hc159)).trans rfl)
      refine WL.len (v := .slice a100 n102 c101) rfl (len_own hs 2 rfl UN25) ?_ (hg := (wanted_of rfl rfl (bool_tr rfl hc159)).trans rfl)
      refine WL.bin (v := .bool (decide ((x99.length : Int) < 4096))) rfl rfl (ib_lss _ _ _) ?_ (hg := (wanted_of rfl rfl (bool_tr rfl hc159)).trans rfl)
      refine WL.pickT (v := .bool (decide ((x99.length : Int) < 4096))) (bool_tr rfl hc159) rfl ?_
      refine WL.nil ?_
      exact Jk108 (decide ((x99.length : Int) < 4096)) _ _ h96_1 h96_4 h96_5 h96_6 rfl ((hs.mask [true, true, true, true]).pick [0]) hf
    · refine WL.pass ((wanted_of rfl rfl (bool_tr rfl hc159)).trans rfl) rfl ?_
      refine WL.pass ((wanted_of rfl rfl (bool_tr rfl hc159)).trans rfl) rfl ?_
      refine WL.pass ((wanted_of rfl rfl (bool_tr rfl hc159)).trans rfl) rfl ?_
      refine WL.pass ((wanted_of rfl rfl (bool_tr rfl hc159)).trans rfl) rfl ?_
      refine WL.pickF (v := .bool false) (bool_tr rfl hc159) rfl ?_
      refine WL.nil ?_
      exact Jk108 false _ _ h96_1 h96_4 h96_5 h96_6 rfl ((hs.mask [true, true, true, true]).pick [0]) hf
theorem esref36_Send.callc {ok : Nat → Prop} {w0 : World} {x1 : network_Network} {x5 : List api_Message} {v2 : Value} {a6 : Option Addr} {c7 : Nat} {r : network_Network} (hf : esref36_Send x1 x5 = some r) (i0 : (vl t_network_Network x1 v2).holds ok w0) (i1 : (vl (tSlice t_api_Message) x5 (.slice a6 x5.length c7)).holds ok w0) :
    Calls Try.prog 39 #[v2, .slice a6 x5.length c7] w0 fun e w' => ∃ v, e = .returned v ∧ ∃ y : List Value, v = .agg y.toArray ∧ St ok (bz w0) w' [vl t_network_Network r (.agg y.toArray)] [] := by
  refine (esref36_Send.calls (ok := ok) (w0 := w0) (x1 := x1) (x5 := x5) hf i0 i1).mono ?_
  rintro e w' ⟨v, rfl, ⟨⟨a162, n163, c164⟩, ⟨a165, n166, c167⟩⟩, rfl, hs⟩
  obtain rfl := hs.ownLen 0 rfl
  have hs := hs.freezeOwn 0 rfl
  obtain rfl := hs.ownLen 0 rfl
  have hs := hs.freezeOwn 0 rfl
  have hs := hs.add (it := vl t_network_Network (⟨r.Next, r.Packets, r.Sides⟩ : network_Network) (.agg [.int .i64 r.Next, .slice a162 (r.Packets).length c164, .slice a165 (r.Sides).length c167].toArray)) fun ok hA => V_agg (show t_network_Network.R ok _ _ _ from ⟨[.int .i64 r.Next], [.slice a162 (r.Packets).length c164, .slice a165 (r.Sides).length c167], rfl, rfl, ⟨[.slice a162 (r.Packets).length c164], [.slice a165 (r.Sides).length c167], rfl, (R_one (hA.get 1 rfl)), (R_one (hA.get 0 rfl))⟩⟩) rfl
  exact ⟨_, rfl, [.int .i64 r.Next, .slice a162 (r.Packets).length c164, .slice a165 (r.Sides).length c167], rfl, hs.pick [0]⟩
/-! elasticstore/elasticstoreref36.without: function 53 -/
theorem esref36_without.calls {ok : Nat → Prop} {w0 : World} {x1 : network_Network} {x5 : Int} {v2 : Value} {r : network_Network} (hf : esref36_without x1 x5 = some r) (i0 : (vl t_network_Network x1 v2).holds ok w0) :
    Calls Try.prog 53 #[v2, .int .i64 x5] w0 fun e w' => ∃ v, e = .returned v ∧ ∃ y : (Option Addr × Nat × Nat) × (Option Addr × Nat × Nat), v = .agg ([.int .i64 r.Next, .slice y.1.1 y.1.2.1 y.1.2.2, .slice y.2.1 y.2.2.1 y.2.2.2] : List Value).toArray ∧ St ok (bz w0) w' [] [own t_network_Packet 51 (.slice y.1.1 y.1.2.1 y.1.2.2) r.Packets, own t_network_Side 69 (.slice y.2.1 y.2.2.1 y.2.2.2) r.Sides] := by
  unfold esref36_without at hf
  refine calls_of_W (fn := Try.f53) (N := 22) Try.func53 rfl Try.ntmps53 rfl ?_
  have hs : St ok (bz w0) w0 [vl t_network_Network x1 v2] [] := St.init (All.cons i0 All.nil)
  clear i0
  obtain ⟨cs3, hl4, rfl⟩ := hs.aggv (n := 3) 0 rfl rfl rfl
  refine W.seqK fun K6 hK6 => ?_
  refine W.region ?_
  refine WL.box (vs := cs3) hs rfl rfl (fun g7 w hs => ?_)
  refine WL.alloc hs ZV27 (fun g8 w hs => ?_)
  refine WL.nil ?_
  refine hK6 _ _ ?_
  refine W.seqK fun K9 hK9 => ?_
  refine W.region ?_
  refine WL.loadAll hs 1 rfl TI27 rfl hl4 ?_
  have hs := hs.add (it := vl (tSlice t_api_Message) [] (.slice none 0 0)) fun ok hA => V_nil
  obtain ⟨x10, hxx10, hf⟩ := bindE hf
  refine WL.call (vs := [.agg cs3.toArray, .slice none 0 0]) hs FN39 ⟨rfl, ⟨rfl, trivial⟩⟩ (fun ok hA => esref36_Send.calls (a6 := none) (c7 := 0) (x1 := x1) (x5 := []) hxx10 (hA.get 1 rfl) (hA.get 0 rfl)) ?_
  rintro ⟨⟨a11, n12, c13⟩, ⟨a14, n15, c16⟩⟩ w hs
  refine WL.alloc hs ZV27 (fun g17 w hs => ?_)
  refine WL.storeAll (vs := [.int .i64 x10.Next, .slice a11 n12 c13, .slice a14 n15 c16]) hs 0 rfl TI27 rfl rfl rfl rfl (ones_of rfl) rfl (fun w hs => ?_)
  refine WL.nil ?_
  refine hK9 _ _ ?_
  refine W.seqK fun K18 hK18 => ?_
  obtain ⟨x23, hxx23, hf⟩ := bindE hf
  obtain ⟨x26, hxx26, hf⟩ := bindE hf
  obtain ⟨hbx26, hex26⟩ := appE hxx26
  obtain ⟨x34, ex34, hf⟩ := letE hf
  obtain ⟨x35, hxx35, hf⟩ := bindE hf
  refine W.any (by kernel_rfl) 11 3 [true, true, true, true, true, true, true, true, true, true, true, false, false, false] rfl rfl (poAt [pq (fun y : Option Addr => .slice y 0 0) (fun v => []) (fun v => []), pv (.pointer (some ⟨g7, 1, none⟩)), pq (fun y : (Option Addr × Nat) => .slice y.1 (x1.Packets).length y.2) (fun v => [vl (tSlice t_network_Packet) x1.Packets v]) (fun v => []), pv (.int .i64 x5), pq (fun y : (Option Addr × Nat) => .slice y.1 x23.length y.2) (fun v => [vl (tSlice t_network_Packet) x23 v]) (fun v => []), pq (fun y : (Option Addr × Nat × Nat) => .slice y.1 y.2.1 y.2.2) (fun v => []) (fun v => [own t_network_Packet 51 v x26]), pv (.pointer (some ⟨g7, 1, none⟩)), pq (fun y : (Option Addr × Nat) => .slice y.1 (x1.Packets).length y.2) (fun v => [vl (tSlice t_network_Packet) x1.Packets v]) (fun v => []), pv (.int .i64 x5), pv (.int .i64 x34), pq (fun y : (Option Addr × Nat) => .slice y.1 x35.length y.2) (fun v => [vl (tSlice t_network_Packet) x35 v]) (fun v => [])]) (Λ := [blk g17 27 [.int .i64 x10.Next, .slice a11 n12 c13, .slice a14 n15 c16], own t_network_Packet 51 (.slice a11 n12 c13) x10.Packets, own t_network_Side 69 (.slice a14 n15 c16) x10.Sides, blk g8 27 [.int .i64 0, .slice none 0 0, .slice none 0 0], blk g7 27 cs3]) hs (by kernel_rfl) (by kernel_rfl) (by kernel_rfl) ⟨⟨⟨⟨⟨⟨⟨⟨⟨⟨⟨trivial, ?_⟩, ?_⟩, ?_⟩, ?_⟩, ?_⟩, ?_⟩, ?_⟩, ?_⟩, ?_⟩, ?_⟩, ?_⟩ ?_
  · intro ρ w Γx Λx hs hu hp
    refine WL.buildSlice0 hs UN25 TI51 (fun a19 w hs => ?_)
    exact WL.nil ⟨rfl, _, rfl, ⟨a19, rfl⟩, hs.cutG 0 0⟩
  · intro ρ w Γx Λx hs hu hp
    refine WL.fieldAddr (m := 1) (hu 2 rfl) FA27_1 rfl ?_
    exact WL.nil ⟨rfl, _, rfl, rfl, hs.cutG 0 0⟩
  · intro ρ w Γx Λx hs hu hp
    have e38 : ρ 9 = .pointer (some ⟨g7, 1, none⟩) := (hp 1 rfl).1
    refine WL.loadF (z := x1.Packets) F_network_Network_Packets hs (Λx.length + 4) (getApp rfl) (Γx.length + 1) (getApp rfl) rfl TI25 (.inr rfl) e38 rfl (fun v20 hs => ?_)
    obtain ⟨a21, c22, rfl⟩ := hs.slice 0 rfl
    have hs := hs.add (it := vl (tSlice t_network_Packet) x1.Packets (.slice a21 (x1.Packets).length c22)) fun ok hA => hA.get 0 rfl
    exact WL.nil ⟨rfl, _, rfl, ⟨(a21, c22), rfl⟩, hs.cutG 1 1⟩
  · intro ρ w Γx Λx hs hu hp
    refine WL.move (v := .int .i64 x5) (hu 1 rfl) ?_
    exact WL.nil ⟨rfl, _, rfl, rfl, hs.cutG 0 0⟩
  · intro ρ w Γx Λx hs hu hp
    obtain ⟨⟨⟨a39, c40⟩, e41r⟩, hm42⟩ := hp 2 rfl
    have e41 : ρ 10 = .slice a39 (x1.Packets).length c40 := e41r
    rw [e41r] at hm42
    have hs := hs.memo1 (it := vl (tSlice t_network_Packet) x1.Packets (.slice a39 (x1.Packets).length c40)) (List.mem_append.2 (.inl (hm42 _ (List.mem_of_getElem? (i := 0) rfl))))
    have e43 : ρ 11 = .int .i64 x5 := (hp 3 rfl).1
    refine WL.slice_h hs 0 rfl UN25 TI51 e41 e43 hxx23 (fun a24 c25 hs => ?_)
    have hs := hs.add (it := vl (tSlice t_network_Packet) x23 (.slice a24 x23.length c25)) fun ok hA => hA.get 0 rfl
    exact WL.nil ⟨rfl, _, rfl, ⟨(a24, c25), rfl⟩, hs.cutG 1 2⟩
  · intro ρ w Γx Λx hs hu hp
    obtain ⟨⟨a44, e45r⟩, hm46⟩ := hp 0 rfl
    have e45 : ρ 8 = .slice a44 0 0 := e45r
    obtain ⟨⟨⟨a47, c48⟩, e49r⟩, hm50⟩ := hp 4 rfl
    have e49 : ρ 12 = .slice a47 x23.length c48 := e49r
    rw [e49r] at hm50
    have hs := hs.memo1 (it := vl (tSlice t_network_Packet) x23 (.slice a47 x23.length c48)) (List.mem_append.2 (.inl (hm50 _ (List.mem_of_getElem? (i := 0) rfl))))
    have hs := hs.ownEmpty t_network_Packet 51 a44
    refine WL.appendS (zs := x26) hs 0 rfl 0 rfl UN25 UN25 EI51 e45 e49 hbx26 (by omega) hex26 (fun v27 w hs => ?_)
    obtain ⟨a28, n30, c29, rfl⟩ := hs.ownv3 0 rfl
    exact WL.nil ⟨rfl, _, rfl, ⟨(a28, n30, c29), rfl⟩, hs.cutG 0 1⟩
  · intro ρ w Γx Λx hs hu hp
    refine WL.fieldAddr (m := 1) (hu 2 rfl) FA27_1 rfl ?_
    exact WL.nil ⟨rfl, _, rfl, rfl, hs.cutG 0 0⟩
  · intro ρ w Γx Λx hs hu hp
    have e51 : ρ 14 = .pointer (some ⟨g7, 1, none⟩) := (hp 6 rfl).1
    refine WL.loadF (z := x1.Packets) F_network_Network_Packets hs (Λx.length + 4) (getApp rfl) (Γx.length + 1) (getApp rfl) rfl TI25 (.inr rfl) e51 rfl (fun v31 hs => ?_)
    obtain ⟨a32, c33, rfl⟩ := hs.slice 0 rfl
    have hs := hs.add (it := vl (tSlice t_network_Packet) x1.Packets (.slice a32 (x1.Packets).length c33)) fun ok hA => hA.get 0 rfl
    exact WL.nil ⟨rfl, _, rfl, ⟨(a32, c33), rfl⟩, hs.cutG 1 1⟩
  · intro ρ w Γx Λx hs hu hp
    refine WL.move (v := .int .i64 x5) (hu 1 rfl) ?_
    exact WL.nil ⟨rfl, _, rfl, rfl, hs.cutG 0 0⟩
  · intro ρ w Γx Λx hs hu hp
    have e52 : ρ 16 = .int .i64 x5 := (hp 8 rfl).1
    refine WL.bin (v := .int .i64 x34) e52 rfl (ib_as ex34 (ib_add _ _ _)) ?_
    exact WL.nil ⟨rfl, _, rfl, rfl, hs.cutG 0 0⟩
  · intro ρ w Γx Λx hs hu hp
    obtain ⟨⟨⟨a53, c54⟩, e55r⟩, hm56⟩ := hp 7 rfl
    have e55 : ρ 15 = .slice a53 (x1.Packets).length c54 := e55r
    rw [e55r] at hm56
    have hs := hs.memo1 (it := vl (tSlice t_network_Packet) x1.Packets (.slice a53 (x1.Packets).length c54)) (List.mem_append.2 (.inl (hm56 _ (List.mem_of_getElem? (i := 0) rfl))))
    have e57 : ρ 17 = .int .i64 x34 := (hp 9 rfl).1
    refine WL.slice_l hs 0 rfl UN25 TI51 e55 e57 hxx35 (fun a36 c37 hs => ?_)
    have hs := hs.add (it := vl (tSlice t_network_Packet) x35 (.slice a36 x35.length c37)) fun ok hA => hA.get 0 rfl
    exact WL.nil ⟨rfl, _, rfl, ⟨(a36, c37), rfl⟩, hs.cutG 1 2⟩
  · intro ρ w hs hu58 hp
    obtain ⟨⟨⟨⟨⟨⟨⟨⟨⟨⟨⟨_, hp0_⟩, hp1_⟩, hp2_⟩, hp3_⟩, hp4_⟩, hp5_⟩, hp6_⟩, hp7_⟩, hp8_⟩, hp9_⟩, hp10_⟩ := hp
    have hs : St ok (bz w0) w [vl (tSlice t_network_Packet) x35 (ρ 18), vl (tSlice t_network_Packet) x1.Packets (ρ 15), vl (tSlice t_network_Packet) x23 (ρ 12), vl (tSlice t_network_Packet) x1.Packets (ρ 10), vl (tSlice t_api_Message) [] (.slice none 0 0), vl t_network_Network x1 (.agg cs3.toArray)] [own t_network_Packet 51 ((ρ 13)) x26, blk g17 27 [.int .i64 x10.Next, .slice a11 n12 c13, .slice a14 n15 c16], own t_network_Packet 51 (.slice a11 n12 c13) x10.Packets, own t_network_Side 69 (.slice a14 n15 c16) x10.Sides, blk g8 27 [.int .i64 0, .slice none 0 0, .slice none 0 0], blk g7 27 cs3] := hs
    obtain ⟨⟨a59, c60⟩, e61⟩ := hp10_
    have e61 : ρ 18 = .slice a59 x35.length c60 := e61
    try rw [e61] at hs
    have e62 : ρ 17 = .int .i64 x34 := hp9_
    have e63 : ρ 16 = .int .i64 x5 := hp8_
    obtain ⟨⟨a64, c65⟩, e66⟩ := hp7_
    have e66 : ρ 15 = .slice a64 (x1.Packets).length c65 := e66
    try rw [e66] at hs
    have e67 : ρ 14 = .pointer (some ⟨g7, 1, none⟩) := hp6_
    obtain ⟨⟨a68, n70, c69⟩, e71⟩ := hp5_
    have e71 : ρ 13 = .slice a68 n70 c69 := e71
    try rw [e71] at hs
    obtain ⟨⟨a72, c73⟩, e74⟩ := hp4_
    have e74 : ρ 12 = .slice a72 x23.length c73 := e74
    try rw [e74] at hs
    have e75 : ρ 11 = .int .i64 x5 := hp3_
    obtain ⟨⟨a76, c77⟩, e78⟩ := hp2_
    have e78 : ρ 10 = .slice a76 (x1.Packets).length c77 := e78
    try rw [e78] at hs
    have e79 : ρ 9 = .pointer (some ⟨g7, 1, none⟩) := hp1_
    obtain ⟨a80, e81⟩ := hp0_
    have e81 : ρ 8 = .slice a80 0 0 := e81
    try rw [e81] at hs
    refine WA.step [11] (by kernel_rfl) (by simp) ⟨?_, trivial⟩
    obtain ⟨x82, hxx82, hf⟩ := bindE hf
    obtain ⟨hbx82, hex82⟩ := appE hxx82
    refine WL.appendS (zs := x82) hs 0 rfl 0 rfl UN25 UN25 EI51 e71 e61 hbx82 (by omega) hex82 (fun v83 w hs => ?_)
    obtain ⟨a84, n86, c85, rfl⟩ := hs.ownv3 0 rfl
    refine WL.nil ⟨rfl, _, rfl, ?_⟩
    refine WA.step [12] (by kernel_rfl) (by simp) ⟨?_, trivial⟩
    refine WL.fieldAddr (m := 1) (hu58 5 rfl) FA27_1 rfl ?_
    refine WL.nil ⟨rfl, _, rfl, ?_⟩
    refine WA.step [13] (by kernel_rfl) (by simp) ⟨?_, trivial⟩
    refine WL.store (vs := [.slice a84 n86 c85]) (cs' := [.int .i64 x10.Next, .slice a84 n86 c85, .slice a14 n15 c16]) hs 1 rfl TI25 rfl rfl rfl rfl (ones_of rfl) (Nat.le_of_ble_eq_true rfl) rfl (fun w hs => ?_)
    refine WL.nil ⟨rfl, _, rfl, ?_⟩
    refine WA.done (by kernel_rfl) ?_
    refine hK18 _ _ ?_
    refine W.seqK fun K87 hK87 => ?_
    refine W.region ?_
    refine WL.loadN (vs := [.int .i64 x10.Next, .slice a84 n86 c85, .slice a14 n15 c16]) hs 1 rfl TI27 (hu58 5 rfl) rfl rfl ?_
    refine WL.storeAll (vs := [.int .i64 x10.Next, .slice a84 n86 c85, .slice a14 n15 c16]) hs 4 rfl TI27 (hu58 4 rfl) rfl rfl rfl (ones_of rfl) rfl (fun w hs => ?_)
    refine WL.nil ?_
    refine hK87 _ _ ?_
    refine W.ret ?_
    have hr := Option.some.inj hf; subst hr
    exact ⟨_, resOk_one rfl (res_all hs 4 rfl TI27 (hu58 4 rfl) rfl), ((a84, n86, c85), (a14, n15, c16)), rfl, (hs.mask [true, false, false, true]).pick []⟩
theorem esref36_without.callc {ok : Nat → Prop} {w0 : World} {x1 : network_Network} {x5 : Int} {v2 : Value} {r : network_Network} (hf : esref36_without x1 x5 = some r) (i0 : (vl t_network_Network x1 v2).holds ok w0) :
    Calls Try.prog 53 #[v2, .int .i64 x5] w0 fun e w' => ∃ v, e = .returned v ∧ ∃ y : List Value, v = .agg y.toArray ∧ St ok (bz w0) w' [vl t_network_Network r (.agg y.toArray)] [] := by
  refine (esref36_without.calls (ok := ok) (w0 := w0) (x1 := x1) (x5 := x5) hf i0).mono ?_
  rintro e w' ⟨v, rfl, ⟨⟨a88, n89, c90⟩, ⟨a91, n92, c93⟩⟩, rfl, hs⟩
  obtain rfl := hs.ownLen 0 rfl
  have hs := hs.freezeOwn 0 rfl
  obtain rfl := hs.ownLen 0 rfl
  have hs := hs.freezeOwn 0 rfl
  have hs := hs.add (it := vl t_network_Network (⟨r.Next, r.Packets, r.Sides⟩ : network_Network) (.agg [.int .i64 r.Next, .slice a88 (r.Packets).length c90, .slice a91 (r.Sides).length c93].toArray)) fun ok hA => V_agg (show t_network_Network.R ok _ _ _ from ⟨[.int .i64 r.Next], [.slice a88 (r.Packets).length c90, .slice a91 (r.Sides).length c93], rfl, rfl, ⟨[.slice a88 (r.Packets).length c90], [.slice a91 (r.Sides).length c93], rfl, (R_one (hA.get 1 rfl)), (R_one (hA.get 0 rfl))⟩⟩) rfl
  exact ⟨_, rfl, [.int .i64 r.Next, .slice a88 (r.Packets).length c90, .slice a91 (r.Sides).length c93], rfl, hs.pick [0]⟩
end Go.Proofs.Ytahobbichanccaa
