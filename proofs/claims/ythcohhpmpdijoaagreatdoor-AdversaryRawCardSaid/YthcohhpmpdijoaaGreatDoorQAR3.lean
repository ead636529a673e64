/- What the row leans on, as few texts. -/
import Derived.Test.YthcohhpmpdijoaaGreatDoorQAR1
import Derived.Test.YthcohhpmpdijoaaGreatDoorQAR2
import Derived.Lib.Join
import Derived.Lib.ItoaNum
import Derived.HandedShaped
import Derived.LaidLaws
import Derived.Shelf.Vars
import Derived.FnData
import Derived.Test.YthcohhpmpdijoaaGreatDoorRows
import Derived.LaidByTextLater
import Derived.SevenTiedAt
import Derived.LaidSub
import Derived.LaidOnce
set_option linter.unusedVariables false
set_option linter.unusedSimpArgs false
namespace Go.Proofs.YthcohhpmpdijoaaGreatDoor
open Go Go.RowKit Go.Proofs.YthcohhpmpdijoaaGreatDoorL
set_option maxRecDepth 100000
set_option maxHeartbeats 4000000
theorem eslaw36_packets.calls {ok : Nat → Prop} {w0 : World} {x1 : List Int} {x4 : Int} {a2 : Option Addr} {c3 : Nat} {r : network_Network} (hf : eslaw36_packets x1 x4 = some r) (i0 : (vl (tSlice (tInt .i64)) x1 (.slice a2 x1.length c3)).holds ok w0) :
    Calls Tryz.prog 6 #[.slice a2 x1.length c3, .int .i64 x4] w0 fun e w' => ∃ v, e = .returned v ∧ ∃ y : List Value, v = .agg y.toArray ∧ St ok (bz w0) w' [vl t_network_Network r (.agg y.toArray)] [] := by
  unfold eslaw36_packets at hf
  refine calls_of_W (fn := Tryz.f6) (N := 52) Tryz.func6 rfl Tryz.ntmps6 rfl ?_
  have hs : St ok (bz w0) w0 [vl (tSlice (tInt .i64)) x1 (.slice a2 x1.length c3)] [] := St.init (All.cons i0 All.nil)
  clear i0
  refine W.seqK fun K5 hK5 => ?_
  refine W.region ?_
  refine WL.alloc hs ZV28 (fun g6 w hs => ?_)
  refine WL.nil ?_
  refine hK5 _ _ ?_
  refine W.seqK fun K7 hK7 => ?_
  refine W.region ?_
  obtain ⟨x8, hxx8, hf⟩ := bindE hf
  refine WL.call (vs := []) hs FN17 trivial (fun ok hA => network_New.calls hxx8) ?_
  rintro ⟨⟨a9, n10, c11⟩, ⟨a12, n13, c14⟩⟩ w hs
  refine WL.alloc hs ZV28 (fun g15 w hs => ?_)
  refine WL.storeAll (vs := [.int .i64 x8.Next, .slice a9 n10 c11, .slice a12 n13 c14]) hs 0 rfl TI28 rfl rfl rfl rfl (ones_of rfl) rfl (fun w hs => ?_)
  refine WL.nil ?_
  refine hK7 _ _ ?_
  refine W.seqK fun K16 hK16 => ?_
  have Jk25 : ∀ (x18 : Int) (x19 : List network_Packet) (x22 : List network_Side) (a20 : Option Addr) (c21 : Nat) (a23 : Option Addr) (c24 : Nat) (ρ : Env) (w : World), ρ 1 = .int .i64 x4 → ρ 4 = .pointer (some ⟨g6, 0, none⟩) → ρ 5 = .pointer (some ⟨g15, 0, none⟩) → St ok (bz w0) w [vl (tSlice t_network_Packet) x19 (.slice a20 x19.length c21), vl (tSlice t_network_Side) x22 (.slice a23 x22.length c24)] [blk g15 28 [.int .i64 x18, .slice a20 x19.length c21, .slice a23 x22.length c24], blk g6 28 [.int .i64 0, .slice none 0 0, .slice none 0 0]] → eslaw36_packets.j1 x4 x18 x19 x22 = some r → K16 ρ w := by
    intro x18 x19 x22 a20 c21 a23 c24 ρ w h17_1 h17_4 h17_5 hs hf
    refine hK16 _ _ ?_
    unfold eslaw36_packets.j1 at hf
    refine W.seqK fun K26 hK26 => ?_
    obtain ⟨x27, hxx27, hf⟩ := bindE hf
    obtain ⟨x28, hxx28, hf⟩ := bindE hf
    obtain ⟨x29, hxx29, hf⟩ := bindE hf
    obtain ⟨x32, hxx32, hf⟩ := bindE hf
    refine W.any (by kernel_rfl) 12 1 [true, true, true, true, true, true, true, true, true, true, true, true, false] rfl rfl (poAt [pv (.agg ([.int .i64 x18, .slice a20 x19.length c21, .slice a23 x22.length c24] : List Value).toArray), pv (.int .i64 x4), pv (.int .i64 x27), pv (.agg ([.int .i64 1, .int .i64 x27] : List Value).toArray), pv (.int .i64 x4), pv (.int .i64 x28), pv (.agg ([.int .i64 2, .int .i64 x28] : List Value).toArray), pv (.int .i64 x4), pv (.int .i64 x29), pv (.agg ([.int .i64 3, .int .i64 x29] : List Value).toArray), pq (fun y : (Option Addr × Nat) => .slice y.1 ([(⟨1, x27⟩ : network_Side), (⟨2, x28⟩ : network_Side), (⟨3, x29⟩ : network_Side)]).length y.2) (fun v => [vl (tSlice t_network_Side) [(⟨1, x27⟩ : network_Side), (⟨2, x28⟩ : network_Side), (⟨3, x29⟩ : network_Side)] v]) (fun v => []), pq (fun y : List Value => .agg y.toArray) (fun v => [vl t_network_Network x32 v]) (fun v => [])]) (Λ := [blk g15 28 [.int .i64 x18, .slice a20 x19.length c21, .slice a23 x22.length c24], blk g6 28 [.int .i64 0, .slice none 0 0, .slice none 0 0]]) hs (by kernel_rfl) (by kernel_rfl) (by kernel_rfl) ⟨⟨⟨⟨⟨⟨⟨⟨⟨⟨⟨⟨trivial, ?_⟩, ?_⟩, ?_⟩, ?_⟩, ?_⟩, ?_⟩, ?_⟩, ?_⟩, ?_⟩, ?_⟩, ?_⟩, ?_⟩ ?_
    {
    intro ρ w Γx Λx hs hu hp
    refine WL.loadN (vs := [.int .i64 x18, .slice a20 x19.length c21, .slice a23 x22.length c24]) hs (Λx.length + 0) (getApp rfl) TI28 ((hu 5 rfl).trans h17_5) rfl rfl ?_
    exact WL.nil ⟨rfl, _, rfl, rfl, hs.cutG 0 0⟩ }
    {
    intro ρ w Γx Λx hs hu hp
    refine WL.move (v := .int .i64 x4) ((hu 1 rfl).trans h17_1) ?_
    exact WL.nil ⟨rfl, _, rfl, rfl, hs.cutG 0 0⟩ }
    {
    intro ρ w Γx Λx hs hu hp
    have e35 : ρ 41 = .int .i64 x4 := (hp 1 rfl).1
    refine WL.call (vs := [.int .i64 x4, .int .i64 2, .int .i64 0]) hs FN19 ⟨e35, ⟨rfl, ⟨rfl, trivial⟩⟩⟩ (fun ok hA => eslaw00_Digit.calls (x1 := x4) (x2 := 2) (x3 := 0) hxx27) ?_
    rintro _ w hs
    exact WL.nil ⟨rfl, _, rfl, rfl, hs.cutG 0 0⟩ }
    {
    intro ρ w Γx Λx hs hu hp
    have e36 : ρ 42 = .int .i64 x27 := (hp 2 rfl).1
    refine WL.build (vs := [(0, .int .i64 1), (1, .int .i64 x27)]) (cs := [.int .i64 1, .int .i64 x27]) ⟨⟨rfl, rfl⟩, ⟨⟨rfl, e36⟩, trivial⟩⟩ (bld PL63 rfl) ?_
    exact WL.nil ⟨rfl, _, rfl, rfl, hs.cutG 0 0⟩ }
    {
    intro ρ w Γx Λx hs hu hp
    refine WL.move (v := .int .i64 x4) ((hu 1 rfl).trans h17_1) ?_
    exact WL.nil ⟨rfl, _, rfl, rfl, hs.cutG 0 0⟩ }
    {
    intro ρ w Γx Λx hs hu hp
    have e37 : ρ 44 = .int .i64 x4 := (hp 4 rfl).1
    refine WL.call (vs := [.int .i64 x4, .int .i64 2, .int .i64 1]) hs FN19 ⟨e37, ⟨rfl, ⟨rfl, trivial⟩⟩⟩ (fun ok hA => eslaw00_Digit.calls (x1 := x4) (x2 := 2) (x3 := 1) hxx28) ?_
    rintro _ w hs
    exact WL.nil ⟨rfl, _, rfl, rfl, hs.cutG 0 0⟩ }
    {
    intro ρ w Γx Λx hs hu hp
    have e38 : ρ 45 = .int .i64 x28 := (hp 5 rfl).1
    refine WL.build (vs := [(0, .int .i64 2), (1, .int .i64 x28)]) (cs := [.int .i64 2, .int .i64 x28]) ⟨⟨rfl, rfl⟩, ⟨⟨rfl, e38⟩, trivial⟩⟩ (bld PL63 rfl) ?_
    exact WL.nil ⟨rfl, _, rfl, rfl, hs.cutG 0 0⟩ }
    {
    intro ρ w Γx Λx hs hu hp
    refine WL.move (v := .int .i64 x4) ((hu 1 rfl).trans h17_1) ?_
    exact WL.nil ⟨rfl, _, rfl, rfl, hs.cutG 0 0⟩ }
    {
    intro ρ w Γx Λx hs hu hp
    have e39 : ρ 47 = .int .i64 x4 := (hp 7 rfl).1
    refine WL.call (vs := [.int .i64 x4, .int .i64 3, .int .i64 2]) hs FN19 ⟨e39, ⟨rfl, ⟨rfl, trivial⟩⟩⟩ (fun ok hA => eslaw00_Digit.calls (x1 := x4) (x2 := 3) (x3 := 2) hxx29) ?_
    rintro _ w hs
    exact WL.nil ⟨rfl, _, rfl, rfl, hs.cutG 0 0⟩ }
    {
    intro ρ w Γx Λx hs hu hp
    have e40 : ρ 48 = .int .i64 x29 := (hp 8 rfl).1
    refine WL.build (vs := [(0, .int .i64 3), (1, .int .i64 x29)]) (cs := [.int .i64 3, .int .i64 x29]) ⟨⟨rfl, rfl⟩, ⟨⟨rfl, e40⟩, trivial⟩⟩ (bld PL63 rfl) ?_
    exact WL.nil ⟨rfl, _, rfl, rfl, hs.cutG 0 0⟩ }
    {
    intro ρ w Γx Λx hs hu hp
    have e41 : ρ 43 = .agg ([.int .i64 1, .int .i64 x27] : List Value).toArray := (hp 3 rfl).1
    have e42 : ρ 46 = .agg ([.int .i64 2, .int .i64 x28] : List Value).toArray := (hp 6 rfl).1
    have e43 : ρ 49 = .agg ([.int .i64 3, .int .i64 x29] : List Value).toArray := (hp 9 rfl).1
    refine WL.buildSliceB (ys := [(⟨1, x27⟩ : network_Side), (⟨2, x28⟩ : network_Side), (⟨3, x29⟩ : network_Side)]) (n := 3) (vs := [(0, .agg ([.int .i64 1, .int .i64 x27] : List Value).toArray), (1, .agg ([.int .i64 2, .int .i64 x28] : List Value).toArray), (2, .agg ([.int .i64 3, .int .i64 x29] : List Value).toArray)]) (cs := [.int .i64 1, .int .i64 x27, .int .i64 2, .int .i64 x28, .int .i64 3, .int .i64 x29]) hs ⟨⟨rfl, e41⟩, ⟨⟨rfl, e42⟩, ⟨⟨rfl, e43⟩, trivial⟩⟩⟩ (bls PS26 (by decide) rfl) (fun ok hA => (Cells.app (Cells.one (T := t_network_Side) (show t_network_Side.R ok _ (⟨1, x27⟩ : network_Side) _ from ⟨[.int .i64 1], [.int .i64 x27], rfl, rfl, rfl⟩)) (Cells.app (Cells.one (T := t_network_Side) (show t_network_Side.R ok _ (⟨2, x28⟩ : network_Side) _ from ⟨[.int .i64 2], [.int .i64 x28], rfl, rfl, rfl⟩)) (Cells.one (T := t_network_Side) (show t_network_Side.R ok _ (⟨3, x29⟩ : network_Side) _ from ⟨[.int .i64 3], [.int .i64 x29], rfl, rfl, rfl⟩))))) rfl (by decide) (fun a31 w hBl hs => ?_)
    have hs := hs.add (it := vl (tSlice t_network_Side) [(⟨1, x27⟩ : network_Side), (⟨2, x28⟩ : network_Side), (⟨3, x29⟩ : network_Side)] (.slice a31 ([(⟨1, x27⟩ : network_Side), (⟨2, x28⟩ : network_Side), (⟨3, x29⟩ : network_Side)]).length 3)) fun ok hA => hA.get 0 rfl
    exact WL.nil ⟨rfl, _, rfl, ⟨(a31, 3), rfl⟩, hs.cutG 1 1⟩ }
    {
    intro ρ w Γx Λx hs hu hp
    have e44 : ρ 40 = .agg ([.int .i64 x18, .slice a20 x19.length c21, .slice a23 x22.length c24] : List Value).toArray := (hp 0 rfl).1
    obtain ⟨⟨⟨a45, c46⟩, e47r⟩, hm48⟩ := hp 10 rfl
    have e47 : ρ 50 = .slice a45 ([(⟨1, x27⟩ : network_Side), (⟨2, x28⟩ : network_Side), (⟨3, x29⟩ : network_Side)]).length c46 := e47r
    rw [e47r] at hm48
    have hs := hs.memo1 (it := vl (tSlice t_network_Side) [(⟨1, x27⟩ : network_Side), (⟨2, x28⟩ : network_Side), (⟨3, x29⟩ : network_Side)] (.slice a45 ([(⟨1, x27⟩ : network_Side), (⟨2, x28⟩ : network_Side), (⟨3, x29⟩ : network_Side)]).length c46)) (List.mem_append.2 (.inl (hm48 _ (List.mem_of_getElem? (i := 0) rfl))))
    have hs := hs.add (it := vl t_network_Network (⟨x18, x19, x22⟩ : network_Network) (.agg [.int .i64 x18, .slice a20 x19.length c21, .slice a23 x22.length c24].toArray)) fun ok hA => V_agg (show t_network_Network.R ok _ _ _ from ⟨[.int .i64 x18], [.slice a20 x19.length c21, .slice a23 x22.length c24], rfl, rfl, ⟨[.slice a20 x19.length c21], [.slice a23 x22.length c24], rfl, (R_one (hA.get (Γx.length + 0 + 1) (getApp1 rfl))), (R_one (hA.get (Γx.length + 1 + 1) (getApp1 rfl)))⟩⟩) rfl
    refine WL.call (vs := [.agg ([.int .i64 x18, .slice a20 x19.length c21, .slice a23 x22.length c24] : List Value).toArray, .slice a45 ([(⟨1, x27⟩ : network_Side), (⟨2, x28⟩ : network_Side), (⟨3, x29⟩ : network_Side)]).length c46]) hs FN20 ⟨e44, ⟨e47, trivial⟩⟩ (fun ok hA => network_Partition.callc (x1 := (⟨x18, x19, x22⟩ : network_Network)) (x5 := [(⟨1, x27⟩ : network_Side), (⟨2, x28⟩ : network_Side), (⟨3, x29⟩ : network_Side)]) hxx32 (hA.get 0 rfl) (hA.get 1 rfl)) ?_
    rintro cs33 w hs
    have hl34 := hs.agglen (n := 3) 0 rfl rfl rfl
    have hs := hs.add (it := vl t_network_Network x32 (.agg cs33.toArray)) fun ok hA => hA.get 0 rfl
    exact WL.nil ⟨rfl, _, rfl, ⟨cs33, rfl⟩, hs.cutG 1 3⟩ }
    {
    intro ρ w hs hu49 hp
    obtain ⟨⟨⟨⟨⟨⟨⟨⟨⟨⟨⟨⟨_, hp0_⟩, hp1_⟩, hp2_⟩, hp3_⟩, hp4_⟩, hp5_⟩, hp6_⟩, hp7_⟩, hp8_⟩, hp9_⟩, hp10_⟩, hp11_⟩ := hp
    have hs : St ok (bz w0) w [vl t_network_Network x32 (ρ 51), vl (tSlice t_network_Side) [(⟨1, x27⟩ : network_Side), (⟨2, x28⟩ : network_Side), (⟨3, x29⟩ : network_Side)] (ρ 50), vl (tSlice t_network_Packet) x19 (.slice a20 x19.length c21), vl (tSlice t_network_Side) x22 (.slice a23 x22.length c24)] [blk g15 28 [.int .i64 x18, .slice a20 x19.length c21, .slice a23 x22.length c24], blk g6 28 [.int .i64 0, .slice none 0 0, .slice none 0 0]] := hs
    obtain ⟨cs50, e52⟩ := hp11_
    have e52 : ρ 51 = .agg cs50.toArray := e52
    try rw [e52] at hs
    obtain ⟨⟨a53, c54⟩, e55⟩ := hp10_
    have e55 : ρ 50 = .slice a53 ([(⟨1, x27⟩ : network_Side), (⟨2, x28⟩ : network_Side), (⟨3, x29⟩ : network_Side)]).length c54 := e55
    try rw [e55] at hs
    have e56 : ρ 49 = .agg ([.int .i64 3, .int .i64 x29] : List Value).toArray := hp9_
    have e57 : ρ 48 = .int .i64 x29 := hp8_
    have e58 : ρ 47 = .int .i64 x4 := hp7_
    have e59 : ρ 46 = .agg ([.int .i64 2, .int .i64 x28] : List Value).toArray := hp6_
    have e60 : ρ 45 = .int .i64 x28 := hp5_
    have e61 : ρ 44 = .int .i64 x4 := hp4_
    have e62 : ρ 43 = .agg ([.int .i64 1, .int .i64 x27] : List Value).toArray := hp3_
    have e63 : ρ 42 = .int .i64 x27 := hp2_
    have e64 : ρ 41 = .int .i64 x4 := hp1_
    have e65 : ρ 40 = .agg ([.int .i64 x18, .slice a20 x19.length c21, .slice a23 x22.length c24] : List Value).toArray := hp0_
    have hl51 := hs.agglen (n := 3) 0 rfl rfl rfl
    refine WA.step [12] (by kernel_rfl) (by simp) ⟨?_, trivial⟩
    refine WL.storeAll (vs := cs50) hs 1 rfl TI28 ((hu49 4 rfl).trans h17_4) e52 rfl hl51 (hs.ones 0 rfl rfl) rfl (fun w hs => ?_)
    refine WL.nil ⟨rfl, _, rfl, ?_⟩
    refine WA.done (by kernel_rfl) ?_
    refine hK26 _ _ ?_
    refine W.ret ?_
    have hr := Option.some.inj hf; subst hr
    exact ⟨_, resOk_one rfl (res_all hs 1 rfl TI28 ((hu49 4 rfl).trans h17_4) hl51), cs50, rfl, (hs.mask []).pick [0]⟩ }
  refine W.seqK fun K66 hK66 => ?_
  refine W.region ?_
  refine WL.assign (v := .int .i64 0) rfl ?_
  refine WL.nil ?_
  refine hK66 _ _ ?_
  refine W.block ?_
  obtain ⟨bs76, hbs76, hfs76⟩ := bindE hf
  obtain rfl := hs.ownLen 1 rfl
  have hs := hs.freezeOwn 1 rfl
  obtain rfl := hs.ownLen 1 rfl
  have hs := hs.freezeOwn 1 rfl
  refine W.loop hbs76 (fun s ρ w => match s with | (x68, x69, x70, x73) => ∃ (a71 : Option Addr), ∃ (c72 : Nat), ∃ (a74 : Option Addr), ∃ (c75 : Nat), ρ 0 = .slice a2 x1.length c3 ∧ ρ 1 = .int .i64 x4 ∧ ρ 4 = .pointer (some ⟨g6, 0, none⟩) ∧ ρ 5 = .pointer (some ⟨g15, 0, none⟩) ∧ ρ 6 = .int .i64 x68 ∧ St ok (bz w0) w [vl (tSlice (tInt .i64)) x1 (.slice a2 x1.length c3), vl (tSlice t_network_Packet) x70 (.slice a71 x70.length c72), vl (tSlice t_network_Side) x73 (.slice a74 x73.length c75)] [blk g15 28 [.int .i64 x69, .slice a71 x70.length c72, .slice a74 x73.length c75], blk g6 28 [.int .i64 0, .slice none 0 0, .slice none 0 0]]) ⟨a9, c11, a12, c14, rfl, rfl, rfl, rfl, rfl, (hs.mask [true, true]).pick [2, 1, 0]⟩ ?_
  intro s ρ w os76 hI hf hbbs76
  obtain ⟨x68, x69, x70, x73⟩ := s
  obtain ⟨a71, c72, a74, c75, h67_0, h67_1, h67_4, h67_5, h67_6, hs⟩ := hI
  unfold eslaw36_packets.l1 at hf
  refine W.seqK fun K77 hK77 => ?_
  refine W.seqK fun K78 hK78 => ?_
  have Jk81 : ∀ (x80 : Bool) (ρ : Env) (w : World), ρ 0 = .slice a2 x1.length c3 → ρ 1 = .int .i64 x4 → ρ 4 = .pointer (some ⟨g6, 0, none⟩) → ρ 5 = .pointer (some ⟨g15, 0, none⟩) → ρ 6 = .int .i64 x68 → ρ 15 = .bool x80 → St ok (bz w0) w [vl (tSlice (tInt .i64)) x1 (.slice a2 x1.length c3), vl (tSlice t_network_Packet) x70 (.slice a71 x70.length c72), vl (tSlice t_network_Side) x73 (.slice a74 x73.length c75)] [blk g15 28 [.int .i64 x69, .slice a71 x70.length c72, .slice a74 x73.length c75], blk g6 28 [.int .i64 0, .slice none 0 0, .slice none 0 0]] → eslaw36_packets.j2 x1 x68 x69 x70 x73 x80 = some os76 → K78 ρ w := by
    intro x80 ρ w h79_0 h79_1 h79_4 h79_5 h79_6 h79_15 hs hf
    refine hK78 _ _ ?_
    unfold eslaw36_packets.j2 at hf
    rcases iteE hf with ⟨hc82, hf⟩ | ⟨hc82, hf⟩
    {
    refine W.cond_true (bool_tr h79_15 hc82) ?_
    refine W.skip ?_
    refine hK77 _ _ ?_
    refine W.seqK fun K83 hK83 => ?_
    refine W.block ?_
    obtain ⟨x84, hxx84, hf⟩ := bindE hf
    obtain ⟨x87, hxx87, hf⟩ := bindE hf
    obtain ⟨x88, ex88, hf⟩ := letE hf
    obtain ⟨x89, hxx89, hf⟩ := bindE hf
    obtain ⟨x92, hxx92, hf⟩ := bindE hf
    obtain ⟨x93, ex93, hf⟩ := letE hf
    obtain ⟨x94, hxx94, hf⟩ := bindE hf
    obtain ⟨x97, hxx97, hf⟩ := bindE hf
    obtain ⟨x98, ex98, hf⟩ := letE hf
    obtain ⟨x101, hxx101, hf⟩ := bindE hf
    refine W.any (by kernel_rfl) 22 1 [true, true, true, true, true, true, true, true, true, true, true, true, true, true, true, true, true, true, true, true, true, true, false] rfl rfl (poAt [pv (.agg ([.int .i64 x69, .slice a71 x70.length c72, .slice a74 x73.length c75] : List Value).toArray), pv (.slice a2 x1.length c3), pv (.int .i64 x68), pq (fun y : Addr => .pointer (some y)) (fun v => [pl (tInt .i64) x84 (adOf v)]) (fun v => []), pv (.int .i64 x84), pv (.int .i64 x87), pv (.int .i64 x88), pv (.slice a2 x1.length c3), pv (.int .i64 x68), pq (fun y : Addr => .pointer (some y)) (fun v => [pl (tInt .i64) x89 (adOf v)]) (fun v => []), pv (.int .i64 x89), pv (.int .i64 x92), pv (.int .i64 x93), pv (.slice a2 x1.length c3), pv (.int .i64 x68), pq (fun y : Addr => .pointer (some y)) (fun v => [pl (tInt .i64) x94 (adOf v)]) (fun v => []), pv (.int .i64 x94), pv (.int .i64 x97), pv (.int .i64 x98), pv (.agg ([.int .i64 x88, .int .i64 x93, .int .i64 x98, .int .i64 0, .int .i64 0, .int .i64 0, .int .i64 0, .slice none 0 0, .slice none 0 0, .slice none 0 0, .slice none 0 0, .bool false, .slice none 0 0, .slice none 0 0, .slice none 0 0, .slice none 0 0, .slice none 0 0, .bool false] : List Value).toArray), pq (fun y : (Option Addr × Nat) => .slice y.1 ([(⟨x88, x93, x98, (⟨0, 0⟩ : api_AccessID), 0, 0, (⟨[], []⟩ : api_Certificate), (⟨[], []⟩ : api_Certificate), false, (⟨[], []⟩ : api_Certificate), [], [], [], false⟩ : api_Message)]).length y.2) (fun v => [vl (tSlice t_api_Message) ([(⟨x88, x93, x98, (⟨0, 0⟩ : api_AccessID), 0, 0, (⟨[], []⟩ : api_Certificate), (⟨[], []⟩ : api_Certificate), false, (⟨[], []⟩ : api_Certificate), [], [], [], false⟩ : api_Message)]) v]) (fun v => []), pq (fun y : List Value => .agg y.toArray) (fun v => [vl t_network_Network x101 v]) (fun v => [])]) (Λ := [blk g15 28 [.int .i64 x69, .slice a71 x70.length c72, .slice a74 x73.length c75], blk g6 28 [.int .i64 0, .slice none 0 0, .slice none 0 0]]) hs (by kernel_rfl) (by kernel_rfl) (by kernel_rfl) ⟨⟨⟨⟨⟨⟨⟨⟨⟨⟨⟨⟨⟨⟨⟨⟨⟨⟨⟨⟨⟨⟨trivial, ?_⟩, ?_⟩, ?_⟩, ?_⟩, ?_⟩, ?_⟩, ?_⟩, ?_⟩, ?_⟩, ?_⟩, ?_⟩, ?_⟩, ?_⟩, ?_⟩, ?_⟩, ?_⟩, ?_⟩, ?_⟩, ?_⟩, ?_⟩, ?_⟩, ?_⟩ ?_
    {
    intro ρ w Γx Λx hs hu hp
    refine WL.loadN (vs := [.int .i64 x69, .slice a71 x70.length c72, .slice a74 x73.length c75]) hs (Λx.length + 0) (getApp rfl) TI28 ((hu 5 rfl).trans h79_5) rfl rfl ?_
    exact WL.nil ⟨rfl, _, rfl, rfl, hs.cutG 0 0⟩ }
    {
    intro ρ w Γx Λx hs hu hp
    refine WL.move (v := .slice a2 x1.length c3) ((hu 0 rfl).trans h79_0) ?_
    exact WL.nil ⟨rfl, _, rfl, rfl, hs.cutG 0 0⟩ }
    {
    intro ρ w Γx Λx hs hu hp
    refine WL.move (v := .int .i64 x68) ((hu 6 rfl).trans h79_6) ?_
    exact WL.nil ⟨rfl, _, rfl, rfl, hs.cutG 0 0⟩ }
    {
    intro ρ w Γx Λx hs hu hp
    have e104 : ρ 19 = .slice a2 x1.length c3 := (hp 1 rfl).1
    have e105 : ρ 20 = .int .i64 x68 := (hp 2 rfl).1
    refine WL.indexAddr hs (Γx.length + 0) (getApp rfl) UN23 TI3 e104 e105 hxx84 (fun ad85 hs => ?_)
    have hs := hs.add (it := pl (tInt .i64) x84 ad85) fun ok hA => hA.get 0 rfl
    exact WL.nil ⟨rfl, _, rfl, ⟨ad85, rfl⟩, hs.cutG 1 1⟩ }
    {
    intro ρ w Γx Λx hs hu hp
    obtain ⟨⟨ad106, e107r⟩, hm108⟩ := hp 3 rfl
    have e107 : ρ 21 = .pointer (some ad106) := e107r
    rw [e107r] at hm108
    have hs := hs.memo1 (it := pl (tInt .i64) x84 ad106) (List.mem_append.2 (.inl (hm108 _ (List.mem_of_getElem? (i := 0) rfl))))
    refine WL.loadP hs 0 rfl TI3 (.inr rfl) e107 (fun v86 hs => ?_)
    obtain rfl := hs.int 0 rfl
    exact WL.nil ⟨rfl, _, rfl, rfl, hs.cutG 0 2⟩ }
    {
    intro ρ w Γx Λx hs hu hp
    have e109 : ρ 22 = .int .i64 x84 := (hp 4 rfl).1
    refine WL.call (vs := [.int .i64 x84, .int .i64 8, .int .i64 0]) hs FN19 ⟨e109, ⟨rfl, ⟨rfl, trivial⟩⟩⟩ (fun ok hA => eslaw00_Digit.calls (x1 := x84) (x2 := 8) (x3 := 0) hxx87) ?_
    rintro _ w hs
    exact WL.nil ⟨rfl, _, rfl, rfl, hs.cutG 0 0⟩ }
    {
    intro ρ w Γx Λx hs hu hp
    have e110 : ρ 23 = .int .i64 x87 := (hp 5 rfl).1
    refine WL.bin (v := .int .i64 x88) rfl e110 (ib_as ex88 (ib_add _ _ _)) ?_
    exact WL.nil ⟨rfl, _, rfl, rfl, hs.cutG 0 0⟩ }
    {
    intro ρ w Γx Λx hs hu hp
    refine WL.move (v := .slice a2 x1.length c3) ((hu 0 rfl).trans h79_0) ?_
    exact WL.nil ⟨rfl, _, rfl, rfl, hs.cutG 0 0⟩ }
    {
    intro ρ w Γx Λx hs hu hp
    refine WL.move (v := .int .i64 x68) ((hu 6 rfl).trans h79_6) ?_
    exact WL.nil ⟨rfl, _, rfl, rfl, hs.cutG 0 0⟩ }
    {
    intro ρ w Γx Λx hs hu hp
    have e111 : ρ 25 = .slice a2 x1.length c3 := (hp 7 rfl).1
    have e112 : ρ 26 = .int .i64 x68 := (hp 8 rfl).1
    refine WL.indexAddr hs (Γx.length + 0) (getApp rfl) UN23 TI3 e111 e112 hxx89 (fun ad90 hs => ?_)
    have hs := hs.add (it := pl (tInt .i64) x89 ad90) fun ok hA => hA.get 0 rfl
    exact WL.nil ⟨rfl, _, rfl, ⟨ad90, rfl⟩, hs.cutG 1 1⟩ }
    {
    intro ρ w Γx Λx hs hu hp
    obtain ⟨⟨ad113, e114r⟩, hm115⟩ := hp 9 rfl
    have e114 : ρ 27 = .pointer (some ad113) := e114r
    rw [e114r] at hm115
    have hs := hs.memo1 (it := pl (tInt .i64) x89 ad113) (List.mem_append.2 (.inl (hm115 _ (List.mem_of_getElem? (i := 0) rfl))))
    refine WL.loadP hs 0 rfl TI3 (.inr rfl) e114 (fun v91 hs => ?_)
    obtain rfl := hs.int 0 rfl
    exact WL.nil ⟨rfl, _, rfl, rfl, hs.cutG 0 2⟩ }
    {
    intro ρ w Γx Λx hs hu hp
    have e116 : ρ 28 = .int .i64 x89 := (hp 10 rfl).1
    refine WL.call (vs := [.int .i64 x89, .int .i64 6, .int .i64 2]) hs FN19 ⟨e116, ⟨rfl, ⟨rfl, trivial⟩⟩⟩ (fun ok hA => eslaw00_Digit.calls (x1 := x89) (x2 := 6) (x3 := 2) hxx92) ?_
    rintro _ w hs
    exact WL.nil ⟨rfl, _, rfl, rfl, hs.cutG 0 0⟩ }
    {
    intro ρ w Γx Λx hs hu hp
    have e117 : ρ 29 = .int .i64 x92 := (hp 11 rfl).1
    refine WL.bin (v := .int .i64 x93) rfl e117 (ib_as ex93 (ib_add _ _ _)) ?_
    exact WL.nil ⟨rfl, _, rfl, rfl, hs.cutG 0 0⟩ }
    {
    intro ρ w Γx Λx hs hu hp
    refine WL.move (v := .slice a2 x1.length c3) ((hu 0 rfl).trans h79_0) ?_
    exact WL.nil ⟨rfl, _, rfl, rfl, hs.cutG 0 0⟩ }
    {
    intro ρ w Γx Λx hs hu hp
    refine WL.move (v := .int .i64 x68) ((hu 6 rfl).trans h79_6) ?_
    exact WL.nil ⟨rfl, _, rfl, rfl, hs.cutG 0 0⟩ }
    {
    intro ρ w Γx Λx hs hu hp
    have e118 : ρ 31 = .slice a2 x1.length c3 := (hp 13 rfl).1
    have e119 : ρ 32 = .int .i64 x68 := (hp 14 rfl).1
    refine WL.indexAddr hs (Γx.length + 0) (getApp rfl) UN23 TI3 e118 e119 hxx94 (fun ad95 hs => ?_)
    have hs := hs.add (it := pl (tInt .i64) x94 ad95) fun ok hA => hA.get 0 rfl
    exact WL.nil ⟨rfl, _, rfl, ⟨ad95, rfl⟩, hs.cutG 1 1⟩ }
    {
    intro ρ w Γx Λx hs hu hp
    obtain ⟨⟨ad120, e121r⟩, hm122⟩ := hp 15 rfl
    have e121 : ρ 33 = .pointer (some ad120) := e121r
    rw [e121r] at hm122
    have hs := hs.memo1 (it := pl (tInt .i64) x94 ad120) (List.mem_append.2 (.inl (hm122 _ (List.mem_of_getElem? (i := 0) rfl))))
    refine WL.loadP hs 0 rfl TI3 (.inr rfl) e121 (fun v96 hs => ?_)
    obtain rfl := hs.int 0 rfl
    exact WL.nil ⟨rfl, _, rfl, rfl, hs.cutG 0 2⟩ }
    {
    intro ρ w Γx Λx hs hu hp
    have e123 : ρ 34 = .int .i64 x94 := (hp 16 rfl).1
    refine WL.call (vs := [.int .i64 x94, .int .i64 6, .int .i64 3]) hs FN19 ⟨e123, ⟨rfl, ⟨rfl, trivial⟩⟩⟩ (fun ok hA => eslaw00_Digit.calls (x1 := x94) (x2 := 6) (x3 := 3) hxx97) ?_
    rintro _ w hs
    exact WL.nil ⟨rfl, _, rfl, rfl, hs.cutG 0 0⟩ }
    {
    intro ρ w Γx Λx hs hu hp
    have e124 : ρ 35 = .int .i64 x97 := (hp 17 rfl).1
    refine WL.bin (v := .int .i64 x98) rfl e124 (ib_as ex98 (ib_add _ _ _)) ?_
    exact WL.nil ⟨rfl, _, rfl, rfl, hs.cutG 0 0⟩ }
    {
    intro ρ w Γx Λx hs hu hp
    have e125 : ρ 24 = .int .i64 x88 := (hp 6 rfl).1
    have e126 : ρ 30 = .int .i64 x93 := (hp 12 rfl).1
    have e127 : ρ 36 = .int .i64 x98 := (hp 18 rfl).1
    refine WL.build (vs := [(0, .int .i64 x88), (1, .int .i64 x93), (2, .int .i64 x98)]) (cs := [.int .i64 x88, .int .i64 x93, .int .i64 x98, .int .i64 0, .int .i64 0, .int .i64 0, .int .i64 0, .slice none 0 0, .slice none 0 0, .slice none 0 0, .slice none 0 0, .bool false, .slice none 0 0, .slice none 0 0, .slice none 0 0, .slice none 0 0, .slice none 0 0, .bool false]) ⟨⟨rfl, e125⟩, ⟨⟨rfl, e126⟩, ⟨⟨rfl, e127⟩, trivial⟩⟩⟩ (bld PL51 (by kernel_rfl)) ?_
    exact WL.nil ⟨rfl, _, rfl, rfl, hs.cutG 0 0⟩ }
    {
    intro ρ w Γx Λx hs hu hp
    have e128 : ρ 37 = .agg ([.int .i64 x88, .int .i64 x93, .int .i64 x98, .int .i64 0, .int .i64 0, .int .i64 0, .int .i64 0, .slice none 0 0, .slice none 0 0, .slice none 0 0, .slice none 0 0, .bool false, .slice none 0 0, .slice none 0 0, .slice none 0 0, .slice none 0 0, .slice none 0 0, .bool false] : List Value).toArray := (hp 19 rfl).1
    refine WL.buildSliceB (ys := [(⟨x88, x93, x98, (⟨0, 0⟩ : api_AccessID), 0, 0, (⟨[], []⟩ : api_Certificate), (⟨[], []⟩ : api_Certificate), false, (⟨[], []⟩ : api_Certificate), [], [], [], false⟩ : api_Message)]) (n := 1) (vs := [(0, .agg ([.int .i64 x88, .int .i64 x93, .int .i64 x98, .int .i64 0, .int .i64 0, .int .i64 0, .int .i64 0, .slice none 0 0, .slice none 0 0, .slice none 0 0, .slice none 0 0, .bool false, .slice none 0 0, .slice none 0 0, .slice none 0 0, .slice none 0 0, .slice none 0 0, .bool false] : List Value).toArray)]) (cs := [.int .i64 x88, .int .i64 x93, .int .i64 x98, .int .i64 0, .int .i64 0, .int .i64 0, .int .i64 0, .slice none 0 0, .slice none 0 0, .slice none 0 0, .slice none 0 0, .bool false, .slice none 0 0, .slice none 0 0, .slice none 0 0, .slice none 0 0, .slice none 0 0, .bool false]) hs ⟨⟨rfl, e128⟩, trivial⟩ (bls PS57 (by decide) rfl) (fun ok hA => (Cells.one (T := t_api_Message) (show t_api_Message.R ok _ (⟨x88, x93, x98, (⟨0, 0⟩ : api_AccessID), 0, 0, (⟨[], []⟩ : api_Certificate), (⟨[], []⟩ : api_Certificate), false, (⟨[], []⟩ : api_Certificate), [], [], [], false⟩ : api_Message) _ from ⟨[.int .i64 x88], [.int .i64 x93, .int .i64 x98, .int .i64 0, .int .i64 0, .int .i64 0, .int .i64 0, .slice none 0 0, .slice none 0 0, .slice none 0 0, .slice none 0 0, .bool false, .slice none 0 0, .slice none 0 0, .slice none 0 0, .slice none 0 0, .slice none 0 0, .bool false], rfl, rfl, ⟨[.int .i64 x93], [.int .i64 x98, .int .i64 0, .int .i64 0, .int .i64 0, .int .i64 0, .slice none 0 0, .slice none 0 0, .slice none 0 0, .slice none 0 0, .bool false, .slice none 0 0, .slice none 0 0, .slice none 0 0, .slice none 0 0, .slice none 0 0, .bool false], rfl, rfl, ⟨[.int .i64 x98], [.int .i64 0, .int .i64 0, .int .i64 0, .int .i64 0, .slice none 0 0, .slice none 0 0, .slice none 0 0, .slice none 0 0, .bool false, .slice none 0 0, .slice none 0 0, .slice none 0 0, .slice none 0 0, .slice none 0 0, .bool false], rfl, rfl, ⟨[.int .i64 0, .int .i64 0], [.int .i64 0, .int .i64 0, .slice none 0 0, .slice none 0 0, .slice none 0 0, .slice none 0 0, .bool false, .slice none 0 0, .slice none 0 0, .slice none 0 0, .slice none 0 0, .slice none 0 0, .bool false], rfl, ⟨[.int .i64 0], [.int .i64 0], rfl, rfl, rfl⟩, ⟨[.int .i64 0], [.int .i64 0, .slice none 0 0, .slice none 0 0, .slice none 0 0, .slice none 0 0, .bool false, .slice none 0 0, .slice none 0 0, .slice none 0 0, .slice none 0 0, .slice none 0 0, .bool false], rfl, rfl, ⟨[.int .i64 0], [.slice none 0 0, .slice none 0 0, .slice none 0 0, .slice none 0 0, .bool false, .slice none 0 0, .slice none 0 0, .slice none 0 0, .slice none 0 0, .slice none 0 0, .bool false], rfl, rfl, ⟨[.slice none 0 0, .slice none 0 0], [.slice none 0 0, .slice none 0 0, .bool false, .slice none 0 0, .slice none 0 0, .slice none 0 0, .slice none 0 0, .slice none 0 0, .bool false], rfl, ⟨[.slice none 0 0], [.slice none 0 0], rfl, R_nil, R_nil⟩, ⟨[.slice none 0 0, .slice none 0 0], [.bool false, .slice none 0 0, .slice none 0 0, .slice none 0 0, .slice none 0 0, .slice none 0 0, .bool false], rfl, ⟨[.slice none 0 0], [.slice none 0 0], rfl, R_nil, R_nil⟩, ⟨[.bool false], [.slice none 0 0, .slice none 0 0, .slice none 0 0, .slice none 0 0, .slice none 0 0, .bool false], rfl, rfl, ⟨[.slice none 0 0, .slice none 0 0], [.slice none 0 0, .slice none 0 0, .slice none 0 0, .bool false], rfl, ⟨[.slice none 0 0], [.slice none 0 0], rfl, R_nil, R_nil⟩, ⟨[.slice none 0 0], [.slice none 0 0, .slice none 0 0, .bool false], rfl, R_nil, ⟨[.slice none 0 0], [.slice none 0 0, .bool false], rfl, R_nil, ⟨[.slice none 0 0], [.bool false], rfl, R_nil, rfl⟩⟩⟩⟩⟩⟩⟩⟩⟩⟩⟩⟩⟩))) rfl (by decide) (fun a100 w hBl hs => ?_)
    have hs := hs.add (it := vl (tSlice t_api_Message) ([(⟨x88, x93, x98, (⟨0, 0⟩ : api_AccessID), 0, 0, (⟨[], []⟩ : api_Certificate), (⟨[], []⟩ : api_Certificate), false, (⟨[], []⟩ : api_Certificate), [], [], [], false⟩ : api_Message)]) (.slice a100 ([(⟨x88, x93, x98, (⟨0, 0⟩ : api_AccessID), 0, 0, (⟨[], []⟩ : api_Certificate), (⟨[], []⟩ : api_Certificate), false, (⟨[], []⟩ : api_Certificate), [], [], [], false⟩ : api_Message)]).length 1)) fun ok hA => hA.get 0 rfl
    exact WL.nil ⟨rfl, _, rfl, ⟨(a100, 1), rfl⟩, hs.cutG 1 1⟩ }
    {
    intro ρ w Γx Λx hs hu hp
    have e129 : ρ 18 = .agg ([.int .i64 x69, .slice a71 x70.length c72, .slice a74 x73.length c75] : List Value).toArray := (hp 0 rfl).1
    obtain ⟨⟨⟨a130, c131⟩, e132r⟩, hm133⟩ := hp 20 rfl
    have e132 : ρ 38 = .slice a130 ([(⟨x88, x93, x98, (⟨0, 0⟩ : api_AccessID), 0, 0, (⟨[], []⟩ : api_Certificate), (⟨[], []⟩ : api_Certificate), false, (⟨[], []⟩ : api_Certificate), [], [], [], false⟩ : api_Message)]).length c131 := e132r
    rw [e132r] at hm133
    have hs := hs.memo1 (it := vl (tSlice t_api_Message) ([(⟨x88, x93, x98, (⟨0, 0⟩ : api_AccessID), 0, 0, (⟨[], []⟩ : api_Certificate), (⟨[], []⟩ : api_Certificate), false, (⟨[], []⟩ : api_Certificate), [], [], [], false⟩ : api_Message)]) (.slice a130 ([(⟨x88, x93, x98, (⟨0, 0⟩ : api_AccessID), 0, 0, (⟨[], []⟩ : api_Certificate), (⟨[], []⟩ : api_Certificate), false, (⟨[], []⟩ : api_Certificate), [], [], [], false⟩ : api_Message)]).length c131)) (List.mem_append.2 (.inl (hm133 _ (List.mem_of_getElem? (i := 0) rfl))))
    have hs := hs.add (it := vl t_network_Network (⟨x69, x70, x73⟩ : network_Network) (.agg [.int .i64 x69, .slice a71 x70.length c72, .slice a74 x73.length c75].toArray)) fun ok hA => V_agg (show t_network_Network.R ok _ _ _ from ⟨[.int .i64 x69], [.slice a71 x70.length c72, .slice a74 x73.length c75], rfl, rfl, ⟨[.slice a71 x70.length c72], [.slice a74 x73.length c75], rfl, (R_one (hA.get (Γx.length + 1 + 1) (getApp1 rfl))), (R_one (hA.get (Γx.length + 2 + 1) (getApp1 rfl)))⟩⟩) rfl
    refine WL.call (vs := [.agg ([.int .i64 x69, .slice a71 x70.length c72, .slice a74 x73.length c75] : List Value).toArray, .slice a130 ([(⟨x88, x93, x98, (⟨0, 0⟩ : api_AccessID), 0, 0, (⟨[], []⟩ : api_Certificate), (⟨[], []⟩ : api_Certificate), false, (⟨[], []⟩ : api_Certificate), [], [], [], false⟩ : api_Message)]).length c131]) hs FN16 ⟨e129, ⟨e132, trivial⟩⟩ (fun ok hA => network_Send.callc (x1 := (⟨x69, x70, x73⟩ : network_Network)) (x5 := ([(⟨x88, x93, x98, (⟨0, 0⟩ : api_AccessID), 0, 0, (⟨[], []⟩ : api_Certificate), (⟨[], []⟩ : api_Certificate), false, (⟨[], []⟩ : api_Certificate), [], [], [], false⟩ : api_Message)])) hxx101 (hA.get 0 rfl) (hA.get 1 rfl)) ?_
    rintro cs102 w hs
    have hl103 := hs.agglen (n := 3) 0 rfl rfl rfl
    have hs := hs.add (it := vl t_network_Network x101 (.agg cs102.toArray)) fun ok hA => hA.get 0 rfl
    exact WL.nil ⟨rfl, _, rfl, ⟨cs102, rfl⟩, hs.cutG 1 3⟩ }
    {
    intro ρ w hs hu134 hp
    obtain ⟨⟨⟨⟨⟨⟨⟨⟨⟨⟨⟨⟨⟨⟨⟨⟨⟨⟨⟨⟨⟨⟨_, hp0_⟩, hp1_⟩, hp2_⟩, hp3_⟩, hp4_⟩, hp5_⟩, hp6_⟩, hp7_⟩, hp8_⟩, hp9_⟩, hp10_⟩, hp11_⟩, hp12_⟩, hp13_⟩, hp14_⟩, hp15_⟩, hp16_⟩, hp17_⟩, hp18_⟩, hp19_⟩, hp20_⟩, hp21_⟩ := hp
    have hs : St ok (bz w0) w [vl t_network_Network x101 (ρ 39), vl (tSlice t_api_Message) ([(⟨x88, x93, x98, (⟨0, 0⟩ : api_AccessID), 0, 0, (⟨[], []⟩ : api_Certificate), (⟨[], []⟩ : api_Certificate), false, (⟨[], []⟩ : api_Certificate), [], [], [], false⟩ : api_Message)]) (ρ 38), pl (tInt .i64) x94 (adOf (ρ 33)), pl (tInt .i64) x89 (adOf (ρ 27)), pl (tInt .i64) x84 (adOf (ρ 21)), vl (tSlice (tInt .i64)) x1 (.slice a2 x1.length c3), vl (tSlice t_network_Packet) x70 (.slice a71 x70.length c72), vl (tSlice t_network_Side) x73 (.slice a74 x73.length c75)] [blk g15 28 [.int .i64 x69, .slice a71 x70.length c72, .slice a74 x73.length c75], blk g6 28 [.int .i64 0, .slice none 0 0, .slice none 0 0]] := hs
    obtain ⟨cs135, e137⟩ := hp21_
    have e137 : ρ 39 = .agg cs135.toArray := e137
    try rw [e137] at hs
    obtain ⟨⟨a138, c139⟩, e140⟩ := hp20_
    have e140 : ρ 38 = .slice a138 ([(⟨x88, x93, x98, (⟨0, 0⟩ : api_AccessID), 0, 0, (⟨[], []⟩ : api_Certificate), (⟨[], []⟩ : api_Certificate), false, (⟨[], []⟩ : api_Certificate), [], [], [], false⟩ : api_Message)]).length c139 := e140
    try rw [e140] at hs
    have e141 : ρ 37 = .agg ([.int .i64 x88, .int .i64 x93, .int .i64 x98, .int .i64 0, .int .i64 0, .int .i64 0, .int .i64 0, .slice none 0 0, .slice none 0 0, .slice none 0 0, .slice none 0 0, .bool false, .slice none 0 0, .slice none 0 0, .slice none 0 0, .slice none 0 0, .slice none 0 0, .bool false] : List Value).toArray := hp19_
    have e142 : ρ 36 = .int .i64 x98 := hp18_
    have e143 : ρ 35 = .int .i64 x97 := hp17_
    have e144 : ρ 34 = .int .i64 x94 := hp16_
    obtain ⟨ad145, e146⟩ := hp15_
    have e146 : ρ 33 = .pointer (some ad145) := e146
    try rw [e146] at hs
    have e147 : ρ 32 = .int .i64 x68 := hp14_
    have e148 : ρ 31 = .slice a2 x1.length c3 := hp13_
    have e149 : ρ 30 = .int .i64 x93 := hp12_
    have e150 : ρ 29 = .int .i64 x92 := hp11_
    have e151 : ρ 28 = .int .i64 x89 := hp10_
    obtain ⟨ad152, e153⟩ := hp9_
    have e153 : ρ 27 = .pointer (some ad152) := e153
    try rw [e153] at hs
    have e154 : ρ 26 = .int .i64 x68 := hp8_
    have e155 : ρ 25 = .slice a2 x1.length c3 := hp7_
    have e156 : ρ 24 = .int .i64 x88 := hp6_
    have e157 : ρ 23 = .int .i64 x87 := hp5_
    have e158 : ρ 22 = .int .i64 x84 := hp4_
    obtain ⟨ad159, e160⟩ := hp3_
    have e160 : ρ 21 = .pointer (some ad159) := e160
    try rw [e160] at hs
    have e161 : ρ 20 = .int .i64 x68 := hp2_
    have e162 : ρ 19 = .slice a2 x1.length c3 := hp1_
    have e163 : ρ 18 = .agg ([.int .i64 x69, .slice a71 x70.length c72, .slice a74 x73.length c75] : List Value).toArray := hp0_
    have hl136 := hs.agglen (n := 3) 0 rfl rfl rfl
    refine WA.step [22] (by kernel_rfl) (by simp) ⟨?_, trivial⟩
    refine WL.storeAll (vs := cs135) hs 0 rfl TI28 ((hu134 5 rfl).trans h79_5) e137 rfl hl136 (hs.ones 0 rfl rfl) rfl (fun w hs => ?_)
    refine WL.nil ⟨rfl, _, rfl, ?_⟩
    refine WA.done (by kernel_rfl) ?_
    refine hK83 _ _ ?_
    refine W.region ?_
    refine WL.move (v := .int .i64 x68) ((hu134 6 rfl).trans h79_6) ?_
    obtain ⟨x164, ex164, hf⟩ := letE hf
    refine WL.bin (v := .int .i64 x164) rfl rfl (ib_as ex164 (ib_add _ _ _)) ?_
    refine WL.assign (v := .int .i64 x164) rfl ?_
    refine WL.nil ?_
    obtain ⟨a169, c170, a171, c172, rfl⟩ := open_network_Network hs 0 rfl
    have hs := hs.add (it := vl (tSlice t_network_Packet) x101.Packets (.slice a169 (x101.Packets).length c170)) fun ok hA => V_fld F_network_Network_Packets (hA.get 0 rfl) rfl rfl rfl
    have hs := hs.add (it := vl (tSlice t_network_Side) x101.Sides (.slice a171 (x101.Sides).length c172)) fun ok hA => V_fld F_network_Network_Sides (hA.get 1 rfl) rfl rfl rfl
    exact ⟨_, (Option.some.inj hf).symm, a169, c170, a171, c172, ((hu134 0 rfl).trans h79_0), ((hu134 1 rfl).trans h79_1), ((hu134 4 rfl).trans h79_4), ((hu134 5 rfl).trans h79_5), rfl, (hs.mask [true, true]).pick [7, 1, 0]⟩ } }
    {
    refine W.cond_false (bool_tr h79_15 hc82) ?_
    refine W.exit ?_
    have hr := Option.some.inj hf; subst hr
    have hr := hbbs76 _ rfl; subst hr
    have hf := hfs76
    exact Jk25 x69 x70 x73 a71 c72 a74 c75 _ _ h79_1 h79_4 h79_5 ((hs.mask [true, true]).pick [1, 2]) hf }
  refine W.region ?_
  refine WL.move (v := .int .i64 x68) h67_6 ?_
  refine WL.move (v := .slice a2 x1.length c3) h67_0 ?_
  refine WL.len (v := .slice a2 x1.length c3) rfl (len_slice UN23) ?_
  refine WL.bin (v := .bool (decide (x68 < (x1.length : Int)))) rfl rfl (ib_lss _ _ _) ?_
  refine WL.move (v := .bool (decide (x68 < (x1.length : Int)))) rfl ?_
  rcases iteE hf with ⟨hc173, hf⟩ | ⟨hc173, hf⟩
  {
  refine WL.move (v := .int .i64 x68) h67_6 ?_ (hg := (wanted_of rfl rfl (bool_tr rfl hc173)).trans rfl)
  refine WL.bin (v := .bool (decide (x68 < 24))) rfl rfl (ib_lss _ _ _) ?_ (hg := (wanted_of rfl rfl (bool_tr rfl hc173)).trans rfl)
  refine WL.pickT (v := .bool (decide (x68 < 24))) (bool_tr rfl hc173) rfl ?_
  refine WL.nil ?_
  exact Jk81 (decide (x68 < 24)) _ _ h67_0 h67_1 h67_4 h67_5 h67_6 rfl ((hs.mask [true, true]).pick [0, 1, 2]) hf }
  {
  refine WL.pass ((wanted_of rfl rfl (bool_tr rfl hc173)).trans rfl) rfl ?_
  refine WL.pass ((wanted_of rfl rfl (bool_tr rfl hc173)).trans rfl) rfl ?_
  refine WL.pickF (v := .bool false) (bool_tr rfl hc173) rfl ?_
  refine WL.nil ?_
  exact Jk81 false _ _ h67_0 h67_1 h67_4 h67_5 h67_6 rfl ((hs.mask [true, true]).pick [0, 1, 2]) hf }
end Go.Proofs.YthcohhpmpdijoaaGreatDoor
set_option linter.unusedVariables false
set_option linter.unusedSimpArgs false
namespace Go.Proofs.YthcohhpmpdijoaaGreatDoor
open Go Go.RowKit Go.Proofs.YthcohhpmpdijoaaGreatDoorL
set_option maxRecDepth 100000
set_option maxHeartbeats 4000000
theorem esref36_ValidateRules.calls {ok : Nat → Prop} {w0 : World} {x1 : List adversary_Rule} {a2 : Option Addr} {c3 : Nat} {r : Int} (hf : esref36_ValidateRules x1 = some r) (i0 : (vl (tSlice t_adversary_Rule) x1 (.slice a2 x1.length c3)).holds ok w0) :
    Calls Tryz.prog 10 #[.slice a2 x1.length c3] w0 fun e w' => ∃ v, e = .returned v ∧ ∃ y : Unit, v = .int .i64 r ∧ St ok (bz w0) w' [] [] := by
  unfold esref36_ValidateRules at hf
  refine calls_of_W (fn := Tryz.f10) (N := 49) Tryz.func10 rfl Tryz.ntmps10 rfl ?_
  have hs : St ok (bz w0) w0 [vl (tSlice t_adversary_Rule) x1 (.slice a2 x1.length c3)] [] := St.init (All.cons i0 All.nil)
  clear i0
  refine W.seqK fun K4 hK4 => ?_
  refine W.region ?_
  refine WL.assign (v := .int .i64 0) rfl ?_
  refine WL.nil ?_
  refine hK4 _ _ ?_
  refine W.seqK fun K5 hK5 => ?_
  refine W.seqK fun K6 hK6 => ?_
  refine W.region ?_
  refine WL.move (v := .slice a2 x1.length c3) rfl ?_
  refine WL.len (v := .slice a2 x1.length c3) rfl (len_slice UN22) ?_
  refine WL.bin (v := .bool (decide (16 < (x1.length : Int)))) rfl rfl (ib_gtr _ _ _) ?_
  refine WL.nil ?_
  refine hK6 _ _ ?_
  rcases iteE hf with ⟨hc7, hf⟩ | ⟨hc7, hf⟩
  {
  refine W.cond_true (bool_tr rfl hc7) ?_
  refine W.seqK fun K8 hK8 => ?_
  refine W.region ?_
  refine WL.assign (v := .int .i64 3) rfl ?_
  refine WL.nil ?_
  refine hK8 _ _ ?_
  refine W.ret ?_
  have hr := Option.some.inj hf; subst hr
  exact ⟨_, resOk_one rfl rfl, (), rfl, (hs.mask []).pick []⟩ }
  {
  refine W.cond_false (bool_tr rfl hc7) ?_
  refine W.skip ?_
  refine hK5 _ _ ?_
  refine W.seqK fun K9 hK9 => ?_
  have Jk11 : ∀  (ρ : Env) (w : World), St ok (bz w0) w [] [] → esref36_ValidateRules.j1 = some r → K9 ρ w := by
    intro  ρ w  hs hf
    refine hK9 _ _ ?_
    unfold esref36_ValidateRules.j1 at hf
    refine W.seqK fun K12 hK12 => ?_
    refine W.region ?_
    refine WL.assign (v := .int .i64 0) rfl ?_
    refine WL.nil ?_
    refine hK12 _ _ ?_
    refine W.ret ?_
    have hr := Option.some.inj hf; subst hr
    exact ⟨_, resOk_one rfl rfl, (), rfl, (hs.mask []).pick []⟩
  refine W.seqK fun K13 hK13 => ?_
  refine W.region ?_
  refine WL.assign (v := .int .i64 0) rfl ?_
  refine WL.nil ?_
  refine hK13 _ _ ?_
  refine W.block ?_
  obtain ⟨bs16, hbs16, hfs16⟩ := bindE hf
  refine W.loop hbs16 (fun s ρ w => match s with | x15 => ρ 0 = .slice a2 x1.length c3 ∧ ρ 3 = .int .i64 x15 ∧ St ok (bz w0) w [vl (tSlice t_adversary_Rule) x1 (.slice a2 x1.length c3)] []) ⟨rfl, rfl, (hs.mask []).pick [0]⟩ ?_
  intro x15 ρ w os16 hI hf hbbs16
  obtain ⟨h14_0, h14_3, hs⟩ := hI
  unfold esref36_ValidateRules.l1 at hf
  refine W.seqK fun K17 hK17 => ?_
  refine W.seqK fun K18 hK18 => ?_
  refine W.region ?_
  refine WL.move (v := .int .i64 x15) h14_3 ?_
  refine WL.move (v := .slice a2 x1.length c3) h14_0 ?_
  refine WL.len (v := .slice a2 x1.length c3) rfl (len_slice UN22) ?_
  refine WL.bin (v := .bool (decide (x15 < (x1.length : Int)))) rfl rfl (ib_lss _ _ _) ?_
  refine WL.nil ?_
  refine hK18 _ _ ?_
  rcases iteE hf with ⟨hc19, hf⟩ | ⟨hc19, hf⟩
  {
  refine W.cond_true (bool_tr rfl hc19) ?_
  refine W.skip ?_
  refine hK17 _ _ ?_
  refine W.seqK fun K20 hK20 => ?_
  refine W.block ?_
  refine W.seqK fun K21 hK21 => ?_
  refine W.region ?_
  refine WL.move (v := .slice a2 x1.length c3) h14_0 ?_
  refine WL.move (v := .int .i64 x15) h14_3 ?_
  obtain ⟨x22, hxx22, hf⟩ := bindE hf
  refine WL.indexAddr hs 0 rfl UN22 TI38 rfl rfl hxx22 (fun ad23 hs => ?_)
  refine WL.loadP hs 0 rfl TI38 (.inl rfl) rfl (fun v24 hs => ?_)
  obtain ⟨cs25, hl26, rfl⟩ := hs.aggv (n := 2) 0 rfl rfl rfl
  refine WL.alloc hs ZV38 (fun g27 w hs => ?_)
  refine WL.storeAll (vs := cs25) hs 0 rfl TI38 rfl rfl rfl hl26 (hs.ones 0 rfl rfl) rfl (fun w hs => ?_)
  refine WL.nil ?_
  refine hK21 _ _ ?_
  refine W.seqK fun K28 hK28 => ?_
  refine W.seqK fun K29 hK29 => ?_
  have Jk32 : ∀ (x31 : Bool) (ρ : Env) (w : World), ρ 0 = .slice a2 x1.length c3 → ρ 3 = .int .i64 x15 → ρ 4 = .pointer (some ⟨g27, 0, none⟩) → ρ 25 = .bool x31 → St ok (bz w0) w [vl (tSlice t_adversary_Rule) x1 (.slice a2 x1.length c3), vl t_adversary_Rule x22 (.agg cs25.toArray)] [blk g27 38 cs25] → esref36_ValidateRules.j3 x15 x22 x31 = some os16 → K29 ρ w := by
    intro x31 ρ w h30_0 h30_3 h30_4 h30_25 hs hf
    refine hK29 _ _ ?_
    unfold esref36_ValidateRules.j3 at hf
    rcases iteE hf with ⟨hc33, hf⟩ | ⟨hc33, hf⟩
    {
    refine W.cond_true (bool_tr h30_25 hc33) ?_
    refine W.seqK fun K34 hK34 => ?_
    refine W.region ?_
    refine WL.assign (v := .int .i64 10) rfl ?_
    refine WL.nil ?_
    refine hK34 _ _ ?_
    refine W.ret ?_
    have hr := Option.some.inj hf; subst hr
    have hr := hbbs16 _ rfl; subst hr
    have hf := hfs16
    have hr := Option.some.inj hf; subst hr
    exact ⟨_, resOk_one rfl rfl, (), rfl, (hs.mask []).pick []⟩ }
    {
    refine W.cond_false (bool_tr h30_25 hc33) ?_
    refine W.skip ?_
    refine hK28 _ _ ?_
    refine W.seqK fun K35 hK35 => ?_
    have Jk38 : ∀ (x37 : Bool) (ρ : Env) (w : World), ρ 0 = .slice a2 x1.length c3 → ρ 3 = .int .i64 x15 → ρ 48 = .bool x37 → St ok (bz w0) w [vl (tSlice t_adversary_Rule) x1 (.slice a2 x1.length c3)] [] → esref36_ValidateRules.j2 x15 x37 = some os16 → K35 ρ w := by
      intro x37 ρ w h36_0 h36_3 h36_48 hs hf
      refine hK35 _ _ ?_
      unfold esref36_ValidateRules.j2 at hf
      rcases iteE hf with ⟨hc39, hf⟩ | ⟨hc39, hf⟩
      {
      refine W.cond_true (bool_tr h36_48 hc39) ?_
      refine W.seqK fun K40 hK40 => ?_
      refine W.region ?_
      refine WL.assign (v := .int .i64 9) rfl ?_
      refine WL.nil ?_
      refine hK40 _ _ ?_
      refine W.ret ?_
      have hr := Option.some.inj hf; subst hr
      have hr := hbbs16 _ rfl; subst hr
      have hf := hfs16
      have hr := Option.some.inj hf; subst hr
      exact ⟨_, resOk_one rfl rfl, (), rfl, (hs.mask []).pick []⟩ }
      {
      refine W.cond_false (bool_tr h36_48 hc39) ?_
      refine W.skip ?_
      refine hK20 _ _ ?_
      refine W.region ?_
      refine WL.move (v := .int .i64 x15) h36_3 ?_
      obtain ⟨x41, ex41, hf⟩ := letE hf
      refine WL.bin (v := .int .i64 x41) rfl rfl (ib_as ex41 (ib_add _ _ _)) ?_
      refine WL.assign (v := .int .i64 x41) rfl ?_
      refine WL.nil ?_
      exact ⟨_, (Option.some.inj hf).symm, h36_0, rfl, (hs.mask []).pick [0]⟩ }
    refine W.region ?_
    refine WL.fieldAddr (m := 0) h30_4 FA38_0 rfl ?_
    refine WL.loadF (z := x22.Kind) F_adversary_Rule_Kind hs 0 rfl 1 rfl rfl TI3 (.inr rfl) rfl rfl (fun v42 hs => ?_)
    obtain rfl := hs.int 0 rfl
    refine WL.bin (v := .bool (decide (x22.Kind ≤ 6))) rfl rfl (ib_leq _ _ _) ?_
    refine WL.move (v := .bool (decide (x22.Kind ≤ 6))) rfl ?_
    rcases iteE hf with ⟨hc43, hf⟩ | ⟨hc43, hf⟩
    {
    refine WL.fieldAddr (m := 1) h30_4 FA38_1 rfl ?_ (hg := (wanted_of rfl rfl (bool_tr rfl hc43)).trans rfl)
    refine WL.loadF (z := x22.Arg) F_adversary_Rule_Arg hs 0 rfl 2 rfl rfl TI3 (.inr rfl) rfl rfl (fun v44 hs => ?_) (hg := (wanted_of rfl rfl (bool_tr rfl hc43)).trans rfl)
    obtain rfl := hs.int 0 rfl
    refine WL.bin (v := .bool (decide (x22.Arg < 1))) rfl rfl (ib_lss _ _ _) ?_ (hg := (wanted_of rfl rfl (bool_tr rfl hc43)).trans rfl)
    refine WL.move (v := .bool (decide (x22.Arg < 1))) rfl ?_ (hg := (wanted_of rfl rfl (bool_tr rfl hc43)).trans rfl)
    rcases iteE hf with ⟨hc45, hf⟩ | ⟨hc45, hf⟩
    {
    refine WL.pass ((wanted_of rfl rfl (bool_tr rfl hc45)).trans rfl) rfl ?_
    refine WL.pass ((wanted_of rfl rfl (bool_tr rfl hc45)).trans rfl) rfl ?_
    refine WL.pass ((wanted_of rfl rfl (bool_tr rfl hc45)).trans rfl) rfl ?_
    refine WL.pickT (v := .bool true) (bool_tr rfl hc45) rfl ?_ (hg := (wanted_of rfl rfl (bool_tr rfl hc43)).trans rfl)
    refine WL.pickT (v := .bool true) (bool_tr rfl hc43) rfl ?_
    refine WL.move (v := .bool true) rfl ?_
    refine WL.pass ((wanted_of rfl rfl rfl).trans rfl) rfl ?_
    refine WL.pass ((wanted_of rfl rfl rfl).trans rfl) rfl ?_
    refine WL.pass ((wanted_of rfl rfl rfl).trans rfl) rfl ?_
    refine WL.pass ((wanted_of rfl rfl rfl).trans rfl) rfl ?_
    refine WL.pass (wanted_undef rfl rfl rfl) rfl ?_
    refine WL.pass (wanted_undef rfl rfl rfl) rfl ?_
    refine WL.pass (wanted_undef rfl rfl rfl) rfl ?_
    refine WL.pass ((wanted_of rfl rfl rfl).trans rfl) rfl ?_
    refine WL.pickT (v := .bool true) rfl rfl ?_
    refine WL.nil ?_
    exact Jk38 true _ _ h30_0 h30_3 rfl ((hs.mask []).pick [2]) hf }
    {
    refine WL.fieldAddr (m := 1) h30_4 FA38_1 rfl ?_ (hg := (wanted_of rfl rfl (bool_tr rfl hc45)).trans rfl)
    refine WL.loadF (z := x22.Arg) F_adversary_Rule_Arg hs 0 rfl 3 rfl rfl TI3 (.inr rfl) rfl rfl (fun v46 hs => ?_) (hg := (wanted_of rfl rfl (bool_tr rfl hc45)).trans rfl)
    obtain rfl := hs.int 0 rfl
    refine WL.bin (v := .bool (decide (1000 < x22.Arg))) rfl rfl (ib_gtr _ _ _) ?_ (hg := (wanted_of rfl rfl (bool_tr rfl hc45)).trans rfl)
    refine WL.pickF (v := .bool (decide (1000 < x22.Arg))) (bool_tr rfl hc45) rfl ?_ (hg := (wanted_of rfl rfl (bool_tr rfl hc43)).trans rfl)
    refine WL.pickT (v := .bool (decide (1000 < x22.Arg))) (bool_tr rfl hc43) rfl ?_
    refine WL.move (v := .bool (decide (1000 < x22.Arg))) rfl ?_
    rcases iteE hf with ⟨hc47, hf⟩ | ⟨hc47, hf⟩
    {
    refine WL.pass ((wanted_of rfl rfl (bool_tr rfl hc47)).trans rfl) rfl ?_
    refine WL.pass ((wanted_of rfl rfl (bool_tr rfl hc47)).trans rfl) rfl ?_
    refine WL.pass ((wanted_of rfl rfl (bool_tr rfl hc47)).trans rfl) rfl ?_
    refine WL.pass ((wanted_of rfl rfl (bool_tr rfl hc47)).trans rfl) rfl ?_
    refine WL.pass (wanted_undef rfl rfl rfl) rfl ?_
    refine WL.pass (wanted_undef rfl rfl rfl) rfl ?_
    refine WL.pass (wanted_undef rfl rfl rfl) rfl ?_
    refine WL.pass ((wanted_of rfl rfl (bool_tr rfl hc47)).trans rfl) rfl ?_
    refine WL.pickT (v := .bool true) (bool_tr rfl hc47) rfl ?_
    refine WL.nil ?_
    exact Jk38 true _ _ h30_0 h30_3 rfl ((hs.mask []).pick [3]) hf }
    {
    refine WL.fieldAddr (m := 0) h30_4 FA38_0 rfl ?_ (hg := (wanted_of rfl rfl (bool_tr rfl hc47)).trans rfl)
    refine WL.loadF (z := x22.Kind) F_adversary_Rule_Kind hs 0 rfl 4 rfl rfl TI3 (.inr rfl) rfl rfl (fun v48 hs => ?_) (hg := (wanted_of rfl rfl (bool_tr rfl hc47)).trans rfl)
    obtain rfl := hs.int 0 rfl
    refine WL.bin (v := .bool (decide (7 ≤ x22.Kind))) rfl rfl (ib_geq _ _ _) ?_ (hg := (wanted_of rfl rfl (bool_tr rfl hc47)).trans rfl)
    refine WL.move (v := .bool (decide (7 ≤ x22.Kind))) rfl ?_ (hg := (wanted_of rfl rfl (bool_tr rfl hc47)).trans rfl)
    rcases iteE hf with ⟨hc49, hf⟩ | ⟨hc49, hf⟩
    {
    refine WL.fieldAddr (m := 1) h30_4 FA38_1 rfl ?_ (hg := (wanted_of rfl rfl (bool_tr rfl hc49)).trans rfl)
    refine WL.loadF (z := x22.Arg) F_adversary_Rule_Arg hs 0 rfl 5 rfl rfl TI3 (.inr rfl) rfl rfl (fun v50 hs => ?_) (hg := (wanted_of rfl rfl (bool_tr rfl hc49)).trans rfl)
    obtain rfl := hs.int 0 rfl
    refine WL.bin (v := .bool (x22.Arg != 0)) rfl rfl (ib_neq _ _ _) ?_ (hg := (wanted_of rfl rfl (bool_tr rfl hc49)).trans rfl)
    refine WL.pickT (v := .bool (x22.Arg != 0)) (bool_tr rfl hc49) rfl ?_ (hg := (wanted_of rfl rfl (bool_tr rfl hc47)).trans rfl)
    refine WL.pickF (v := .bool (x22.Arg != 0)) (bool_tr rfl hc47) rfl ?_
    refine WL.nil ?_
    exact Jk38 (x22.Arg != 0) _ _ h30_0 h30_3 rfl ((hs.mask []).pick [5]) hf }
    {
    refine WL.pass ((wanted_of rfl rfl (bool_tr rfl hc49)).trans rfl) rfl ?_
    refine WL.pass ((wanted_of rfl rfl (bool_tr rfl hc49)).trans rfl) rfl ?_
    refine WL.pass ((wanted_of rfl rfl (bool_tr rfl hc49)).trans rfl) rfl ?_
    refine WL.pickF (v := .bool false) (bool_tr rfl hc49) rfl ?_ (hg := (wanted_of rfl rfl (bool_tr rfl hc47)).trans rfl)
    refine WL.pickF (v := .bool false) (bool_tr rfl hc47) rfl ?_
    refine WL.nil ?_
    exact Jk38 false _ _ h30_0 h30_3 rfl ((hs.mask []).pick [4]) hf } } } }
    {
    refine WL.pass ((wanted_of rfl rfl (bool_tr rfl hc43)).trans rfl) rfl ?_
    refine WL.pass ((wanted_of rfl rfl (bool_tr rfl hc43)).trans rfl) rfl ?_
    refine WL.pass ((wanted_of rfl rfl (bool_tr rfl hc43)).trans rfl) rfl ?_
    refine WL.pass ((wanted_of rfl rfl (bool_tr rfl hc43)).trans rfl) rfl ?_
    refine WL.pass (wanted_undef rfl rfl rfl) rfl ?_
    refine WL.pass (wanted_undef rfl rfl rfl) rfl ?_
    refine WL.pass (wanted_undef rfl rfl rfl) rfl ?_
    refine WL.pass ((wanted_of rfl rfl (bool_tr rfl hc43)).trans rfl) rfl ?_
    refine WL.pickF (v := .bool false) (bool_tr rfl hc43) rfl ?_
    refine WL.move (v := .bool false) rfl ?_
    refine WL.fieldAddr (m := 0) h30_4 FA38_0 rfl ?_ (hg := (wanted_of rfl rfl rfl).trans rfl)
    refine WL.loadF (z := x22.Kind) F_adversary_Rule_Kind hs 0 rfl 2 rfl rfl TI3 (.inr rfl) rfl rfl (fun v51 hs => ?_) (hg := (wanted_of rfl rfl rfl).trans rfl)
    obtain rfl := hs.int 0 rfl
    refine WL.bin (v := .bool (decide (7 ≤ x22.Kind))) rfl rfl (ib_geq _ _ _) ?_ (hg := (wanted_of rfl rfl rfl).trans rfl)
    refine WL.move (v := .bool (decide (7 ≤ x22.Kind))) rfl ?_ (hg := (wanted_of rfl rfl rfl).trans rfl)
    rcases iteE hf with ⟨hc52, hf⟩ | ⟨hc52, hf⟩
    {
    refine WL.fieldAddr (m := 1) h30_4 FA38_1 rfl ?_ (hg := (wanted_of rfl rfl (bool_tr rfl hc52)).trans rfl)
    refine WL.loadF (z := x22.Arg) F_adversary_Rule_Arg hs 0 rfl 3 rfl rfl TI3 (.inr rfl) rfl rfl (fun v53 hs => ?_) (hg := (wanted_of rfl rfl (bool_tr rfl hc52)).trans rfl)
    obtain rfl := hs.int 0 rfl
    refine WL.bin (v := .bool (x22.Arg != 0)) rfl rfl (ib_neq _ _ _) ?_ (hg := (wanted_of rfl rfl (bool_tr rfl hc52)).trans rfl)
    refine WL.pickT (v := .bool (x22.Arg != 0)) (bool_tr rfl hc52) rfl ?_ (hg := (wanted_of rfl rfl rfl).trans rfl)
    refine WL.pickF (v := .bool (x22.Arg != 0)) rfl rfl ?_
    refine WL.nil ?_
    exact Jk38 (x22.Arg != 0) _ _ h30_0 h30_3 rfl ((hs.mask []).pick [3]) hf }
    {
    refine WL.pass ((wanted_of rfl rfl (bool_tr rfl hc52)).trans rfl) rfl ?_
    refine WL.pass ((wanted_of rfl rfl (bool_tr rfl hc52)).trans rfl) rfl ?_
    refine WL.pass ((wanted_of rfl rfl (bool_tr rfl hc52)).trans rfl) rfl ?_
    refine WL.pickF (v := .bool false) (bool_tr rfl hc52) rfl ?_ (hg := (wanted_of rfl rfl rfl).trans rfl)
    refine WL.pickF (v := .bool false) rfl rfl ?_
    refine WL.nil ?_
    exact Jk38 false _ _ h30_0 h30_3 rfl ((hs.mask []).pick [2]) hf } } }
  refine W.region ?_
  refine WL.fieldAddr (m := 0) rfl FA38_0 rfl ?_
  refine WL.loadF (z := x22.Kind) F_adversary_Rule_Kind hs 0 rfl 0 rfl rfl TI3 (.inr rfl) rfl rfl (fun v54 hs => ?_)
  obtain rfl := hs.int 0 rfl
  refine WL.bin (v := .bool (decide (x22.Kind < 1))) rfl rfl (ib_lss _ _ _) ?_
  refine WL.move (v := .bool (decide (x22.Kind < 1))) rfl ?_
  rcases iteE hf with ⟨hc55, hf⟩ | ⟨hc55, hf⟩
  {
  refine WL.pass ((wanted_of rfl rfl (bool_tr rfl hc55)).trans rfl) rfl ?_
  refine WL.pass ((wanted_of rfl rfl (bool_tr rfl hc55)).trans rfl) rfl ?_
  refine WL.pass ((wanted_of rfl rfl (bool_tr rfl hc55)).trans rfl) rfl ?_
  refine WL.pickT (v := .bool true) (bool_tr rfl hc55) rfl ?_
  refine WL.nil ?_
  exact Jk32 true _ _ h14_0 h14_3 rfl rfl ((hs.mask [true]).pick [3, 1]) hf }
  {
  refine WL.fieldAddr (m := 0) rfl FA38_0 rfl ?_ (hg := (wanted_of rfl rfl (bool_tr rfl hc55)).trans rfl)
  refine WL.loadF (z := x22.Kind) F_adversary_Rule_Kind hs 0 rfl 1 rfl rfl TI3 (.inr rfl) rfl rfl (fun v56 hs => ?_) (hg := (wanted_of rfl rfl (bool_tr rfl hc55)).trans rfl)
  obtain rfl := hs.int 0 rfl
  refine WL.bin (v := .bool (decide (9 < x22.Kind))) rfl rfl (ib_gtr _ _ _) ?_ (hg := (wanted_of rfl rfl (bool_tr rfl hc55)).trans rfl)
  refine WL.pickF (v := .bool (decide (9 < x22.Kind))) (bool_tr rfl hc55) rfl ?_
  refine WL.nil ?_
  exact Jk32 (decide (9 < x22.Kind)) _ _ h14_0 h14_3 rfl rfl ((hs.mask [true]).pick [4, 2]) hf } }
  {
  refine W.cond_false (bool_tr rfl hc19) ?_
  refine W.exit ?_
  have hr := Option.some.inj hf; subst hr
  have hr := hbbs16 _ rfl; subst hr
  have hf := hfs16
  exact Jk11  _ _  ((hs.mask []).pick []) hf } }
theorem esref36_side.calls {ok : Nat → Prop} {w0 : World} {x1 : network_Network} {x5 : Int} {v2 : Value} {r : Int} (hf : esref36_side x1 x5 = some r) (i0 : (vl t_network_Network x1 v2).holds ok w0) :
    Calls Tryz.prog 40 #[v2, .int .i64 x5] w0 fun e w' => ∃ v, e = .returned v ∧ ∃ y : Unit, v = .int .i64 r ∧ St ok (bz w0) w' [] [] := by
  unfold esref36_side at hf
  refine calls_of_W (fn := Tryz.f40) (N := 27) Tryz.func40 rfl Tryz.ntmps40 rfl ?_
  have hs : St ok (bz w0) w0 [vl t_network_Network x1 v2] [] := St.init (All.cons i0 All.nil)
  clear i0
  obtain ⟨cs3, hl4, rfl⟩ := hs.aggv (n := 3) 0 rfl rfl rfl
  refine W.seqK fun K6 hK6 => ?_
  refine W.region ?_
  refine WL.box (vs := cs3) hs rfl rfl (fun g7 w hs => ?_)
  refine WL.assign (v := .int .i64 0) rfl ?_
  refine WL.nil ?_
  refine hK6 _ _ ?_
  refine W.seqK fun K8 hK8 => ?_
  have Jk10 : ∀  (ρ : Env) (w : World), St ok (bz w0) w [] [] → esref36_side.j1 = some r → K8 ρ w := by
    intro  ρ w  hs hf
    refine hK8 _ _ ?_
    unfold esref36_side.j1 at hf
    refine W.seqK fun K11 hK11 => ?_
    refine W.region ?_
    refine WL.assign (v := .int .i64 0) rfl ?_
    refine WL.nil ?_
    refine hK11 _ _ ?_
    refine W.ret ?_
    have hr := Option.some.inj hf; subst hr
    exact ⟨_, resOk_one rfl rfl, (), rfl, (hs.mask []).pick []⟩
  refine W.seqK fun K12 hK12 => ?_
  refine W.region ?_
  refine WL.assign (v := .int .i64 0) rfl ?_
  refine WL.nil ?_
  refine hK12 _ _ ?_
  refine W.block ?_
  obtain ⟨bs15, hbs15, hfs15⟩ := bindE hf
  refine W.loop hbs15 (fun s ρ w => match s with | x14 => ρ 1 = .int .i64 x5 ∧ ρ 2 = .pointer (some ⟨g7, 0, none⟩) ∧ ρ 5 = .int .i64 x14 ∧ St ok (bz w0) w [vl t_network_Network x1 (.agg cs3.toArray)] [blk g7 28 cs3]) ⟨rfl, rfl, rfl, (hs.mask [true]).pick [0]⟩ ?_
  intro x14 ρ w os15 hI hf hbbs15
  obtain ⟨h13_1, h13_2, h13_5, hs⟩ := hI
  unfold esref36_side.l1 at hf
  refine W.seqK fun K16 hK16 => ?_
  refine W.seqK fun K17 hK17 => ?_
  refine W.region ?_
  refine WL.move (v := .int .i64 x14) h13_5 ?_
  refine WL.fieldAddr (m := 2) h13_2 FA28_2 rfl ?_
  refine WL.loadF (z := x1.Sides) F_network_Network_Sides hs 0 rfl 0 rfl rfl TI26 (.inr rfl) rfl rfl (fun v18 hs => ?_)
  obtain ⟨a19, c20, rfl⟩ := hs.slice 0 rfl
  refine WL.len (v := .slice a19 (x1.Sides).length c20) rfl (len_slice UN26) ?_
  refine WL.bin (v := .bool (decide (x14 < ((x1.Sides).length : Int)))) rfl rfl (ib_lss _ _ _) ?_
  refine WL.nil ?_
  refine hK17 _ _ ?_
  rcases iteE hf with ⟨hc21, hf⟩ | ⟨hc21, hf⟩
  {
  refine W.cond_true (bool_tr rfl hc21) ?_
  refine W.skip ?_
  refine hK16 _ _ ?_
  refine W.seqK fun K22 hK22 => ?_
  refine W.block ?_
  refine W.seqK fun K23 hK23 => ?_
  refine W.region ?_
  refine WL.fieldAddr (m := 2) h13_2 FA28_2 rfl ?_
  refine WL.loadF (z := x1.Sides) F_network_Network_Sides hs 0 rfl 1 rfl rfl TI26 (.inr rfl) rfl rfl (fun v24 hs => ?_)
  obtain ⟨a25, c26, rfl⟩ := hs.slice 0 rfl
  refine WL.move (v := .int .i64 x14) h13_5 ?_
  obtain ⟨x27, hxx27, hf⟩ := bindE hf
  refine WL.indexAddr hs 0 rfl UN26 TI63 rfl rfl hxx27 (fun ad28 hs => ?_)
  refine WL.fieldAddrP (z := x27.Process) F_network_Side_Process hs 0 rfl rfl FA63_0 rfl (fun ad29 hs => ?_)
  refine WL.loadP hs 0 rfl TI3 (.inr rfl) rfl (fun v30 hs => ?_)
  obtain rfl := hs.int 0 rfl
  refine WL.move (v := .int .i64 x5) h13_1 ?_
  refine WL.bin (v := .bool (x27.Process == x5)) rfl rfl (ib_eql _ _ _) ?_
  refine WL.nil ?_
  refine hK23 _ _ ?_
  rcases iteE hf with ⟨hc31, hf⟩ | ⟨hc31, hf⟩
  {
  refine W.cond_true (bool_tr rfl hc31) ?_
  refine W.seqK fun K32 hK32 => ?_
  refine W.region ?_
  refine WL.fieldAddr (m := 2) h13_2 FA28_2 rfl ?_
  refine WL.loadF (z := x1.Sides) F_network_Network_Sides hs 0 rfl 5 rfl rfl TI26 (.inr rfl) rfl rfl (fun v33 hs => ?_)
  obtain ⟨a34, c35, rfl⟩ := hs.slice 0 rfl
  refine WL.move (v := .int .i64 x14) h13_5 ?_
  obtain ⟨x36, hxx36, hf⟩ := bindE hf
  refine WL.indexAddr hs 0 rfl UN26 TI63 rfl rfl hxx36 (fun ad37 hs => ?_)
  refine WL.fieldAddrP (z := x36.Side) F_network_Side_Side hs 0 rfl rfl FA63_1 rfl (fun ad38 hs => ?_)
  refine WL.loadP hs 0 rfl TI3 (.inr rfl) rfl (fun v39 hs => ?_)
  obtain rfl := hs.int 0 rfl
  refine WL.assign (v := .int .i64 x36.Side) rfl ?_
  refine WL.nil ?_
  refine hK32 _ _ ?_
  refine W.ret ?_
  have hr := Option.some.inj hf; subst hr
  have hr := hbbs15 _ rfl; subst hr
  have hf := hfs15
  have hr := Option.some.inj hf; subst hr
  exact ⟨_, resOk_one rfl rfl, (), rfl, (hs.mask []).pick []⟩ }
  {
  refine W.cond_false (bool_tr rfl hc31) ?_
  refine W.skip ?_
  refine hK22 _ _ ?_
  refine W.region ?_
  refine WL.move (v := .int .i64 x14) h13_5 ?_
  obtain ⟨x40, ex40, hf⟩ := letE hf
  refine WL.bin (v := .int .i64 x40) rfl rfl (ib_as ex40 (ib_add _ _ _)) ?_
  refine WL.assign (v := .int .i64 x40) rfl ?_
  refine WL.nil ?_
  exact ⟨_, (Option.some.inj hf).symm, h13_1, h13_2, rfl, (hs.mask [true]).pick [5]⟩ } }
  {
  refine W.cond_false (bool_tr rfl hc21) ?_
  refine W.exit ?_
  have hr := Option.some.inj hf; subst hr
  have hr := hbbs15 _ rfl; subst hr
  have hf := hfs15
  exact Jk10  _ _  ((hs.mask []).pick []) hf }
theorem esref36_Blocked.calls {ok : Nat → Prop} {w0 : World} {x1 : network_Network} {x5 : Int} {x6 : Int} {v2 : Value} {r : Bool} (hf : esref36_Blocked x1 x5 x6 = some r) (i0 : (vl t_network_Network x1 v2).holds ok w0) :
    Calls Tryz.prog 24 #[v2, .int .i64 x5, .int .i64 x6] w0 fun e w' => ∃ v, e = .returned v ∧ ∃ y : Unit, v = .bool r ∧ St ok (bz w0) w' [] [] := by
  unfold esref36_Blocked at hf
  refine calls_of_W (fn := Tryz.f24) (N := 14) Tryz.func24 rfl Tryz.ntmps24 rfl ?_
  have hs : St ok (bz w0) w0 [vl t_network_Network x1 v2] [] := St.init (All.cons i0 All.nil)
  clear i0
  obtain ⟨cs3, hl4, rfl⟩ := hs.aggv (n := 3) 0 rfl rfl rfl
  refine W.seqK fun K7 hK7 => ?_
  refine W.region ?_
  refine WL.box (vs := cs3) hs rfl rfl (fun g8 w hs => ?_)
  refine WL.assign (v := .bool false) rfl ?_
  refine WL.nil ?_
  refine hK7 _ _ ?_
  refine W.seqK fun K9 hK9 => ?_
  obtain ⟨x10, hxx10, hf⟩ := bindE hf
  obtain ⟨x11, hxx11, hf⟩ := bindE hf
  refine W.any (by kernel_rfl) 7 1 [true, true, true, true, true, true, true, false] rfl rfl (poAt [pv (.agg cs3.toArray), pv (.int .i64 x5), pv (.int .i64 x10), pv (.agg cs3.toArray), pv (.int .i64 x6), pv (.int .i64 x11), pv (.bool (x10 != x11))]) (Λ := [blk g8 28 cs3]) hs (by kernel_rfl) (by kernel_rfl) (by kernel_rfl) ⟨⟨⟨⟨⟨⟨⟨trivial, ?_⟩, ?_⟩, ?_⟩, ?_⟩, ?_⟩, ?_⟩, ?_⟩ ?_
  {
  intro ρ w Γx Λx hs hu hp
  refine WL.loadAll hs (Λx.length + 0) (getApp rfl) TI28 (hu 3 rfl) hl4 ?_
  exact WL.nil ⟨rfl, _, rfl, rfl, hs.cutG 0 0⟩ }
  {
  intro ρ w Γx Λx hs hu hp
  refine WL.move (v := .int .i64 x5) (hu 1 rfl) ?_
  exact WL.nil ⟨rfl, _, rfl, rfl, hs.cutG 0 0⟩ }
  {
  intro ρ w Γx Λx hs hu hp
  have e12 : ρ 7 = .agg cs3.toArray := (hp 0 rfl).1
  have e13 : ρ 8 = .int .i64 x5 := (hp 1 rfl).1
  refine WL.call (vs := [.agg cs3.toArray, .int .i64 x5]) hs FN40 ⟨e12, ⟨e13, trivial⟩⟩ (fun ok hA => esref36_side.calls (x1 := x1) (x5 := x5) hxx10 (hA.get (Γx.length + 0) (getApp rfl))) ?_
  rintro _ w hs
  exact WL.nil ⟨rfl, _, rfl, rfl, hs.cutG 0 0⟩ }
  {
  intro ρ w Γx Λx hs hu hp
  refine WL.loadAll hs (Λx.length + 0) (getApp rfl) TI28 (hu 3 rfl) hl4 ?_
  exact WL.nil ⟨rfl, _, rfl, rfl, hs.cutG 0 0⟩ }
  {
  intro ρ w Γx Λx hs hu hp
  refine WL.move (v := .int .i64 x6) (hu 2 rfl) ?_
  exact WL.nil ⟨rfl, _, rfl, rfl, hs.cutG 0 0⟩ }
  {
  intro ρ w Γx Λx hs hu hp
  have e14 : ρ 10 = .agg cs3.toArray := (hp 3 rfl).1
  have e15 : ρ 11 = .int .i64 x6 := (hp 4 rfl).1
  refine WL.call (vs := [.agg cs3.toArray, .int .i64 x6]) hs FN40 ⟨e14, ⟨e15, trivial⟩⟩ (fun ok hA => esref36_side.calls (x1 := x1) (x5 := x6) hxx11 (hA.get (Γx.length + 0) (getApp rfl))) ?_
  rintro _ w hs
  exact WL.nil ⟨rfl, _, rfl, rfl, hs.cutG 0 0⟩ }
  {
  intro ρ w Γx Λx hs hu hp
  have e16 : ρ 9 = .int .i64 x10 := (hp 2 rfl).1
  have e17 : ρ 12 = .int .i64 x11 := (hp 5 rfl).1
  refine WL.bin (v := .bool (x10 != x11)) e16 e17 (ib_neq _ _ _) ?_
  exact WL.nil ⟨rfl, _, rfl, rfl, hs.cutG 0 0⟩ }
  {
  intro ρ w hs hu18 hp
  obtain ⟨⟨⟨⟨⟨⟨⟨_, hp0_⟩, hp1_⟩, hp2_⟩, hp3_⟩, hp4_⟩, hp5_⟩, hp6_⟩ := hp
  have hs : St ok (bz w0) w [vl t_network_Network x1 (.agg cs3.toArray)] [blk g8 28 cs3] := hs
  have e19 : ρ 13 = .bool (x10 != x11) := hp6_
  have e20 : ρ 12 = .int .i64 x11 := hp5_
  have e21 : ρ 11 = .int .i64 x6 := hp4_
  have e22 : ρ 10 = .agg cs3.toArray := hp3_
  have e23 : ρ 9 = .int .i64 x10 := hp2_
  have e24 : ρ 8 = .int .i64 x5 := hp1_
  have e25 : ρ 7 = .agg cs3.toArray := hp0_
  refine WA.step [7] (by kernel_rfl) (by simp) ⟨?_, trivial⟩
  refine WL.assign (v := .bool (x10 != x11)) e19 ?_
  refine WL.nil ⟨rfl, _, rfl, ?_⟩
  refine WA.done (by kernel_rfl) ?_
  refine hK9 _ _ ?_
  refine W.ret ?_
  have hr := Option.some.inj hf; subst hr
  exact ⟨_, resOk_one rfl rfl, (), rfl, (hs.mask []).pick []⟩ }
theorem esref36_matches.calls {ok : Nat → Prop} {w0 : World} {x1 : adversary_Rule} {x5 : network_Packet} {v2 : Value} {v6 : Value} {r : Bool} (hf : esref36_matches x1 x5 = some r) (i0 : (vl t_adversary_Rule x1 v2).holds ok w0) (i1 : (vl t_network_Packet x5 v6).holds ok w0) :
    Calls Tryz.prog 41 #[v2, v6] w0 fun e w' => ∃ v, e = .returned v ∧ ∃ y : Unit, v = .bool r ∧ St ok (bz w0) w' [] [] := by
  unfold esref36_matches at hf
  refine calls_of_W (fn := Tryz.f41) (N := 31) Tryz.func41 rfl Tryz.ntmps41 rfl ?_
  have hs : St ok (bz w0) w0 [vl t_adversary_Rule x1 v2, vl t_network_Packet x5 v6] [] := St.init (All.cons i0 (All.cons i1 All.nil))
  clear i0 i1
  obtain ⟨cs3, hl4, rfl⟩ := hs.aggv (n := 2) 0 rfl rfl rfl
  obtain ⟨cs7, hl8, rfl⟩ := hs.aggv (n := 19) 1 rfl rfl rfl
  refine W.seqK fun K9 hK9 => ?_
  refine W.region ?_
  refine WL.box (vs := cs3) hs rfl rfl (fun g10 w hs => ?_)
  refine WL.box (vs := cs7) hs rfl rfl (fun g11 w hs => ?_)
  refine WL.assign (v := .bool false) rfl ?_
  refine WL.nil ?_
  refine hK9 _ _ ?_
  refine W.seqK fun K12 hK12 => ?_
  refine W.region ?_
  refine WL.fieldAddr (m := 1) rfl FA66_1 rfl ?_
  refine WL.fieldAddr (m := 1) rfl FA51_0 rfl ?_
  refine WL.loadF (z := x5.Message.Kind) (F_network_Packet_Message.comp F_api_Message_Kind) hs 0 rfl 1 rfl rfl TI3 (.inr rfl) rfl rfl (fun v13 hs => ?_)
  obtain rfl := hs.int 0 rfl
  refine WL.assign (v := .int .i64 x5.Message.Kind) rfl ?_
  refine WL.nil ?_
  refine hK12 _ _ ?_
  refine W.seqK fun K14 hK14 => ?_
  have Jk17 : ∀ (x16 : Int) (ρ : Env) (w : World), ρ 2 = .pointer (some ⟨g10, 0, none⟩) → ρ 5 = .int .i64 x16 → St ok (bz w0) w [vl t_adversary_Rule x1 (.agg cs3.toArray)] [blk g10 38 cs3] → esref36_matches.j1 x1 x16 = some r → K14 ρ w := by
    intro x16 ρ w h15_2 h15_5 hs hf
    refine hK14 _ _ ?_
    unfold esref36_matches.j1 at hf
    refine W.seqK fun K18 hK18 => ?_
    refine W.region ?_
    refine WL.move (v := .int .i64 x16) h15_5 ?_
    refine WL.fieldAddr (m := 1) h15_2 FA38_1 rfl ?_
    refine WL.loadF (z := x1.Arg) F_adversary_Rule_Arg hs 0 rfl 0 rfl rfl TI3 (.inr rfl) rfl rfl (fun v19 hs => ?_)
    obtain rfl := hs.int 0 rfl
    refine WL.bin (v := .bool (x16 == x1.Arg)) rfl rfl (ib_eql _ _ _) ?_
    refine WL.fieldAddr (m := 0) h15_2 FA38_0 rfl ?_
    refine WL.loadF (z := x1.Kind) F_adversary_Rule_Kind hs 0 rfl 1 rfl rfl TI3 (.inr rfl) rfl rfl (fun v20 hs => ?_)
    obtain rfl := hs.int 0 rfl
    refine WL.bin (v := .bool (decide (x1.Kind ≤ 3))) rfl rfl (ib_leq _ _ _) ?_
    refine WL.eqB UN4 rfl rfl ?_
    refine WL.assign (v := .bool ((x16 == x1.Arg) == (decide (x1.Kind ≤ 3)))) rfl ?_
    refine WL.nil ?_
    refine hK18 _ _ ?_
    refine W.ret ?_
    have hr := Option.some.inj hf; subst hr
    exact ⟨_, resOk_one rfl rfl, (), rfl, (hs.mask []).pick []⟩
  refine W.seqK fun K21 hK21 => ?_
  refine W.region ?_
  refine WL.fieldAddr (m := 0) rfl FA38_0 rfl ?_
  refine WL.loadF (z := x1.Kind) F_adversary_Rule_Kind hs 1 rfl 1 rfl rfl TI3 (.inr rfl) rfl rfl (fun v22 hs => ?_)
  obtain rfl := hs.int 0 rfl
  refine WL.nil ?_
  refine hK21 _ _ ?_
  refine W.block ?_
  refine W.seqK fun K23 hK23 => ?_
  have Jk26 : ∀ (x25 : Bool) (ρ : Env) (w : World), ρ 2 = .pointer (some ⟨g10, 0, none⟩) → ρ 3 = .pointer (some ⟨g11, 0, none⟩) → ρ 5 = .int .i64 x5.Message.Kind → ρ 10 = .int .i64 x1.Kind → ρ 11 = .bool x25 → St ok (bz w0) w [vl t_network_Packet x5 (.agg cs7.toArray), vl t_adversary_Rule x1 (.agg cs3.toArray)] [blk g11 66 cs7, blk g10 38 cs3] → esref36_matches.j3 x1 x5 x25 = some r → K23 ρ w := by
    intro x25 ρ w h24_2 h24_3 h24_5 h24_10 h24_11 hs hf
    refine hK23 _ _ ?_
    unfold esref36_matches.j3 at hf
    rcases iteE hf with ⟨hc27, hf⟩ | ⟨hc27, hf⟩
    {
    refine W.cond_true (bool_tr h24_11 hc27) ?_
    refine W.region ?_
    refine WL.fieldAddr (m := 1) h24_3 FA66_1 rfl ?_
    refine WL.fieldAddr (m := 3) rfl FA51_2 rfl ?_
    refine WL.loadF (z := x5.Message.To) (F_network_Packet_Message.comp F_api_Message_To) hs 0 rfl 0 rfl rfl TI3 (.inr rfl) rfl rfl (fun v28 hs => ?_)
    obtain rfl := hs.int 0 rfl
    refine WL.assign (v := .int .i64 x5.Message.To) rfl ?_
    refine WL.nil ?_
    exact Jk17 x5.Message.To _ _ h24_2 rfl ((hs.mask [false, true]).pick [2]) hf }
    {
    refine W.cond_false (bool_tr h24_11 hc27) ?_
    refine W.seqK fun K29 hK29 => ?_
    have Jk32 : ∀ (x31 : Bool) (ρ : Env) (w : World), ρ 2 = .pointer (some ⟨g10, 0, none⟩) → ρ 3 = .pointer (some ⟨g11, 0, none⟩) → ρ 5 = .int .i64 x5.Message.Kind → ρ 17 = .bool x31 → St ok (bz w0) w [vl t_network_Packet x5 (.agg cs7.toArray), vl t_adversary_Rule x1 (.agg cs3.toArray)] [blk g11 66 cs7, blk g10 38 cs3] → esref36_matches.j2 x1 x5 x31 = some r → K29 ρ w := by
      intro x31 ρ w h30_2 h30_3 h30_5 h30_17 hs hf
      refine hK29 _ _ ?_
      unfold esref36_matches.j2 at hf
      rcases iteE hf with ⟨hc33, hf⟩ | ⟨hc33, hf⟩
      {
      refine W.cond_true (bool_tr h30_17 hc33) ?_
      refine W.region ?_
      refine WL.fieldAddr (m := 1) h30_3 FA66_1 rfl ?_
      refine WL.fieldAddr (m := 2) rfl FA51_1 rfl ?_
      refine WL.loadF (z := x5.Message.From) (F_network_Packet_Message.comp F_api_Message_From) hs 0 rfl 0 rfl rfl TI3 (.inr rfl) rfl rfl (fun v34 hs => ?_)
      obtain rfl := hs.int 0 rfl
      refine WL.assign (v := .int .i64 x5.Message.From) rfl ?_
      refine WL.nil ?_
      exact Jk17 x5.Message.From _ _ h30_2 rfl ((hs.mask [false, true]).pick [2]) hf }
      {
      refine W.cond_false (bool_tr h30_17 hc33) ?_
      refine W.skip ?_
      exact Jk17 x5.Message.Kind _ _ h30_2 h30_5 ((hs.mask [false, true]).pick [1]) hf }
    refine W.seqK fun K35 hK35 => ?_
    refine W.region ?_
    refine WL.bin (v := .bool (x1.Kind == 2)) h24_10 rfl (ib_eql _ _ _) ?_
    refine WL.assign (v := .bool (x1.Kind == 2)) rfl ?_
    refine WL.nil ?_
    refine hK35 _ _ ?_
    rcases iteE hf with ⟨hc36, hf⟩ | ⟨hc36, hf⟩
    {
    refine W.cond_true (bool_tr rfl hc36) ?_
    refine W.skip ?_
    exact Jk32 true _ _ h24_2 h24_3 h24_5 (bool_tr rfl hc36) ((hs.mask [true, true]).pick [0, 1]) hf }
    {
    refine W.cond_false (bool_tr rfl hc36) ?_
    refine W.region ?_
    refine WL.bin (v := .bool (x1.Kind == 5)) h24_10 rfl (ib_eql _ _ _) ?_
    refine WL.assign (v := .bool (x1.Kind == 5)) rfl ?_
    refine WL.nil ?_
    exact Jk32 (x1.Kind == 5) _ _ h24_2 h24_3 h24_5 rfl ((hs.mask [true, true]).pick [0, 1]) hf } }
  refine W.seqK fun K37 hK37 => ?_
  refine W.region ?_
  refine WL.bin (v := .bool (x1.Kind == 1)) rfl rfl (ib_eql _ _ _) ?_
  refine WL.assign (v := .bool (x1.Kind == 1)) rfl ?_
  refine WL.nil ?_
  refine hK37 _ _ ?_
  rcases iteE hf with ⟨hc38, hf⟩ | ⟨hc38, hf⟩
  {
  refine W.cond_true (bool_tr rfl hc38) ?_
  refine W.skip ?_
  exact Jk26 true _ _ rfl rfl rfl rfl (bool_tr rfl hc38) ((hs.mask [true, true]).pick [3, 2]) hf }
  {
  refine W.cond_false (bool_tr rfl hc38) ?_
  refine W.region ?_
  refine WL.bin (v := .bool (x1.Kind == 4)) rfl rfl (ib_eql _ _ _) ?_
  refine WL.assign (v := .bool (x1.Kind == 4)) rfl ?_
  refine WL.nil ?_
  exact Jk26 (x1.Kind == 4) _ _ rfl rfl rfl rfl rfl ((hs.mask [true, true]).pick [3, 2]) hf }
theorem esref36_kept.calls {ok : Nat → Prop} {w0 : World} {x1 : adversary_Rule} {x5 : List network_Packet} {x8 : Int} {v2 : Value} {a6 : Option Addr} {c7 : Nat} {r : List network_Packet} (hf : esref36_kept x1 x5 x8 = some r) (i0 : (vl t_adversary_Rule x1 v2).holds ok w0) (i1 : (vl (tSlice t_network_Packet) x5 (.slice a6 x5.length c7)).holds ok w0) :
    Calls Tryz.prog 25 #[v2, .slice a6 x5.length c7, .int .i64 x8] w0 fun e w' => ∃ v, e = .returned v ∧ ∃ y : (Option Addr × Nat), v = .slice y.1 r.length y.2 ∧ St ok (bz w0) w' [vl (tSlice t_network_Packet) r (.slice y.1 r.length y.2)] [] := by
  unfold esref36_kept at hf
  refine calls_of_W (fn := Tryz.f25) (N := 64) Tryz.func25 rfl Tryz.ntmps25 rfl ?_
  have hs : St ok (bz w0) w0 [vl t_adversary_Rule x1 v2, vl (tSlice t_network_Packet) x5 (.slice a6 x5.length c7)] [] := St.init (All.cons i0 (All.cons i1 All.nil))
  clear i0 i1
  obtain ⟨cs3, hl4, rfl⟩ := hs.aggv (n := 2) 0 rfl rfl rfl
  refine W.seqK fun K9 hK9 => ?_
  refine W.region ?_
  refine WL.box (vs := cs3) hs rfl rfl (fun g10 w hs => ?_)
  refine WL.assign (v := .slice none 0 0) rfl ?_
  refine WL.nil ?_
  refine hK9 _ _ ?_
  refine W.seqK fun K11 hK11 => ?_
  refine W.seqK fun K12 hK12 => ?_
  refine W.region ?_
  refine WL.fieldAddr (m := 0) rfl FA38_0 rfl ?_
  refine WL.loadF (z := x1.Kind) F_adversary_Rule_Kind hs 0 rfl 0 rfl rfl TI3 (.inr rfl) rfl rfl (fun v13 hs => ?_)
  obtain rfl := hs.int 0 rfl
  refine WL.nil ?_
  refine hK12 _ _ ?_
  refine W.block ?_
  refine W.seqK fun K14 hK14 => ?_
  refine W.region ?_
  refine WL.bin (v := .bool (x1.Kind == 7)) rfl rfl (ib_eql _ _ _) ?_
  refine WL.assign (v := .bool (x1.Kind == 7)) rfl ?_
  refine WL.nil ?_
  refine hK14 _ _ ?_
  rcases iteE hf with ⟨hc15, hf⟩ | ⟨hc15, hf⟩
  {
  refine W.cond_true (bool_tr rfl hc15) ?_
  refine W.seqK fun K16 hK16 => ?_
  refine W.region ?_
  refine WL.move (v := .slice a6 x5.length c7) rfl ?_
  obtain ⟨x17, hxx17, hf⟩ := bindE hf
  refine WL.slice_h hs 2 rfl UN25 TI66 rfl rfl hxx17 (fun a18 c19 hs => ?_)
  refine WL.assign (v := .slice a18 x17.length c19) rfl ?_
  refine WL.nil ?_
  refine hK16 _ _ ?_
  refine W.ret ?_
  have hr := Option.some.inj hf; subst hr
  exact ⟨_, resOk_one rfl rfl, (a18, c19), rfl, (hs.mask []).pick [0]⟩ }
  {
  refine W.cond_false (bool_tr rfl hc15) ?_
  refine W.seqK fun K20 hK20 => ?_
  refine W.region ?_
  refine WL.bin (v := .bool (x1.Kind == 8)) rfl rfl (ib_eql _ _ _) ?_
  refine WL.assign (v := .bool (x1.Kind == 8)) rfl ?_
  refine WL.nil ?_
  refine hK20 _ _ ?_
  rcases iteE hf with ⟨hc21, hf⟩ | ⟨hc21, hf⟩
  {
  refine W.cond_true (bool_tr rfl hc21) ?_
  refine W.seqK fun K22 hK22 => ?_
  refine W.region ?_
  refine WL.move (v := .slice a6 x5.length c7) rfl ?_
  refine WL.move (v := .slice a6 x5.length c7) rfl ?_
  refine WL.len (v := .slice a6 x5.length c7) rfl (len_slice UN25) ?_
  obtain ⟨x23, ex23, hf⟩ := letE hf
  refine WL.bin (v := .int .i64 x23) rfl rfl (ib_as ex23 (ib_sub _ _ _)) ?_
  obtain ⟨x24, hxx24, hf⟩ := bindE hf
  refine WL.slice_l hs 2 rfl UN25 TI66 rfl rfl hxx24 (fun a25 c26 hs => ?_)
  refine WL.assign (v := .slice a25 x24.length c26) rfl ?_
  refine WL.nil ?_
  refine hK22 _ _ ?_
  refine W.ret ?_
  have hr := Option.some.inj hf; subst hr
  exact ⟨_, resOk_one rfl rfl, (a25, c26), rfl, (hs.mask []).pick [0]⟩ }
  {
  refine W.cond_false (bool_tr rfl hc21) ?_
  refine W.seqK fun K27 hK27 => ?_
  refine W.region ?_
  refine WL.bin (v := .bool (x1.Kind == 9)) rfl rfl (ib_eql _ _ _) ?_
  refine WL.assign (v := .bool (x1.Kind == 9)) rfl ?_
  refine WL.nil ?_
  refine hK27 _ _ ?_
  rcases iteE hf with ⟨hc28, hf⟩ | ⟨hc28, hf⟩
  {
  refine W.cond_true (bool_tr rfl hc28) ?_
  refine W.seqK fun K29 hK29 => ?_
  refine W.region ?_
  refine WL.move (v := .int .i64 x8) rfl ?_
  refine WL.move (v := .slice a6 x5.length c7) rfl ?_
  refine WL.len (v := .slice a6 x5.length c7) rfl (len_slice UN25) ?_
  obtain ⟨hn31, hf⟩ := guardE hf
  obtain ⟨x30, ex30, hf⟩ := letE hf
  refine WL.bin (v := .int .i64 x30) rfl rfl (ib_as ex30 (ib_rem _ _ _ hn31)) ?_
  refine WL.assign (v := .int .i64 x30) rfl ?_
  refine WL.nil ?_
  refine hK29 _ _ ?_
  refine W.seqK fun K32 hK32 => ?_
  have Jk35 : ∀ (x34 : Int) (ρ : Env) (w : World), ρ 1 = .slice a6 x5.length c7 → ρ 7 = .int .i64 x34 → St ok (bz w0) w [vl (tSlice t_network_Packet) x5 (.slice a6 x5.length c7)] [] → esref36_kept.j1 x5 x34 = some r → K32 ρ w := by
    intro x34 ρ w h33_1 h33_7 hs hf
    refine hK32 _ _ ?_
    unfold esref36_kept.j1 at hf
    refine W.seqK fun K36 hK36 => ?_
    refine W.region ?_
    refine WL.move (v := .slice a6 x5.length c7) h33_1 ?_
    refine WL.move (v := .int .i64 x34) h33_7 ?_
    refine WL.move (v := .int .i64 x34) h33_7 ?_
    obtain ⟨x37, ex37, hf⟩ := letE hf
    refine WL.bin (v := .int .i64 x37) rfl rfl (ib_as ex37 (ib_add _ _ _)) ?_
    obtain ⟨x38, hxx38, hf⟩ := bindE hf
    refine WL.slice_lh hs 0 rfl UN25 TI66 rfl rfl rfl hxx38 (fun a39 c40 hs => ?_)
    refine WL.assign (v := .slice a39 x38.length c40) rfl ?_
    refine WL.nil ?_
    refine hK36 _ _ ?_
    refine W.ret ?_
    have hr := Option.some.inj hf; subst hr
    exact ⟨_, resOk_one rfl rfl, (a39, c40), rfl, (hs.mask []).pick [0]⟩
  refine W.seqK fun K41 hK41 => ?_
  refine W.region ?_
  refine WL.move (v := .int .i64 x30) rfl ?_
  refine WL.bin (v := .bool (decide (x30 < 0))) rfl rfl (ib_lss _ _ _) ?_
  refine WL.nil ?_
  refine hK41 _ _ ?_
  rcases iteE hf with ⟨hc42, hf⟩ | ⟨hc42, hf⟩
  {
  refine W.cond_true (bool_tr rfl hc42) ?_
  refine W.region ?_
  refine WL.move (v := .int .i64 x30) rfl ?_
  refine WL.move (v := .slice a6 x5.length c7) rfl ?_
  refine WL.len (v := .slice a6 x5.length c7) rfl (len_slice UN25) ?_
  obtain ⟨x43, ex43, hf⟩ := letE hf
  refine WL.bin (v := .int .i64 x43) rfl rfl (ib_as ex43 (ib_add _ _ _)) ?_
  refine WL.assign (v := .int .i64 x43) rfl ?_
  refine WL.nil ?_
  exact Jk35 x43 _ _ rfl rfl ((hs.mask []).pick [2]) hf }
  {
  refine W.cond_false (bool_tr rfl hc42) ?_
  refine W.skip ?_
  exact Jk35 x30 _ _ rfl rfl ((hs.mask []).pick [2]) hf } }
  {
  refine W.cond_false (bool_tr rfl hc28) ?_
  refine W.skip ?_
  refine hK11 _ _ ?_
  refine W.seqK fun K44 hK44 => ?_
  refine W.region ?_
  refine WL.assign (v := .slice none 0 0) rfl ?_
  refine WL.nil ?_
  refine hK44 _ _ ?_
  refine W.seqK fun K45 hK45 => ?_
  have hs := hs.ownNil t_network_Packet 66
  have Jk51 : ∀ (x47 : List network_Packet) (a48 : Option Addr) (c49 : Nat) (n50 : Nat) (ρ : Env) (w : World), ρ 1 = .slice a6 x5.length c7 → ρ 8 = .slice a48 n50 c49 → St ok (bz w0) w [vl (tSlice t_network_Packet) x5 (.slice a6 x5.length c7)] [own t_network_Packet 66 (.slice a48 n50 c49) x47] → esref36_kept.j2 x5 x47 = some r → K45 ρ w := by
    intro x47 a48 c49 n50 ρ w h46_1 h46_8 hs hf
    refine hK45 _ _ ?_
    unfold esref36_kept.j2 at hf
    refine W.seqK fun K52 hK52 => ?_
    refine W.seqK fun K53 hK53 => ?_
    refine W.region ?_
    refine WL.move (v := .slice a48 n50 c49) h46_8 ?_
    refine WL.len (v := .slice a48 n50 c49) rfl (len_own hs 0 rfl UN25) ?_
    refine WL.bin (v := .bool ((x47.length : Int) == 0)) rfl rfl (ib_eql _ _ _) ?_
    refine WL.nil ?_
    refine hK53 _ _ ?_
    rcases iteE hf with ⟨hc54, hf⟩ | ⟨hc54, hf⟩
    {
    refine W.cond_true (bool_tr rfl hc54) ?_
    refine W.seqK fun K55 hK55 => ?_
    refine W.region ?_
    refine WL.move (v := .slice a6 x5.length c7) h46_1 ?_
    refine WL.assign (v := .slice a6 x5.length c7) rfl ?_
    refine WL.nil ?_
    refine hK55 _ _ ?_
    refine W.ret ?_
    have hr := Option.some.inj hf; subst hr
    exact ⟨_, resOk_one rfl rfl, (a6, c7), rfl, (hs.mask []).pick [0]⟩ }
    {
    refine W.cond_false (bool_tr rfl hc54) ?_
    refine W.skip ?_
    refine hK52 _ _ ?_
    refine W.seqK fun K56 hK56 => ?_
    refine W.region ?_
    refine WL.move (v := .slice a48 n50 c49) h46_8 ?_
    refine WL.assign (v := .slice a48 n50 c49) rfl ?_
    refine WL.nil ?_
    refine hK56 _ _ ?_
    refine W.ret ?_
    have hr := Option.some.inj hf; subst hr
    obtain rfl := hs.ownLen 0 rfl
    have hs := hs.freezeOwn 0 rfl
    exact ⟨_, resOk_one rfl rfl, (a48, c49), rfl, (hs.mask []).pick [0]⟩ }
  refine W.seqK fun K57 hK57 => ?_
  refine W.region ?_
  refine WL.assign (v := .int .i64 0) rfl ?_
  refine WL.nil ?_
  refine hK57 _ _ ?_
  refine W.block ?_
  obtain ⟨bs64, hbs64, hfs64⟩ := bindE hf
  refine W.loop hbs64 (fun s ρ w => match s with | (x59, x63) => ∃ (a60 : Option Addr), ∃ (c61 : Nat), ∃ (n62 : Nat), ρ 1 = .slice a6 x5.length c7 ∧ ρ 3 = .pointer (some ⟨g10, 0, none⟩) ∧ ρ 8 = .slice a60 n62 c61 ∧ ρ 9 = .int .i64 x63 ∧ St ok (bz w0) w [vl (tSlice t_network_Packet) x5 (.slice a6 x5.length c7), vl t_adversary_Rule x1 (.agg cs3.toArray)] [own t_network_Packet 66 (.slice a60 n62 c61) x59, blk g10 38 cs3]) ⟨none, 0, 0, rfl, rfl, rfl, rfl, (hs.mask [true, true]).pick [2, 1]⟩ ?_
  intro s ρ w os64 hI hf hbbs64
  obtain ⟨x59, x63⟩ := s
  obtain ⟨a60, c61, n62, h58_1, h58_3, h58_8, h58_9, hs⟩ := hI
  unfold esref36_kept.l1 at hf
  refine W.seqK fun K65 hK65 => ?_
  refine W.seqK fun K66 hK66 => ?_
  refine W.region ?_
  refine WL.move (v := .int .i64 x63) h58_9 ?_
  refine WL.move (v := .slice a6 x5.length c7) h58_1 ?_
  refine WL.len (v := .slice a6 x5.length c7) rfl (len_slice UN25) ?_
  refine WL.bin (v := .bool (decide (x63 < (x5.length : Int)))) rfl rfl (ib_lss _ _ _) ?_
  refine WL.nil ?_
  refine hK66 _ _ ?_
  rcases iteE hf with ⟨hc67, hf⟩ | ⟨hc67, hf⟩
  {
  refine W.cond_true (bool_tr rfl hc67) ?_
  refine W.skip ?_
  refine hK65 _ _ ?_
  refine W.seqK fun K68 hK68 => ?_
  have Jk74 : ∀ (x70 : List network_Packet) (a71 : Option Addr) (c72 : Nat) (n73 : Nat) (ρ : Env) (w : World), ρ 1 = .slice a6 x5.length c7 → ρ 3 = .pointer (some ⟨g10, 0, none⟩) → ρ 8 = .slice a71 n73 c72 → ρ 9 = .int .i64 x63 → St ok (bz w0) w [vl (tSlice t_network_Packet) x5 (.slice a6 x5.length c7), vl t_adversary_Rule x1 (.agg cs3.toArray)] [own t_network_Packet 66 (.slice a71 n73 c72) x70, blk g10 38 cs3] → esref36_kept.j3 x63 x70 = some os64 → K68 ρ w := by
    intro x70 a71 c72 n73 ρ w h69_1 h69_3 h69_8 h69_9 hs hf
    refine hK68 _ _ ?_
    unfold esref36_kept.j3 at hf
    refine W.region ?_
    refine WL.move (v := .int .i64 x63) h69_9 ?_
    obtain ⟨x75, ex75, hf⟩ := letE hf
    refine WL.bin (v := .int .i64 x75) rfl rfl (ib_as ex75 (ib_add _ _ _)) ?_
    refine WL.assign (v := .int .i64 x75) rfl ?_
    refine WL.nil ?_
    exact ⟨_, (Option.some.inj hf).symm, a71, c72, n73, h69_1, h69_3, h69_8, rfl, (hs.mask [true, true]).pick [0, 1]⟩
  refine W.block ?_
  refine W.seqK fun K76 hK76 => ?_
  obtain ⟨x77, hxx77, hf⟩ := bindE hf
  obtain ⟨x82, hxx82, hf⟩ := bindE hf
  refine W.any (by kernel_rfl) 6 0 [true, true, true, true, true, true] rfl rfl (poAt [pv (.agg cs3.toArray), pv (.slice a6 x5.length c7), pv (.int .i64 x63), pq (fun y : Addr => .pointer (some y)) (fun v => [pl t_network_Packet x77 (adOf v)]) (fun v => []), pq (fun y : List Value => .agg y.toArray) (fun v => [vl t_network_Packet x77 v]) (fun v => []), pv (.bool x82)]) (Λ := [own t_network_Packet 66 (.slice a60 n62 c61) x59, blk g10 38 cs3]) hs (by kernel_rfl) (by kernel_rfl) (by kernel_rfl) ⟨⟨⟨⟨⟨⟨trivial, ?_⟩, ?_⟩, ?_⟩, ?_⟩, ?_⟩, ?_⟩ ?_
  {
  intro ρ w Γx Λx hs hu hp
  refine WL.loadAll hs (Λx.length + 1) (getApp rfl) TI38 ((hu 3 rfl).trans h58_3) hl4 ?_
  exact WL.nil ⟨rfl, _, rfl, rfl, hs.cutG 0 0⟩ }
  {
  intro ρ w Γx Λx hs hu hp
  refine WL.move (v := .slice a6 x5.length c7) ((hu 1 rfl).trans h58_1) ?_
  exact WL.nil ⟨rfl, _, rfl, rfl, hs.cutG 0 0⟩ }
  {
  intro ρ w Γx Λx hs hu hp
  refine WL.move (v := .int .i64 x63) ((hu 9 rfl).trans h58_9) ?_
  exact WL.nil ⟨rfl, _, rfl, rfl, hs.cutG 0 0⟩ }
  {
  intro ρ w Γx Λx hs hu hp
  have e83 : ρ 47 = .slice a6 x5.length c7 := (hp 1 rfl).1
  have e84 : ρ 48 = .int .i64 x63 := (hp 2 rfl).1
  refine WL.indexAddr hs (Γx.length + 0) (getApp rfl) UN25 TI66 e83 e84 hxx77 (fun ad78 hs => ?_)
  have hs := hs.add (it := pl t_network_Packet x77 ad78) fun ok hA => hA.get 0 rfl
  exact WL.nil ⟨rfl, _, rfl, ⟨ad78, rfl⟩, hs.cutG 1 1⟩ }
  {
  intro ρ w Γx Λx hs hu hp
  obtain ⟨⟨ad85, e86r⟩, hm87⟩ := hp 3 rfl
  have e86 : ρ 49 = .pointer (some ad85) := e86r
  rw [e86r] at hm87
  have hs := hs.memo1 (it := pl t_network_Packet x77 ad85) (List.mem_append.2 (.inl (hm87 _ (List.mem_of_getElem? (i := 0) rfl))))
  refine WL.loadP hs 0 rfl TI66 (.inl rfl) e86 (fun v79 hs => ?_)
  obtain ⟨cs80, hl81, rfl⟩ := hs.aggv (n := 19) 0 rfl rfl rfl
  have hs := hs.add (it := vl t_network_Packet x77 (.agg cs80.toArray)) fun ok hA => hA.get 0 rfl
  exact WL.nil ⟨rfl, _, rfl, ⟨cs80, rfl⟩, hs.cutG 1 2⟩ }
  {
  intro ρ w Γx Λx hs hu hp
  have e88 : ρ 46 = .agg cs3.toArray := (hp 0 rfl).1
  obtain ⟨⟨cs89, e91r⟩, hm92⟩ := hp 4 rfl
  have e91 : ρ 50 = .agg cs89.toArray := e91r
  rw [e91r] at hm92
  have hs := hs.memo1 (it := vl t_network_Packet x77 (.agg cs89.toArray)) (List.mem_append.2 (.inl (hm92 _ (List.mem_of_getElem? (i := 0) rfl))))
  have hl90 := hs.agglen (n := 19) 0 rfl rfl rfl
  refine WL.call (vs := [.agg cs3.toArray, .agg cs89.toArray]) hs FN41 ⟨e88, ⟨e91, trivial⟩⟩ (fun ok hA => esref36_matches.calls (x1 := x1) (x5 := x77) hxx82 (hA.get (Γx.length + 1 + 1) (getApp1 rfl)) (hA.get 0 rfl)) ?_
  rintro _ w hs
  exact WL.nil ⟨rfl, _, rfl, rfl, hs.cutG 0 1⟩ }
  {
  intro ρ w hs hu93 hp
  obtain ⟨⟨⟨⟨⟨⟨_, hp0_⟩, hp1_⟩, hp2_⟩, hp3_⟩, hp4_⟩, hp5_⟩ := hp
  have hs : St ok (bz w0) w [vl t_network_Packet x77 (ρ 50), pl t_network_Packet x77 (adOf (ρ 49)), vl (tSlice t_network_Packet) x5 (.slice a6 x5.length c7), vl t_adversary_Rule x1 (.agg cs3.toArray)] [own t_network_Packet 66 (.slice a60 n62 c61) x59, blk g10 38 cs3] := hs
  have e94 : ρ 51 = .bool x82 := hp5_
  obtain ⟨cs95, e97⟩ := hp4_
  have e97 : ρ 50 = .agg cs95.toArray := e97
  try rw [e97] at hs
  obtain ⟨ad98, e99⟩ := hp3_
  have e99 : ρ 49 = .pointer (some ad98) := e99
  try rw [e99] at hs
  have e100 : ρ 48 = .int .i64 x63 := hp2_
  have e101 : ρ 47 = .slice a6 x5.length c7 := hp1_
  have e102 : ρ 46 = .agg cs3.toArray := hp0_
  have hl96 := hs.agglen (n := 19) 0 rfl rfl rfl
  refine WA.done (by kernel_rfl) ?_
  refine hK76 _ _ ?_
  rcases iteE hf with ⟨hc103, hf⟩ | ⟨hc103, hf⟩
  {
  refine W.cond_true (bool_tr e94 hc103) ?_
  refine W.region ?_
  refine WL.move (v := .slice a60 n62 c61) ((hu93 8 rfl).trans h58_8) ?_
  refine WL.move (v := .slice a6 x5.length c7) ((hu93 1 rfl).trans h58_1) ?_
  refine WL.move (v := .int .i64 x63) ((hu93 9 rfl).trans h58_9) ?_
  obtain ⟨x104, hxx104, hf⟩ := bindE hf
  refine WL.indexAddr hs 2 rfl UN25 TI66 rfl rfl hxx104 (fun ad105 hs => ?_)
  refine WL.loadP hs 0 rfl TI66 (.inl rfl) rfl (fun v106 hs => ?_)
  obtain ⟨cs107, hl108, rfl⟩ := hs.aggv (n := 19) 0 rfl rfl rfl
  refine WL.buildSlice (n := 1) (vs := [(0, .agg cs107.toArray)]) (cs := cs107) hs ⟨⟨rfl, rfl⟩, trivial⟩ (bls PS25 (by decide) (by simp [fillS, fillL, Value.cells, hl108])) (fun g109 w hs => ?_)
  obtain ⟨x110, hxx110, hf⟩ := bindE hf
  obtain ⟨hbx110, hex110⟩ := appE hxx110
  refine WL.append (ys := [x104]) (zs := x110) hs 1 rfl 0 rfl UN25 EI66 rfl rfl (fun ok hA => (Cells.one (T := t_network_Packet) (R_agg (hA.get 0 rfl) rfl))) hbx110 (by omega) hex110 (fun v111 w hs => ?_)
  obtain ⟨a112, n114, c113, rfl⟩ := hs.ownv3 1 rfl
  refine WL.assign (v := .slice a112 n114 c113) rfl ?_
  refine WL.nil ?_
  exact Jk74 x110 a112 c113 n114 _ _ ((hu93 1 rfl).trans h58_1) ((hu93 3 rfl).trans h58_3) rfl ((hu93 9 rfl).trans h58_9) ((hs.mask [false, true, true]).pick [4, 5]) hf }
  {
  refine W.cond_false (bool_tr e94 hc103) ?_
  refine W.skip ?_
  exact Jk74 x59 a60 c61 n62 _ _ ((hu93 1 rfl).trans h58_1) ((hu93 3 rfl).trans h58_3) ((hu93 8 rfl).trans h58_8) ((hu93 9 rfl).trans h58_9) ((hs.mask [true, true]).pick [2, 3]) hf } } }
  {
  refine W.cond_false (bool_tr rfl hc67) ?_
  refine W.exit ?_
  have hr := Option.some.inj hf; subst hr
  have hr := hbbs64 _ rfl; subst hr
  have hf := hfs64
  exact Jk51 x59 a60 c61 n62 _ _ h58_1 h58_8 ((hs.mask [true]).pick [0]) hf } } } }
end Go.Proofs.YthcohhpmpdijoaaGreatDoor
set_option linter.unusedVariables false
set_option linter.unusedSimpArgs false
namespace Go.Proofs.YthcohhpmpdijoaaGreatDoor
open Go Go.RowKit Go.Proofs.YthcohhpmpdijoaaGreatDoorL
set_option maxRecDepth 100000
set_option maxHeartbeats 4000000
theorem esref36_Choose.calls {ok : Nat → Prop} {w0 : World} {x1 : List adversary_Rule} {x4 : network_Network} {x8 : Int} {a2 : Option Addr} {c3 : Nat} {v5 : Value} {r : Int × Bool} (hf : esref36_Choose x1 x4 x8 = some r) (i0 : (vl (tSlice t_adversary_Rule) x1 (.slice a2 x1.length c3)).holds ok w0) (i1 : (vl t_network_Network x4 v5).holds ok w0) :
    Calls Tryz.prog 8 #[.slice a2 x1.length c3, v5, .int .i64 x8] w0 fun e w' => ∃ v, e = .returned v ∧ ∃ y : Unit, v = .tuple #[.int .i64 r.1, .bool r.2] ∧ St ok (bz w0) w' [] [] := by
  unfold esref36_Choose at hf
  refine calls_of_W (fn := Tryz.f8) (N := 63) Tryz.func8 rfl Tryz.ntmps8 rfl ?_
  have hs : St ok (bz w0) w0 [vl (tSlice t_adversary_Rule) x1 (.slice a2 x1.length c3), vl t_network_Network x4 v5] [] := St.init (All.cons i0 (All.cons i1 All.nil))
  clear i0 i1
  obtain ⟨cs6, hl7, rfl⟩ := hs.aggv (n := 3) 1 rfl rfl rfl
  refine W.seqK fun K9 hK9 => ?_
  refine W.region ?_
  refine WL.box (vs := cs6) hs rfl rfl (fun g10 w hs => ?_)
  refine WL.assign (v := .int .i64 0) rfl ?_
  refine WL.assign (v := .bool false) rfl ?_
  refine WL.nil ?_
  refine hK9 _ _ ?_
  refine W.seqK fun K11 hK11 => ?_
  refine W.seqK fun K12 hK12 => ?_
  refine W.region ?_
  refine WL.move (v := .slice a2 x1.length c3) rfl ?_
  obtain ⟨x13, hxx13, hf⟩ := bindE hf
  refine WL.call (vs := [.slice a2 x1.length c3]) hs FN10 ⟨rfl, trivial⟩ (fun ok hA => esref36_ValidateRules.calls (x1 := x1) hxx13 (hA.get 0 rfl)) ?_
  rintro _ w hs
  refine WL.bin (v := .bool (x13 != 0)) rfl rfl (ib_neq _ _ _) ?_
  refine WL.nil ?_
  refine hK12 _ _ ?_
  rcases iteE hf with ⟨hc14, hf⟩ | ⟨hc14, hf⟩
  {
  refine W.cond_true (bool_tr rfl hc14) ?_
  refine W.seqK fun K15 hK15 => ?_
  refine W.region ?_
  refine WL.assign (v := .int .i64 0) rfl ?_
  refine WL.assign (v := .bool false) rfl ?_
  refine WL.nil ?_
  refine hK15 _ _ ?_
  refine W.ret ?_
  have hr := Option.some.inj hf; subst hr
  exact ⟨_, resOk_two rfl rfl rfl, (), rfl, (hs.mask []).pick []⟩ }
  {
  refine W.cond_false (bool_tr rfl hc14) ?_
  refine W.skip ?_
  refine hK11 _ _ ?_
  refine W.seqK fun K16 hK16 => ?_
  refine W.region ?_
  refine WL.assign (v := .slice none 0 0) rfl ?_
  refine WL.nil ?_
  refine hK16 _ _ ?_
  refine W.seqK fun K17 hK17 => ?_
  have hs := hs.ownNil t_network_Packet 66
  have Jk23 : ∀ (x19 : List network_Packet) (a20 : Option Addr) (c21 : Nat) (n22 : Nat) (ρ : Env) (w : World), ρ 0 = .slice a2 x1.length c3 → ρ 2 = .int .i64 x8 → ρ 8 = .slice a20 n22 c21 → St ok (bz w0) w [vl (tSlice t_adversary_Rule) x1 (.slice a2 x1.length c3)] [own t_network_Packet 66 (.slice a20 n22 c21) x19] → esref36_Choose.j2 x1 x8 x19 = some r → K17 ρ w := by
    intro x19 a20 c21 n22 ρ w h18_0 h18_2 h18_8 hs hf
    refine hK17 _ _ ?_
    unfold esref36_Choose.j2 at hf
    refine W.seqK fun K24 hK24 => ?_
    refine W.seqK fun K25 hK25 => ?_
    refine W.region ?_
    refine WL.move (v := .slice a20 n22 c21) h18_8 ?_
    refine WL.len (v := .slice a20 n22 c21) rfl (len_own hs 0 rfl UN25) ?_
    refine WL.bin (v := .bool ((x19.length : Int) == 0)) rfl rfl (ib_eql _ _ _) ?_
    refine WL.nil ?_
    refine hK25 _ _ ?_
    rcases iteE hf with ⟨hc26, hf⟩ | ⟨hc26, hf⟩
    {
    refine W.cond_true (bool_tr rfl hc26) ?_
    refine W.seqK fun K27 hK27 => ?_
    refine W.region ?_
    refine WL.assign (v := .int .i64 0) rfl ?_
    refine WL.assign (v := .bool false) rfl ?_
    refine WL.nil ?_
    refine hK27 _ _ ?_
    refine W.ret ?_
    have hr := Option.some.inj hf; subst hr
    exact ⟨_, resOk_two rfl rfl rfl, (), rfl, (hs.mask []).pick []⟩ }
    {
    refine W.cond_false (bool_tr rfl hc26) ?_
    refine W.skip ?_
    refine hK24 _ _ ?_
    refine W.seqK fun K28 hK28 => ?_
    have Jk33 : ∀ (x30 : List network_Packet) (a31 : Option Addr) (c32 : Nat) (ρ : Env) (w : World), ρ 8 = .slice a31 x30.length c32 → St ok (bz w0) w [vl (tSlice t_network_Packet) x30 (.slice a31 x30.length c32)] [] → esref36_Choose.j1 x30 = some r → K28 ρ w := by
      intro x30 a31 c32 ρ w h29_8 hs hf
      refine hK28 _ _ ?_
      unfold esref36_Choose.j1 at hf
      refine W.seqK fun K34 hK34 => ?_
      refine W.region ?_
      refine WL.move (v := .slice a31 x30.length c32) h29_8 ?_
      obtain ⟨x35, hxx35, hf⟩ := bindE hf
      refine WL.indexAddr hs 0 rfl UN25 TI66 rfl rfl hxx35 (fun ad36 hs => ?_)
      refine WL.fieldAddrP (z := x35.ID) F_network_Packet_ID hs 0 rfl rfl FA66_0 rfl (fun ad37 hs => ?_)
      refine WL.loadP hs 0 rfl TI3 (.inr rfl) rfl (fun v38 hs => ?_)
      obtain rfl := hs.int 0 rfl
      refine WL.assign (v := .int .i64 x35.ID) rfl ?_
      refine WL.assign (v := .bool true) rfl ?_
      refine WL.nil ?_
      refine hK34 _ _ ?_
      refine W.ret ?_
      have hr := Option.some.inj hf; subst hr
      exact ⟨_, resOk_two rfl rfl rfl, (), rfl, (hs.mask []).pick []⟩
    refine W.seqK fun K39 hK39 => ?_
    refine W.region ?_
    refine WL.assign (v := .int .i64 0) rfl ?_
    refine WL.nil ?_
    refine hK39 _ _ ?_
    refine W.block ?_
    obtain ⟨bs45, hbs45, hfs45⟩ := bindE hf
    obtain rfl := hs.ownLen 0 rfl
    have hs := hs.freezeOwn 0 rfl
    refine W.loop hbs45 (fun s ρ w => match s with | (x41, x44) => ∃ (a42 : Option Addr), ∃ (c43 : Nat), ρ 0 = .slice a2 x1.length c3 ∧ ρ 2 = .int .i64 x8 ∧ ρ 8 = .slice a42 x41.length c43 ∧ ρ 11 = .int .i64 x44 ∧ St ok (bz w0) w [vl (tSlice t_adversary_Rule) x1 (.slice a2 x1.length c3), vl (tSlice t_network_Packet) x41 (.slice a42 x41.length c43)] []) ⟨a20, c21, h18_0, h18_2, h18_8, rfl, (hs.mask []).pick [1, 0]⟩ ?_
    intro s ρ w os45 hI hf hbbs45
    obtain ⟨x41, x44⟩ := s
    obtain ⟨a42, c43, h40_0, h40_2, h40_8, h40_11, hs⟩ := hI
    unfold esref36_Choose.l1 at hf
    refine W.seqK fun K46 hK46 => ?_
    refine W.seqK fun K47 hK47 => ?_
    refine W.region ?_
    refine WL.move (v := .int .i64 x44) h40_11 ?_
    refine WL.move (v := .slice a2 x1.length c3) h40_0 ?_
    refine WL.len (v := .slice a2 x1.length c3) rfl (len_slice UN22) ?_
    refine WL.bin (v := .bool (decide (x44 < (x1.length : Int)))) rfl rfl (ib_lss _ _ _) ?_
    refine WL.nil ?_
    refine hK47 _ _ ?_
    rcases iteE hf with ⟨hc48, hf⟩ | ⟨hc48, hf⟩
    {
    refine W.cond_true (bool_tr rfl hc48) ?_
    refine W.skip ?_
    refine hK46 _ _ ?_
    refine W.seqK fun K49 hK49 => ?_
    refine W.block ?_
    refine W.region ?_
    refine WL.move (v := .slice a2 x1.length c3) h40_0 ?_
    refine WL.move (v := .int .i64 x44) h40_11 ?_
    obtain ⟨x50, hxx50, hf⟩ := bindE hf
    refine WL.indexAddr hs 0 rfl UN22 TI38 rfl rfl hxx50 (fun ad51 hs => ?_)
    refine WL.loadP hs 0 rfl TI38 (.inl rfl) rfl (fun v52 hs => ?_)
    obtain ⟨cs53, hl54, rfl⟩ := hs.aggv (n := 2) 0 rfl rfl rfl
    refine WL.move (v := .slice a42 x41.length c43) h40_8 ?_
    refine WL.move (v := .int .i64 x8) h40_2 ?_
    obtain ⟨x55, hxx55, hf⟩ := bindE hf
    refine WL.call (vs := [.agg cs53.toArray, .slice a42 x41.length c43, .int .i64 x8]) hs FN25 ⟨rfl, ⟨rfl, ⟨rfl, trivial⟩⟩⟩ (fun ok hA => esref36_kept.calls (x1 := x50) (x5 := x41) (x8 := x8) hxx55 (hA.get 0 rfl) (hA.get 3 rfl)) ?_
    rintro ⟨a56, c57⟩ w hs
    refine WL.assign (v := .slice a56 x55.length c57) rfl ?_
    refine WL.nil ?_
    refine hK49 _ _ ?_
    refine W.region ?_
    refine WL.move (v := .int .i64 x44) h40_11 ?_
    obtain ⟨x58, ex58, hf⟩ := letE hf
    refine WL.bin (v := .int .i64 x58) rfl rfl (ib_as ex58 (ib_add _ _ _)) ?_
    refine WL.assign (v := .int .i64 x58) rfl ?_
    refine WL.nil ?_
    exact ⟨_, (Option.some.inj hf).symm, a56, c57, h40_0, h40_2, rfl, rfl, (hs.mask []).pick [3, 0]⟩ }
    {
    refine W.cond_false (bool_tr rfl hc48) ?_
    refine W.exit ?_
    have hr := Option.some.inj hf; subst hr
    have hr := hbbs45 _ rfl; subst hr
    have hf := hfs45
    exact Jk33 x41 a42 c43 _ _ h40_8 ((hs.mask []).pick [1]) hf } }
  refine W.seqK fun K60 hK60 => ?_
  refine W.region ?_
  refine WL.assign (v := .int .i64 0) rfl ?_
  refine WL.nil ?_
  refine hK60 _ _ ?_
  refine W.block ?_
  obtain ⟨bs67, hbs67, hfs67⟩ := bindE hf
  refine W.loop hbs67 (fun s ρ w => match s with | (x62, x66) => ∃ (a63 : Option Addr), ∃ (c64 : Nat), ∃ (n65 : Nat), ρ 0 = .slice a2 x1.length c3 ∧ ρ 2 = .int .i64 x8 ∧ ρ 4 = .pointer (some ⟨g10, 0, none⟩) ∧ ρ 8 = .slice a63 n65 c64 ∧ ρ 9 = .int .i64 x66 ∧ St ok (bz w0) w [vl (tSlice t_adversary_Rule) x1 (.slice a2 x1.length c3), vl t_network_Network x4 (.agg cs6.toArray)] [own t_network_Packet 66 (.slice a63 n65 c64) x62, blk g10 28 cs6]) ⟨none, 0, 0, rfl, rfl, rfl, rfl, rfl, (hs.mask [true, true]).pick [0, 1]⟩ ?_
  intro s ρ w os67 hI hf hbbs67
  obtain ⟨x62, x66⟩ := s
  obtain ⟨a63, c64, n65, h61_0, h61_2, h61_4, h61_8, h61_9, hs⟩ := hI
  unfold esref36_Choose.l2 at hf
  refine W.seqK fun K68 hK68 => ?_
  refine W.seqK fun K69 hK69 => ?_
  refine W.region ?_
  refine WL.move (v := .int .i64 x66) h61_9 ?_
  refine WL.fieldAddr (m := 1) h61_4 FA28_1 rfl ?_
  refine WL.loadF (z := x4.Packets) F_network_Network_Packets hs 1 rfl 1 rfl rfl TI25 (.inr rfl) rfl rfl (fun v70 hs => ?_)
  obtain ⟨a71, c72, rfl⟩ := hs.slice 0 rfl
  refine WL.len (v := .slice a71 (x4.Packets).length c72) rfl (len_slice UN25) ?_
  refine WL.bin (v := .bool (decide (x66 < ((x4.Packets).length : Int)))) rfl rfl (ib_lss _ _ _) ?_
  refine WL.nil ?_
  refine hK69 _ _ ?_
  rcases iteE hf with ⟨hc73, hf⟩ | ⟨hc73, hf⟩
  {
  refine W.cond_true (bool_tr rfl hc73) ?_
  refine W.skip ?_
  refine hK68 _ _ ?_
  refine W.seqK fun K74 hK74 => ?_
  have Jk80 : ∀ (x76 : List network_Packet) (a77 : Option Addr) (c78 : Nat) (n79 : Nat) (ρ : Env) (w : World), ρ 0 = .slice a2 x1.length c3 → ρ 2 = .int .i64 x8 → ρ 4 = .pointer (some ⟨g10, 0, none⟩) → ρ 8 = .slice a77 n79 c78 → ρ 9 = .int .i64 x66 → St ok (bz w0) w [vl (tSlice t_adversary_Rule) x1 (.slice a2 x1.length c3), vl t_network_Network x4 (.agg cs6.toArray)] [own t_network_Packet 66 (.slice a77 n79 c78) x76, blk g10 28 cs6] → esref36_Choose.j3 x66 x76 = some os67 → K74 ρ w := by
    intro x76 a77 c78 n79 ρ w h75_0 h75_2 h75_4 h75_8 h75_9 hs hf
    refine hK74 _ _ ?_
    unfold esref36_Choose.j3 at hf
    refine W.region ?_
    refine WL.move (v := .int .i64 x66) h75_9 ?_
    obtain ⟨x81, ex81, hf⟩ := letE hf
    refine WL.bin (v := .int .i64 x81) rfl rfl (ib_as ex81 (ib_add _ _ _)) ?_
    refine WL.assign (v := .int .i64 x81) rfl ?_
    refine WL.nil ?_
    exact ⟨_, (Option.some.inj hf).symm, a77, c78, n79, h75_0, h75_2, h75_4, h75_8, rfl, (hs.mask [true, true]).pick [0, 1]⟩
  refine W.block ?_
  refine W.seqK fun K82 hK82 => ?_
  refine W.region ?_
  refine WL.fieldAddr (m := 1) h61_4 FA28_1 rfl ?_
  refine WL.loadF (z := x4.Packets) F_network_Network_Packets hs 1 rfl 2 rfl rfl TI25 (.inr rfl) rfl rfl (fun v83 hs => ?_)
  obtain ⟨a84, c85, rfl⟩ := hs.slice 0 rfl
  refine WL.move (v := .int .i64 x66) h61_9 ?_
  obtain ⟨x86, hxx86, hf⟩ := bindE hf
  refine WL.indexAddr hs 0 rfl UN25 TI66 rfl rfl hxx86 (fun ad87 hs => ?_)
  refine WL.fieldAddrP (z := x86.Message) F_network_Packet_Message hs 0 rfl rfl FA66_1 rfl (fun ad88 hs => ?_)
  refine WL.loadP hs 0 rfl TI51 (.inl rfl) rfl (fun v89 hs => ?_)
  obtain ⟨cs90, hl91, rfl⟩ := hs.aggv (n := 18) 0 rfl rfl rfl
  refine WL.alloc hs ZV51 (fun g92 w hs => ?_)
  refine WL.storeAll (vs := cs90) hs 0 rfl TI51 rfl rfl rfl hl91 (hs.ones 0 rfl rfl) rfl (fun w hs => ?_)
  refine WL.nil ?_
  refine hK82 _ _ ?_
  refine W.seqK fun K93 hK93 => ?_
  refine W.region ?_
  refine WL.loadAll hs 2 rfl TI28 h61_4 hl7 ?_
  refine WL.fieldAddr (m := 1) rfl FA51_1 rfl ?_
  refine WL.loadF (z := x86.Message.From) F_api_Message_From hs 0 rfl 0 rfl rfl TI3 (.inr rfl) rfl rfl (fun v94 hs => ?_)
  obtain rfl := hs.int 0 rfl
  refine WL.fieldAddr (m := 2) rfl FA51_2 rfl ?_
  refine WL.loadF (z := x86.Message.To) F_api_Message_To hs 0 rfl 1 rfl rfl TI3 (.inr rfl) rfl rfl (fun v95 hs => ?_)
  obtain rfl := hs.int 0 rfl
  obtain ⟨x96, hxx96, hf⟩ := bindE hf
  refine WL.call (vs := [.agg cs6.toArray, .int .i64 x86.Message.From, .int .i64 x86.Message.To]) hs FN24 ⟨rfl, ⟨rfl, ⟨rfl, trivial⟩⟩⟩ (fun ok hA => esref36_Blocked.calls (x1 := x4) (x5 := x86.Message.From) (x6 := x86.Message.To) hxx96 (hA.get 8 rfl)) ?_
  rintro _ w hs
  refine WL.not rfl ?_
  refine WL.nil ?_
  refine hK93 _ _ ?_
  rcases iteE hf with ⟨hc97, hf⟩ | ⟨hc97, hf⟩
  {
  refine W.cond_true (bool_tr rfl hc97) ?_
  refine W.region ?_
  refine WL.move (v := .slice a63 n65 c64) h61_8 ?_
  refine WL.fieldAddr (m := 1) h61_4 FA28_1 rfl ?_
  refine WL.loadF (z := x4.Packets) F_network_Network_Packets hs 2 rfl 8 rfl rfl TI25 (.inr rfl) rfl rfl (fun v98 hs => ?_)
  obtain ⟨a99, c100, rfl⟩ := hs.slice 0 rfl
  refine WL.move (v := .int .i64 x66) h61_9 ?_
  obtain ⟨x101, hxx101, hf⟩ := bindE hf
  refine WL.indexAddr hs 0 rfl UN25 TI66 rfl rfl hxx101 (fun ad102 hs => ?_)
  refine WL.loadP hs 0 rfl TI66 (.inl rfl) rfl (fun v103 hs => ?_)
  obtain ⟨cs104, hl105, rfl⟩ := hs.aggv (n := 19) 0 rfl rfl rfl
  refine WL.buildSlice (n := 1) (vs := [(0, .agg cs104.toArray)]) (cs := cs104) hs ⟨⟨rfl, rfl⟩, trivial⟩ (bls PS25 (by decide) (by simp [fillS, fillL, Value.cells, hl105])) (fun g106 w hs => ?_)
  obtain ⟨x107, hxx107, hf⟩ := bindE hf
  obtain ⟨hbx107, hex107⟩ := appE hxx107
  refine WL.append (ys := [x101]) (zs := x107) hs 2 rfl 0 rfl UN25 EI66 rfl rfl (fun ok hA => (Cells.one (T := t_network_Packet) (R_agg (hA.get 0 rfl) rfl))) hbx107 (by omega) hex107 (fun v108 w hs => ?_)
  obtain ⟨a109, n111, c110, rfl⟩ := hs.ownv3 2 rfl
  refine WL.assign (v := .slice a109 n111 c110) rfl ?_
  refine WL.nil ?_
  exact Jk80 x107 a109 c110 n111 _ _ h61_0 h61_2 h61_4 rfl h61_9 ((hs.mask [false, false, true, true]).pick [10, 11]) hf }
  {
  refine W.cond_false (bool_tr rfl hc97) ?_
  refine W.skip ?_
  exact Jk80 x62 a63 c64 n65 _ _ h61_0 h61_2 h61_4 h61_8 h61_9 ((hs.mask [false, true, true]).pick [7, 8]) hf } }
  {
  refine W.cond_false (bool_tr rfl hc73) ?_
  refine W.exit ?_
  have hr := Option.some.inj hf; subst hr
  have hr := hbbs67 _ rfl; subst hr
  have hf := hfs67
  exact Jk23 x62 a63 c64 n65 _ _ h61_0 h61_2 h61_8 ((hs.mask [true]).pick [1]) hf } }
theorem esref36_Format.calls {ok : Nat → Prop} {w0 : World} {x1 : List adversary_Rule} {a2 : Option Addr} {c3 : Nat} {r : List UInt8} (hf : esref36_Format x1 = some r) (i0 : (vl (tSlice t_adversary_Rule) x1 (.slice a2 x1.length c3)).holds ok w0) :
    Calls Tryz.prog 12 #[.slice a2 x1.length c3] w0 fun e w' => ∃ v, e = .returned v ∧ ∃ y : Unit, v = bstr r ∧ St ok (bz w0) w' [] [] := by
  unfold esref36_Format at hf
  refine calls_of_W (fn := Tryz.f12) (N := 45) Tryz.func12 rfl Tryz.ntmps12 rfl ?_
  have hs : St ok (bz w0) w0 [vl (tSlice t_adversary_Rule) x1 (.slice a2 x1.length c3)] [] := St.init (All.cons i0 All.nil)
  clear i0
  refine W.seqK fun K4 hK4 => ?_
  refine W.region ?_
  refine WL.assign (v := bstr ([] : List UInt8)) rfl ?_
  refine WL.nil ?_
  refine hK4 _ _ ?_
  refine W.seqK fun K5 hK5 => ?_
  refine W.seqK fun K6 hK6 => ?_
  refine W.region ?_
  refine WL.move (v := .slice a2 x1.length c3) rfl ?_
  obtain ⟨x7, hxx7, hf⟩ := bindE hf
  refine WL.call (vs := [.slice a2 x1.length c3]) hs FN10 ⟨rfl, trivial⟩ (fun ok hA => esref36_ValidateRules.calls (x1 := x1) hxx7 (hA.get 0 rfl)) ?_
  rintro _ w hs
  refine WL.bin (v := .bool (x7 != 0)) rfl rfl (ib_neq _ _ _) ?_
  refine WL.nil ?_
  refine hK6 _ _ ?_
  rcases iteE hf with ⟨hc8, hf⟩ | ⟨hc8, hf⟩
  {
  refine W.cond_true (bool_tr rfl hc8) ?_
  refine W.seqK fun K9 hK9 => ?_
  refine W.region ?_
  refine WL.assign (v := bstr ([] : List UInt8)) rfl ?_
  refine WL.nil ?_
  refine hK9 _ _ ?_
  refine W.ret ?_
  have hr := Option.some.inj hf; subst hr
  exact ⟨_, resOk_one rfl rfl, (), rfl, (hs.mask []).pick []⟩ }
  {
  refine W.cond_false (bool_tr rfl hc8) ?_
  refine W.skip ?_
  refine hK5 _ _ ?_
  refine W.seqK fun K10 hK10 => ?_
  refine W.region ?_
  refine WL.build (vs := [(0, bstr ([112, 114, 101, 102, 101, 114, 32, 116, 111, 32] : List UInt8)), (1, bstr ([112, 114, 101, 102, 101, 114, 32, 102, 114, 111, 109, 32] : List UInt8)), (2, bstr ([112, 114, 101, 102, 101, 114, 32, 107, 105, 110, 100, 32] : List UInt8)), (3, bstr ([97, 118, 111, 105, 100, 32, 116, 111, 32] : List UInt8)), (4, bstr ([97, 118, 111, 105, 100, 32, 102, 114, 111, 109, 32] : List UInt8)), (5, bstr ([97, 118, 111, 105, 100, 32, 107, 105, 110, 100, 32] : List UInt8)), (6, bstr ([111, 108, 100, 101, 115, 116] : List UInt8)), (7, bstr ([110, 101, 119, 101, 115, 116] : List UInt8)), (8, bstr ([114, 111, 116, 97, 116, 101] : List UInt8))]) (cs := [bstr ([112, 114, 101, 102, 101, 114, 32, 116, 111, 32] : List UInt8), bstr ([112, 114, 101, 102, 101, 114, 32, 102, 114, 111, 109, 32] : List UInt8), bstr ([112, 114, 101, 102, 101, 114, 32, 107, 105, 110, 100, 32] : List UInt8), bstr ([97, 118, 111, 105, 100, 32, 116, 111, 32] : List UInt8), bstr ([97, 118, 111, 105, 100, 32, 102, 114, 111, 109, 32] : List UInt8), bstr ([97, 118, 111, 105, 100, 32, 107, 105, 110, 100, 32] : List UInt8), bstr ([111, 108, 100, 101, 115, 116] : List UInt8), bstr ([110, 101, 119, 101, 115, 116] : List UInt8), bstr ([114, 111, 116, 97, 116, 101] : List UInt8)]) ⟨⟨rfl, rfl⟩, ⟨⟨rfl, rfl⟩, ⟨⟨rfl, rfl⟩, ⟨⟨rfl, rfl⟩, ⟨⟨rfl, rfl⟩, ⟨⟨rfl, rfl⟩, ⟨⟨rfl, rfl⟩, ⟨⟨rfl, rfl⟩, ⟨⟨rfl, rfl⟩, trivial⟩⟩⟩⟩⟩⟩⟩⟩⟩ (bldA (places := [(0, 1), (1, 1), (2, 1), (3, 1), (4, 1), (5, 1), (6, 1), (7, 1), (8, 1)]) (zero := [bstr [], bstr [], bstr [], bstr [], bstr [], bstr [], bstr [], bstr [], bstr []]) UN77 TI9 ZA77 rfl rfl rfl) ?_
  refine WL.alloc hs ZV77 (fun g11 w hs => ?_)
  refine WL.storeAll (vs := [bstr ([112, 114, 101, 102, 101, 114, 32, 116, 111, 32] : List UInt8), bstr ([112, 114, 101, 102, 101, 114, 32, 102, 114, 111, 109, 32] : List UInt8), bstr ([112, 114, 101, 102, 101, 114, 32, 107, 105, 110, 100, 32] : List UInt8), bstr ([97, 118, 111, 105, 100, 32, 116, 111, 32] : List UInt8), bstr ([97, 118, 111, 105, 100, 32, 102, 114, 111, 109, 32] : List UInt8), bstr ([97, 118, 111, 105, 100, 32, 107, 105, 110, 100, 32] : List UInt8), bstr ([111, 108, 100, 101, 115, 116] : List UInt8), bstr ([110, 101, 119, 101, 115, 116] : List UInt8), bstr ([114, 111, 116, 97, 116, 101] : List UInt8)]) hs 0 rfl TI77 rfl rfl rfl rfl (ones_of rfl) rfl (fun w hs => ?_)
  refine WL.nil ?_
  refine hK10 _ _ ?_
  refine W.seqK fun K12 hK12 => ?_
  refine W.region ?_
  refine WL.assign (v := bstr ([] : List UInt8)) rfl ?_
  refine WL.nil ?_
  refine hK12 _ _ ?_
  refine W.seqK fun K13 hK13 => ?_
  have Jk16 : ∀ (x15 : List UInt8) (ρ : Env) (w : World), ρ 4 = bstr x15 → St ok (bz w0) w [] [] → esref36_Format.j1 x15 = some r → K13 ρ w := by
    intro x15 ρ w h14_4 hs hf
    refine hK13 _ _ ?_
    unfold esref36_Format.j1 at hf
    refine W.seqK fun K17 hK17 => ?_
    refine W.region ?_
    refine WL.move (v := bstr x15) h14_4 ?_
    refine WL.assign (v := bstr x15) rfl ?_
    refine WL.nil ?_
    refine hK17 _ _ ?_
    refine W.ret ?_
    have hr := Option.some.inj hf; subst hr
    exact ⟨_, resOk_one rfl rfl, (), rfl, (hs.mask []).pick []⟩
  refine W.seqK fun K18 hK18 => ?_
  refine W.region ?_
  refine WL.assign (v := .int .i64 0) rfl ?_
  refine WL.nil ?_
  refine hK18 _ _ ?_
  refine W.block ?_
  obtain ⟨bs22, hbs22, hfs22⟩ := bindE hf
  refine W.loop hbs22 (fun s ρ w => match s with | (x20, x21) => ρ 0 = .slice a2 x1.length c3 ∧ ρ 3 = .pointer (some ⟨g11, 0, none⟩) ∧ ρ 4 = bstr x20 ∧ ρ 5 = .int .i64 x21 ∧ St ok (bz w0) w [vl (tSlice t_adversary_Rule) x1 (.slice a2 x1.length c3)] [blk g11 77 ([bstr ([112, 114, 101, 102, 101, 114, 32, 116, 111, 32] : List UInt8), bstr ([112, 114, 101, 102, 101, 114, 32, 102, 114, 111, 109, 32] : List UInt8), bstr ([112, 114, 101, 102, 101, 114, 32, 107, 105, 110, 100, 32] : List UInt8), bstr ([97, 118, 111, 105, 100, 32, 116, 111, 32] : List UInt8), bstr ([97, 118, 111, 105, 100, 32, 102, 114, 111, 109, 32] : List UInt8), bstr ([97, 118, 111, 105, 100, 32, 107, 105, 110, 100, 32] : List UInt8), bstr ([111, 108, 100, 101, 115, 116] : List UInt8), bstr ([110, 101, 119, 101, 115, 116] : List UInt8), bstr ([114, 111, 116, 97, 116, 101] : List UInt8)])]) ⟨rfl, rfl, rfl, rfl, (hs.mask [true]).pick [0]⟩ ?_
  intro s ρ w os22 hI hf hbbs22
  obtain ⟨x20, x21⟩ := s
  obtain ⟨h19_0, h19_3, h19_4, h19_5, hs⟩ := hI
  unfold esref36_Format.l1 at hf
  refine W.seqK fun K23 hK23 => ?_
  refine W.seqK fun K24 hK24 => ?_
  refine W.region ?_
  refine WL.move (v := .int .i64 x21) h19_5 ?_
  refine WL.move (v := .slice a2 x1.length c3) h19_0 ?_
  refine WL.len (v := .slice a2 x1.length c3) rfl (len_slice UN22) ?_
  refine WL.bin (v := .bool (decide (x21 < (x1.length : Int)))) rfl rfl (ib_lss _ _ _) ?_
  refine WL.nil ?_
  refine hK24 _ _ ?_
  rcases iteE hf with ⟨hc25, hf⟩ | ⟨hc25, hf⟩
  {
  refine W.cond_true (bool_tr rfl hc25) ?_
  refine W.skip ?_
  refine hK23 _ _ ?_
  refine W.seqK fun K26 hK26 => ?_
  have Jk29 : ∀ (x28 : List UInt8) (ρ : Env) (w : World), ρ 0 = .slice a2 x1.length c3 → ρ 3 = .pointer (some ⟨g11, 0, none⟩) → ρ 4 = bstr x28 → ρ 5 = .int .i64 x21 → St ok (bz w0) w [vl (tSlice t_adversary_Rule) x1 (.slice a2 x1.length c3)] [blk g11 77 ([bstr ([112, 114, 101, 102, 101, 114, 32, 116, 111, 32] : List UInt8), bstr ([112, 114, 101, 102, 101, 114, 32, 102, 114, 111, 109, 32] : List UInt8), bstr ([112, 114, 101, 102, 101, 114, 32, 107, 105, 110, 100, 32] : List UInt8), bstr ([97, 118, 111, 105, 100, 32, 116, 111, 32] : List UInt8), bstr ([97, 118, 111, 105, 100, 32, 102, 114, 111, 109, 32] : List UInt8), bstr ([97, 118, 111, 105, 100, 32, 107, 105, 110, 100, 32] : List UInt8), bstr ([111, 108, 100, 101, 115, 116] : List UInt8), bstr ([110, 101, 119, 101, 115, 116] : List UInt8), bstr ([114, 111, 116, 97, 116, 101] : List UInt8)])] → esref36_Format.j2 x21 x28 = some os22 → K26 ρ w := by
    intro x28 ρ w h27_0 h27_3 h27_4 h27_5 hs hf
    refine hK26 _ _ ?_
    unfold esref36_Format.j2 at hf
    refine W.region ?_
    refine WL.move (v := .int .i64 x21) h27_5 ?_
    obtain ⟨x30, ex30, hf⟩ := letE hf
    refine WL.bin (v := .int .i64 x30) rfl rfl (ib_as ex30 (ib_add _ _ _)) ?_
    refine WL.assign (v := .int .i64 x30) rfl ?_
    refine WL.nil ?_
    exact ⟨_, (Option.some.inj hf).symm, h27_0, h27_3, h27_4, rfl, (hs.mask [true]).pick [0]⟩
  refine W.block ?_
  refine W.seqK fun K31 hK31 => ?_
  have Jk34 : ∀ (x33 : List UInt8) (ρ : Env) (w : World), ρ 0 = .slice a2 x1.length c3 → ρ 3 = .pointer (some ⟨g11, 0, none⟩) → ρ 4 = bstr x33 → ρ 5 = .int .i64 x21 → St ok (bz w0) w [vl (tSlice t_adversary_Rule) x1 (.slice a2 x1.length c3)] [blk g11 77 ([bstr ([112, 114, 101, 102, 101, 114, 32, 116, 111, 32] : List UInt8), bstr ([112, 114, 101, 102, 101, 114, 32, 102, 114, 111, 109, 32] : List UInt8), bstr ([112, 114, 101, 102, 101, 114, 32, 107, 105, 110, 100, 32] : List UInt8), bstr ([97, 118, 111, 105, 100, 32, 116, 111, 32] : List UInt8), bstr ([97, 118, 111, 105, 100, 32, 102, 114, 111, 109, 32] : List UInt8), bstr ([97, 118, 111, 105, 100, 32, 107, 105, 110, 100, 32] : List UInt8), bstr ([111, 108, 100, 101, 115, 116] : List UInt8), bstr ([110, 101, 119, 101, 115, 116] : List UInt8), bstr ([114, 111, 116, 97, 116, 101] : List UInt8)])] → esref36_Format.j3 x1 x21 x33 = some os22 → K31 ρ w := by
    intro x33 ρ w h32_0 h32_3 h32_4 h32_5 hs hf
    refine hK31 _ _ ?_
    unfold esref36_Format.j3 at hf
    refine W.seqK fun K35 hK35 => ?_
    refine W.region ?_
    refine WL.move (v := bstr x33) h32_4 ?_
    refine WL.move (v := .slice a2 x1.length c3) h32_0 ?_
    refine WL.move (v := .int .i64 x21) h32_5 ?_
    obtain ⟨x36, hxx36, hf⟩ := bindE hf
    refine WL.indexAddr hs 0 rfl UN22 TI38 rfl rfl hxx36 (fun ad37 hs => ?_)
    refine WL.fieldAddrP (z := x36.Kind) F_adversary_Rule_Kind hs 0 rfl rfl FA38_0 rfl (fun ad38 hs => ?_)
    refine WL.loadP hs 0 rfl TI3 (.inr rfl) rfl (fun v39 hs => ?_)
    obtain rfl := hs.int 0 rfl
    obtain ⟨x40, ex40, hf⟩ := letE hf
    refine WL.bin (v := .int .i64 x40) rfl rfl (ib_as ex40 (ib_sub _ _ _)) ?_
    obtain ⟨x41, hxx41, hf⟩ := bindE hf
    refine WL.indexAddrA (m := 0 + (x40).toNat * 1) h32_3 rfl UN77 TI9 (idx_in (n := 9) rfl hxx41) rfl ?_
    refine WL.load1 (v := bstr x41) hs 0 rfl TI9 rfl (idx_cell (enc := bstr) hxx41) ?_
    obtain ⟨x42, hxx42, hf⟩ := bindE hf
    refine WL.binS (v := bstr x42) rfl rfl (sb_cat hxx42) ?_
    refine WL.assign (v := bstr x42) rfl ?_
    refine WL.nil ?_
    refine hK35 _ _ ?_
    refine W.seqK fun K43 hK43 => ?_
    refine W.region ?_
    refine WL.move (v := .slice a2 x1.length c3) h32_0 ?_
    refine WL.move (v := .int .i64 x21) h32_5 ?_
    obtain ⟨x44, hxx44, hf⟩ := bindE hf
    refine WL.indexAddr hs 3 rfl UN22 TI38 rfl rfl hxx44 (fun ad45 hs => ?_)
    refine WL.fieldAddrP (z := x44.Kind) F_adversary_Rule_Kind hs 0 rfl rfl FA38_0 rfl (fun ad46 hs => ?_)
    refine WL.loadP hs 0 rfl TI3 (.inr rfl) rfl (fun v47 hs => ?_)
    obtain rfl := hs.int 0 rfl
    refine WL.bin (v := .bool (decide (x44.Kind ≤ 6))) rfl rfl (ib_leq _ _ _) ?_
    refine WL.nil ?_
    refine hK43 _ _ ?_
    rcases iteE hf with ⟨hc48, hf⟩ | ⟨hc48, hf⟩
    {
    refine W.cond_true (bool_tr rfl hc48) ?_
    refine W.region ?_
    refine WL.move (v := bstr x42) rfl ?_
    refine WL.move (v := .slice a2 x1.length c3) h32_0 ?_
    refine WL.move (v := .int .i64 x21) h32_5 ?_
    obtain ⟨x49, hxx49, hf⟩ := bindE hf
    refine WL.indexAddr hs 6 rfl UN22 TI38 rfl rfl hxx49 (fun ad50 hs => ?_)
    refine WL.fieldAddrP (z := x49.Arg) F_adversary_Rule_Arg hs 0 rfl rfl FA38_1 rfl (fun ad51 hs => ?_)
    refine WL.loadP hs 0 rfl TI3 (.inr rfl) rfl (fun v52 hs => ?_)
    obtain rfl := hs.int 0 rfl
    obtain ⟨x53, hxx53, hf⟩ := bindE hf
    refine WL.call (vs := [.int .i64 x49.Arg]) hs FN28 ⟨rfl, trivial⟩ (fun ok hA => esref36_decimal.calls (x1 := x49.Arg) hxx53) ?_
    rintro _ w hs
    obtain ⟨x54, hxx54, hf⟩ := bindE hf
    refine WL.binS (v := bstr x54) rfl rfl (sb_cat hxx54) ?_
    refine WL.assign (v := bstr x54) rfl ?_
    refine WL.nil ?_
    exact Jk29 x54 _ _ h32_0 h32_3 rfl h32_5 ((hs.mask [true]).pick [9]) hf }
    {
    refine W.cond_false (bool_tr rfl hc48) ?_
    refine W.skip ?_
    exact Jk29 x42 _ _ h32_0 h32_3 rfl h32_5 ((hs.mask [true]).pick [6]) hf }
  refine W.seqK fun K55 hK55 => ?_
  refine W.region ?_
  refine WL.move (v := .int .i64 x21) h19_5 ?_
  refine WL.bin (v := .bool (decide (0 < x21))) rfl rfl (ib_gtr _ _ _) ?_
  refine WL.nil ?_
  refine hK55 _ _ ?_
  rcases iteE hf with ⟨hc56, hf⟩ | ⟨hc56, hf⟩
  {
  refine W.cond_true (bool_tr rfl hc56) ?_
  refine W.region ?_
  refine WL.move (v := bstr x20) h19_4 ?_
  obtain ⟨x57, hxx57, hf⟩ := bindE hf
  refine WL.binS (v := bstr x57) rfl rfl (sb_cat hxx57) ?_
  refine WL.assign (v := bstr x57) rfl ?_
  refine WL.nil ?_
  exact Jk34 x57 _ _ h19_0 h19_3 rfl h19_5 ((hs.mask [true]).pick [0]) hf }
  {
  refine W.cond_false (bool_tr rfl hc56) ?_
  refine W.skip ?_
  exact Jk34 x20 _ _ h19_0 h19_3 h19_4 h19_5 ((hs.mask [true]).pick [0]) hf } }
  {
  refine W.cond_false (bool_tr rfl hc25) ?_
  refine W.exit ?_
  have hr := Option.some.inj hf; subst hr
  have hr := hbbs22 _ rfl; subst hr
  have hf := hfs22
  exact Jk16 x20 _ _ h19_4 ((hs.mask []).pick []) hf } }
theorem eslaw36_AdversaryRaw.calls {ok : Nat → Prop} {w0 : World} {x1 : List adversary_Rule} {x4 : List Int} {x7 : Int} {a2 : Option Addr} {c3 : Nat} {a5 : Option Addr} {c6 : Nat} {mxl : Int} {r : Bool} (hf : eslaw36_AdversaryRaw x1 x4 x7 = some r) (i0 : (vl (tSlice t_adversary_Rule) x1 (.slice a2 x1.length c3)).holds ok w0) (i1 : (vl (tSlice (tInt .i64)) x4 (.slice a5 x4.length c6)).holds ok w0) (i2 : (pl (tSlice tStr) words_ (⟨0, 0, none⟩)).holds ok w0) (i3 : (vl (tTab Tryz.prog "internal/strconv.uint64pow10" 1 GN1 Go.Lib.pow10Tab) () (.int .i64 0)).holds ok w0) (i4 : (pl (tInt .i64) mxl (⟨2, 0, none⟩)).holds ok w0) (i5 : (pl tErr true (⟨3, 0, none⟩)).holds ok w0) (i6 : (pl tErr true (⟨4, 0, none⟩)).holds ok w0) :
    Calls Tryz.prog 3 #[.slice a2 x1.length c3, .slice a5 x4.length c6, .int .i64 x7] w0 fun e w' => ∃ v, e = .returned v ∧ ∃ y : Unit, v = .bool r ∧ St ok (bz w0) w' [] [] := by
  unfold eslaw36_AdversaryRaw at hf
  refine calls_of_W (fn := Tryz.f3) (N := 57) Tryz.func3 rfl Tryz.ntmps3 rfl ?_
  have hs : St ok (bz w0) w0 [vl (tSlice t_adversary_Rule) x1 (.slice a2 x1.length c3), vl (tSlice (tInt .i64)) x4 (.slice a5 x4.length c6), pl (tSlice tStr) words_ (⟨0, 0, none⟩), vl (tTab Tryz.prog "internal/strconv.uint64pow10" 1 GN1 Go.Lib.pow10Tab) () (.int .i64 0), pl (tInt .i64) mxl (⟨2, 0, none⟩), pl tErr true (⟨3, 0, none⟩), pl tErr true (⟨4, 0, none⟩)] [] := St.init (All.cons i0 (All.cons i1 (All.cons i2 (All.cons i3 (All.cons i4 (All.cons i5 (All.cons i6 All.nil)))))))
  clear i0 i1 i2 i3 i4 i5 i6
  refine W.seqK fun K8 hK8 => ?_
  refine W.region ?_
  refine WL.assign (v := .bool false) rfl ?_
  refine WL.nil ?_
  refine hK8 _ _ ?_
  refine W.seqK fun K9 hK9 => ?_
  refine W.seqK fun K10 hK10 => ?_
  refine W.region ?_
  refine WL.move (v := .slice a2 x1.length c3) rfl ?_
  refine WL.len (v := .slice a2 x1.length c3) rfl (len_slice UN22) ?_
  refine WL.bin (v := .bool (decide (20 < (x1.length : Int)))) rfl rfl (ib_gtr _ _ _) ?_
  refine WL.nil ?_
  refine hK10 _ _ ?_
  rcases iteE hf with ⟨hc11, hf⟩ | ⟨hc11, hf⟩
  {
  refine W.cond_true (bool_tr rfl hc11) ?_
  refine W.seqK fun K12 hK12 => ?_
  refine W.region ?_
  obtain ⟨x13, hxx13, hf⟩ := bindE hf
  refine WL.call (vs := []) hs FN5 trivial (fun ok hA => eslaw36_awake.calls hxx13 (hA.get 2 rfl) (hA.get 3 rfl) (hA.get 4 rfl) (hA.get 5 rfl) (hA.get 6 rfl)) ?_
  rintro _ w hs
  refine WL.assign (v := .bool x13) rfl ?_
  refine WL.nil ?_
  refine hK12 _ _ ?_
  refine W.ret ?_
  have hr := Option.some.inj hf; subst hr
  exact ⟨_, resOk_one rfl rfl, (), rfl, (hs.mask []).pick []⟩ }
  {
  refine W.cond_false (bool_tr rfl hc11) ?_
  refine W.skip ?_
  refine hK9 _ _ ?_
  refine W.seqK fun K14 hK14 => ?_
  refine W.region ?_
  refine WL.move (v := .slice a5 x4.length c6) rfl ?_
  obtain ⟨x15, hxx15, hf⟩ := bindE hf
  refine WL.call (vs := [.slice a5 x4.length c6, .int .i64 0]) hs FN6 ⟨rfl, ⟨rfl, trivial⟩⟩ (fun ok hA => eslaw36_packets.calls (x1 := x4) (x4 := 0) hxx15 (hA.get 1 rfl)) ?_
  rintro cs16 w hs
  have hl17 := hs.agglen (n := 3) 0 rfl rfl rfl
  refine WL.alloc hs ZV28 (fun g18 w hs => ?_)
  refine WL.storeAll (vs := cs16) hs 0 rfl TI28 rfl rfl rfl hl17 (hs.ones 0 rfl rfl) rfl (fun w hs => ?_)
  refine WL.nil ?_
  refine hK14 _ _ ?_
  refine W.seqK fun K19 hK19 => ?_
  refine W.region ?_
  refine WL.move (v := .slice a2 x1.length c3) rfl ?_
  refine WL.loadAll hs 0 rfl TI28 rfl hl17 ?_
  refine WL.move (v := .int .i64 x7) rfl ?_
  obtain ⟨⟨x20, x21⟩, hxx20, hf⟩ := bindE hf
  refine WL.call (vs := [.slice a2 x1.length c3, .agg cs16.toArray, .int .i64 x7]) hs FN7 ⟨rfl, ⟨rfl, ⟨rfl, trivial⟩⟩⟩ (fun ok hA => adversary_Choose.calls (x1 := x1) (x4 := x15) (x8 := x7) hxx20 (hA.get 1 rfl) (hA.get 0 rfl)) ?_
  rintro _ w hs
  refine WL.move (v := .tuple #[.int .i64 x20, .bool x21]) rfl ?_
  refine WL.extract (v := .int .i64 x20) rfl rfl ?_
  refine WL.extract (v := .bool x21) rfl rfl ?_
  refine WL.assign (v := .int .i64 x20) rfl ?_
  refine WL.assign (v := .bool x21) rfl ?_
  refine WL.nil ?_
  refine hK19 _ _ ?_
  refine W.seqK fun K22 hK22 => ?_
  refine W.region ?_
  refine WL.move (v := .slice a2 x1.length c3) rfl ?_
  refine WL.loadAll hs 0 rfl TI28 rfl hl17 ?_
  refine WL.move (v := .int .i64 x7) rfl ?_
  obtain ⟨⟨x23, x24⟩, hxx23, hf⟩ := bindE hf
  refine WL.call (vs := [.slice a2 x1.length c3, .agg cs16.toArray, .int .i64 x7]) hs FN8 ⟨rfl, ⟨rfl, ⟨rfl, trivial⟩⟩⟩ (fun ok hA => esref36_Choose.calls (x1 := x1) (x4 := x15) (x8 := x7) hxx23 (hA.get 1 rfl) (hA.get 0 rfl)) ?_
  rintro _ w hs
  refine WL.move (v := .tuple #[.int .i64 x23, .bool x24]) rfl ?_
  refine WL.extract (v := .int .i64 x23) rfl rfl ?_
  refine WL.extract (v := .bool x24) rfl rfl ?_
  refine WL.assign (v := .int .i64 x23) rfl ?_
  refine WL.assign (v := .bool x24) rfl ?_
  refine WL.nil ?_
  refine hK22 _ _ ?_
  refine W.seqK fun K25 hK25 => ?_
  have Jk28 : ∀ (x27 : Bool) (ρ : Env) (w : World), ρ 6 = .bool x27 → St ok (bz w0) w [pl (tSlice tStr) words_ (⟨0, 0, none⟩), vl (tTab Tryz.prog "internal/strconv.uint64pow10" 1 GN1 Go.Lib.pow10Tab) () (.int .i64 0), pl (tInt .i64) mxl (⟨2, 0, none⟩), pl tErr true (⟨3, 0, none⟩), pl tErr true (⟨4, 0, none⟩)] [] → eslaw36_AdversaryRaw.j1 x27 = some r → K25 ρ w := by
    intro x27 ρ w h26_6 hs hf
    refine hK25 _ _ ?_
    unfold eslaw36_AdversaryRaw.j1 at hf
    refine W.ret ?_
    have hr := Option.some.inj hf; subst hr
    exact ⟨_, resOk_one rfl h26_6, (), rfl, (hs.mask []).pick []⟩
  refine W.region ?_
  refine WL.move (v := .int .i64 x20) rfl ?_
  refine WL.move (v := .int .i64 x23) rfl ?_
  refine WL.bin (v := .bool (x20 == x23)) rfl rfl (ib_eql _ _ _) ?_
  refine WL.move (v := .bool (x20 == x23)) rfl ?_
  rcases iteE hf with ⟨hc29, hf⟩ | ⟨hc29, hf⟩
  {
  refine WL.move (v := .bool x21) rfl ?_ (hg := (wanted_of rfl rfl (bool_tr rfl hc29)).trans rfl)
  refine WL.move (v := .bool x24) rfl ?_ (hg := (wanted_of rfl rfl (bool_tr rfl hc29)).trans rfl)
  refine WL.eqB UN4 rfl rfl ?_ (hg := (wanted_of rfl rfl (bool_tr rfl hc29)).trans rfl)
  refine WL.pickT (v := .bool (x21 == x24)) (bool_tr rfl hc29) rfl ?_
  refine WL.move (v := .bool (x21 == x24)) rfl ?_
  rcases iteE hf with ⟨hc30, hf⟩ | ⟨hc30, hf⟩
  {
  refine WL.move (v := .slice a2 x1.length c3) rfl ?_ (hg := (wanted_of rfl rfl (bool_tr rfl hc30)).trans rfl)
  obtain ⟨x31, hxx31, hf⟩ := bindE hf
  refine WL.call (vs := [.slice a2 x1.length c3]) hs FN9 ⟨rfl, trivial⟩ (fun ok hA => adversary_Validate.calls (x1 := x1) hxx31 (hA.get 1 rfl)) ?_ (hg := (wanted_of rfl rfl (bool_tr rfl hc30)).trans rfl)
  rintro _ w hs
  refine WL.move (v := .slice a2 x1.length c3) rfl ?_ (hg := (wanted_of rfl rfl (bool_tr rfl hc30)).trans rfl)
  obtain ⟨x32, hxx32, hf⟩ := bindE hf
  refine WL.call (vs := [.slice a2 x1.length c3]) hs FN10 ⟨rfl, trivial⟩ (fun ok hA => esref36_ValidateRules.calls (x1 := x1) hxx32 (hA.get 1 rfl)) ?_ (hg := (wanted_of rfl rfl (bool_tr rfl hc30)).trans rfl)
  rintro _ w hs
  refine WL.bin (v := .bool (x31 == x32)) rfl rfl (ib_eql _ _ _) ?_ (hg := (wanted_of rfl rfl (bool_tr rfl hc30)).trans rfl)
  refine WL.pickT (v := .bool (x31 == x32)) (bool_tr rfl hc30) rfl ?_
  refine WL.move (v := .bool (x31 == x32)) rfl ?_
  rcases iteE hf with ⟨hc33, hf⟩ | ⟨hc33, hf⟩
  {
  refine WL.move (v := .slice a2 x1.length c3) rfl ?_ (hg := (wanted_of rfl rfl (bool_tr rfl hc33)).trans rfl)
  obtain ⟨x34, hxx34, hf⟩ := bindE hf
  refine WL.call (vs := [.slice a2 x1.length c3]) hs FN11 ⟨rfl, trivial⟩ (fun ok hA => adversary_Format.calls (x1 := x1) hxx34 (hA.get 1 rfl) (hA.get 3 rfl) (hA.get 4 rfl)) ?_ (hg := (wanted_of rfl rfl (bool_tr rfl hc33)).trans rfl)
  rintro _ w hs
  refine WL.move (v := .slice a2 x1.length c3) rfl ?_ (hg := (wanted_of rfl rfl (bool_tr rfl hc33)).trans rfl)
  obtain ⟨x35, hxx35, hf⟩ := bindE hf
  refine WL.call (vs := [.slice a2 x1.length c3]) hs FN12 ⟨rfl, trivial⟩ (fun ok hA => esref36_Format.calls (x1 := x1) hxx35 (hA.get 1 rfl)) ?_ (hg := (wanted_of rfl rfl (bool_tr rfl hc33)).trans rfl)
  rintro _ w hs
  refine WL.binS (v := .bool (x34 == x35)) rfl rfl (sb_eql _ _) ?_ (hg := (wanted_of rfl rfl (bool_tr rfl hc33)).trans rfl)
  refine WL.pickT (v := .bool (x34 == x35)) (bool_tr rfl hc33) rfl ?_
  refine WL.move (v := .bool (x34 == x35)) rfl ?_
  rcases iteE hf with ⟨hc36, hf⟩ | ⟨hc36, hf⟩
  {
  obtain ⟨x37, hxx37, hf⟩ := bindE hf
  refine WL.call (vs := []) hs FN5 trivial (fun ok hA => eslaw36_awake.calls hxx37 (hA.get 3 rfl) (hA.get 4 rfl) (hA.get 5 rfl) (hA.get 6 rfl) (hA.get 7 rfl)) ?_ (hg := (wanted_of rfl rfl (bool_tr rfl hc36)).trans rfl)
  rintro _ w hs
  refine WL.pickT (v := .bool x37) (bool_tr rfl hc36) rfl ?_
  refine WL.assign (v := .bool x37) rfl ?_
  refine WL.nil ?_
  exact Jk28 x37 _ _ rfl ((hs.mask []).pick [3, 4, 5, 6, 7]) hf }
  {
  refine WL.pass ((wanted_of rfl rfl (bool_tr rfl hc36)).trans rfl) rfl ?_
  refine WL.pickF (v := .bool false) (bool_tr rfl hc36) rfl ?_
  refine WL.assign (v := .bool false) rfl ?_
  refine WL.nil ?_
  exact Jk28 false _ _ rfl ((hs.mask []).pick [3, 4, 5, 6, 7]) hf } }
  {
  refine WL.pass ((wanted_of rfl rfl (bool_tr rfl hc33)).trans rfl) rfl ?_
  refine WL.pass ((wanted_of rfl rfl (bool_tr rfl hc33)).trans rfl) rfl ?_
  refine WL.pass ((wanted_of rfl rfl (bool_tr rfl hc33)).trans rfl) rfl ?_
  refine WL.pass ((wanted_of rfl rfl (bool_tr rfl hc33)).trans rfl) rfl ?_
  refine WL.pass ((wanted_of rfl rfl (bool_tr rfl hc33)).trans rfl) rfl ?_
  refine WL.pickF (v := .bool false) (bool_tr rfl hc33) rfl ?_
  refine WL.move (v := .bool false) rfl ?_
  refine WL.pass ((wanted_of rfl rfl rfl).trans rfl) rfl ?_
  refine WL.pickF (v := .bool false) rfl rfl ?_
  refine WL.assign (v := .bool false) rfl ?_
  refine WL.nil ?_
  exact Jk28 false _ _ rfl ((hs.mask []).pick [3, 4, 5, 6, 7]) hf } }
  {
  refine WL.pass ((wanted_of rfl rfl (bool_tr rfl hc30)).trans rfl) rfl ?_
  refine WL.pass ((wanted_of rfl rfl (bool_tr rfl hc30)).trans rfl) rfl ?_
  refine WL.pass ((wanted_of rfl rfl (bool_tr rfl hc30)).trans rfl) rfl ?_
  refine WL.pass ((wanted_of rfl rfl (bool_tr rfl hc30)).trans rfl) rfl ?_
  refine WL.pass ((wanted_of rfl rfl (bool_tr rfl hc30)).trans rfl) rfl ?_
  refine WL.pickF (v := .bool false) (bool_tr rfl hc30) rfl ?_
  refine WL.move (v := .bool false) rfl ?_
  refine WL.pass ((wanted_of rfl rfl rfl).trans rfl) rfl ?_
  refine WL.pass ((wanted_of rfl rfl rfl).trans rfl) rfl ?_
  refine WL.pass ((wanted_of rfl rfl rfl).trans rfl) rfl ?_
  refine WL.pass ((wanted_of rfl rfl rfl).trans rfl) rfl ?_
  refine WL.pass ((wanted_of rfl rfl rfl).trans rfl) rfl ?_
  refine WL.pickF (v := .bool false) rfl rfl ?_
  refine WL.move (v := .bool false) rfl ?_
  refine WL.pass ((wanted_of rfl rfl rfl).trans rfl) rfl ?_
  refine WL.pickF (v := .bool false) rfl rfl ?_
  refine WL.assign (v := .bool false) rfl ?_
  refine WL.nil ?_
  exact Jk28 false _ _ rfl ((hs.mask []).pick [3, 4, 5, 6, 7]) hf } }
  {
  refine WL.pass ((wanted_of rfl rfl (bool_tr rfl hc29)).trans rfl) rfl ?_
  refine WL.pass ((wanted_of rfl rfl (bool_tr rfl hc29)).trans rfl) rfl ?_
  refine WL.pass ((wanted_of rfl rfl (bool_tr rfl hc29)).trans rfl) rfl ?_
  refine WL.pickF (v := .bool false) (bool_tr rfl hc29) rfl ?_
  refine WL.move (v := .bool false) rfl ?_
  refine WL.pass ((wanted_of rfl rfl rfl).trans rfl) rfl ?_
  refine WL.pass ((wanted_of rfl rfl rfl).trans rfl) rfl ?_
  refine WL.pass ((wanted_of rfl rfl rfl).trans rfl) rfl ?_
  refine WL.pass ((wanted_of rfl rfl rfl).trans rfl) rfl ?_
  refine WL.pass ((wanted_of rfl rfl rfl).trans rfl) rfl ?_
  refine WL.pickF (v := .bool false) rfl rfl ?_
  refine WL.move (v := .bool false) rfl ?_
  refine WL.pass ((wanted_of rfl rfl rfl).trans rfl) rfl ?_
  refine WL.pass ((wanted_of rfl rfl rfl).trans rfl) rfl ?_
  refine WL.pass ((wanted_of rfl rfl rfl).trans rfl) rfl ?_
  refine WL.pass ((wanted_of rfl rfl rfl).trans rfl) rfl ?_
  refine WL.pass ((wanted_of rfl rfl rfl).trans rfl) rfl ?_
  refine WL.pickF (v := .bool false) rfl rfl ?_
  refine WL.move (v := .bool false) rfl ?_
  refine WL.pass ((wanted_of rfl rfl rfl).trans rfl) rfl ?_
  refine WL.pickF (v := .bool false) rfl rfl ?_
  refine WL.assign (v := .bool false) rfl ?_
  refine WL.nil ?_
  exact Jk28 false _ _ rfl ((hs.mask []).pick [3, 4, 5, 6, 7]) hf } }
end Go.Proofs.YthcohhpmpdijoaaGreatDoor
set_option linter.unusedVariables false
set_option linter.unusedSimpArgs false
set_option linter.unusedSectionVars false
namespace Go.Proofs.YthcohhpmpdijoaaGreatDoor
open Go Go.Proofs.YthcohhpmpdijoaaGreatDoorL
theorem clone_eq (n : network_Network) (h1 : n.Packets.length ≤ 4096) (h2 : n.Sides.length ≤ 4096) : network_clone n = some n := by
  unfold network_clone slices_Clone_Packet slices_Clone_Side
  rw [app_of (by simp; omega), Option.bind_some, Option.bind_some, app_of (by simp; omega)]
  simp

def pk (next : Int) : List api_Message → List network_Packet
  | [] => []
  | m :: l => ⟨next, m⟩ :: pk (next + 1) l
theorem pk_length (x : Int) (l : List api_Message) : (pk x l).length = l.length := by
  induction l generalizing x with
  | nil => rfl
  | cons m l ih => simp [pk, ih]
theorem pk_app (x : Int) (l k : List api_Message) : pk x (l ++ k) = pk x l ++ pk (x + l.length) k := by
  induction l generalizing x with
  | nil => simp [pk]
  | cons m l ih =>
    simp only [pk, List.cons_append, ih, List.length_cons]
    rw [show x + 1 + (l.length : Int) = x + ((l.length + 1 : Nat) : Int) by omega]
theorem send_eq (n : network_Network) (ms : List api_Message) (h1 : n.Packets.length ≤ 4096) (h2 : n.Sides.length ≤ 4096) (h3 : 0 ≤ n.Next) (h3' : n.Next ≤ 4611686018427387904) (h4 : ms.length ≤ 4611686018427387904) :
    network_Send n ms = some ⟨n.Next + ((ms.take (4096 - n.Packets.length)).length : Int), n.Packets ++ pk n.Next (ms.take (4096 - n.Packets.length)), n.Sides⟩ := by
  unfold network_Send
  rw [clone_eq ⟨n.Next, n.Packets, n.Sides⟩ h1 h2]
  simp only [Option.bind_some]
  have hl := loopO_up (step := network_Send.l1 ms) (fun k => ((k : Int), n.Next + (k : Int), n.Packets ++ pk n.Next (ms.take k))) (ms.take (4096 - n.Packets.length)).length
    (b := (n.Next + ((ms.take (4096 - n.Packets.length)).length : Int), n.Packets ++ pk n.Next (ms.take (4096 - n.Packets.length)))) ?_ ?_
  · simp only [Int.natCast_zero, Int.add_zero, List.take_zero, pk, List.append_nil] at hl
    rw [hl]
    simp [network_Send.j1]
  · intro k hk
    rw [List.length_take] at hk
    have hk1 : k < ms.length := by omega
    simp only [network_Send.l1]
    rw [if_pos (by simp; omega), idx_nat hk1]
    simp only [Option.bind_some]
    rw [if_neg (by simp [pk_length]; omega), app_of (by simp [pk_length]; omega)]
    simp only [Option.bind_some, letV_of]
    rw [show IntKind.i64.wrap (n.Next + (k : Int) + 1) = n.Next + ((k + 1 : Nat) : Int) from by rw [w64 (by omega) (by omega)]; omega, w64n (by omega), take_snoc hk1, pk_app, List.length_take, Nat.min_eq_left (by omega)]
    simp only [pk, List.append_assoc]
  · simp only [network_Send.l1]
    rw [List.length_take]
    rcases Nat.lt_or_ge ms.length (4096 - n.Packets.length + 1) with h | h
    · rw [if_neg (by simp; omega)]
      simp only [Option.some.injEq, Sum.inr.injEq, Prod.mk.injEq, true_and]
      rw [Nat.min_eq_right (by omega), List.take_of_length_le (Nat.le_refl _), List.take_of_length_le (by omega)]
    · rw [if_pos (by simp; omega), Nat.min_eq_left (by omega), idx_nat (by omega)]
      simp only [Option.bind_some]
      rw [if_pos (by simp [pk_length]; omega)]

def sd : List network_Side → Int → Int
  | [], _ => 0
  | s :: l, p => if s.Process == p then s.Side else sd l p
theorem side_eq (n : network_Network) (p : Int) (h : n.Sides.length ≤ 4096) : network_side n p = some (sd n.Sides p) := by
  unfold network_side
  have key : ∃ b : Unit ⊕ Int, loopO (network_side.l1 n p) 0 = some b ∧ (match b with | .inl _ => 0 | .inr v => v) = sd n.Sides p := by
    refine loopO_ex (fun k s => s = (k : Int) ∧ sd n.Sides p = sd (n.Sides.drop k) p) n.Sides.length ⟨rfl, rfl⟩ (fun k s hk hI => ?_) (fun s hI => ?_)
    · obtain ⟨rfl, hI⟩ := hI
      simp only [network_side.l1]
      rw [if_pos (by simpa using hk), idx_nat hk]
      simp only [Option.bind_some, letV_of]
      rw [List.drop_eq_getElem_cons hk, sd] at hI
      by_cases hp : n.Sides[k].Process == p
      · rw [if_pos hp] at hI ⊢
        exact .inr ⟨_, rfl, hI.symm⟩
      · rw [if_neg hp] at hI ⊢
        exact .inl ⟨_, rfl, by rw [w64n (by omega)], hI⟩
    · obtain ⟨rfl, hI⟩ := hI
      simp only [network_side.l1]
      rw [if_neg (by simp)]
      refine ⟨_, rfl, ?_⟩
      rw [List.drop_length] at hI
      exact hI.symm
  obtain ⟨b, hb, hq⟩ := key
  rw [hb]
  simp only [Option.bind_some]
  cases b with
  | inl u => simp only [network_side.j1]; rw [← hq]
  | inr v => simp only [← hq]
def blk (S : List network_Side) (f t : Int) : Bool := sd S f != sd S t
theorem blocked_eq (n : network_Network) (f t : Int) (h : n.Sides.length ≤ 4096) : network_Blocked n f t = some (blk n.Sides f t) := by
  unfold network_Blocked
  rw [side_eq n f h, side_eq n t h]
  rfl
def dlv (S : List network_Side) (l : List network_Packet) : List Int := (l.filter fun p => !blk S p.Message.From p.Message.To).map (·.ID)
theorem dlv_snoc (S : List network_Side) (l : List network_Packet) (p : network_Packet) : dlv S (l ++ [p]) = dlv S l ++ if blk S p.Message.From p.Message.To then [] else [p.ID] := by
  unfold dlv
  rw [List.filter_append, List.map_append]
  cases h : blk S p.Message.From p.Message.To <;> simp [h]
theorem dlv_length (S : List network_Side) (l : List network_Packet) : (dlv S l).length ≤ l.length := by
  unfold dlv
  rw [List.length_map]
  exact List.length_filter_le _ _
theorem deliverable_eq (n : network_Network) (h1 : n.Packets.length ≤ 4096) (h2 : n.Sides.length ≤ 4096) : network_Deliverable n = some (dlv n.Sides n.Packets) := by
  unfold network_Deliverable
  have hl := loopO_up (step := network_Deliverable.l1 n) (fun k => (dlv n.Sides (n.Packets.take k), (k : Int))) n.Packets.length (b := dlv n.Sides n.Packets) ?_ ?_
  · have e : (dlv n.Sides (n.Packets.take 0), ((0 : Nat) : Int)) = ([], 0) := rfl
    rw [e] at hl
    rw [hl]
    rfl
  · intro k hk
    simp only [network_Deliverable.l1]
    rw [if_pos (by simpa using hk), idx_nat hk]
    simp only [Option.bind_some]
    rw [blocked_eq n _ _ h2]
    simp only [Option.bind_some]
    rw [take_snoc hk, dlv_snoc]
    have hb := dlv_length n.Sides (n.Packets.take k)
    rw [List.length_take] at hb
    cases hbl : blk n.Sides n.Packets[k].Message.From n.Packets[k].Message.To with
    | true =>
      simp only [Bool.not_true, Bool.false_eq_true, if_false, if_true, List.append_nil, network_Deliverable.j2, letV_of]
      rw [w64n (by omega)]
    | false =>
      simp only [Bool.not_false, Bool.false_eq_true, if_false, if_true, network_Deliverable.j2, letV_of]
      rw [app_of (by simp only [List.length_cons, List.length_nil]; omega)]
      simp only [Option.bind_some]
      rw [w64n (by omega)]
  · simp only [network_Deliverable.l1]
    rw [if_neg (by simp), List.take_of_length_le (Nat.le_refl _)]
theorem index_eq (x n : Int) (h1 : 1 ≤ n) (h2 : n ≤ 4611686018427387904) : eslaw00_Index x n = some (x % n) := by
  unfold eslaw00_Index
  have a1 := Int.tmod_lt_of_pos x (show 0 < n by omega)
  have a2 := Int.lt_tmod_of_pos x (show 0 < n by omega)
  have a3 := Int.tmod_add_mul_tdiv x n
  have hw : IntKind.i64.wrap (Int.tmod x n + n) = Int.tmod x n + n := w64 (by omega) (by omega)
  rw [if_neg (by simp; omega), if_pos (by omega), letV_of, hw, if_pos (by omega)]
  rw [Int.tmod_eq_emod_of_nonneg (by omega)]
  congr 1
  rw [Int.add_emod_right]
  conv => rhs; rw [← a3]
  rw [Int.add_mul_emod_self_left]
def msg (k f t r : Int) : api_Message := ⟨k, f, t, ⟨0, 0⟩, r, 0, ⟨[], []⟩, ⟨[], []⟩, false, ⟨[], []⟩, [], [], [], false⟩
def IsMsg (m : api_Message) : Prop := ∃ k f t r, m = msg k f t r
def partM (sides : List network_Side) : List (Int × Int) := sides.foldl (fun m s => mset m s.Process s.Side) []
def partL (m : List (Int × Int)) : List network_Side := (m.filter fun e => e.2 != 0).map fun e => ⟨e.1, e.2⟩
def ltS (a b : network_Side) : Bool := decide (a.Process < b.Process)
def partS (sides : List network_Side) : List network_Side := (partL (partM sides)).mergeSort fun a b => !ltS b a
theorem partM_fold (sides : List network_Side) (m : List (Int × Int)) (h : (m.map (·.1)).Nodup) :
    ((sides.foldl (fun m s => mset m s.Process s.Side) m).map (·.1)).Nodup ∧ (sides.foldl (fun m s => mset m s.Process s.Side) m).length ≤ m.length + sides.length := by
  induction sides generalizing m with
  | nil => exact ⟨h, Nat.le_refl _⟩
  | cons s l ih =>
    obtain ⟨h1, h2⟩ := ih (mset m s.Process s.Side) (mset_keys _ _ _ h).1
    have := mset_length s.Process s.Side m
    exact ⟨h1, by simp only [List.foldl_cons, List.length_cons] at *; omega⟩
theorem partM_keys (sides : List network_Side) : ((partM sides).map (·.1)).Nodup ∧ (partM sides).length ≤ sides.length := by
  have := partM_fold sides [] (by simp)
  simp only [List.length_nil, Nat.zero_add] at this
  exact this
theorem partL_length (m : List (Int × Int)) : (partL m).length ≤ m.length := by
  unfold partL
  rw [List.length_map]
  exact List.length_filter_le _ _
theorem partS_length (sides : List network_Side) : (partS sides).length ≤ sides.length := by
  unfold partS
  rw [List.length_mergeSort]
  have := partL_length (partM sides)
  have := (partM_keys sides).2
  omega
theorem partL_pairwise {m : List (Int × Int)} (h : (m.map (·.1)).Nodup) : (partL m).Pairwise fun a b => decide (a.Process < b.Process) = true ∨ decide (b.Process < a.Process) = true := by
  unfold partL
  rw [List.pairwise_map]
  rw [List.Nodup, List.pairwise_map] at h
  refine List.Pairwise.imp ?_ (h.sublist List.filter_sublist)
  intro a b hab
  simp only [decide_eq_true_eq]
  omega
theorem cmp_eq (x y : Int) : cmp_Compare_int x y = some (cmpI x y) := by
  unfold cmp_Compare_int cmp_isNaN_int cmpI
  simp only [bne_self_eq_false, Option.bind_some, Bool.false_eq_true, if_false]
  by_cases h1 : x < y
  · simp [h1]
  · by_cases h2 : y < x <;> simp [h1, h2]
theorem cmpI_zero (x y : Int) : (cmpI x y == 0) = (x == y) := by
  unfold cmpI
  by_cases h1 : x < y
  · have : x ≠ y := by omega
    simp [h1, this]
  · by_cases h2 : y < x
    · have : x ≠ y := by omega
      simp [h1, h2, this]
    · have : x = y := by omega
      simp [this]
def Asc (l : List network_Packet) : Prop := l.Pairwise fun a b => a.ID < b.ID
theorem position_ex (n : network_Network) (id : Int) (h1 : n.Packets.length ≤ 4096) (ha : Asc n.Packets) :
    ∃ i : Nat, i ≤ n.Packets.length ∧ (∀ p (hp : p < n.Packets.length), p < i → n.Packets[p].ID < id) ∧ (∀ p (hp : p < n.Packets.length), i ≤ p → ¬ n.Packets[p].ID < id) ∧
      network_position n id = some ((i : Int), match n.Packets[i]? with | some p => p.ID == id | none => false) := by
  unfold network_position slices_BinarySearchFunc_int
  have key : ∃ b, loopO (slices_BinarySearchFunc_int.l1 n.Packets id (fun p : network_Packet × Int => network_position_1 p.1 p.2)) (0, (n.Packets.length : Int)) = some b ∧
      ∃ i : Nat, b = (i : Int) ∧ i ≤ n.Packets.length ∧ (∀ p (hp : p < n.Packets.length), p < i → n.Packets[p].ID < id) ∧ (∀ p (hp : p < n.Packets.length), i ≤ p → ¬ n.Packets[p].ID < id) := by
    refine loopO_mu (fun s => ∃ i j : Nat, s = ((i : Int), (j : Int)) ∧ i ≤ j ∧ j ≤ n.Packets.length ∧ (∀ p (hp : p < n.Packets.length), p < i → n.Packets[p].ID < id) ∧ (∀ p (hp : p < n.Packets.length), j ≤ p → ¬ n.Packets[p].ID < id))
      (fun s => (s.2 - s.1).toNat) ⟨0, n.Packets.length, rfl, Nat.zero_le _, Nat.le_refl _, fun p hp h => by omega, fun p hp h => by omega⟩ ?_
    rintro s ⟨i, j, rfl, hij, hj, hlo, hhi⟩
    simp only [slices_BinarySearchFunc_int.l1]
    by_cases hlt : i < j
    · left
      obtain ⟨h, hh⟩ : ∃ h : Nat, h = (i + j) / 2 := ⟨_, rfl⟩
      have e1 : IntKind.i64.wrap ((i : Int) + (j : Int)) = ((i + j : Nat) : Int) := by rw [w64 (by omega) (by omega)]; omega
      have e2 : shrI .u64 (IntKind.u64.wrap ((i + j : Nat) : Int)) 1 = (h : Int) := by rw [half_eq (by omega) (by omega), hh]; omega
      have hl : h < n.Packets.length := by omega
      rw [if_pos (by simpa using hlt), letV_of, e1, letV_of, e2, w64 (by omega) (by omega), idx_nat hl]
      simp only [Option.bind_some, network_position_1, cmp_eq]
      rw [cmpI_neg]
      by_cases hc : n.Packets[h].ID < id
      · rw [if_pos (by simpa using hc), letV_of, w64n (by omega)]
        refine ⟨_, rfl, ⟨h + 1, j, rfl, by omega, hj, fun p hp hph => ?_, hhi⟩, by omega⟩
        rcases Nat.lt_or_ge p h with h2 | h2
        · have := (List.pairwise_iff_getElem.1 ha) p h hp hl h2
          omega
        · have : p = h := by omega
          subst this
          exact hc
      · rw [if_neg (by simpa using hc)]
        refine ⟨_, rfl, ⟨i, h, rfl, by omega, by omega, hlo, fun p hp hph => ?_⟩, by omega⟩
        rcases Nat.lt_or_ge h p with h2 | h2
        · have := (List.pairwise_iff_getElem.1 ha) h p hl hp h2
          omega
        · have : p = h := by omega
          subst this
          exact hc
    · right
      rw [if_neg (by simpa using hlt)]
      have : i = j := by omega
      subst this
      exact ⟨_, rfl, i, rfl, hj, hlo, hhi⟩
  obtain ⟨b, hb, i, rfl, h2, h3, h4⟩ := key
  refine ⟨i, h2, h3, h4, ?_⟩
  rw [hb]
  simp only [Option.bind_some, slices_BinarySearchFunc_int.j2]
  by_cases hi : i < n.Packets.length
  · rw [if_pos (by simpa using hi), idx_nat hi, List.getElem?_eq_getElem hi]
    simp only [Option.bind_some, network_position_1, cmp_eq, slices_BinarySearchFunc_int.j1, cmpI_zero]
  · rw [if_neg (by simpa using hi), List.getElem?_eq_none (by omega)]
    rfl
theorem position_at (n : network_Network) (k : Nat) (h1 : n.Packets.length ≤ 4096) (ha : Asc n.Packets) (hk : k < n.Packets.length) : network_position n n.Packets[k].ID = some ((k : Int), true) := by
  obtain ⟨i, h2, h3, h4, h5⟩ := position_ex n n.Packets[k].ID h1 ha
  have : i = k := by
    rcases Nat.lt_trichotomy i k with h | h | h
    · have := (List.pairwise_iff_getElem.1 ha) i k (by omega) hk h
      exact absurd this (h4 i (by omega) (Nat.le_refl _))
    · exact h
    · have := h3 k hk h
      omega
  subst this
  rw [h5, List.getElem?_eq_getElem hk]
  simp
theorem remove_eq (n : network_Network) (k : Nat) (h1 : n.Packets.length ≤ 4096) (h2 : n.Sides.length ≤ 4096) (hk : k < n.Packets.length) : network_remove n (k : Int) = some ⟨n.Next, n.Packets.eraseIdx k, n.Sides⟩ := by
  unfold network_remove
  rw [clone_eq ⟨n.Next, n.Packets, n.Sides⟩ h1 h2]
  simp only [Option.bind_some, letV_of]
  rw [cut_of (by omega) (by omega) (by omega), w64n (by omega)]
  simp only [Option.bind_some]
  rw [cut_of (by omega) (by omega) (by omega)]
  simp only [Option.bind_some, Int.toNat_natCast, List.take_length, Int.toNat_zero, List.drop_zero]
  rw [app_of (by simp only [List.length_take, List.length_drop]; omega)]
  simp only [Option.bind_some, List.eraseIdx_eq_take_drop_succ]
def noMsg : api_Message := msg 0 0 0 0
theorem deliver_at (n : network_Network) (k : Nat) (h1 : n.Packets.length ≤ 4096) (h2 : n.Sides.length ≤ 4096) (ha : Asc n.Packets) (hk : k < n.Packets.length) :
    network_Deliver n n.Packets[k].ID = some (if blk n.Sides n.Packets[k].Message.From n.Packets[k].Message.To then (n, noMsg, false) else (⟨n.Next, n.Packets.eraseIdx k, n.Sides⟩, n.Packets[k].Message, true)) := by
  unfold network_Deliver
  rw [position_at n k h1 ha hk]
  simp only [Option.bind_some, Bool.not_true, Bool.false_eq_true, if_false]
  rw [idx_nat hk]
  simp only [Option.bind_some]
  rw [blocked_eq n _ _ h2]
  simp only [Option.bind_some, network_Deliver.j1]
  cases blk n.Sides n.Packets[k].Message.From n.Packets[k].Message.To with
  | true =>
    rw [if_pos rfl, if_pos rfl, clone_eq n h1 h2]
    rfl
  | false =>
    rw [if_neg (by simp), if_neg (by simp), remove_eq n k h1 h2 hk, idx_nat hk]
    rfl
structure Inv (b : Nat) (n : network_Network) : Prop where
  asc : Asc n.Packets
  ids : ∀ p ∈ n.Packets, 1 ≤ p.ID ∧ p.ID < n.Next
  msgs : ∀ p ∈ n.Packets, IsMsg p.Message
  few : n.Packets.length ≤ 3 * b
  len : n.Packets.length ≤ 4096
  sides : n.Sides.length ≤ 4096
  pos : 1 ≤ n.Next
  top : n.Next ≤ 1 + 3 * (b : Int)
theorem Inv.mono {b c : Nat} {n : network_Network} (h : Inv b n) (hbc : b ≤ c) : Inv c n := { h with top := by have := h.top; omega, few := by have := h.few; omega }
theorem Inv.sub {b : Nat} {n : network_Network} {l : List network_Packet} (h : Inv b n) (hl : l.Sublist n.Packets) : Inv b ⟨n.Next, l, n.Sides⟩ where
  asc := List.Pairwise.sublist hl h.asc
  ids p hp := h.ids p (hl.subset hp)
  msgs p hp := h.msgs p (hl.subset hp)
  few := Nat.le_trans hl.length_le h.few
  len := Nat.le_trans hl.length_le h.len
  sides := h.sides
  pos := h.pos
  top := h.top
theorem pk_mem {x : Int} {l : List api_Message} {p : network_Packet} (h : p ∈ pk x l) : x ≤ p.ID ∧ p.ID < x + l.length ∧ p.Message ∈ l := by
  induction l generalizing x with
  | nil => cases h
  | cons m l ih =>
    simp only [pk, List.mem_cons] at h
    rcases h with rfl | h
    · simp only [List.length_cons, List.mem_cons, true_or, and_true]
      omega
    · obtain ⟨h1, h2, h3⟩ := ih h
      simp only [List.length_cons]
      exact ⟨by omega, by omega, .tail _ h3⟩
theorem pk_asc (x : Int) (l : List api_Message) : Asc (pk x l) := by
  induction l generalizing x with
  | nil => exact List.Pairwise.nil
  | cons m l ih =>
    refine List.Pairwise.cons (fun p hp => ?_) (ih (x + 1))
    have := (pk_mem hp).1
    show x < p.ID
    omega
structure Ext (n n' : network_Network) : Prop where
  le : n.Next ≤ n'.Next
  old : ∀ p ∈ n'.Packets, (∃ q ∈ n.Packets, q.ID = p.ID) ∨ n.Next ≤ p.ID
  new : ∀ i, n.Next ≤ i → i < n'.Next → ∃ p ∈ n'.Packets, p.ID = i
theorem Ext.sub {n : network_Network} {l : List network_Packet} {s : List network_Side} (h : l.Sublist n.Packets) : Ext n ⟨n.Next, l, s⟩ := ⟨Int.le_refl _, fun p hp => .inl ⟨p, h.subset hp, rfl⟩, fun i h1 h2 => by simp only at h2; omega⟩
section
variable {b : Nat} {n : network_Network} (h : Inv b n) (hb : b ≤ 1000)
include h hb
theorem Inv.next : 0 ≤ n.Next ∧ n.Next ≤ 4611686018427387904 := by
  have := h.pos
  have := h.top
  omega
end
end Go.Proofs.YthcohhpmpdijoaaGreatDoor
set_option linter.unusedVariables false
set_option linter.unusedSimpArgs false
namespace Go.Proofs.YthcohhpmpdijoaaGreatDoorL
open Go

theorem lt_of_len {k n : Nat} (h : k < n) : decide ((k : Int) < (n : Int)) = true := by simpa using h
theorem not_lt_len {n : Nat} : decide ((n : Int) < (n : Int)) = false := by simp
theorem wcast {k n : Nat} (hk : k < n) (h : n ≤ 4611686018427387904) : IntKind.i64.wrap ((k : Int) + 1) = ((k + 1 : Nat) : Int) := w64n (by omega)
end Go.Proofs.YthcohhpmpdijoaaGreatDoorL
set_option linter.unusedVariables false
set_option linter.unusedSimpArgs false
namespace Go.Proofs.YthcohhpmpdijoaaGreatDoor
open Go Go.Proofs.YthcohhpmpdijoaaGreatDoorL
structure RK (r : adversary_Rule) : Prop where
  lo : 1 ≤ r.Kind
  hi : r.Kind ≤ 9
  arg : r.Kind ≤ 6 → 1 ≤ r.Arg ∧ r.Arg ≤ 1000
  no : 6 < r.Kind → r.Arg = 0
theorem Validate_ex (l : List adversary_Rule) : ∃ e, adversary_Validate l = some e ∧ (e = 0 ↔ l.length ≤ 16 ∧ ∀ r ∈ l, RK r) := by
  unfold adversary_Validate
  by_cases hl : (16 : Int) < (l.length : Int)
  · rw [if_pos (by simpa using hl)]
    exact ⟨3, rfl, ⟨fun h => absurd h (by decide), fun h => absurd h.1 (by omega)⟩⟩
  rw [if_neg (by simpa using hl)]
  have hlen : l.length ≤ 16 := by omega
  have key : ∃ b, loopO (adversary_Validate.l1 l) 0 = some b ∧ (match b with | .inl _ => ∀ r ∈ l, RK r | .inr e => e ≠ 0 ∧ ¬ ∀ r ∈ l, RK r) := by
    refine loopO_ex (fun k s => s = (k : Int) ∧ ∀ i, i < k → (h : i < l.length) → RK l[i]) l.length ⟨rfl, fun i h => absurd h (by omega)⟩ ?_ ?_
    · rintro k s hk ⟨rfl, hi⟩
      unfold adversary_Validate.l1
      simp only [lt_of_len hk, if_true, idx_nat hk, Option.bind_some]
      obtain ⟨r, hr⟩ : ∃ r, r = l[k] := ⟨_, rfl⟩
      rw [← hr]
      have hm : r ∈ l := by rw [hr]; exact List.getElem_mem hk
      have next : RK r → ∀ i, i < k + 1 → (h : i < l.length) → RK l[i] := by
        intro hg i h1 h2
        by_cases he : i = k
        · subst he; rw [← hr]; exact hg
        · exact hi i (by omega) h2
      have bad : ¬ RK r → ¬ ∀ r ∈ l, RK r := fun h hh => h (hh r hm)
      have j2 : ∀ b, (b = true ↔ ¬ RK r) → (∃ s', adversary_Validate.j2 (k : Int) b = some (.inl s') ∧ s' = ((k + 1 : Nat) : Int) ∧ ∀ i, i < k + 1 → (h : i < l.length) → RK l[i]) ∨ ∃ b', adversary_Validate.j2 (k : Int) b = some (.inr b') ∧ (match b' with | .inl _ => ∀ r ∈ l, RK r | .inr e => e ≠ 0 ∧ ¬ ∀ r ∈ l, RK r) := by
        intro b hb
        unfold adversary_Validate.j2
        cases b with
        | true => exact .inr ⟨_, rfl, by decide, bad (hb.1 rfl)⟩
        | false =>
          rw [if_neg (by simp), letV_of, wcast hk (by omega)]
          exact .inl ⟨_, rfl, rfl, next (Classical.byContradiction fun h => by have := hb.2 h; cases this)⟩
      have j3 : ∀ b, (b = true ↔ ¬ (1 ≤ r.Kind ∧ r.Kind ≤ 9)) → (∃ s', adversary_Validate.j3 (k : Int) r b = some (.inl s') ∧ s' = ((k + 1 : Nat) : Int) ∧ ∀ i, i < k + 1 → (h : i < l.length) → RK l[i]) ∨ ∃ b', adversary_Validate.j3 (k : Int) r b = some (.inr b') ∧ (match b' with | .inl _ => ∀ r ∈ l, RK r | .inr e => e ≠ 0 ∧ ¬ ∀ r ∈ l, RK r) := by
        intro b hb
        unfold adversary_Validate.j3
        cases b with
        | true => exact .inr ⟨_, rfl, by decide, bad fun h => hb.1 rfl ⟨h.lo, h.hi⟩⟩
        | false =>
          have hk19 : 1 ≤ r.Kind ∧ r.Kind ≤ 9 := Classical.byContradiction fun h => by have := hb.2 h; cases this
          rw [if_neg (by simp)]
          by_cases h6 : r.Kind ≤ 6
          · rw [if_pos (by simpa using h6)]
            by_cases ha : r.Arg < 1
            · rw [if_pos (by simpa using ha)]
              exact j2 true ⟨fun _ h => by have := (h.arg h6).1; omega, fun _ => rfl⟩
            · rw [if_neg (by simpa using ha)]
              by_cases hb2 : 1000 < r.Arg
              · rw [if_pos (by simpa using hb2)]
                exact j2 true ⟨fun _ h => by have := (h.arg h6).2; omega, fun _ => rfl⟩
              · rw [if_neg (by simpa using hb2), if_neg (by simp; omega)]
                exact j2 false ⟨(fun h => nomatch h), fun h => absurd ⟨hk19.1, hk19.2, fun _ => by omega, fun _ => by omega⟩ h⟩
          · rw [if_neg (by simpa using h6), if_pos (by simp; omega)]
            refine j2 _ ⟨fun h hr => ?_, fun h => ?_⟩
            · have := hr.no (by omega)
              simp [this] at h
            · rw [bne_iff_ne]
              intro h0
              exact h ⟨hk19.1, hk19.2, fun hh => absurd hh h6, fun _ => h0⟩
      by_cases hk1 : r.Kind < 1
      · rw [if_pos (by simpa using hk1)]
        exact j3 true ⟨fun _ h => by omega, fun _ => rfl⟩
      · rw [if_neg (by simpa using hk1)]
        refine j3 _ ⟨fun h hh => ?_, fun h => ?_⟩
        · have : 9 < r.Kind := by simpa using h
          omega
        · have : 9 < r.Kind := by omega
          simpa using this
    · rintro s ⟨rfl, hi⟩
      unfold adversary_Validate.l1
      simp only [not_lt_len, Bool.false_eq_true, if_false]
      refine ⟨_, rfl, fun r hr => ?_⟩
      obtain ⟨i, h1, rfl⟩ := List.getElem_of_mem hr
      exact hi i h1 h1
  obtain ⟨b, he, hb⟩ := key
  rw [he, Option.bind_some]
  cases b with
  | inl _ => exact ⟨0, rfl, ⟨fun _ => ⟨hlen, hb⟩, fun _ => rfl⟩⟩
  | inr v => exact ⟨v, rfl, ⟨fun h => absurd h hb.1, fun h => absurd h.2 hb.2⟩⟩
def mt (r : adversary_Rule) (m : api_Message) : Bool := if r.Kind = 1 ∨ r.Kind = 4 then m.To == r.Arg else if r.Kind = 2 ∨ r.Kind = 5 then m.From == r.Arg else m.Kind == r.Arg
theorem matches_eq (r : adversary_Rule) (m : api_Message) : adversary_matches r m = some (mt r m) := by
  unfold adversary_matches adversary_matches.j2 adversary_matches.j1 mt
  by_cases h1 : r.Kind = 1
  · simp [h1]
  · by_cases h4 : r.Kind = 4
    · simp [h4]
    · by_cases h2 : r.Kind = 2
      · simp [h2]
      · by_cases h5 : r.Kind = 5
        · simp [h5]
        · simp [h1, h2, h4, h5]
def kp (step : Int) (r : adversary_Rule) (l : List network_Packet) : List network_Packet :=
  if r.Kind = 7 then l.take 1 else if r.Kind = 8 then l.drop (l.length - 1) else if r.Kind = 9 then (l.drop (step % (l.length : Int)).toNat).take 1 else
  if l.filter (fun p => mt r p.Message == decide (r.Kind ≤ 3)) = [] then l else l.filter fun p => mt r p.Message == decide (r.Kind ≤ 3)
theorem kp_ok (step : Int) (r : adversary_Rule) {l : List network_Packet} (h : l ≠ []) : kp step r l ≠ [] ∧ (kp step r l).length ≤ l.length := by
  have hp : 0 < l.length := List.length_pos_iff.2 h
  unfold kp
  split
  · refine ⟨fun h' => ?_, by rw [List.length_take]; omega⟩
    have := congrArg List.length h'
    rw [List.length_take, List.length_nil] at this
    omega
  · split
    · refine ⟨fun h' => ?_, by rw [List.length_drop]; omega⟩
      have := congrArg List.length h'
      rw [List.length_drop, List.length_nil] at this
      omega
    · split
      · have h1 := Int.emod_nonneg step (show (l.length : Int) ≠ 0 by omega)
        have h2 := Int.emod_lt_of_pos step (show 0 < (l.length : Int) by omega)
        obtain ⟨k, hk⟩ : ∃ k : Nat, step % (l.length : Int) = k := ⟨(step % (l.length : Int)).toNat, (Int.toNat_of_nonneg (Int.emod_nonneg step (by omega))).symm⟩
        rw [hk] at h2 ⊢
        refine ⟨fun h' => ?_, by rw [List.length_take, List.length_drop]; omega⟩
        have := congrArg List.length h'
        rw [List.length_take, List.length_drop, List.length_nil, Int.toNat_natCast] at this
        omega
      · split
        · exact ⟨h, Nat.le_refl _⟩
        · rename_i hne
          exact ⟨hne, List.length_filter_le _ _⟩
theorem rot_eq (step : Int) {n : Int} (h1 : 1 ≤ n) : Int.tmod (Int.tmod step n + n) n = step % n := by
  have a1 := Int.tmod_lt_of_pos step (show 0 < n by omega)
  have a2 := Int.lt_tmod_of_pos step (show 0 < n by omega)
  have a3 := Int.tmod_add_mul_tdiv step n
  rw [Int.tmod_eq_emod_of_nonneg (by omega), Int.add_emod_right]
  conv => rhs; rw [← a3]
  rw [Int.add_mul_emod_self_left]
theorem cut_one {l : List network_Packet} {k : Nat} (hk : k < l.length) : cut l (k : Int) ((k + 1 : Nat) : Int) = some ((l.drop k).take 1) := by
  rw [cut_of (by omega) (by omega) (by omega)]
  congr 1
  simp only [Int.toNat_natCast]
  rw [List.take_add, List.drop_append_of_le_length (by rw [List.length_take]; omega), List.drop_of_length_le (by rw [List.length_take]; omega), List.nil_append]
theorem filter_eq {l : List network_Packet} (hl : l.length ≤ 4096) (hne : l ≠ []) (r : adversary_Rule) (step : Int) : adversary_filterOf_1 l r step = some (kp step r l) := by
  have hp : 0 < l.length := List.length_pos_iff.2 hne
  unfold adversary_filterOf_1 kp
  by_cases h7 : r.Kind = 7
  · rw [if_pos (by simpa using h7), if_pos h7, cut_of (Int.le_refl 0) (by decide) (by omega)]
    rfl
  rw [if_neg (by simpa using h7), if_neg h7]
  by_cases h8 : r.Kind = 8
  · rw [if_pos (by simpa using h8), if_pos h8, letV_of, w64 (by omega) (by omega), show (l.length : Int) - 1 = ((l.length - 1 : Nat) : Int) by omega, cut_of (by omega) (by omega) (Int.le_refl _)]
    simp
  rw [if_neg (by simpa using h8), if_neg h8]
  by_cases h9 : r.Kind = 9
  · have a1 := Int.tmod_lt_of_pos step (show 0 < (l.length : Int) by omega)
    have a2 := Int.lt_tmod_of_pos step (show 0 < (l.length : Int) by omega)
    have b1 := Int.emod_nonneg step (show (l.length : Int) ≠ 0 by omega)
    have b2 := Int.emod_lt_of_pos step (show 0 < (l.length : Int) by omega)
    rw [if_pos (by simpa using h9), if_pos h9, if_pos (by omega), letV_of, letV_of, w64 (x := Int.tmod step (l.length : Int) + (l.length : Int)) (by omega) (by omega), if_pos (by omega), letV_of, rot_eq step (by omega), letV_of]
    obtain ⟨k, hk⟩ : ∃ k : Nat, step % (l.length : Int) = k := ⟨(step % (l.length : Int)).toNat, (Int.toNat_of_nonneg (Int.emod_nonneg step (by omega))).symm⟩
    rw [hk] at b2 ⊢
    rw [w64 (x := (k : Int) + 1) (by omega) (by omega), show (k : Int) + 1 = ((k + 1 : Nat) : Int) by omega, cut_one (by omega)]
    rfl
  rw [if_neg (by simpa using h9), if_neg h9]
  obtain ⟨f, hf⟩ : ∃ f : network_Packet → Bool, f = fun p => mt r p.Message == decide (r.Kind ≤ 3) := ⟨_, rfl⟩
  rw [← hf]
  have hlp := loopO_up (step := adversary_filterOf_1.l1 l r) (fun k => ((l.take k).filter f, (k : Int))) l.length (b := l.filter f) (fun k hk => ?_) ?_
  · have hlp : loopO (adversary_filterOf_1.l1 l r) ([], 0) = some (l.filter f) := hlp
    rw [hlp, Option.bind_some]
    unfold adversary_filterOf_1.j1
    by_cases h0 : l.filter f = []
    · rw [if_pos h0, if_pos (by rw [h0]; rfl)]
    · rw [if_neg h0, if_neg (by
        have := List.length_pos_iff.2 h0
        simp only [beq_iff_eq]
        omega)]
  · have hle : ((l.take k).filter f).length ≤ 4096 := Nat.le_trans (List.length_filter_le _ _) (by rw [List.length_take]; omega)
    unfold adversary_filterOf_1.l1
    simp only [lt_of_len hk, if_true, idx_nat hk, Option.bind_some, matches_eq]
    rw [take_snoc hk, List.filter_append]
    have ef : f l[k] = (mt r l[k].Message == decide (r.Kind ≤ 3)) := by rw [hf]
    unfold adversary_filterOf_1.j2
    cases hc : (mt r l[k].Message == decide (r.Kind ≤ 3)) with
    | true =>
      rw [if_pos rfl, app_of (by simp only [List.length_singleton]; omega), Option.bind_some, letV_of, wcast hk (by omega)]
      have : [l[k]].filter f = [l[k]] := by rw [List.filter_cons, ef, hc]; rfl
      rw [this]
    | false =>
      rw [if_neg (by simp), letV_of, wcast hk (by omega)]
      have : [l[k]].filter f = [] := by rw [List.filter_cons, ef, hc]; rfl
      rw [this, List.append_nil]
  · unfold adversary_filterOf_1.l1
    simp only [not_lt_len, Bool.false_eq_true, if_false, List.take_length]
theorem fold_ok (step : Int) : ∀ (rules : List adversary_Rule) {l : List network_Packet}, l ≠ [] → rules.foldl (fun l r => kp step r l) l ≠ [] ∧ (rules.foldl (fun l r => kp step r l) l).length ≤ l.length
  | [], l, h => ⟨h, Nat.le_refl _⟩
  | r :: rules, l, h => by
    obtain ⟨h1, h2⟩ := kp_ok step r h
    obtain ⟨h3, h4⟩ := fold_ok step rules h1
    exact ⟨h3, Nat.le_trans h4 h2⟩
theorem narrow_eq {l : List network_Packet} (hl : l.length ≤ 4096) (hne : l ≠ []) (rules : List adversary_Rule) (hr : rules.length ≤ 4096) (step : Int) :
    adversary_narrow l (rules.map fun r p => adversary_filterOf_1 p r step) = some (rules.foldl (fun l r => kp step r l) l) := by
  unfold adversary_narrow
  have := loopO_up (step := adversary_narrow.l1 (rules.map fun r p => adversary_filterOf_1 p r step)) (fun k => ((rules.take k).foldl (fun l r => kp step r l) l, (k : Int))) rules.length (b := rules.foldl (fun l r => kp step r l) l) (fun k hk => ?_) ?_
  · have this : loopO (adversary_narrow.l1 (rules.map fun r p => adversary_filterOf_1 p r step)) (l, 0) = some (rules.foldl (fun l r => kp step r l) l) := this
    rw [this]
    rfl
  · obtain ⟨h1, h2⟩ := fold_ok step (rules.take k) hne
    unfold adversary_narrow.l1
    have hk2 : k < (rules.map fun r p => adversary_filterOf_1 p r step).length := by rw [List.length_map]; exact hk
    simp only [lt_of_len hk2, if_true, idx_nat hk2, Option.bind_some, List.getElem_map]
    rw [filter_eq (by omega) h1, Option.bind_some, letV_of, wcast hk (by omega), take_snoc hk, List.foldl_append]
    rfl
  · unfold adversary_narrow.l1
    rw [List.take_length]
    dsimp only
    rw [if_neg (by simp)]
def dl (n : network_Network) : List network_Packet := n.Packets.filter fun p => !blk n.Sides p.Message.From p.Message.To
open Classical in
noncomputable def chs (rules : List adversary_Rule) (n : network_Network) (step : Int) : Int × Bool :=
  if dl n = [] ∨ ¬ (rules.length ≤ 16 ∧ ∀ r ∈ rules, RK r) then (0, false) else ((((rules.foldl (fun l r => kp step r l) (dl n)).head?).map (·.ID)).getD 0, true)
theorem find_at (n : network_Network) (h1 : n.Packets.length ≤ 4096) (ha : Asc n.Packets) {p : network_Packet} (hp : p ∈ n.Packets) : network_Find n p.ID = some (p.Message, true) := by
  obtain ⟨k, hk, rfl⟩ := List.getElem_of_mem hp
  unfold network_Find
  rw [position_at n k h1 ha hk]
  simp only [Option.bind_some, Bool.not_true, Bool.false_eq_true, if_false]
  rw [idx_nat hk]
  rfl
theorem Choose_eq (rules : List adversary_Rule) (hr : rules.length ≤ 4096) (n : network_Network) (h1 : n.Packets.length ≤ 4096) (h2 : n.Sides.length ≤ 4096) (ha : Asc n.Packets) (step : Int) : adversary_Choose rules n step = some (chs rules n step) := by
  unfold adversary_Choose
  rw [deliverable_eq n h1 h2, Option.bind_some]
  have hdl : (dl n).length ≤ 4096 := Nat.le_trans (List.length_filter_le _ _) h1
  have hd : dlv n.Sides n.Packets = (dl n).map (·.ID) := rfl
  have hlp := loopO_up (step := adversary_Choose.l2 n (dlv n.Sides n.Packets)) (fun k => ((dl n).take k, (k : Int))) (dl n).length (b := dl n) (fun k hk => ?_) ?_
  · have hlp : loopO (adversary_Choose.l2 n (dlv n.Sides n.Packets)) ([], 0) = some (dl n) := hlp
    rw [hlp, Option.bind_some]
    unfold adversary_Choose.j3 adversary_Choose.j2 chs
    by_cases h0 : dl n = []
    · rw [if_pos (by rw [h0]; rfl), if_pos rfl, if_pos (.inl h0)]
    · rw [if_neg (by
        have := List.length_pos_iff.2 h0
        simp only [beq_iff_eq]
        omega)]
      obtain ⟨e, he, hiff⟩ := Validate_ex rules
      rw [he, Option.bind_some]
      by_cases hv : rules.length ≤ 16 ∧ ∀ r ∈ rules, RK r
      · have he0 := hiff.2 hv
        rw [show (e != 0) = false by simp [he0], if_neg (by simp), if_neg (by rintro (h | h); exact h0 h; exact h hv)]
        have hl2 := loopO_up (step := adversary_Choose.l1 rules step) (fun k => (((rules.take k).map fun r p => adversary_filterOf_1 p r step), (k : Int))) rules.length (b := rules.map fun r p => adversary_filterOf_1 p r step) (fun k hk => ?_) ?_
        · have hl2 : loopO (adversary_Choose.l1 rules step) ([], 0) = some (rules.map fun r p => adversary_filterOf_1 p r step) := hl2
          rw [hl2, Option.bind_some]
          unfold adversary_Choose.j1
          rw [narrow_eq hdl h0 rules hr, Option.bind_some]
          obtain ⟨h3, h4⟩ := fold_ok step rules h0
          obtain ⟨q, t, hq⟩ := List.exists_cons_of_ne_nil h3
          rw [hq]
          rfl
        · unfold adversary_Choose.l1 adversary_filterOf
          simp only [lt_of_len hk, if_true, idx_nat hk, Option.bind_some]
          rw [app_of (by simp only [List.length_map, List.length_take, List.length_singleton]; omega), Option.bind_some, letV_of, wcast hk (by omega), take_snoc hk, List.map_append]
          rfl
        · unfold adversary_Choose.l1
          rw [List.take_length]
          dsimp only
          rw [if_neg (by simp)]
      · have he0 : e ≠ 0 := fun h => hv (hiff.1 h)
        rw [show (e != 0) = true by simpa using he0, if_pos rfl, if_pos (.inr hv)]
  · have hk2 : k < (dlv n.Sides n.Packets).length := by rw [hd, List.length_map]; exact hk
    have hmem : (dl n)[k] ∈ n.Packets := (List.mem_filter.1 (List.getElem_mem hk)).1
    unfold adversary_Choose.l2
    simp only [lt_of_len hk2, if_true, idx_nat hk2, Option.bind_some]
    have e1 : (dlv n.Sides n.Packets)[k] = (dl n)[k].ID := by simp [hd]
    rw [e1, find_at n h1 ha hmem, Option.bind_some]
    simp only []
    rw [app_of (by simp only [List.length_take, List.length_singleton]; omega), Option.bind_some, letV_of, wcast hk (by omega), take_snoc hk]
  · unfold adversary_Choose.l2
    dsimp only
    rw [if_neg (by rw [hd]; simp), List.take_length]
end Go.Proofs.YthcohhpmpdijoaaGreatDoor
set_option linter.unusedVariables false
set_option linter.unusedSimpArgs false
namespace Go.Proofs.YthcohhpmpdijoaaGreatDoor
open Go Go.Proofs.YthcohhpmpdijoaaGreatDoorL
open Go.Lib (itoa decDigits join joinTail)
theorem dec_len : ∀ (f u : Nat), u < 10 ^ (f + 1) → (decDigits u).length ≤ f + 1
  | 0, u, h => by
    rw [decDigits, dif_pos (by omega)]
    simp
  | f + 1, u, h => by
    rw [decDigits]
    split
    · simp
    · rw [List.length_append, List.length_singleton]
      have := dec_len f (u / 10) (by rw [Nat.pow_succ] at h; omega)
      omega
theorem itoa_nat (n : Nat) : itoa (n : Int) = decDigits n := by
  unfold itoa
  rw [if_neg (by omega), Int.toNat_natCast]
theorem join_len {sep : List UInt8} {B : Nat} : ∀ xs : List (List UInt8), (∀ x ∈ xs, x.length ≤ B) → (join xs sep).length ≤ (B + sep.length) * xs.length
  | [], _ => by rw [Go.Lib.join_nil]; simp
  | x :: r, h => by
    have ht : ∀ r : List (List UInt8), (∀ x ∈ r, x.length ≤ B) → (joinTail sep r).length ≤ (B + sep.length) * r.length := by
      intro r
      induction r with
      | nil => intro _; simp [joinTail]
      | cons y r ih =>
        intro h
        have h1 := h y (by simp)
        have h2 := ih fun z hz => h z (by simp [hz])
        unfold joinTail at h2 ⊢
        rw [List.map_cons, List.flatten_cons, List.length_append, List.length_append, List.length_cons, Nat.mul_add, Nat.mul_one]
        omega
    have h1 := h x (by simp)
    have h2 := ht r fun z hz => h z (by simp [hz])
    rw [Go.Lib.join_cons, List.length_append, List.length_cons, Nat.mul_add, Nat.mul_one]
    omega
theorem join_snoc {sep x : List UInt8} : ∀ {xs : List (List UInt8)}, xs ≠ [] → join (xs ++ [x]) sep = join xs sep ++ sep ++ x
  | [], h => absurd rfl h
  | y :: r, _ => by
    rw [List.cons_append, Go.Lib.join_cons, Go.Lib.join_cons]
    unfold joinTail
    rw [List.map_append, List.flatten_append]
    simp
def fm (r : adversary_Rule) : List UInt8 := words_.getD r.Kind.toNat [] ++ (if r.Kind ≤ 6 then 32 :: itoa r.Arg else [])
theorem words_len : ∀ x ∈ words_, x.length ≤ 11 := by decide
theorem word_at {k : Int} (h1 : 1 ≤ k) (h2 : k ≤ 9) : idx words_ k = some (words_.getD k.toNat []) := by
  have hl : k.toNat < words_.length := by show k.toNat < 10; omega
  unfold idx
  rw [if_pos (by omega), List.getElem?_eq_getElem hl]
  simp [hl]
theorem word_len (k : Nat) : (words_.getD k []).length ≤ 11 := by
  by_cases h : k < words_.length
  · have := words_len _ (List.getElem_mem h)
    simpa [h] using this
  · simp [h]
theorem arg_nat {r : adversary_Rule} (h : RK r) : ∃ n : Nat, r.Arg = n ∧ n ≤ 1000 := by
  by_cases h6 : r.Kind ≤ 6
  · have := h.arg h6
    exact ⟨r.Arg.toNat, by omega, by omega⟩
  · exact ⟨0, h.no (by omega), by omega⟩
theorem fm_len {r : adversary_Rule} (h : RK r) : (fm r).length ≤ 20 := by
  unfold fm
  have h1 := word_len r.Kind.toNat
  obtain ⟨n, hn, hn2⟩ := arg_nat h
  have h2 := dec_len 3 n (by omega)
  rw [List.length_append]
  split
  · rw [hn, itoa_nat, List.length_cons]; omega
  · rw [List.length_nil]; omega
theorem cat_of {a b : List UInt8} (h : a.length + b.length ≤ 9223372036854775807) : cat a b = some (a ++ b) := if_pos h
theorem Itoa_eq {r : adversary_Rule} (h : RK r) : strconv_Itoa r.Arg = some (itoa r.Arg) := by
  obtain ⟨n, hn, hn2⟩ := arg_nat h
  unfold strconv_Itoa
  rw [if_pos (by omega)]
theorem itoa_len {r : adversary_Rule} (h : RK r) : (itoa r.Arg).length ≤ 4 := by
  obtain ⟨n, hn, hn2⟩ := arg_nat h
  have h2 := dec_len 3 n (by omega)
  rw [hn, itoa_nat]
  exact h2
open Classical in
noncomputable def fmts (l : List adversary_Rule) : List UInt8 := if l.length ≤ 16 ∧ ∀ r ∈ l, RK r then join (l.map fm) [59, 32] else []
theorem Format_eq (l : List adversary_Rule) : adversary_Format l = some (fmts l) := by
  unfold adversary_Format fmts
  obtain ⟨e, he, hiff⟩ := Validate_ex l
  rw [he, Option.bind_some]
  by_cases hv : l.length ≤ 16 ∧ ∀ r ∈ l, RK r
  · rw [if_pos hv, if_neg (by simp [hiff.2 hv])]
    obtain ⟨hl, hr⟩ := hv
    have := loopO_up (step := adversary_Format.l1 l) (fun k => ((l.take k).map fm, (k : Int))) l.length (b := l.map fm) (fun k hk => ?_) ?_
    · have this : loopO (adversary_Format.l1 l) ([], 0) = some (l.map fm) := this
      rw [this, Option.bind_some]
      unfold adversary_Format.j1 strings_Join
      have hb := join_len (sep := [59, 32]) (B := 20) (l.map fm) (by
        intro x hx
        obtain ⟨r, h1, rfl⟩ := List.mem_map.1 hx
        exact fm_len (hr r h1))
      rw [List.length_map] at hb
      have hb2 : (20 + ([59, 32] : List UInt8).length) * l.length ≤ 400 := by show 22 * l.length ≤ 400; omega
      rw [if_pos ⟨by rw [List.length_map]; omega, by omega⟩]
      rfl
    · have hrk := hr _ (List.getElem_mem hk)
      have w1 := word_len l[k].Kind.toNat
      have i1 := itoa_len hrk
      unfold adversary_Format.l1
      simp only [lt_of_len hk, if_true, idx_nat hk, Option.bind_some]
      rw [word_at hrk.lo hrk.hi, Option.bind_some]
      have j2 : ∀ x : List UInt8, x = fm l[k] → adversary_Format.j2 ((l.take k).map fm) (k : Int) x = some (.inl ((l.take (k + 1)).map fm, ((k + 1 : Nat) : Int))) := by
        rintro x rfl
        unfold adversary_Format.j2
        rw [app_of (by simp only [List.length_map, List.length_take, List.length_singleton]; omega), Option.bind_some, letV_of, wcast hk (by omega), take_snoc hk, List.map_append]
        rfl
      by_cases h6 : l[k].Kind ≤ 6
      · rw [if_pos (by simpa using h6), Itoa_eq hrk, Option.bind_some, cat_of (by simp only [List.length_singleton]; omega), Option.bind_some, cat_of (by simp only [List.length_append, List.length_singleton]; omega), Option.bind_some]
        exact j2 _ (by unfold fm; rw [if_pos h6]; rfl)
      · rw [if_neg (by simpa using h6)]
        exact j2 _ (by unfold fm; rw [if_neg h6, List.append_nil])
    · unfold adversary_Format.l1
      simp only [not_lt_len, Bool.false_eq_true, if_false, List.take_length]
  · rw [if_neg hv, if_pos (by
      have : e ≠ 0 := fun h => hv (hiff.1 h)
      simpa using this)]
theorem decimalF_eq : ∀ (f n : Nat), n < 10 ^ (f + 1) → f ≤ 5 → decimalF (f + 1) (n : Int) = some (decDigits n)
  | 0, n, h, _ => by
    have h10 : n < 10 := by omega
    unfold decimalF
    rw [if_pos (by simp; omega), letV_of, decDigits, dif_pos h10]
    have : ∀ m : Nat, m < 10 → some (bts [IntKind.u8.wrap (IntKind.i64.wrap (48 + (m : Int)))]) = some [UInt8.ofNat (48 + m)] := by decide
    exact this n h10
  | f + 1, n, h, hf => by
    unfold decimalF
    by_cases h10 : n < 10
    · rw [if_pos (by simp; omega), letV_of, decDigits, dif_pos h10]
      have : ∀ m : Nat, m < 10 → some (bts [IntKind.u8.wrap (IntKind.i64.wrap (48 + (m : Int)))]) = some [UInt8.ofNat (48 + m)] := by decide
      exact this n h10
    · have hn : n < 10 ^ (f + 1) * 10 := by rw [← Nat.pow_succ]; exact h
      have hb : n < 10000000 := by
        have : 10 ^ (f + 1 + 1) ≤ 10 ^ 7 := Nat.pow_le_pow_right (by decide) (by omega)
        omega
      rw [if_neg (by simp; omega), letV_of]
      have t1 : Int.tdiv (n : Int) 10 = ((n / 10 : Nat) : Int) := rfl
      have t2 : Int.tmod (n : Int) 10 = ((n % 10 : Nat) : Int) := rfl
      rw [t1, t2, w64 (x := ((n / 10 : Nat) : Int)) (by omega) (by omega), decimalF_eq f (n / 10) (by omega) (by omega), Option.bind_some, decimalF_eq f (n % 10) (by
        have : 10 ^ 1 ≤ 10 ^ (f + 1) := Nat.pow_le_pow_right (by decide) (by omega)
        omega) (by omega), Option.bind_some]
      have l1 := dec_len f (n / 10) (by omega)
      have e2 : decDigits (n % 10) = [UInt8.ofNat (48 + n % 10)] := by rw [decDigits, dif_pos (by omega)]
      rw [e2, cat_of (by rw [List.length_singleton]; omega), Option.bind_some]
      conv => rhs; rw [decDigits, dif_neg h10]
theorem decimal_eq {r : adversary_Rule} (h : RK r) : esref36_decimal r.Arg = some (itoa r.Arg) := by
  obtain ⟨n, hn, hn2⟩ := arg_nat h
  unfold esref36_decimal
  rw [hn, decimalF_eq 5 n (by omega) (by decide), itoa_nat]
theorem refValidate_eq (l : List adversary_Rule) : esref36_ValidateRules l = adversary_Validate l := by
  unfold esref36_ValidateRules adversary_Validate
  have : esref36_ValidateRules.l1 l = adversary_Validate.l1 l := by
    funext s
    unfold esref36_ValidateRules.l1 adversary_Validate.l1
    have j2 : ∀ (s : Int) b, esref36_ValidateRules.j2 s b = adversary_Validate.j2 s b := fun _ _ => rfl
    have j3 : ∀ (s : Int) r b, esref36_ValidateRules.j3 s r b = adversary_Validate.j3 s r b := by
      intro s r b
      unfold esref36_ValidateRules.j3 adversary_Validate.j3
      have : decide (7 ≤ r.Kind) = decide (6 < r.Kind) := by rw [decide_eq_decide]; omega
      simp only [this, j2]
    simp only [j3]
  rw [this]
  rfl
theorem refFormat_eq (l : List adversary_Rule) : esref36_Format l = some (fmts l) := by
  unfold esref36_Format fmts
  rw [refValidate_eq]
  obtain ⟨e, he, hiff⟩ := Validate_ex l
  rw [he, Option.bind_some]
  by_cases hv : l.length ≤ 16 ∧ ∀ r ∈ l, RK r
  · rw [if_pos hv, if_neg (by simp [hiff.2 hv])]
    obtain ⟨hl, hr⟩ := hv
    have := loopO_up (step := esref36_Format.l1 l) (fun k => (join ((l.take k).map fm) [59, 32], (k : Int))) l.length (b := join (l.map fm) [59, 32]) (fun k hk => ?_) ?_
    · have this : loopO (esref36_Format.l1 l) ([], 0) = some (join (l.map fm) [59, 32]) := this
      rw [this]
      rfl
    · have hrk := hr _ (List.getElem_mem hk)
      have w1 := word_len l[k].Kind.toNat
      have i1 := itoa_len hrk
      have hb := join_len (sep := [59, 32]) (B := 20) ((l.take k).map fm) (by
        intro x hx
        obtain ⟨r, h1, rfl⟩ := List.mem_map.1 hx
        exact fm_len (hr r (List.mem_of_mem_take h1)))
      rw [List.length_map, List.length_take] at hb
      have hb2 : (20 + ([59, 32] : List UInt8).length) * min k l.length ≤ 400 := by show 22 * min k l.length ≤ 400; omega
      have j3 : ∀ acc : List UInt8, acc.length ≤ 500 → join ((l.take (k + 1)).map fm) [59, 32] = acc ++ fm l[k] → esref36_Format.j3 l (k : Int) acc = some (.inl (join ((l.take (k + 1)).map fm) [59, 32], ((k + 1 : Nat) : Int))) := by
        intro acc ha hacc
        unfold esref36_Format.j3
        have k1 := hrk.lo
        have k2 := hrk.hi
        simp only [idx_nat hk, Option.bind_some, letV_of]
        rw [w64 (x := l[k].Kind - 1) (by omega) (by omega)]
        have hw : ∀ m : Nat, 1 ≤ m → m ≤ 9 → idx ([([112, 114, 101, 102, 101, 114, 32, 116, 111, 32] : List UInt8), ([112, 114, 101, 102, 101, 114, 32, 102, 114, 111, 109, 32] : List UInt8), ([112, 114, 101, 102, 101, 114, 32, 107, 105, 110, 100, 32] : List UInt8), ([97, 118, 111, 105, 100, 32, 116, 111, 32] : List UInt8), ([97, 118, 111, 105, 100, 32, 102, 114, 111, 109, 32] : List UInt8), ([97, 118, 111, 105, 100, 32, 107, 105, 110, 100, 32] : List UInt8), ([111, 108, 100, 101, 115, 116] : List UInt8), ([110, 101, 119, 101, 115, 116] : List UInt8), ([114, 111, 116, 97, 116, 101] : List UInt8)] : List (List UInt8)) ((m : Int) - 1) = some (words_.getD m [] ++ (if m ≤ 6 then [32] else [])) := by
          intro m h1 h2
          have : ∀ m : Fin 10, 1 ≤ m.val → idx ([([112, 114, 101, 102, 101, 114, 32, 116, 111, 32] : List UInt8), ([112, 114, 101, 102, 101, 114, 32, 102, 114, 111, 109, 32] : List UInt8), ([112, 114, 101, 102, 101, 114, 32, 107, 105, 110, 100, 32] : List UInt8), ([97, 118, 111, 105, 100, 32, 116, 111, 32] : List UInt8), ([97, 118, 111, 105, 100, 32, 102, 114, 111, 109, 32] : List UInt8), ([97, 118, 111, 105, 100, 32, 107, 105, 110, 100, 32] : List UInt8), ([111, 108, 100, 101, 115, 116] : List UInt8), ([110, 101, 119, 101, 115, 116] : List UInt8), ([114, 111, 116, 97, 116, 101] : List UInt8)] : List (List UInt8)) ((m.val : Int) - 1) = some (words_.getD m.val [] ++ (if m.val ≤ 6 then [32] else [])) := by decide
          exact this ⟨m, by omega⟩ h1
        obtain ⟨m, hm⟩ : ∃ m : Nat, l[k].Kind = m := ⟨l[k].Kind.toNat, by omega⟩
        rw [hm] at k1 k2
        have hfm : fm l[k] = words_.getD m [] ++ (if m ≤ 6 then 32 :: itoa l[k].Arg else []) := by
          unfold fm
          rw [hm, Int.toNat_natCast]
          congr 1
          by_cases h6 : m ≤ 6
          · rw [if_pos h6, if_pos (by omega)]
          · rw [if_neg h6, if_neg (by omega)]
        rw [hm, hw m (by omega) (by omega), Option.bind_some]
        have w2 : (words_.getD m []).length ≤ 11 := word_len m
        have j2 : ∀ x, x = acc ++ fm l[k] → esref36_Format.j2 (k : Int) x = some (.inl (join ((l.take (k + 1)).map fm) [59, 32], ((k + 1 : Nat) : Int))) := by
          rintro x rfl
          unfold esref36_Format.j2
          rw [letV_of, wcast hk (by omega), hacc]
        by_cases h6 : m ≤ 6
        · rw [if_pos h6, cat_of (by simp only [List.length_append, List.length_singleton]; omega), Option.bind_some, if_pos (by simp; omega), decimal_eq hrk, Option.bind_some, cat_of (by simp only [List.length_append, List.length_singleton]; omega), Option.bind_some]
          exact j2 _ (by rw [hfm, if_pos h6]; simp)
        · rw [if_neg h6, List.append_nil, cat_of (by omega), Option.bind_some, if_neg (by simp; omega)]
          exact j2 _ (by rw [hfm, if_neg h6, List.append_nil])
      unfold esref36_Format.l1
      simp only [lt_of_len hk, if_true]
      by_cases h0 : 0 < k
      · rw [if_pos (by simp; omega), cat_of (by simp only [List.length_cons, List.length_nil]; omega), Option.bind_some]
        refine j3 _ (by simp only [List.length_append, List.length_cons, List.length_nil]; omega) ?_
        rw [take_snoc hk, List.map_append, List.map_singleton, join_snoc (fun h => by
          have := congrArg List.length h
          rw [List.length_map, List.length_take, List.length_nil] at this
          omega)]
      · have hk0 : k = 0 := by omega
        rw [if_neg (by simp; omega)]
        subst hk0
        refine j3 _ (by simp [Go.Lib.join_nil]) ?_
        rw [take_snoc hk]
        simp [Go.Lib.join_nil, Go.Lib.join_one]
    · unfold esref36_Format.l1
      simp only [not_lt_len, Bool.false_eq_true, if_false, List.take_length]
  · rw [if_neg hv, if_pos (by
      have : e ≠ 0 := fun h => hv (hiff.1 h)
      simpa using this)]
end Go.Proofs.YthcohhpmpdijoaaGreatDoor
set_option linter.unusedVariables false
set_option linter.unusedSimpArgs false
set_option maxRecDepth 4000
namespace Go.Proofs.YthcohhpmpdijoaaGreatDoor
open Go Go.Proofs.YthcohhpmpdijoaaGreatDoorL
abbrev exA : List UInt8 := [112, 114, 101, 102, 101, 114, 32, 107, 105, 110, 100, 32, 50]
abbrev exB : List UInt8 := [110, 101, 119, 101, 115, 116]
abbrev exR : List adversary_Rule := [⟨3, 2⟩, ⟨8, 0⟩]
theorem exR_ok : exR.length ≤ 16 ∧ ∀ r ∈ exR, RK r := by
  refine ⟨by decide, fun r hr => ?_⟩
  simp at hr
  rcases hr with rfl | rfl
  · exact ⟨by decide, by decide, fun _ => by decide, fun h => absurd h (by decide)⟩
  · exact ⟨by decide, by decide, fun h => absurd h (by decide), fun _ => rfl⟩
theorem ex_parseA : adversary_parseRule exA = some ⟨3, 2⟩ := by
  unfold adversary_parseRule
  rw [loopO_next (s' := (2, 0, 0)) (by rfl), loopO_next (s' := (3, 0, 0)) (by rfl), loopO_done (b := .inr ⟨3, 2⟩) (by rfl)]
  rfl
theorem ex_parseB : adversary_parseRule exB = some ⟨8, 0⟩ := by
  unfold adversary_parseRule
  rw [loopO_next (s' := (2, 0, 0)) (by rfl), loopO_next (s' := (3, 0, 0)) (by rfl), loopO_next (s' := (4, 0, 0)) (by rfl), loopO_next (s' := (5, 0, 0)) (by rfl), loopO_next (s' := (6, 0, 0)) (by rfl), loopO_next (s' := (7, 0, 0)) (by rfl), loopO_next (s' := (8, 0, 0)) (by rfl), loopO_done (b := .inr ⟨8, 0⟩) (by rfl)]
  rfl
theorem ex_fmts : fmts exR = exA ++ [59, 32] ++ exB := by
  unfold fmts
  rw [if_pos exR_ok]
  have h1 : fm ⟨3, 2⟩ = exA := by
    unfold fm
    show _ ++ (if (3 : Int) ≤ 6 then 32 :: Go.Lib.itoa ((2 : Nat) : Int) else []) = exA
    rw [show Go.Lib.itoa ((2 : Nat) : Int) = [50] from by rw [itoa_nat, Go.Lib.decDigits, dif_pos (by decide)]; rfl]
    rfl
  have h2 : fm ⟨8, 0⟩ = exB := by rfl
  rw [List.map_cons, List.map_cons, List.map_nil, h1, h2]
  rfl
theorem ex_parse : adversary_Parse (exA ++ [59, 32] ++ exB) = some (exR, 0) := by
  unfold adversary_Parse
  have hs : strings_Split (exA ++ [59, 32] ++ exB) [59, 32] = some [exA, exB] := by
    unfold strings_Split
    rw [if_pos (by decide)]
    congr 1
  rw [if_neg (by decide), hs, Option.bind_some]
  have hl : loopO (adversary_Parse.l1 [exA, exB]) ([], 0) = some exR := by
    rw [loopO_next (s' := ([⟨3, 2⟩], 1)) (by unfold adversary_Parse.l1; dsimp only; rw [if_pos (by decide), show idx [exA, exB] 0 = some exA from rfl, Option.bind_some, ex_parseA]; rfl),
      loopO_next (s' := ([⟨3, 2⟩, ⟨8, 0⟩], 2)) (by unfold adversary_Parse.l1; dsimp only; rw [if_pos (by decide), show idx [exA, exB] 1 = some exB from rfl, Option.bind_some, ex_parseB]; rfl),
      loopO_done (b := exR) (by rfl)]
  rw [hl, Option.bind_some]
  unfold adversary_Parse.j1
  rw [Format_eq, Option.bind_some, ex_fmts, if_neg (by simp)]
abbrev exM : List api_Message := [msg 2 1 2 0, msg 1 2 3 0, msg 2 3 1 0]
abbrev exN : network_Network := ⟨4, [⟨1, msg 2 1 2 0⟩, ⟨2, msg 1 2 3 0⟩, ⟨3, msg 2 3 1 0⟩], []⟩
theorem ex_asc : Asc exN.Packets := by
  unfold Asc
  decide
theorem chs_ex {n : network_Network} {step : Int} {id : Int} (h : dl n ≠ []) (hc : ((exR.foldl (fun l r => kp step r l) (dl n)).head?).map (·.ID) = some id) : chs exR n step = (id, true) := by
  unfold chs
  rw [if_neg (by rintro (h' | h'); exact h h'; exact h' exR_ok), hc]
  rfl
theorem ex_order : adversary_Order exR exN = some [3, 1, 2] := by
  unfold adversary_Order
  have c0 := Choose_eq exR (by decide) exN (by decide) (by decide) ex_asc 0
  rw [chs_ex (id := 3) (by decide) (by decide)] at c0
  have d0 := deliver_at exN 2 (by decide) (by decide) ex_asc (by decide)
  obtain ⟨n1, hn1⟩ : ∃ n1 : network_Network, n1 = ⟨4, [⟨1, msg 2 1 2 0⟩, ⟨2, msg 1 2 3 0⟩], []⟩ := ⟨_, rfl⟩
  obtain ⟨n2, hn2⟩ : ∃ n2 : network_Network, n2 = ⟨4, [⟨2, msg 1 2 3 0⟩], []⟩ := ⟨_, rfl⟩
  obtain ⟨n3, hn3⟩ : ∃ n3 : network_Network, n3 = ⟨4, [], []⟩ := ⟨_, rfl⟩
  have d0 : network_Deliver exN 3 = some (n1, msg 2 3 1 0, true) := by rw [hn1]; exact d0
  have a1 : Asc n1.Packets := by rw [hn1]; unfold Asc; decide
  have a2 : Asc n2.Packets := by rw [hn2]; unfold Asc; decide
  have a3 : Asc n3.Packets := by rw [hn3]; unfold Asc; decide
  have c1 := Choose_eq exR (by decide) n1 (by rw [hn1]; decide) (by rw [hn1]; decide) a1 1
  rw [chs_ex (id := 1) (by rw [hn1]; decide) (by rw [hn1]; decide)] at c1
  have d1 := deliver_at n1 0 (by rw [hn1]; decide) (by rw [hn1]; decide) a1 (by rw [hn1]; decide)
  have d1 : network_Deliver n1 1 = some (n2, msg 2 1 2 0, true) := by subst hn1; rw [hn2]; exact d1
  have c2 := Choose_eq exR (by decide) n2 (by rw [hn2]; decide) (by rw [hn2]; decide) a2 2
  rw [chs_ex (id := 2) (by rw [hn2]; decide) (by rw [hn2]; decide)] at c2
  have d2 := deliver_at n2 0 (by rw [hn2]; decide) (by rw [hn2]; decide) a2 (by rw [hn2]; decide)
  have d2 : network_Deliver n2 2 = some (n3, msg 1 2 3 0, true) := by subst hn2; rw [hn3]; exact d2
  have c3 := Choose_eq exR (by decide) n3 (by rw [hn3]; decide) (by rw [hn3]; decide) a3 3
  have e3 : chs exR n3 3 = (0, false) := by
    unfold chs
    rw [if_pos (.inl (by rw [hn3]; rfl))]
  rw [e3] at c3
  rw [loopO_next (s' := ([3], n1)) (by
      unfold adversary_Order.l1
      dsimp only
      have c0 : adversary_Choose exR exN ((([] : List Int).length : Nat) : Int) = some (3, true) := c0
      rw [c0, Option.bind_some]
      dsimp only
      rw [if_pos rfl, d0]
      rfl),
    loopO_next (s' := ([3, 1], n2)) (by
      unfold adversary_Order.l1
      dsimp only
      have c1 : adversary_Choose exR n1 ((([3] : List Int).length : Nat) : Int) = some (1, true) := c1
      rw [c1, Option.bind_some]
      dsimp only
      rw [if_pos rfl, d1]
      rfl),
    loopO_next (s' := ([3, 1, 2], n3)) (by
      unfold adversary_Order.l1
      dsimp only
      have c2 : adversary_Choose exR n2 ((([3, 1] : List Int).length : Nat) : Int) = some (2, true) := c2
      rw [c2, Option.bind_some]
      dsimp only
      rw [if_pos rfl, d2]
      rfl),
    loopO_done (b := [3, 1, 2]) (by
      unfold adversary_Order.l1
      dsimp only
      have c3 : adversary_Choose exR n3 ((([3, 1, 2] : List Int).length : Nat) : Int) = some (0, false) := c3
      rw [c3, Option.bind_some]
      rfl)]
  rfl
theorem awake_true : eslaw36_awake = some true := by
  unfold eslaw36_awake
  have hN : network_New = some ⟨1, [], []⟩ := rfl
  have hS := send_eq ⟨1, [], []⟩ exM (by decide) (by decide) (by decide) (by decide) (by decide)
  have hS : network_Send (⟨1, [], []⟩ : network_Network) exM = some exN := hS
  have hc := Choose_eq exR (by decide) exN (by decide) (by decide) ex_asc 0
  rw [chs_ex (id := 3) (by decide) (by decide)] at hc
  rw [hN, Option.bind_some]
  have hS' : network_Send (⟨1, [], []⟩ : network_Network) ([(⟨2, 1, 2, (⟨0, 0⟩ : api_AccessID), 0, 0, (⟨[], []⟩ : api_Certificate), (⟨[], []⟩ : api_Certificate), false, (⟨[], []⟩ : api_Certificate), [], [], [], false⟩ : api_Message), (⟨1, 2, 3, (⟨0, 0⟩ : api_AccessID), 0, 0, (⟨[], []⟩ : api_Certificate), (⟨[], []⟩ : api_Certificate), false, (⟨[], []⟩ : api_Certificate), [], [], [], false⟩ : api_Message), (⟨2, 3, 1, (⟨0, 0⟩ : api_AccessID), 0, 0, (⟨[], []⟩ : api_Certificate), (⟨[], []⟩ : api_Certificate), false, (⟨[], []⟩ : api_Certificate), [], [], [], false⟩ : api_Message)]) = some exN := hS
  rw [hS', Option.bind_some]
  have hp : adversary_Parse ([112, 114, 101, 102, 101, 114, 32, 107, 105, 110, 100, 32, 50, 59, 32, 110, 101, 119, 101, 115, 116] : List UInt8) = some (exR, 0) := ex_parse
  rw [hp, Option.bind_some]
  dsimp only
  have hc' : adversary_Choose exR (⟨exN.Next, exN.Packets, exN.Sides⟩ : network_Network) 0 = some (3, true) := hc
  have ho' : adversary_Order exR (⟨exN.Next, exN.Packets, exN.Sides⟩ : network_Network) = some [3, 1, 2] := ex_order
  rw [hc', Option.bind_some]
  dsimp only
  rw [ho', Option.bind_some, if_pos (by decide), if_pos (by decide), if_pos rfl, if_pos (by decide), if_pos (by decide), show idx ([3, 1, 2] : List Int) 1 = some 1 from rfl, Option.bind_some, if_pos (by decide), show idx ([3, 1, 2] : List Int) 2 = some 2 from rfl, Option.bind_some, if_pos (by decide), Format_eq, Option.bind_some, ex_fmts]
  rfl
end Go.Proofs.YthcohhpmpdijoaaGreatDoor
set_option linter.unusedVariables false
set_option linter.unusedSimpArgs false
set_option linter.unusedSectionVars false
namespace Go.Proofs.YthcohhpmpdijoaaGreatDoor
open Go Go.Proofs.YthcohhpmpdijoaaGreatDoorL
theorem part_fold (t : List (Int × Int)) (acc : List network_Side) (h : (acc.length + t.length) * 16 ≤ 140737488355328) : foldO (fun p : Int × Int => network_Partition.l1 p.1 p.2) t acc = some (.inl (acc ++ partL t)) := by
  induction t generalizing acc with
  | nil => simp [foldO, partL]
  | cons e t ih =>
    simp only [List.length_cons] at h
    by_cases he : e.2 = 0
    · have hs : network_Partition.l1 e.1 e.2 acc = some (.inl acc) := by simp [network_Partition.l1, he]
      rw [foldO, hs]
      simp only
      rw [ih acc (by omega)]
      simp [partL, he]
    · have hs : network_Partition.l1 e.1 e.2 acc = some (.inl (acc ++ [⟨e.1, e.2⟩])) := by
        simp only [network_Partition.l1]
        rw [if_pos (by simpa using he), app_of (by simp only [List.length_cons, List.length_nil]; omega)]
        rfl
      rw [foldO, hs]
      simp only
      rw [ih _ (by simp only [List.length_append, List.length_cons, List.length_nil]; omega)]
      simp [partL, he]
theorem partition_eq (n : network_Network) (sides : List network_Side) (h1 : n.Packets.length ≤ 4096) (h2 : n.Sides.length ≤ 4096) (h3 : sides.length ≤ 4096) : network_Partition n sides = some ⟨n.Next, n.Packets, partS sides⟩ := by
  unfold network_Partition
  rw [clone_eq ⟨n.Next, n.Packets, n.Sides⟩ h1 h2]
  simp only [Option.bind_some]
  have hl := loopO_up (step := network_Partition.l2 sides) (fun k => (partM (sides.take k), (k : Int))) sides.length (b := partM sides) ?_ ?_
  · have e : (partM (sides.take 0), ((0 : Nat) : Int)) = ([], 0) := rfl
    rw [e] at hl
    rw [hl]
    simp only [Option.bind_some, network_Partition.j2]
    obtain ⟨hn, hlen⟩ := partM_keys sides
    refine permI fun τ hτ => ?_
    have hτl := hτ.length_eq
    rw [part_fold τ [] (by simp; omega)]
    simp only [Option.bind_some, List.nil_append, network_Partition.j1, slices_SortFunc_Side]
    have hn' : (τ.map (·.1)).Nodup := (hτ.map (·.1)).nodup_iff.2 hn
    have hp := partL_pairwise hn'
    have hsort : sortU (fun a b : network_Side => decide (a.Process < b.Process)) (partL τ) = some ((partL τ).mergeSort fun a b => !decide (b.Process < a.Process)) := by
      have := partL_length τ
      exact if_pos ⟨hp, by omega⟩
    rw [hsort]
    simp only [Option.bind_some, Option.some.injEq, network_Network.mk.injEq, true_and]
    have hO := swo_key fun x : network_Side => x.Process
    have hperm : (partL τ).Perm (partL (partM sides)) := (hτ.filter _).map _
    have hsort2 : sortU (fun a b : network_Side => decide (a.Process < b.Process)) (partL (partM sides)) = some (partS sides) := by
      have := partL_length (partM sides)
      exact if_pos ⟨partL_pairwise hn, by omega⟩
    exact sort_unique hO hp (sortU_perm hsort) ((sortU_perm hsort2).trans hperm.symm) (sortU_sorted hO hsort) (sortU_sorted hO hsort2)
  · intro k hk
    simp only [network_Partition.l2]
    rw [if_pos (by simpa using hk), idx_nat hk]
    simp only [Option.bind_some, letV_of]
    rw [w64n (by omega), take_snoc hk]
    simp only [partM, List.foldl_append, List.foldl_cons, List.foldl_nil]
  · simp only [network_Partition.l2]
    rw [if_neg (by simp), List.take_of_length_le (Nat.le_refl _)]
theorem refside_eq (n : network_Network) (p : Int) (h : n.Sides.length ≤ 4096) : esref36_side n p = some (sd n.Sides p) := by
  unfold esref36_side
  have key : ∃ b : Unit ⊕ Int, loopO (esref36_side.l1 n p) 0 = some b ∧ (match b with | .inl _ => 0 | .inr v => v) = sd n.Sides p := by
    refine loopO_ex (fun k s => s = (k : Int) ∧ sd n.Sides p = sd (n.Sides.drop k) p) n.Sides.length ⟨rfl, rfl⟩ (fun k s hk hI => ?_) (fun s hI => ?_)
    · obtain ⟨rfl, hI⟩ := hI
      simp only [esref36_side.l1]
      rw [if_pos (by simpa using hk), idx_nat hk]
      simp only [Option.bind_some, letV_of]
      rw [List.drop_eq_getElem_cons hk, sd] at hI
      by_cases hp : n.Sides[k].Process == p
      · rw [if_pos hp] at hI ⊢
        exact .inr ⟨_, rfl, hI.symm⟩
      · rw [if_neg hp] at hI ⊢
        exact .inl ⟨_, rfl, by rw [w64n (by omega)], hI⟩
    · obtain ⟨rfl, hI⟩ := hI
      simp only [esref36_side.l1]
      rw [if_neg (by simp)]
      refine ⟨_, rfl, ?_⟩
      rw [List.drop_length] at hI
      exact hI.symm
  obtain ⟨b, hb, hq⟩ := key
  rw [hb]
  simp only [Option.bind_some]
  cases b with
  | inl u => simp only [esref36_side.j1]; rw [← hq]
  | inr v => simp only [← hq]
theorem refblocked_eq (n : network_Network) (f t : Int) (h : n.Sides.length ≤ 4096) : esref36_Blocked n f t = some (blk n.Sides f t) := by
  unfold esref36_Blocked
  rw [refside_eq n f h, refside_eq n t h]
  rfl
end Go.Proofs.YthcohhpmpdijoaaGreatDoor
set_option linter.unusedVariables false
set_option linter.unusedSimpArgs false
namespace Go.Proofs.YthcohhpmpdijoaaGreatDoor
open Go Go.Proofs.YthcohhpmpdijoaaGreatDoorL
theorem Index_ex (n k : Int) (h1 : 1 ≤ k) (h2 : k ≤ 4611686018427387904) : ∃ d, eslaw00_Index n k = some d ∧ 0 ≤ d ∧ d < k := by
  unfold eslaw00_Index
  rw [if_neg (by simp; omega), if_pos (by omega)]
  have e1 : Int.tmod n k < k := Int.tmod_lt_of_pos _ (by omega)
  have e2 : -k < Int.tmod n k := by
    have : Int.tmod (-n) k < k := Int.tmod_lt_of_pos _ (by omega)
    rw [Int.neg_tmod] at this
    omega
  simp only [letV_of]
  rw [w64 (by omega) (by omega), if_pos (by omega)]
  exact ⟨_, rfl, Int.tmod_nonneg _ (by omega), Int.tmod_lt_of_pos _ (by omega)⟩
theorem Digit_ex (n b : Int) (i : Nat) (h1 : 2 ≤ b) (h2 : b ≤ 16) (hi : i ≤ 100000) : ∃ d, eslaw00_Digit n b (i : Int) = some d ∧ 0 ≤ d ∧ d < b := by
  obtain ⟨x, hx, hx0, hx1⟩ := Index_ex n 1099511627776 (by decide) (by decide)
  unfold eslaw00_Digit
  rw [hx]
  simp only [Option.bind_some]
  have key : ∃ r, loopO (eslaw00_Digit.l1 b (i : Int)) (x, 0) = some r ∧ 0 ≤ r := by
    refine loopO_inv (fun k s => ∃ y : Int, s = (y, (k : Int)) ∧ 0 ≤ y ∧ y < 1099511627776) i ⟨x, rfl, hx0, hx1⟩ (fun k s hk hI => ?_) (fun s hI => ?_)
    · obtain ⟨y, rfl, h3, h4⟩ := hI
      simp only [eslaw00_Digit.l1]
      rw [if_pos (by simpa using hk), if_pos (by omega)]
      have h5 : 0 ≤ Int.tdiv y b := Int.tdiv_nonneg h3 (by omega)
      have h6 : Int.tdiv y b ≤ y := by
        rw [Int.tdiv_eq_ediv_of_nonneg h3]
        exact Int.ediv_le_self _ h3
      simp only [letV_of]
      rw [w64 (x := Int.tdiv y b) (by omega) (by omega), wcast hk (by omega)]
      exact ⟨_, rfl, _, rfl, h5, by omega⟩
    · obtain ⟨y, rfl, h3, h4⟩ := hI
      simp only [eslaw00_Digit.l1]
      rw [if_neg (by simp)]
      exact ⟨_, rfl, h3⟩
  obtain ⟨r, hr, hr0⟩ := key
  rw [hr]
  simp only [Option.bind_some, eslaw00_Digit.j1]
  rw [if_pos (by omega)]
  exact ⟨_, rfl, Int.tmod_nonneg _ hr0, Int.tmod_lt_of_pos _ (by omega)⟩
structure NK (n : network_Network) : Prop where
  len : n.Packets.length ≤ 24
  sides : n.Sides = []
  asc : Asc n.Packets
theorem part0 : partS [⟨1, 0⟩, ⟨2, 0⟩, ⟨3, 0⟩] = [] := by
  have := partS_length [⟨1, 0⟩, ⟨2, 0⟩, ⟨3, 0⟩]
  unfold partS
  have e : partL (partM [⟨1, 0⟩, ⟨2, 0⟩, ⟨3, 0⟩]) = [] := by decide
  rw [e]
  exact List.mergeSort_nil
theorem packets_ex (l : List Int) : ∃ n, eslaw36_packets l 0 = some n ∧ NK n := by
  unfold eslaw36_packets
  rw [show network_New = some ⟨1, [], []⟩ from rfl, Option.bind_some]
  have key : ∃ b, loopO (eslaw36_packets.l1 l) (0, 1, [], []) = some b ∧ (b.2.2 = [] ∧ b.2.1.length ≤ 24 ∧ Asc b.2.1 ∧ 0 ≤ b.1 ∧ b.1 ≤ 100) := by
    refine loopO_mu (fun s : Int × Int × List network_Packet × List network_Side => ∃ k : Nat, s.1 = k ∧ k ≤ 24 ∧ s.2.1 = 1 + (k : Int) ∧ s.2.2.1.length = k ∧ s.2.2.2 = [] ∧ Asc s.2.2.1 ∧ ∀ p ∈ s.2.2.1, p.ID < 1 + (k : Int)) (fun s => (25 - s.1).toNat) ⟨0, rfl, by decide, rfl, rfl, rfl, List.Pairwise.nil, fun p hp => by cases hp⟩ ?_
    rintro ⟨i, nx, ps, sd⟩ ⟨k, hi, hk, hnx, hps, hsd, ha, hid⟩
    dsimp only at hi hnx hps hsd ha hid
    subst hi; subst hnx; subst hsd
    have stop : ∃ b', (some (.inr (1 + (k : Int), ps, [])) : Option ((Int × Int × (List network_Packet) × (List network_Side)) ⊕ (Int × (List network_Packet) × (List network_Side)))) = some (.inr b') ∧ (b'.2.2 = [] ∧ b'.2.1.length ≤ 24 ∧ Asc b'.2.1 ∧ 0 ≤ b'.1 ∧ b'.1 ≤ 100) := ⟨_, rfl, rfl, by dsimp only; omega, ha, by dsimp only; omega, by dsimp only; omega⟩
    unfold eslaw36_packets.l1
    dsimp only
    by_cases h1 : k < l.length
    · rw [if_pos (by simpa using h1)]
      by_cases h2 : k < 24
      · rw [show decide ((k : Int) < 24) = true by simp; omega]
        unfold eslaw36_packets.j2
        rw [if_pos rfl, idx_nat h1]
        simp only [Option.bind_some, letV_of]
        obtain ⟨d1, e1, a1, b1⟩ := Digit_ex l[k] 8 0 (by decide) (by decide) (by decide)
        obtain ⟨d2, e2, a2, b2⟩ := Digit_ex l[k] 6 2 (by decide) (by decide) (by decide)
        obtain ⟨d3, e3, a3, b3⟩ := Digit_ex l[k] 6 3 (by decide) (by decide) (by decide)
        have e1 : eslaw00_Digit l[k] 8 0 = some d1 := e1
        have e2 : eslaw00_Digit l[k] 6 2 = some d2 := e2
        have e3 : eslaw00_Digit l[k] 6 3 = some d3 := e3
        simp only [e1, e2, e3, Option.bind_some]
        obtain ⟨m, hm⟩ : ∃ m : api_Message, m = ⟨IntKind.i64.wrap (1 + d1), IntKind.i64.wrap (1 + d2), IntKind.i64.wrap (1 + d3), ⟨0, 0⟩, 0, 0, ⟨[], []⟩, ⟨[], []⟩, false, ⟨[], []⟩, [], [], [], false⟩ := ⟨_, rfl⟩
        rw [← hm]
        have hs := send_eq ⟨1 + (k : Int), ps, []⟩ [m] (by show ps.length ≤ _; omega) (Nat.zero_le _) (by show (0 : Int) ≤ 1 + (k : Int); omega) (by show 1 + (k : Int) ≤ _; omega) (by rw [List.length_singleton]; decide)
        have ht : [m].take (4096 - ps.length) = [m] := List.take_of_length_le (by rw [List.length_singleton]; omega)
        dsimp only at hs
        rw [ht] at hs
        rw [hs, Option.bind_some]
        dsimp only
        rw [w64 (x := (k : Int) + 1) (by omega) (by omega)]
        have hpk := pk_asc (1 + (k : Int)) [m]
        refine .inl ⟨_, rfl, ⟨k + 1, rfl, by omega, by dsimp only; rw [List.length_singleton]; omega, by dsimp only; rw [List.length_append, pk_length, List.length_singleton, hps], rfl, ?_, ?_⟩, by dsimp only; omega⟩
        · refine List.pairwise_append.2 ⟨ha, hpk, fun a ha' b hb => ?_⟩
          have h1 := hid a ha'
          have h2 := (pk_mem hb).1
          omega
        · intro p hp
          dsimp only at hp
          rcases List.mem_append.1 hp with hp | hp
          · have := hid p hp
            omega
          · have := (pk_mem hp).2.1
            rw [List.length_singleton] at this
            omega
      · rw [show decide ((k : Int) < 24) = false by simp; omega]
        exact .inr stop
    · rw [if_neg (by simpa using h1)]
      exact .inr stop
  obtain ⟨⟨nx, ps, sd⟩, e, h1, h2, h3, h4, h5⟩ := key
  dsimp only at h1 h2 h3 h4 h5
  subst h1
  rw [e, Option.bind_some]
  dsimp only
  unfold eslaw36_packets.j1
  have z1 : eslaw00_Digit 0 2 0 = some 0 := by
    unfold eslaw00_Digit
    rw [index_eq 0 1099511627776 (by decide) (by decide), Option.bind_some, loopO_done (b := 0) (by rfl)]
    rfl
  have z2 : eslaw00_Digit 0 2 1 = some 0 := by
    unfold eslaw00_Digit
    rw [index_eq 0 1099511627776 (by decide) (by decide), Option.bind_some, loopO_next (s' := (0, 1)) (by rfl), loopO_done (b := 0) (by rfl)]
    rfl
  have z3 : eslaw00_Digit 0 3 2 = some 0 := by
    unfold eslaw00_Digit
    rw [index_eq 0 1099511627776 (by decide) (by decide), Option.bind_some, loopO_next (s' := (0, 1)) (by rfl), loopO_next (s' := (0, 2)) (by rfl), loopO_done (b := 0) (by rfl)]
    rfl
  rw [z1, Option.bind_some, z2, Option.bind_some, z3, Option.bind_some, partition_eq ⟨nx, ps, []⟩ _ (by show ps.length ≤ _; omega) (Nat.zero_le _) (by decide), Option.bind_some, part0]
  exact ⟨_, rfl, h2, rfl, h3⟩
theorem refmatches_eq (r : adversary_Rule) (p : network_Packet) : esref36_matches r p = some (mt r p.Message == decide (r.Kind ≤ 3)) := by
  unfold esref36_matches esref36_matches.j3 esref36_matches.j2 esref36_matches.j1 mt
  by_cases h1 : r.Kind = 1
  · simp [h1]
  · by_cases h4 : r.Kind = 4
    · simp [h4]
    · by_cases h2 : r.Kind = 2
      · simp [h2]
      · by_cases h5 : r.Kind = 5
        · simp [h5]
        · simp [h1, h2, h4, h5]
theorem kept_eq {l : List network_Packet} (hl : l.length ≤ 4096) (hne : l ≠ []) (r : adversary_Rule) (step : Int) : esref36_kept r l step = some (kp step r l) := by
  have hp : 0 < l.length := List.length_pos_iff.2 hne
  unfold esref36_kept kp
  by_cases h7 : r.Kind = 7
  · rw [if_pos (by simpa using h7), if_pos h7, cut_of (Int.le_refl 0) (by decide) (by omega)]
    rfl
  rw [if_neg (by simpa using h7), if_neg h7]
  by_cases h8 : r.Kind = 8
  · rw [if_pos (by simpa using h8), if_pos h8, letV_of, w64 (by omega) (by omega), show (l.length : Int) - 1 = ((l.length - 1 : Nat) : Int) by omega, cut_of (by omega) (by omega) (Int.le_refl _)]
    simp
  rw [if_neg (by simpa using h8), if_neg h8]
  by_cases h9 : r.Kind = 9
  · have a1 := Int.tmod_lt_of_pos step (show 0 < (l.length : Int) by omega)
    have a2 := Int.lt_tmod_of_pos step (show 0 < (l.length : Int) by omega)
    have b1 := Int.emod_nonneg step (show (l.length : Int) ≠ 0 by omega)
    have b2 := Int.emod_lt_of_pos step (show 0 < (l.length : Int) by omega)
    have hrot := rot_eq step (n := (l.length : Int)) (by omega)
    rw [if_pos (by simpa using h9), if_pos h9, if_pos (by omega), letV_of]
    have j1 : ∀ k : Int, k = step % (l.length : Int) → esref36_kept.j1 l k = some ((l.drop (step % (l.length : Int)).toNat).take 1) := by
      rintro k rfl
      obtain ⟨k, hk⟩ : ∃ k : Nat, step % (l.length : Int) = k := ⟨(step % (l.length : Int)).toNat, (Int.toNat_of_nonneg b1).symm⟩
      rw [hk] at b2 ⊢
      unfold esref36_kept.j1
      rw [letV_of, w64 (x := (k : Int) + 1) (by omega) (by omega), show (k : Int) + 1 = ((k + 1 : Nat) : Int) by omega, cut_one (by omega)]
      rfl
    obtain ⟨t, ht⟩ : ∃ t, t = Int.tmod step (l.length : Int) := ⟨_, rfl⟩
    rw [← ht] at a1 a2 hrot ⊢
    by_cases hn : t < 0
    · rw [if_pos (by simpa using hn), letV_of, w64 (by omega) (by omega)]
      refine j1 _ ?_
      rw [← hrot, Int.tmod_eq_emod_of_nonneg (by omega), Int.emod_eq_of_lt (by omega) (by omega)]
    · rw [if_neg (by simpa using hn)]
      refine j1 _ ?_
      rw [← hrot, Int.tmod_eq_emod_of_nonneg (by omega), Int.add_emod_right, Int.emod_eq_of_lt (by omega) (by omega)]
  rw [if_neg (by simpa using h9), if_neg h9]
  obtain ⟨f, hf⟩ : ∃ f : network_Packet → Bool, f = fun p => mt r p.Message == decide (r.Kind ≤ 3) := ⟨_, rfl⟩
  rw [← hf]
  have hlp := loopO_up (step := esref36_kept.l1 r l) (fun k => ((l.take k).filter f, (k : Int))) l.length (b := l.filter f) (fun k hk => ?_) ?_
  · have hlp : loopO (esref36_kept.l1 r l) ([], 0) = some (l.filter f) := hlp
    rw [hlp, Option.bind_some]
    unfold esref36_kept.j2
    by_cases h0 : l.filter f = []
    · rw [if_pos h0, if_pos (by rw [h0]; rfl)]
    · rw [if_neg h0, if_neg (by
        have := List.length_pos_iff.2 h0
        simp only [beq_iff_eq]
        omega)]
  · have hle : ((l.take k).filter f).length ≤ 4096 := Nat.le_trans (List.length_filter_le _ _) (by rw [List.length_take]; omega)
    unfold esref36_kept.l1
    simp only [lt_of_len hk, if_true, idx_nat hk, Option.bind_some, refmatches_eq]
    rw [take_snoc hk, List.filter_append]
    have ef : f l[k] = (mt r l[k].Message == decide (r.Kind ≤ 3)) := by rw [hf]
    unfold esref36_kept.j3
    cases hc : (mt r l[k].Message == decide (r.Kind ≤ 3)) with
    | true =>
      rw [if_pos rfl, app_of (by simp only [List.length_singleton]; omega), Option.bind_some, letV_of, wcast hk (by omega)]
      have : [l[k]].filter f = [l[k]] := by rw [List.filter_cons, ef, hc]; rfl
      rw [this]
    | false =>
      rw [if_neg (by simp), letV_of, wcast hk (by omega)]
      have : [l[k]].filter f = [] := by rw [List.filter_cons, ef, hc]; rfl
      rw [this, List.append_nil]
  · unfold esref36_kept.l1
    simp only [not_lt_len, Bool.false_eq_true, if_false, List.take_length]
theorem refChoose_eq (rules : List adversary_Rule) (hr : rules.length ≤ 4096) (n : network_Network) (h1 : n.Packets.length ≤ 4096) (h2 : n.Sides.length ≤ 4096) (step : Int) : esref36_Choose rules n step = some (chs rules n step) := by
  unfold esref36_Choose
  rw [refValidate_eq]
  obtain ⟨e, he, hiff⟩ := Validate_ex rules
  rw [he, Option.bind_some]
  have hdl : (dl n).length ≤ 4096 := Nat.le_trans (List.length_filter_le _ _) h1
  unfold chs
  by_cases hv : rules.length ≤ 16 ∧ ∀ r ∈ rules, RK r
  · rw [if_neg (by simp [hiff.2 hv])]
    obtain ⟨f, hf⟩ : ∃ f : network_Packet → Bool, f = fun p => !blk n.Sides p.Message.From p.Message.To := ⟨_, rfl⟩
    have hdf : dl n = n.Packets.filter f := by rw [hf]; rfl
    have hlp := loopO_up (step := esref36_Choose.l2 n) (fun k => ((n.Packets.take k).filter f, (k : Int))) n.Packets.length (b := dl n) (fun k hk => ?_) ?_
    · have hlp : loopO (esref36_Choose.l2 n) ([], 0) = some (dl n) := hlp
      rw [hlp, Option.bind_some]
      unfold esref36_Choose.j2
      by_cases h0 : dl n = []
      · rw [if_pos (by rw [h0]; rfl), if_pos (.inl h0)]
      · rw [if_neg (by
          have := List.length_pos_iff.2 h0
          simp only [beq_iff_eq]
          omega), if_neg (by rintro (h | h); exact h0 h; exact h hv)]
        have hl2 := loopO_up (step := esref36_Choose.l1 rules step) (fun k => ((rules.take k).foldl (fun l r => kp step r l) (dl n), (k : Int))) rules.length (b := rules.foldl (fun l r => kp step r l) (dl n)) (fun k hk => ?_) ?_
        · have hl2 : loopO (esref36_Choose.l1 rules step) (dl n, 0) = some (rules.foldl (fun l r => kp step r l) (dl n)) := hl2
          rw [hl2, Option.bind_some]
          unfold esref36_Choose.j1
          obtain ⟨h3, h4⟩ := fold_ok step rules h0
          obtain ⟨q, t, hq⟩ := List.exists_cons_of_ne_nil h3
          rw [hq]
          rfl
        · obtain ⟨h3, h4⟩ := fold_ok step (rules.take k) h0
          unfold esref36_Choose.l1
          simp only [lt_of_len hk, if_true, idx_nat hk, Option.bind_some]
          rw [kept_eq (by omega) h3, Option.bind_some, letV_of, wcast hk (by omega), take_snoc hk, List.foldl_append]
          rfl
        · unfold esref36_Choose.l1
          rw [List.take_length]
          dsimp only
          rw [if_neg (by simp)]
    · have hle : ((n.Packets.take k).filter f).length ≤ 4096 := Nat.le_trans (List.length_filter_le _ _) (by rw [List.length_take]; omega)
      unfold esref36_Choose.l2
      simp only [lt_of_len hk, if_true, idx_nat hk, Option.bind_some]
      rw [refblocked_eq n _ _ h2, Option.bind_some, take_snoc hk, List.filter_append]
      have ef : f n.Packets[k] = !blk n.Sides n.Packets[k].Message.From n.Packets[k].Message.To := by rw [hf]
      unfold esref36_Choose.j3
      cases hc : blk n.Sides n.Packets[k].Message.From n.Packets[k].Message.To with
      | true =>
        rw [if_neg (by simp), letV_of, wcast hk (by omega)]
        have : [n.Packets[k]].filter f = [] := by rw [List.filter_cons, ef, hc]; rfl
        rw [this, List.append_nil]
      | false =>
        rw [if_pos (by rfl), app_of (by simp only [List.length_singleton]; omega), Option.bind_some, letV_of, wcast hk (by omega)]
        have : [n.Packets[k]].filter f = [n.Packets[k]] := by rw [List.filter_cons, ef, hc]; rfl
        rw [this]
    · unfold esref36_Choose.l2
      simp only [not_lt_len, Bool.false_eq_true, if_false, List.take_length]
      rw [hdf]
  · rw [if_pos (by
      have : e ≠ 0 := fun h => hv (hiff.1 h)
      simpa using this), if_pos (.inr hv)]
theorem adversaryRaw_true (x1 : List adversary_Rule) (x4 : List Int) (x7 : Int) : eslaw36_AdversaryRaw x1 x4 x7 = some true := by
  unfold eslaw36_AdversaryRaw
  by_cases h20 : (20 : Int) < (x1.length : Int)
  · rw [if_pos (by simpa using h20), awake_true]
    rfl
  rw [if_neg (by simpa using h20)]
  obtain ⟨n, hn, hk⟩ := packets_ex x4
  have h1 := hk.len
  have h2 : n.Sides.length ≤ 4096 := by rw [hk.sides]; decide
  obtain ⟨e, he, _⟩ := Validate_ex x1
  have e1 := Choose_eq x1 (by omega) n (by omega) h2 hk.asc x7
  have e2 := refChoose_eq x1 (by omega) n (by omega) h2 x7
  obtain ⟨⟨a, b⟩, hab⟩ : ∃ p, p = chs x1 n x7 := ⟨_, rfl⟩
  rw [← hab] at e1 e2
  rw [hn, Option.bind_some, e1, Option.bind_some]
  dsimp only
  rw [e2, Option.bind_some]
  dsimp only
  rw [if_pos (by simp), if_pos (by simp), refValidate_eq, he, Option.bind_some, Option.bind_some, if_pos (by simp), Format_eq, Option.bind_some, refFormat_eq, Option.bind_some, if_pos (by simp), awake_true]
  rfl
end Go.Proofs.YthcohhpmpdijoaaGreatDoor
set_option linter.unusedVariables false
set_option linter.unusedSimpArgs false
namespace Go.Proofs.YthcohhpmpdijoaaGreatDoorL
open Go Go.RowKit Go.ChangeShapes Go.WideShapes Go.ChangeAt
section
variable {H : Type} {enc : TypeId × Value → H}
theorem returns_and_shaped {a : Assume} {C : Checked} {os : Os} {f : FuncId} {fn : Func} {s : ChangeSpec} {conds : List PathCond} {apart fresh handsOn again : Bool} {X : World → Array Value → Prop}
    (hX : ∀ (w w' : World) (args : Array Value), w.heap = w'.heap → X w args → X w' args)
    (own : ownKnob C.prog.godebug = none) (started : os.Started) (noInit : C.prog.inits.idxOf? f = none) (hfn : C.prog.funcs[f]? = some fn)
    (witness : ∃ (w : World) (tape : Tape) (i : Input), w.os = os ∧ (w.forCall tape i).Shaped C.prog ∧ i.vars = [] ∧ Input.okWide C.prog (w.forCall tape i) .any w.heap.size f i ∧
      ((s.pre enc C.prog fn conds apart (w.forCall tape i).memory i.args ∧ X (w.forCall tape i).memory i.args) ∧ sizedMet enc C.prog fn (OpenSpec.ofChange s) apart (w.forCall tape i).memory i.args) ∧ a.holds C.prog (lone (Frame.enter C.prog f i.args .normal) [] (w.forCall tape i)))
    (contract : ∀ (W : World) (base : Nat) (args : Array Value) (ds gs : List (DataW H)) (before : List MemPlace),
      (∀ (j : Nat) t v, fn.params[j]? = some t → args[j]? = some v → Value.okWide C.prog W .any base t v) →
      DataW.Whole enc C.prog fn.params.toList s.vars apart W args.toList ds gs before →
      conds.all (PathCond.test C.prog ⟨fn.params.toList, ds, s.plain.varTypes C.prog, gs⟩) = true →
      (DataW.weightsEach C.prog (fn.params.toList ++ s.plain.varTypes C.prog) (ds ++ gs)).all (· ≤ reachBytes) = true → X W args → W.ShapedOpen C.prog →
      a.holds C.prog (lone (Frame.enter C.prog f args .normal) [] W) →
      Calls C.prog f args W fun e W' => ∃ v, e = .returned v ∧ s.post enc C.prog fn apart fresh handsOn again W args v W') :
    ReturnsInHanded a C os f .any (fun w args => (s.pre enc C.prog fn conds apart w args ∧ X w args) ∧ sizedMet enc C.prog fn (OpenSpec.ofChange s) apart w args) (s.post enc C.prog fn apart fresh handsOn again) := by
  refine returnsInHanded_of_calls own started noInit witness ?_
  intro w tape i _ hsh _ hok hpre hholds
  obtain ⟨_, _, _, fn', hfn', _, _, _, _, hval⟩ := hok
  have e : fn' = fn := Option.some.inj (hfn'.symm.trans hfn)
  subst e
  obtain ⟨⟨⟨ds, gs, before, hw, hc⟩, hx⟩, hz⟩ := hpre
  have hw' := DataW.Whole.of_heap (w' := w.forCall tape i) (by rfl) hw
  refine (contract (w.forCall tape i) w.heap.size i.args ds gs before hval hw' hc (hz.weights hw) (hX _ _ _ (by rfl) hx) hsh hholds).mono fun e W' ⟨v, he, hp⟩ => ?_
  subst he
  exact ChangeSpec.post_blind hp
end
section
variable {P : Program} {W : World}
def LaidAt (P : Program) (W : World) (n : String) (d : DataW Unit) : Prop :=
  ∃ g t cs fuel p, P.globalNamed n = some g ∧ (P.globals[g]?).map (·.type) = some t ∧ W.var? P n = some cs ∧ DataW.trod (fun _ => ()) P W 0 (fun _ => true) false fuel t cs.toList = some (d, p)
theorem laidAt : ∀ {l : List (String × DataW Unit)} {ps : List MemPlace} (_ : DataW.LaidVars P W l ps) (i : Nat) {n : String} {d : DataW Unit}, l[i]? = some (n, d) → LaidAt P W n d
  | [], _, _, _, _, _, h => by simp at h
  | (n, d) :: r, ps, h, 0, n', d', e => by
    obtain ⟨g, t, cs, fuel, p, q, h1, h2, h3, h4, _⟩ := h
    simp only [List.getElem?_cons_zero, Option.some.injEq, Prod.mk.injEq] at e
    obtain ⟨rfl, rfl⟩ := e
    exact ⟨g, t, cs, fuel, p, h1, h2, h3, h4⟩
  | (n, d) :: r, ps, h, i + 1, n', d', e => by
    obtain ⟨g, t, cs, fuel, p, q, h1, h2, h3, h4, h5, _⟩ := h
    exact laidAt h5 i (by simpa using e)
theorem var_place {n : String} {g : Nat} {cs : Array Value} (hg : P.globalNamed n = some g) (h : W.var? P n = some cs) {α : Type} {T : Ty α} {x : α} (hR : T.R (fun b => b < W.heap.size) W x cs.toList) : (pl T x (⟨g, 0, none⟩)).holds (fun b => b < W.heap.size) W := by
  have hlt : g < W.heap.size := by
    simp only [World.var?, hg, Option.bind_some] at h
    split at h
    · rename_i hh
      exact (Array.getElem?_eq_some_iff.1 hh).1
    · cases h
  refine ⟨rfl, hlt, hlt, _, hR, fun i u hu => ?_⟩
  rw [World.var?_cell hg h]
  simpa using hu
theorem laid_tab {n : String} {g : Nat} {t e : TypeId} {k : Nat} {zs : List Int} (hg : P.globalNamed n = some g) (hty : (P.globals[g]?).map (·.type) = some t) (ht : P.underlying t = some (.array k e)) (he : P.underlying e = some (.int .u64)) (hce : P.cellsOf e = 1) (hct : P.cellsOf t = k)
    (h : LaidAt P W n (Go.Lib.tabData .u64 zs)) : (vl (tTab P n g hg zs) () (.int .i64 0)).holds (fun b => b < W.heap.size) W := by
  obtain ⟨g', t', cs, fuel, p, hg', hty', hv, hd⟩ := h
  obtain rfl := Option.some.inj (hg.symm.trans hg')
  obtain rfl := Option.some.inj (hty.symm.trans hty')
  have hlt : g < W.heap.size := by
    simp only [World.var?, hg, Option.bind_some] at hv
    split at hv
    · rename_i hh
      exact (Array.getElem?_eq_some_iff.1 hh).1
    · cases hv
  refine ⟨_, ⟨rfl, hlt, hlt, ?_⟩, rfl⟩
  unfold Go.Lib.TabIs
  rw [hv, ← Go.Lib.cells_of_tab ht he hce hct hd]
theorem laid_err {n : String} {g : Nat} {t : TypeId} {ms : Array (String × TypeId)} {nm : String} {d : DataW Unit} (hg : P.globalNamed n = some g) (hty : (P.globals[g]?).map (·.type) = some t) (ht : P.underlying t = some (.interface ms))
    (h : LaidAt P W n (.iface nm d)) : (pl tErr true (⟨g, 0, none⟩)).holds (fun b => b < W.heap.size) W := by
  obtain ⟨g', t', cs, fuel, p, hg', hty', hv, hd⟩ := h
  obtain rfl := Option.some.inj (hg.symm.trans hg')
  obtain rfl := Option.some.inj (hty.symm.trans hty')
  obtain ⟨_, u, v, e, _⟩ := iface_of_trod ht hd
  exact var_place hg hv ⟨_, e, .inr ⟨rfl, u, v, rfl⟩⟩
theorem laid_strs {n : String} {g : Nat} {t e : TypeId} {ss : List (List UInt8)} (hg : P.globalNamed n = some g) (hty : (P.globals[g]?).map (·.type) = some t) (ht : P.underlying t = some (.slice e)) (he : P.underlying e = some .string) (hce : P.cellsOf e = 1) (hne : ss ≠ [])
    (h : LaidAt P W n (.slice (ss.map fun s => .lit (.string s)) [])) : (pl (tSlice tStr) ss (⟨g, 0, none⟩)).holds (fun b => b < W.heap.size) W := by
  obtain ⟨g', t', cs, fuel, p, hg', hty', hv, hd⟩ := h
  obtain rfl := Option.some.inj (hg.symm.trans hg')
  obtain rfl := Option.some.inj (hty.symm.trans hty')
  refine var_place hg hv ?_
  rcases DataW.trod_slice ht hd with ⟨_, h2⟩ | ⟨a, len, cap, elems, rest, m, rfl, h1, hx, _, hlc, hcm, hel, hget, _⟩
  · simp at h2
  · rw [hce] at hget
    simp only [Prod.mk.injEq, DataW.slice.injEq] at hx
    have hmap := hx.1.1
    have hlen : ss.length = len := by
      have := congrArg List.length hmap
      simp only [List.length_map] at this
      omega
    have step : ∀ j x, ss[j]? = some x → ∃ cs, tStr.R (fun b => b < W.heap.size) W x cs ∧ W.cells? 0 (a.add (j * 1)) 1 = some cs := by
      intro j x hj
      have hjl := (List.getElem?_eq_some_iff.1 hj).1
      have hg := hget j (by omega)
      rw [List.getElem?_eq_getElem (show j < elems.length by omega)] at hg
      obtain ⟨cs', hcs, htr⟩ := Option.bind_eq_some_iff.1 hg
      obtain ⟨s, rfl, hs, _⟩ := DataW.trod_string he htr
      have e2 : (ss.map fun s => (DataW.lit (.string s) : DataW Unit))[j]? = (elems.map (·.1))[j]? := by rw [hmap]
      rw [List.getElem?_map, List.getElem?_map, hj, List.getElem?_eq_getElem (show j < elems.length by omega), hs] at e2
      simp only [Option.map_some, Option.some.injEq, DataW.lit.injEq, Lit.string.injEq] at e2
      refine ⟨_, ?_, hcs⟩
      show [Value.string s] = [bstr x]
      rw [e2]
      simp [bstr]
    refine ⟨some a, cap, by rw [h1, hlen], by omega, .inr ?_⟩
    have h0 : 0 < ss.length := List.length_pos_iff.2 hne
    have hspot : a.spot = none := by
      obtain ⟨cs, hR, hc2⟩ := step 0 _ (List.getElem?_eq_getElem h0)
      have hlen := tStr.len hR
      have hsz : tStr.sz = 1 := rfl
      obtain ⟨_, _, hcell⟩ := World.cells?_some hc2
      have := hcell 0 (by omega)
      rw [List.getElem?_eq_getElem (by omega)] at this
      have h3 := World.cell?_spot this
      rw [Nat.zero_mul] at h3
      revert h3
      unfold Addr.add
      obtain ⟨b, o, sp⟩ := a
      cases sp <;> simp
    obtain ⟨b, off, sp⟩ := a
    simp only at hspot
    subst hspot
    have hlt : b < W.heap.size := by
      obtain ⟨cs, hR, hc2⟩ := step 0 _ (List.getElem?_eq_getElem h0)
      have := World.cells?_block hc2 (by omega)
      rwa [addr_add] at this
    refine ⟨b, off, rfl, hlt, hlt, fun j x hj => ?_⟩
    obtain ⟨cs, hR, hc2⟩ := step j x hj
    refine ⟨cs, hR, fun i u hu => ?_⟩
    obtain ⟨_, _, hcell⟩ := World.cells?_some hc2
    have hi := (List.getElem?_eq_some_iff.1 hu).1
    have hsz : tStr.sz = 1 := rfl
    have := hcell i (by rw [tStr.len hR] at hi; exact hi)
    rw [addr_add, addr_add, hu] at this
    exact this
theorem shaped_int {n : String} {g : Nat} (m : Int) (h : W.cell? ⟨g, 0, none⟩ = some (.int .i64 m)) : (pl (tInt .i64) m (⟨g, 0, none⟩)).holds (fun b => b < W.heap.size) W := by
  have hlt : g < W.heap.size := by
    unfold World.cell? at h
    simp only at h
    cases hh : W.heap[g]? with
    | none => simp [hh] at h
    | some o => exact (Array.getElem?_eq_some_iff.1 hh).1
  refine ⟨rfl, hlt, hlt, [.int .i64 m], rfl, fun i u hu => ?_⟩
  cases i with
  | zero => simp at hu; subst hu; exact h
  | succ i => simp at hu
end
end Go.Proofs.YthcohhpmpdijoaaGreatDoorL
namespace Go.Proofs.YthcohhpmpdijoaaGreatDoor
open Go
set_option maxRecDepth 100000
theorem seatTie1 : Tryz.prog.laidByTextLater [("math/bits.deBruijn32tab", Rows.laid_math_bits_deBruijn32tab), ("math/bits.deBruijn64tab", Rows.laid_math_bits_deBruijn64tab), ("internal/strconv.uint64pow10", Rows.laid_internal_strconv_uint64pow10), ("unicode/utf8.acceptRanges", Rows.laid_unicode_utf8_acceptRanges), ("strconv.ErrRange", Rows.laid_strconv_ErrRange), ("strconv.ErrSyntax", Rows.laid_strconv_ErrSyntax), ("elasticstore/adversary.words", Rows.laid_elasticstore_adversary_words)] [.data, .data, .data, .data, .sentinel, .sentinel, .data] true :=
  Program.laidByTextLater_by_one 77 8 65 (by kernel_rfl) (by kernel_rfl) (by kernel_rfl) (by kernel_rfl) (by kernel_rfl) (by kernel_rfl) (fun _ _ => by kernel_rfl)
theorem pin_laid_unicode_utf8_first : Tryz.pinned.checked.prog.pinnedFits "unicode/utf8.first" = true := by kernel_rfl
theorem noOwnUnsafe : Tryz.pinned.checked.prog.headLifts.contains "ownunsafe" = false := by kernel_rfl
theorem fits1 : Tryz.pinned.checked.prog.listedFits [("math/bits.deBruijn32tab", Rows.laid_math_bits_deBruijn32tab), ("math/bits.deBruijn64tab", Rows.laid_math_bits_deBruijn64tab), ("internal/strconv.uint64pow10", Rows.laid_internal_strconv_uint64pow10), ("unicode/utf8.acceptRanges", Rows.laid_unicode_utf8_acceptRanges), ("strconv.ErrRange", Rows.laid_strconv_ErrRange), ("strconv.ErrSyntax", Rows.laid_strconv_ErrSyntax), ("elasticstore/adversary.words", Rows.laid_elasticstore_adversary_words), ("unicode/utf8.first", Rows.laid_unicode_utf8_first)] = true := by
  unfold Program.listedFits
  rw [noOwnUnsafe]
  kernel_rfl
theorem tie : Tryz.prog.laidByTextLater [("math/bits.deBruijn32tab", Rows.laid_math_bits_deBruijn32tab), ("math/bits.deBruijn64tab", Rows.laid_math_bits_deBruijn64tab), ("internal/strconv.uint64pow10", Rows.laid_internal_strconv_uint64pow10), ("unicode/utf8.acceptRanges", Rows.laid_unicode_utf8_acceptRanges), ("strconv.ErrRange", Rows.laid_strconv_ErrRange), ("strconv.ErrSyntax", Rows.laid_strconv_ErrSyntax), ("elasticstore/adversary.words", Rows.laid_elasticstore_adversary_words)] [.data, .data, .data, .data, .sentinel, .sentinel, .data] true :=
  Program.laidByTextLater.sub seatTie1 ["math/bits.deBruijn32tab", "math/bits.deBruijn64tab", "internal/strconv.uint64pow10", "unicode/utf8.acceptRanges", "strconv.ErrRange", "strconv.ErrSyntax", "elasticstore/adversary.words"] (by kernel_rfl) (by kernel_rfl)
theorem adversaryRaw_row_tie : Rows.adversaryRawRow.laidByTextAt .later Tryz.pinned [.data, .data, .data, .data, .sentinel, .sentinel, .data, .pinned] true :=
  OpenClaim.laidByTextAt_pinned rfl rfl tie rfl rfl rfl rfl (fun y hy _e => by
    simp only [Rows.adversaryRawRow, List.zip_cons_cons, List.zip_nil_right, List.mem_cons, List.mem_nil_iff, or_false] at hy
    rcases hy with rfl | rfl | rfl | rfl | rfl | rfl | rfl | rfl
    · cases _e
    · cases _e
    · cases _e
    · cases _e
    · cases _e
    · cases _e
    · cases _e
    · exact ⟨pin_laid_unicode_utf8_first, by kernel_rfl⟩) fits1
end Go.Proofs.YthcohhpmpdijoaaGreatDoor
