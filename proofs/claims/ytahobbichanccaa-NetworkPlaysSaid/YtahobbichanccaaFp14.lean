import Derived.Test.YtahobbichanccaaFh
import Derived.Test.YtahobbichanccaaFp0
import Derived.Test.YtahobbichanccaaFp1
import Derived.Test.YtahobbichanccaaFp3
import Derived.Test.YtahobbichanccaaFp7
import Derived.Test.YtahobbichanccaaFp8
import Derived.Test.YtahobbichanccaaFp11
import Derived.Test.YtahobbichanccaaFp12
import Derived.Test.YtahobbichanccaaFp13
set_option linter.unusedVariables false
set_option linter.unusedSimpArgs false
namespace Go.Proofs.Ytahobbichanccaa
open Go Go.RowKit Go.Proofs.YtahobbichanccaaL
set_option maxRecDepth 100000
set_option maxHeartbeats 4000000
/-! elasticstore/elasticstorelaw34.NetworkPlays: function 5 -/
theorem eslaw34_NetworkPlays.calls {ok : Nat → Prop} {w0 : World} {x1 : List elasticstorelaw34_Act} {a2 : Option Addr} {c3 : Nat} {r : Bool} (hf : eslaw34_NetworkPlays x1 = some r) (i0 : (vl (tSlice t_elasticstorelaw34_Act) x1 (.slice a2 x1.length c3)).holds ok w0) :
    Calls Try.prog 5 #[.slice a2 x1.length c3] w0 fun e w' => ∃ v, e = .returned v ∧ ∃ y : Unit, v = .bool r ∧ St ok (bz w0) w' [] [] := by
  unfold eslaw34_NetworkPlays at hf
  refine calls_of_W (fn := Try.f5) (N := 113) Try.func5 rfl Try.ntmps5 rfl ?_
  have hs : St ok (bz w0) w0 [vl (tSlice t_elasticstorelaw34_Act) x1 (.slice a2 x1.length c3)] [] := St.init (All.cons i0 All.nil)
  clear i0
  refine W.seqK fun K4 hK4 => ?_
  refine W.region ?_
  refine WL.assign (v := .bool false) rfl ?_
  refine WL.nil ?_
  refine hK4 _ _ ?_
  refine W.seqK fun K5 hK5 => ?_
  refine W.seqK fun K6 hK6 => ?_
  refine W.region ?_
  refine WL.move (v := .slice a2 x1.length c3) rfl ?_
  refine WL.len (v := .slice a2 x1.length c3) rfl (len_slice UN22) ?_
  refine WL.bin (v := .bool (decide (60 < (x1.length : Int)))) rfl rfl (ib_gtr _ _ _) ?_
  refine WL.nil ?_
  refine hK6 _ _ ?_
  rcases iteE hf with ⟨hc7, hf⟩ | ⟨hc7, hf⟩
  · refine W.cond_true (bool_tr rfl hc7) ?_
    refine W.seqK fun K8 hK8 => ?_
    refine W.region ?_
    obtain ⟨x9, hxx9, hf⟩ := bindE hf
    refine WL.call (vs := []) hs FN8 trivial (fun ok hA => eslaw34_awake.calls hxx9) ?_
    rintro _ w hs
    refine WL.assign (v := .bool x9) rfl ?_
    refine WL.nil ?_
    refine hK8 _ _ ?_
    refine W.ret ?_
    have hr := Option.some.inj hf; subst hr
    exact ⟨_, resOk_one rfl rfl, (), rfl, (hs.mask []).pick []⟩
  · refine W.cond_false (bool_tr rfl hc7) ?_
    refine W.skip ?_
    refine hK5 _ _ ?_
    refine W.seqK fun K10 hK10 => ?_
    refine W.region ?_
    obtain ⟨x11, hxx11, hf⟩ := bindE hf
    refine WL.call (vs := []) hs FN9 trivial (fun ok hA => network_New.calls hxx11) ?_
    rintro ⟨⟨a12, n13, c14⟩, ⟨a15, n16, c17⟩⟩ w hs
    refine WL.build (vs := [(0, .int .i64 1)]) (cs := [.int .i64 1, .slice none 0 0, .slice none 0 0]) ⟨⟨rfl, rfl⟩, trivial⟩ (bld PL27 rfl) ?_
    refine WL.alloc hs ZV27 (fun g18 w hs => ?_)
    refine WL.alloc hs ZV27 (fun g19 w hs => ?_)
    refine WL.storeAll (vs := [.int .i64 x11.Next, .slice a12 n13 c14, .slice a15 n16 c17]) hs 1 rfl TI27 rfl rfl rfl rfl (ones_of rfl) rfl (fun w hs => ?_)
    refine WL.storeAll (vs := [.int .i64 1, .slice none 0 0, .slice none 0 0]) hs 0 rfl TI27 rfl rfl rfl rfl (ones_of rfl) rfl (fun w hs => ?_)
    refine WL.nil ?_
    refine hK10 _ _ ?_
    refine W.seqK fun K20 hK20 => ?_
    have Jk22 : ∀  (ρ : Env) (w : World), St ok (bz w0) w [] [] → eslaw34_NetworkPlays.j1 = some r → K20 ρ w := by
      intro  ρ w  hs hf
      refine hK20 _ _ ?_
      unfold eslaw34_NetworkPlays.j1 at hf
      refine W.seqK fun K23 hK23 => ?_
      refine W.region ?_
      obtain ⟨x24, hxx24, hf⟩ := bindE hf
      refine WL.call (vs := []) hs FN8 trivial (fun ok hA => eslaw34_awake.calls hxx24) ?_
      rintro _ w hs
      refine WL.assign (v := .bool x24) rfl ?_
      refine WL.nil ?_
      refine hK23 _ _ ?_
      refine W.ret ?_
      have hr := Option.some.inj hf; subst hr
      exact ⟨_, resOk_one rfl rfl, (), rfl, (hs.mask []).pick []⟩
    refine W.seqK fun K25 hK25 => ?_
    refine W.region ?_
    refine WL.assign (v := .int .i64 0) rfl ?_
    refine WL.nil ?_
    refine hK25 _ _ ?_
    refine W.block ?_
    obtain ⟨bs42, hbs42, hfs42⟩ := bindE hf
    have hs := hs.add (it := vl (tSlice t_network_Packet) [] (.slice none 0 0)) fun ok hA => V_nil
    have hs := hs.add (it := vl (tSlice t_network_Side) [] (.slice none 0 0)) fun ok hA => V_nil
    obtain rfl := hs.ownLen 2 rfl
    have hs := hs.freezeOwn 2 rfl
    obtain rfl := hs.ownLen 2 rfl
    have hs := hs.freezeOwn 2 rfl
    refine W.loop hbs42 (fun s ρ w => match s with | (x27, x28, x29, x32, x35, x36, x39) => ∃ (a30 : Option Addr), ∃ (c31 : Nat), ∃ (a33 : Option Addr), ∃ (c34 : Nat), ∃ (a37 : Option Addr), ∃ (c38 : Nat), ∃ (a40 : Option Addr), ∃ (c41 : Nat), ρ 0 = .slice a2 x1.length c3 ∧ ρ 3 = .pointer (some ⟨g18, 0, none⟩) ∧ ρ 4 = .pointer (some ⟨g19, 0, none⟩) ∧ ρ 5 = .int .i64 x27 ∧ St ok (bz w0) w [vl (tSlice t_elasticstorelaw34_Act) x1 (.slice a2 x1.length c3), vl (tSlice t_network_Packet) x29 (.slice a30 x29.length c31), vl (tSlice t_network_Side) x32 (.slice a33 x32.length c34), vl (tSlice t_network_Packet) x36 (.slice a37 x36.length c38), vl (tSlice t_network_Side) x39 (.slice a40 x39.length c41)] [blk g19 27 [.int .i64 x28, .slice a30 x29.length c31, .slice a33 x32.length c34], blk g18 27 [.int .i64 x35, .slice a37 x36.length c38, .slice a40 x39.length c41]]) ⟨none, 0, none, 0, a12, c14, a15, c17, rfl, rfl, rfl, rfl, (hs.mask [true, true]).pick [4, 3, 2, 1, 0]⟩ ?_
    intro s ρ w os42 hI hf hbbs42
    obtain ⟨x27, x28, x29, x32, x35, x36, x39⟩ := s
    obtain ⟨a30, c31, a33, c34, a37, c38, a40, c41, h26_0, h26_3, h26_4, h26_5, hs⟩ := hI
    unfold eslaw34_NetworkPlays.l1 at hf
    refine W.seqK fun K43 hK43 => ?_
    refine W.seqK fun K44 hK44 => ?_
    refine W.region ?_
    refine WL.move (v := .int .i64 x27) h26_5 ?_
    refine WL.move (v := .slice a2 x1.length c3) h26_0 ?_
    refine WL.len (v := .slice a2 x1.length c3) rfl (len_slice UN22) ?_
    refine WL.bin (v := .bool (decide (x27 < (x1.length : Int)))) rfl rfl (ib_lss _ _ _) ?_
    refine WL.nil ?_
    refine hK44 _ _ ?_
    rcases iteE hf with ⟨hc45, hf⟩ | ⟨hc45, hf⟩
    · refine W.cond_true (bool_tr rfl hc45) ?_
      refine W.skip ?_
      refine hK43 _ _ ?_
      refine W.seqK fun K46 hK46 => ?_
      refine W.block ?_
      refine W.seqK fun K47 hK47 => ?_
      refine W.region ?_
      refine WL.assign (v := .bool false) rfl ?_
      refine WL.nil ?_
      refine hK47 _ _ ?_
      refine W.seqK fun K48 hK48 => ?_
      have Jk65 : ∀ (x50 : Bool) (x51 : Int) (x52 : List network_Packet) (x55 : List network_Side) (x58 : Int) (x59 : List network_Packet) (x62 : List network_Side) (a53 : Option Addr) (c54 : Nat) (a56 : Option Addr) (c57 : Nat) (a60 : Option Addr) (c61 : Nat) (a63 : Option Addr) (c64 : Nat) (ρ : Env) (w : World), ρ 0 = .slice a2 x1.length c3 → ρ 3 = .pointer (some ⟨g18, 0, none⟩) → ρ 4 = .pointer (some ⟨g19, 0, none⟩) → ρ 5 = .int .i64 x27 → ρ 6 = .bool x50 → St ok (bz w0) w [vl (tSlice t_elasticstorelaw34_Act) x1 (.slice a2 x1.length c3), vl (tSlice t_network_Packet) x52 (.slice a53 x52.length c54), vl (tSlice t_network_Side) x55 (.slice a56 x55.length c57), vl (tSlice t_network_Packet) x59 (.slice a60 x59.length c61), vl (tSlice t_network_Side) x62 (.slice a63 x62.length c64)] [blk g19 27 [.int .i64 x51, .slice a53 x52.length c54, .slice a56 x55.length c57], blk g18 27 [.int .i64 x58, .slice a60 x59.length c61, .slice a63 x62.length c64]] → eslaw34_NetworkPlays.j4 x1 x27 x50 x51 x52 x55 x58 x59 x62 = some os42 → K48 ρ w := by
        intro x50 x51 x52 x55 x58 x59 x62 a53 c54 a56 c57 a60 c61 a63 c64 ρ w h49_0 h49_3 h49_4 h49_5 h49_6 hs hf
        refine hK48 _ _ ?_
        unfold eslaw34_NetworkPlays.j4 at hf
        refine W.seqK fun K66 hK66 => ?_
        refine W.seqK fun K67 hK67 => ?_
        have Jk70 : ∀ (x69 : Bool) (ρ : Env) (w : World), ρ 0 = .slice a2 x1.length c3 → ρ 3 = .pointer (some ⟨g18, 0, none⟩) → ρ 4 = .pointer (some ⟨g19, 0, none⟩) → ρ 5 = .int .i64 x27 → ρ 50 = .bool x69 → St ok (bz w0) w [vl (tSlice t_elasticstorelaw34_Act) x1 (.slice a2 x1.length c3), vl (tSlice t_network_Packet) x52 (.slice a53 x52.length c54), vl (tSlice t_network_Side) x55 (.slice a56 x55.length c57), vl (tSlice t_network_Packet) x59 (.slice a60 x59.length c61), vl (tSlice t_network_Side) x62 (.slice a63 x62.length c64)] [blk g19 27 [.int .i64 x51, .slice a53 x52.length c54, .slice a56 x55.length c57], blk g18 27 [.int .i64 x58, .slice a60 x59.length c61, .slice a63 x62.length c64]] → eslaw34_NetworkPlays.j3 x1 x27 x51 x52 x55 x58 x59 x62 x69 = some os42 → K67 ρ w := by
          intro x69 ρ w h68_0 h68_3 h68_4 h68_5 h68_50 hs hf
          refine hK67 _ _ ?_
          unfold eslaw34_NetworkPlays.j3 at hf
          rcases iteE hf with ⟨hc71, hf⟩ | ⟨hc71, hf⟩
          · refine W.cond_true (bool_tr h68_50 hc71) ?_
            refine W.seqK fun K72 hK72 => ?_
            refine W.region ?_
            refine WL.assign (v := .bool false) rfl ?_
            refine WL.nil ?_
            refine hK72 _ _ ?_
            refine W.ret ?_
            have hr := Option.some.inj hf; subst hr
            have hr := hbbs42 _ rfl; subst hr
            have hf := hfs42
            have hr := Option.some.inj hf; subst hr
            exact ⟨_, resOk_one rfl rfl, (), rfl, (hs.mask []).pick []⟩
          · refine W.cond_false (bool_tr h68_50 hc71) ?_
            refine W.skip ?_
            refine hK66 _ _ ?_
            refine W.seqK fun K73 hK73 => ?_
            obtain ⟨x74, hxx74, hf⟩ := bindE hf
            obtain ⟨x78, ex78, hf⟩ := letE hf
            obtain ⟨x79, hxx79, hf⟩ := bindE hf
            refine W.any (by kernel_rfl) 9 1 [true, true, true, true, true, true, true, true, true, false] rfl rfl (poAt [pv (.slice a2 x1.length c3), pv (.int .i64 x27), pq (fun y : Addr => .pointer (some y)) (fun v => [pl t_elasticstorelaw34_Act x74 (adOf v)]) (fun v => []), pq (fun y : Addr => .pointer (some y)) (fun v => [pl (tInt .i64) x74.M (adOf v)]) (fun v => []), pv (.int .i64 x74.M), pv (.pointer (some ⟨g18, 0, none⟩)), pv (.int .i64 x58), pv (.int .i64 x78), pv (.int .i64 x79)]) (Λ := [blk g19 27 [.int .i64 x51, .slice a53 x52.length c54, .slice a56 x55.length c57], blk g18 27 [.int .i64 x58, .slice a60 x59.length c61, .slice a63 x62.length c64]]) hs (by kernel_rfl) (by kernel_rfl) (by kernel_rfl) ⟨⟨⟨⟨⟨⟨⟨⟨⟨trivial, ?_⟩, ?_⟩, ?_⟩, ?_⟩, ?_⟩, ?_⟩, ?_⟩, ?_⟩, ?_⟩ ?_
            · intro ρ w Γx Λx hs hu hp
              refine WL.move (v := .slice a2 x1.length c3) ((hu 0 rfl).trans h68_0) ?_
              exact WL.nil ⟨rfl, _, rfl, rfl, hs.cutG 0 0⟩
            · intro ρ w Γx Λx hs hu hp
              refine WL.move (v := .int .i64 x27) ((hu 5 rfl).trans h68_5) ?_
              exact WL.nil ⟨rfl, _, rfl, rfl, hs.cutG 0 0⟩
            · intro ρ w Γx Λx hs hu hp
              have e80 : ρ 51 = .slice a2 x1.length c3 := (hp 0 rfl).1
              have e81 : ρ 52 = .int .i64 x27 := (hp 1 rfl).1
              refine WL.indexAddr hs (Γx.length + 0) (getApp rfl) UN22 TI33 e80 e81 hxx74 (fun ad75 hs => ?_)
              have hs := hs.add (it := pl t_elasticstorelaw34_Act x74 ad75) fun ok hA => hA.get 0 rfl
              exact WL.nil ⟨rfl, _, rfl, ⟨ad75, rfl⟩, hs.cutG 1 1⟩
            · intro ρ w Γx Λx hs hu hp
              obtain ⟨⟨ad82, e83r⟩, hm84⟩ := hp 2 rfl
              have e83 : ρ 53 = .pointer (some ad82) := e83r
              rw [e83r] at hm84
              have hs := hs.memo1 (it := pl t_elasticstorelaw34_Act x74 ad82) (List.mem_append.2 (.inl (hm84 _ (List.mem_of_getElem? (i := 0) rfl))))
              refine WL.fieldAddrP (z := x74.M) F_elasticstorelaw34_Act_M hs 0 rfl e83 FA33_2 rfl (fun ad76 hs => ?_)
              have hs := hs.add (it := pl (tInt .i64) x74.M ad76) fun ok hA => hA.get 0 rfl
              exact WL.nil ⟨rfl, _, rfl, ⟨ad76, rfl⟩, hs.cutG 1 2⟩
            · intro ρ w Γx Λx hs hu hp
              obtain ⟨⟨ad85, e86r⟩, hm87⟩ := hp 3 rfl
              have e86 : ρ 54 = .pointer (some ad85) := e86r
              rw [e86r] at hm87
              have hs := hs.memo1 (it := pl (tInt .i64) x74.M ad85) (List.mem_append.2 (.inl (hm87 _ (List.mem_of_getElem? (i := 0) rfl))))
              refine WL.loadP hs 0 rfl TI3 (.inr rfl) e86 (fun v77 hs => ?_)
              obtain rfl := hs.int 0 rfl
              exact WL.nil ⟨rfl, _, rfl, rfl, hs.cutG 0 2⟩
            · intro ρ w Γx Λx hs hu hp
              refine WL.fieldAddr (m := 0) ((hu 3 rfl).trans h68_3) FA27_0 rfl ?_
              exact WL.nil ⟨rfl, _, rfl, rfl, hs.cutG 0 0⟩
            · intro ρ w Γx Λx hs hu hp
              have e88 : ρ 56 = .pointer (some ⟨g18, 0, none⟩) := (hp 5 rfl).1
              refine WL.load1 (v := .int .i64 x58) hs (Λx.length + 1) (getApp rfl) TI3 e88 rfl ?_
              exact WL.nil ⟨rfl, _, rfl, rfl, hs.cutG 0 0⟩
            · intro ρ w Γx Λx hs hu hp
              have e89 : ρ 57 = .int .i64 x58 := (hp 6 rfl).1
              refine WL.bin (v := .int .i64 x78) e89 rfl (ib_as ex78 (ib_add _ _ _)) ?_
              exact WL.nil ⟨rfl, _, rfl, rfl, hs.cutG 0 0⟩
            · intro ρ w Γx Λx hs hu hp
              have e90 : ρ 55 = .int .i64 x74.M := (hp 4 rfl).1
              have e91 : ρ 58 = .int .i64 x78 := (hp 7 rfl).1
              refine WL.call (vs := [.int .i64 x74.M, .int .i64 x78]) hs FN17 ⟨e90, ⟨e91, trivial⟩⟩ (fun ok hA => eslaw00_Index.calls (x1 := x74.M) (x2 := x78) hxx79) ?_
              rintro _ w hs
              exact WL.nil ⟨rfl, _, rfl, rfl, hs.cutG 0 0⟩
            · intro ρ w hs hu92 hp
              obtain ⟨⟨⟨⟨⟨⟨⟨⟨⟨_, hp0_⟩, hp1_⟩, hp2_⟩, hp3_⟩, hp4_⟩, hp5_⟩, hp6_⟩, hp7_⟩, hp8_⟩ := hp
              have hs : St ok (bz w0) w [pl (tInt .i64) x74.M (adOf (ρ 54)), pl t_elasticstorelaw34_Act x74 (adOf (ρ 53)), vl (tSlice t_elasticstorelaw34_Act) x1 (.slice a2 x1.length c3), vl (tSlice t_network_Packet) x52 (.slice a53 x52.length c54), vl (tSlice t_network_Side) x55 (.slice a56 x55.length c57), vl (tSlice t_network_Packet) x59 (.slice a60 x59.length c61), vl (tSlice t_network_Side) x62 (.slice a63 x62.length c64)] [blk g19 27 [.int .i64 x51, .slice a53 x52.length c54, .slice a56 x55.length c57], blk g18 27 [.int .i64 x58, .slice a60 x59.length c61, .slice a63 x62.length c64]] := hs
              have e93 : ρ 59 = .int .i64 x79 := hp8_
              have e94 : ρ 58 = .int .i64 x78 := hp7_
              have e95 : ρ 57 = .int .i64 x58 := hp6_
              have e96 : ρ 56 = .pointer (some ⟨g18, 0, none⟩) := hp5_
              have e97 : ρ 55 = .int .i64 x74.M := hp4_
              obtain ⟨ad98, e99⟩ := hp3_
              have e99 : ρ 54 = .pointer (some ad98) := e99
              try rw [e99] at hs
              obtain ⟨ad100, e101⟩ := hp2_
              have e101 : ρ 53 = .pointer (some ad100) := e101
              try rw [e101] at hs
              have e102 : ρ 52 = .int .i64 x27 := hp1_
              have e103 : ρ 51 = .slice a2 x1.length c3 := hp0_
              refine WA.step [9] (by kernel_rfl) (by simp) ⟨?_, trivial⟩
              refine WL.assign (v := .int .i64 x79) e93 ?_
              refine WL.nil ⟨rfl, _, rfl, ?_⟩
              refine WA.done (by kernel_rfl) ?_
              refine hK73 _ _ ?_
              refine W.seqK fun K104 hK104 => ?_
              refine W.region ?_
              refine WL.loadN (vs := [.int .i64 x58, .slice a60 x59.length c61, .slice a63 x62.length c64]) hs 1 rfl TI27 ((hu92 3 rfl).trans h68_3) rfl rfl ?_
              refine WL.move (v := .int .i64 x79) rfl ?_
              have hs := hs.add (it := vl t_network_Network (⟨x58, x59, x62⟩ : network_Network) (.agg [.int .i64 x58, .slice a60 x59.length c61, .slice a63 x62.length c64].toArray)) fun ok hA => V_agg (show t_network_Network.R ok _ _ _ from ⟨[.int .i64 x58], [.slice a60 x59.length c61, .slice a63 x62.length c64], rfl, rfl, ⟨[.slice a60 x59.length c61], [.slice a63 x62.length c64], rfl, (R_one (hA.get 5 rfl)), (R_one (hA.get 6 rfl))⟩⟩) rfl
              obtain ⟨⟨x105, x106⟩, hxx105, hf⟩ := bindE hf
              refine WL.call (vs := [.agg ([.int .i64 x58, .slice a60 x59.length c61, .slice a63 x62.length c64] : List Value).toArray, .int .i64 x79]) hs FN22 ⟨rfl, ⟨rfl, trivial⟩⟩ (fun ok hA => network_Find.calls (x1 := (⟨x58, x59, x62⟩ : network_Network)) (x5 := x79) hxx105 (hA.get 0 rfl)) ?_
              rintro cs107 w hs
              have hl108 := hs.agglen (n := 18) 0 rfl rfl rfl
              refine WL.move (v := .tuple #[.agg cs107.toArray, .bool x106]) rfl ?_
              refine WL.extract (v := .agg cs107.toArray) rfl rfl ?_
              refine WL.extract (v := .bool x106) rfl rfl ?_
              refine WL.alloc hs ZV49 (fun g109 w hs => ?_)
              refine WL.storeAll (vs := cs107) hs 0 rfl TI49 rfl rfl rfl hl108 (hs.ones 0 rfl rfl) rfl (fun w hs => ?_)
              refine WL.assign (v := .bool x106) rfl ?_
              refine WL.nil ?_
              refine hK104 _ _ ?_
              refine W.seqK fun K110 hK110 => ?_
              refine W.region ?_
              refine WL.loadN (vs := [.int .i64 x51, .slice a53 x52.length c54, .slice a56 x55.length c57]) hs 1 rfl TI27 ((hu92 4 rfl).trans h68_4) rfl rfl ?_
              refine WL.move (v := .int .i64 x79) rfl ?_
              have hs := hs.add (it := vl t_network_Network (⟨x51, x52, x55⟩ : network_Network) (.agg [.int .i64 x51, .slice a53 x52.length c54, .slice a56 x55.length c57].toArray)) fun ok hA => V_agg (show t_network_Network.R ok _ _ _ from ⟨[.int .i64 x51], [.slice a53 x52.length c54, .slice a56 x55.length c57], rfl, rfl, ⟨[.slice a53 x52.length c54], [.slice a56 x55.length c57], rfl, (R_one (hA.get 5 rfl)), (R_one (hA.get 6 rfl))⟩⟩) rfl
              obtain ⟨⟨x111, x112⟩, hxx111, hf⟩ := bindE hf
              refine WL.call (vs := [.agg ([.int .i64 x51, .slice a53 x52.length c54, .slice a56 x55.length c57] : List Value).toArray, .int .i64 x79]) hs FN23 ⟨rfl, ⟨rfl, trivial⟩⟩ (fun ok hA => esref36_Find.calls (x1 := (⟨x51, x52, x55⟩ : network_Network)) (x5 := x79) hxx111 (hA.get 0 rfl)) ?_
              rintro cs113 w hs
              have hl114 := hs.agglen (n := 18) 0 rfl rfl rfl
              refine WL.move (v := .tuple #[.agg cs113.toArray, .bool x112]) rfl ?_
              refine WL.extract (v := .agg cs113.toArray) rfl rfl ?_
              refine WL.extract (v := .bool x112) rfl rfl ?_
              refine WL.alloc hs ZV49 (fun g115 w hs => ?_)
              refine WL.storeAll (vs := cs113) hs 0 rfl TI49 rfl rfl rfl hl114 (hs.ones 0 rfl rfl) rfl (fun w hs => ?_)
              refine WL.assign (v := .bool x112) rfl ?_
              refine WL.nil ?_
              refine hK110 _ _ ?_
              refine W.seqK fun K116 hK116 => ?_
              have Jk119 : ∀ (x118 : Bool) (ρ : Env) (w : World), ρ 0 = .slice a2 x1.length c3 → ρ 3 = .pointer (some ⟨g18, 0, none⟩) → ρ 4 = .pointer (some ⟨g19, 0, none⟩) → ρ 5 = .int .i64 x27 → ρ 111 = .bool x118 → St ok (bz w0) w [vl (tSlice t_elasticstorelaw34_Act) x1 (.slice a2 x1.length c3), vl (tSlice t_network_Packet) x52 (.slice a53 x52.length c54), vl (tSlice t_network_Side) x55 (.slice a56 x55.length c57), vl (tSlice t_network_Packet) x59 (.slice a60 x59.length c61), vl (tSlice t_network_Side) x62 (.slice a63 x62.length c64)] [blk g19 27 [.int .i64 x51, .slice a53 x52.length c54, .slice a56 x55.length c57], blk g18 27 [.int .i64 x58, .slice a60 x59.length c61, .slice a63 x62.length c64]] → eslaw34_NetworkPlays.j2 x27 x51 x52 x55 x58 x59 x62 x118 = some os42 → K116 ρ w := by
                intro x118 ρ w h117_0 h117_3 h117_4 h117_5 h117_111 hs hf
                refine hK116 _ _ ?_
                unfold eslaw34_NetworkPlays.j2 at hf
                rcases iteE hf with ⟨hc120, hf⟩ | ⟨hc120, hf⟩
                · refine W.cond_true (bool_tr h117_111 hc120) ?_
                  refine W.seqK fun K121 hK121 => ?_
                  refine W.region ?_
                  refine WL.assign (v := .bool false) rfl ?_
                  refine WL.nil ?_
                  refine hK121 _ _ ?_
                  refine W.ret ?_
                  have hr := Option.some.inj hf; subst hr
                  have hr := hbbs42 _ rfl; subst hr
                  have hf := hfs42
                  have hr := Option.some.inj hf; subst hr
                  exact ⟨_, resOk_one rfl rfl, (), rfl, (hs.mask []).pick []⟩
                · refine W.cond_false (bool_tr h117_111 hc120) ?_
                  refine W.skip ?_
                  refine hK46 _ _ ?_
                  refine W.region ?_
                  refine WL.move (v := .int .i64 x27) h117_5 ?_
                  obtain ⟨x122, ex122, hf⟩ := letE hf
                  refine WL.bin (v := .int .i64 x122) rfl rfl (ib_as ex122 (ib_add _ _ _)) ?_
                  refine WL.assign (v := .int .i64 x122) rfl ?_
                  refine WL.nil ?_
                  exact ⟨_, (Option.some.inj hf).symm, a53, c54, a56, c57, a60, c61, a63, c64, h117_0, h117_3, h117_4, rfl, (hs.mask [true, true]).pick [0, 1, 2, 3, 4]⟩
              rcases iteE hf with ⟨hc123, hf⟩ | ⟨hc123, hf⟩
              · refine W.any (by kernel_rfl) 40 0 [true, true, true, true, true, true, true, true, true, true, true, true, true, true, true, true, true, true, true, true, true, true, true, true, true, true, true, true, true, true, true, true, true, true, true, true, true, true, true, true] rfl rfl (poAt [pv (.bool x106), pv (.bool x112), pv (.bool (x106 != x112)), pv (.bool (x106 != x112)), pv (undef), pv (undef), pv (undef), pv (undef), pv (.bool true), pv (.bool true), pv (undef), pv (undef), pv (undef), pv (undef), pv (undef), pv (undef), pv (undef), pv (undef), pv (undef), pv (undef), pv (undef), pv (undef), pv (undef), pv (undef), pv (undef), pv (undef), pv (undef), pv (undef), pv (undef), pv (undef), pv (undef), pv (undef), pv (undef), pv (undef), pv (undef), pv (undef), pv (undef), pv (undef), pv (undef), pv (.bool true)]) (Λ := [blk g115 49 cs113, blk g109 49 cs107, blk g19 27 [.int .i64 x51, .slice a53 x52.length c54, .slice a56 x55.length c57], blk g18 27 [.int .i64 x58, .slice a60 x59.length c61, .slice a63 x62.length c64]]) hs (by kernel_rfl) (by kernel_rfl) (by kernel_rfl) ⟨⟨⟨⟨⟨⟨⟨⟨⟨⟨⟨⟨⟨⟨⟨⟨⟨⟨⟨⟨⟨⟨⟨⟨⟨⟨⟨⟨⟨⟨⟨⟨⟨⟨⟨⟨⟨⟨⟨⟨trivial, ?_⟩, ?_⟩, ?_⟩, ?_⟩, ?_⟩, ?_⟩, ?_⟩, ?_⟩, ?_⟩, ?_⟩, ?_⟩, ?_⟩, ?_⟩, ?_⟩, ?_⟩, ?_⟩, ?_⟩, ?_⟩, ?_⟩, ?_⟩, ?_⟩, ?_⟩, ?_⟩, ?_⟩, ?_⟩, ?_⟩, ?_⟩, ?_⟩, ?_⟩, ?_⟩, ?_⟩, ?_⟩, ?_⟩, ?_⟩, ?_⟩, ?_⟩, ?_⟩, ?_⟩, ?_⟩, ?_⟩ ?_
                · intro ρ w Γx Λx hs hu hp
                  refine WL.move (v := .bool x106) (hu 9 rfl) ?_
                  exact WL.nil ⟨rfl, _, rfl, rfl, hs.cutG 0 0⟩
                · intro ρ w Γx Λx hs hu hp
                  refine WL.move (v := .bool x112) (hu 11 rfl) ?_
                  exact WL.nil ⟨rfl, _, rfl, rfl, hs.cutG 0 0⟩
                · intro ρ w Γx Λx hs hu hp
                  have e124 : ρ 72 = .bool x106 := (hp 0 rfl).1
                  have e125 : ρ 73 = .bool x112 := (hp 1 rfl).1
                  refine WL.neB UN4 e124 e125 ?_
                  exact WL.nil ⟨rfl, _, rfl, rfl, hs.cutG 0 0⟩
                · intro ρ w Γx Λx hs hu hp
                  have e126 : ρ 74 = .bool (x106 != x112) := (hp 2 rfl).1
                  refine WL.move (v := .bool (x106 != x112)) e126 ?_
                  exact WL.nil ⟨rfl, _, rfl, rfl, hs.cutG 0 0⟩
                · intro ρ w Γx Λx hs hu hp
                  have e127 : ρ 75 = .bool (x106 != x112) := (hp 3 rfl).1
                  refine WL.pass ((wanted_of rfl rfl (bool_tr e127 hc123)).trans rfl) rfl ?_
                  exact WL.nil ⟨rfl, _, rfl, rfl, hs.cutG 0 0⟩
                · intro ρ w Γx Λx hs hu hp
                  have e128 : ρ 75 = .bool (x106 != x112) := (hp 3 rfl).1
                  refine WL.pass ((wanted_of rfl rfl (bool_tr e128 hc123)).trans rfl) rfl ?_
                  exact WL.nil ⟨rfl, _, rfl, rfl, hs.cutG 0 0⟩
                · intro ρ w Γx Λx hs hu hp
                  have e129 : ρ 76 = undef := (hp 4 rfl).1
                  have e130 : ρ 77 = undef := (hp 5 rfl).1
                  have e131 : ρ 75 = .bool (x106 != x112) := (hp 3 rfl).1
                  refine WL.pass ((wanted_of rfl rfl (bool_tr e131 hc123)).trans rfl) rfl ?_
                  exact WL.nil ⟨rfl, _, rfl, rfl, hs.cutG 0 0⟩
                · intro ρ w Γx Λx hs hu hp
                  have e132 : ρ 78 = undef := (hp 6 rfl).1
                  have e133 : ρ 75 = .bool (x106 != x112) := (hp 3 rfl).1
                  refine WL.pass ((wanted_of rfl rfl (bool_tr e133 hc123)).trans rfl) rfl ?_
                  exact WL.nil ⟨rfl, _, rfl, rfl, hs.cutG 0 0⟩
                · intro ρ w Γx Λx hs hu hp
                  have e134 : ρ 75 = .bool (x106 != x112) := (hp 3 rfl).1
                  have e135 : ρ 79 = undef := (hp 7 rfl).1
                  refine WL.pickT (v := .bool true) (bool_tr e134 hc123) rfl ?_
                  exact WL.nil ⟨rfl, _, rfl, rfl, hs.cutG 0 0⟩
                · intro ρ w Γx Λx hs hu hp
                  have e136 : ρ 80 = .bool true := (hp 8 rfl).1
                  refine WL.move (v := .bool true) e136 ?_
                  exact WL.nil ⟨rfl, _, rfl, rfl, hs.cutG 0 0⟩
                · intro ρ w Γx Λx hs hu hp
                  have e137 : ρ 81 = .bool true := (hp 9 rfl).1
                  refine WL.pass ((wanted_of rfl rfl e137).trans rfl) rfl ?_
                  exact WL.nil ⟨rfl, _, rfl, rfl, hs.cutG 0 0⟩
                · intro ρ w Γx Λx hs hu hp
                  have e138 : ρ 81 = .bool true := (hp 9 rfl).1
                  refine WL.pass ((wanted_of rfl rfl e138).trans rfl) rfl ?_
                  exact WL.nil ⟨rfl, _, rfl, rfl, hs.cutG 0 0⟩
                · intro ρ w Γx Λx hs hu hp
                  have e139 : ρ 81 = .bool true := (hp 9 rfl).1
                  refine WL.pass ((wanted_of rfl rfl e139).trans rfl) rfl ?_
                  exact WL.nil ⟨rfl, _, rfl, rfl, hs.cutG 0 0⟩
                · intro ρ w Γx Λx hs hu hp
                  have e140 : ρ 83 = undef := (hp 11 rfl).1
                  have e141 : ρ 84 = undef := (hp 12 rfl).1
                  have e142 : ρ 81 = .bool true := (hp 9 rfl).1
                  refine WL.pass ((wanted_of rfl rfl e142).trans rfl) rfl ?_
                  exact WL.nil ⟨rfl, _, rfl, rfl, hs.cutG 0 0⟩
                · intro ρ w Γx Λx hs hu hp
                  have e143 : ρ 85 = undef := (hp 13 rfl).1
                  have e144 : ρ 81 = .bool true := (hp 9 rfl).1
                  refine WL.pass ((wanted_of rfl rfl e144).trans rfl) rfl ?_
                  exact WL.nil ⟨rfl, _, rfl, rfl, hs.cutG 0 0⟩
                · intro ρ w Γx Λx hs hu hp
                  have e145 : ρ 86 = undef := (hp 14 rfl).1
                  have e146 : ρ 81 = .bool true := (hp 9 rfl).1
                  refine WL.pass ((wanted_of rfl rfl e146).trans rfl) rfl ?_
                  exact WL.nil ⟨rfl, _, rfl, rfl, hs.cutG 0 0⟩
                · intro ρ w Γx Λx hs hu hp
                  have e147 : ρ 87 = undef := (hp 15 rfl).1
                  have e148 : ρ 81 = .bool true := (hp 9 rfl).1
                  refine WL.pass ((wanted_of rfl rfl e148).trans rfl) rfl ?_
                  exact WL.nil ⟨rfl, _, rfl, rfl, hs.cutG 0 0⟩
                · intro ρ w Γx Λx hs hu hp
                  have e149 : ρ 81 = .bool true := (hp 9 rfl).1
                  refine WL.pass ((wanted_of rfl rfl e149).trans rfl) rfl ?_
                  exact WL.nil ⟨rfl, _, rfl, rfl, hs.cutG 0 0⟩
                · intro ρ w Γx Λx hs hu hp
                  have e150 : ρ 81 = .bool true := (hp 9 rfl).1
                  refine WL.pass ((wanted_of rfl rfl e150).trans rfl) rfl ?_
                  exact WL.nil ⟨rfl, _, rfl, rfl, hs.cutG 0 0⟩
                · intro ρ w Γx Λx hs hu hp
                  have e151 : ρ 89 = undef := (hp 17 rfl).1
                  have e152 : ρ 90 = undef := (hp 18 rfl).1
                  have e153 : ρ 81 = .bool true := (hp 9 rfl).1
                  refine WL.pass ((wanted_of rfl rfl e153).trans rfl) rfl ?_
                  exact WL.nil ⟨rfl, _, rfl, rfl, hs.cutG 0 0⟩
                · intro ρ w Γx Λx hs hu hp
                  have e154 : ρ 91 = undef := (hp 19 rfl).1
                  have e155 : ρ 81 = .bool true := (hp 9 rfl).1
                  refine WL.pass ((wanted_of rfl rfl e155).trans rfl) rfl ?_
                  exact WL.nil ⟨rfl, _, rfl, rfl, hs.cutG 0 0⟩
                · intro ρ w Γx Λx hs hu hp
                  have e156 : ρ 92 = undef := (hp 20 rfl).1
                  have e157 : ρ 81 = .bool true := (hp 9 rfl).1
                  refine WL.pass ((wanted_of rfl rfl e157).trans rfl) rfl ?_
                  exact WL.nil ⟨rfl, _, rfl, rfl, hs.cutG 0 0⟩
                · intro ρ w Γx Λx hs hu hp
                  have e158 : ρ 93 = undef := (hp 21 rfl).1
                  have e159 : ρ 81 = .bool true := (hp 9 rfl).1
                  refine WL.pass ((wanted_of rfl rfl e159).trans rfl) rfl ?_
                  exact WL.nil ⟨rfl, _, rfl, rfl, hs.cutG 0 0⟩
                · intro ρ w Γx Λx hs hu hp
                  have e160 : ρ 82 = undef := (hp 10 rfl).1
                  have e161 : ρ 88 = undef := (hp 16 rfl).1
                  have e162 : ρ 94 = undef := (hp 22 rfl).1
                  have e163 : ρ 81 = .bool true := (hp 9 rfl).1
                  refine WL.pass ((wanted_of rfl rfl e163).trans rfl) rfl ?_
                  exact WL.nil ⟨rfl, _, rfl, rfl, hs.cutG 0 0⟩
                · intro ρ w Γx Λx hs hu hp
                  have e164 : ρ 81 = .bool true := (hp 9 rfl).1
                  refine WL.pass ((wanted_of rfl rfl e164).trans rfl) rfl ?_
                  exact WL.nil ⟨rfl, _, rfl, rfl, hs.cutG 0 0⟩
                · intro ρ w Γx Λx hs hu hp
                  have e165 : ρ 81 = .bool true := (hp 9 rfl).1
                  refine WL.pass ((wanted_of rfl rfl e165).trans rfl) rfl ?_
                  exact WL.nil ⟨rfl, _, rfl, rfl, hs.cutG 0 0⟩
                · intro ρ w Γx Λx hs hu hp
                  have e166 : ρ 81 = .bool true := (hp 9 rfl).1
                  refine WL.pass ((wanted_of rfl rfl e166).trans rfl) rfl ?_
                  exact WL.nil ⟨rfl, _, rfl, rfl, hs.cutG 0 0⟩
                · intro ρ w Γx Λx hs hu hp
                  have e167 : ρ 97 = undef := (hp 25 rfl).1
                  have e168 : ρ 98 = undef := (hp 26 rfl).1
                  have e169 : ρ 81 = .bool true := (hp 9 rfl).1
                  refine WL.pass ((wanted_of rfl rfl e169).trans rfl) rfl ?_
                  exact WL.nil ⟨rfl, _, rfl, rfl, hs.cutG 0 0⟩
                · intro ρ w Γx Λx hs hu hp
                  have e170 : ρ 99 = undef := (hp 27 rfl).1
                  have e171 : ρ 81 = .bool true := (hp 9 rfl).1
                  refine WL.pass ((wanted_of rfl rfl e171).trans rfl) rfl ?_
                  exact WL.nil ⟨rfl, _, rfl, rfl, hs.cutG 0 0⟩
                · intro ρ w Γx Λx hs hu hp
                  have e172 : ρ 100 = undef := (hp 28 rfl).1
                  have e173 : ρ 81 = .bool true := (hp 9 rfl).1
                  refine WL.pass ((wanted_of rfl rfl e173).trans rfl) rfl ?_
                  exact WL.nil ⟨rfl, _, rfl, rfl, hs.cutG 0 0⟩
                · intro ρ w Γx Λx hs hu hp
                  have e174 : ρ 101 = undef := (hp 29 rfl).1
                  have e175 : ρ 81 = .bool true := (hp 9 rfl).1
                  refine WL.pass ((wanted_of rfl rfl e175).trans rfl) rfl ?_
                  exact WL.nil ⟨rfl, _, rfl, rfl, hs.cutG 0 0⟩
                · intro ρ w Γx Λx hs hu hp
                  have e176 : ρ 81 = .bool true := (hp 9 rfl).1
                  refine WL.pass ((wanted_of rfl rfl e176).trans rfl) rfl ?_
                  exact WL.nil ⟨rfl, _, rfl, rfl, hs.cutG 0 0⟩
                · intro ρ w Γx Λx hs hu hp
                  have e177 : ρ 81 = .bool true := (hp 9 rfl).1
                  refine WL.pass ((wanted_of rfl rfl e177).trans rfl) rfl ?_
                  exact WL.nil ⟨rfl, _, rfl, rfl, hs.cutG 0 0⟩
                · intro ρ w Γx Λx hs hu hp
                  have e178 : ρ 103 = undef := (hp 31 rfl).1
                  have e179 : ρ 104 = undef := (hp 32 rfl).1
                  have e180 : ρ 81 = .bool true := (hp 9 rfl).1
                  refine WL.pass ((wanted_of rfl rfl e180).trans rfl) rfl ?_
                  exact WL.nil ⟨rfl, _, rfl, rfl, hs.cutG 0 0⟩
                · intro ρ w Γx Λx hs hu hp
                  have e181 : ρ 105 = undef := (hp 33 rfl).1
                  have e182 : ρ 81 = .bool true := (hp 9 rfl).1
                  refine WL.pass ((wanted_of rfl rfl e182).trans rfl) rfl ?_
                  exact WL.nil ⟨rfl, _, rfl, rfl, hs.cutG 0 0⟩
                · intro ρ w Γx Λx hs hu hp
                  have e183 : ρ 106 = undef := (hp 34 rfl).1
                  have e184 : ρ 81 = .bool true := (hp 9 rfl).1
                  refine WL.pass ((wanted_of rfl rfl e184).trans rfl) rfl ?_
                  exact WL.nil ⟨rfl, _, rfl, rfl, hs.cutG 0 0⟩
                · intro ρ w Γx Λx hs hu hp
                  have e185 : ρ 107 = undef := (hp 35 rfl).1
                  have e186 : ρ 81 = .bool true := (hp 9 rfl).1
                  refine WL.pass ((wanted_of rfl rfl e186).trans rfl) rfl ?_
                  exact WL.nil ⟨rfl, _, rfl, rfl, hs.cutG 0 0⟩
                · intro ρ w Γx Λx hs hu hp
                  have e187 : ρ 96 = undef := (hp 24 rfl).1
                  have e188 : ρ 102 = undef := (hp 30 rfl).1
                  have e189 : ρ 108 = undef := (hp 36 rfl).1
                  have e190 : ρ 81 = .bool true := (hp 9 rfl).1
                  refine WL.pass ((wanted_of rfl rfl e190).trans rfl) rfl ?_
                  exact WL.nil ⟨rfl, _, rfl, rfl, hs.cutG 0 0⟩
                · intro ρ w Γx Λx hs hu hp
                  have e191 : ρ 95 = undef := (hp 23 rfl).1
                  have e192 : ρ 109 = undef := (hp 37 rfl).1
                  have e193 : ρ 81 = .bool true := (hp 9 rfl).1
                  refine WL.pass ((wanted_of rfl rfl e193).trans rfl) rfl ?_
                  exact WL.nil ⟨rfl, _, rfl, rfl, hs.cutG 0 0⟩
                · intro ρ w Γx Λx hs hu hp
                  have e194 : ρ 81 = .bool true := (hp 9 rfl).1
                  have e195 : ρ 110 = undef := (hp 38 rfl).1
                  refine WL.pickT (v := .bool true) e194 rfl ?_
                  exact WL.nil ⟨rfl, _, rfl, rfl, hs.cutG 0 0⟩
                · intro ρ w hs hu196 hp
                  obtain ⟨⟨⟨⟨⟨⟨⟨⟨⟨⟨⟨⟨⟨⟨⟨⟨⟨⟨⟨⟨⟨⟨⟨⟨⟨⟨⟨⟨⟨⟨⟨⟨⟨⟨⟨⟨⟨⟨⟨⟨_, hp0_⟩, hp1_⟩, hp2_⟩, hp3_⟩, hp4_⟩, hp5_⟩, hp6_⟩, hp7_⟩, hp8_⟩, hp9_⟩, hp10_⟩, hp11_⟩, hp12_⟩, hp13_⟩, hp14_⟩, hp15_⟩, hp16_⟩, hp17_⟩, hp18_⟩, hp19_⟩, hp20_⟩, hp21_⟩, hp22_⟩, hp23_⟩, hp24_⟩, hp25_⟩, hp26_⟩, hp27_⟩, hp28_⟩, hp29_⟩, hp30_⟩, hp31_⟩, hp32_⟩, hp33_⟩, hp34_⟩, hp35_⟩, hp36_⟩, hp37_⟩, hp38_⟩, hp39_⟩ := hp
                  have hs : St ok (bz w0) w [vl t_api_Message x111 (.agg cs113.toArray), vl t_network_Network (⟨x51, x52, x55⟩ : network_Network) (.agg [.int .i64 x51, .slice a53 x52.length c54, .slice a56 x55.length c57].toArray), vl t_api_Message x105 (.agg cs107.toArray), vl t_network_Network (⟨x58, x59, x62⟩ : network_Network) (.agg [.int .i64 x58, .slice a60 x59.length c61, .slice a63 x62.length c64].toArray), pl (tInt .i64) x74.M ad98, pl t_elasticstorelaw34_Act x74 ad100, vl (tSlice t_elasticstorelaw34_Act) x1 (.slice a2 x1.length c3), vl (tSlice t_network_Packet) x52 (.slice a53 x52.length c54), vl (tSlice t_network_Side) x55 (.slice a56 x55.length c57), vl (tSlice t_network_Packet) x59 (.slice a60 x59.length c61), vl (tSlice t_network_Side) x62 (.slice a63 x62.length c64)] [blk g115 49 cs113, blk g109 49 cs107, blk g19 27 [.int .i64 x51, .slice a53 x52.length c54, .slice a56 x55.length c57], blk g18 27 [.int .i64 x58, .slice a60 x59.length c61, .slice a63 x62.length c64]] := hs
                  have e197 : ρ 111 = .bool true := hp39_
                  have e198 : ρ 110 = undef := hp38_
                  have e199 : ρ 109 = undef := hp37_
                  have e200 : ρ 108 = undef := hp36_
                  have e201 : ρ 107 = undef := hp35_
                  have e202 : ρ 106 = undef := hp34_
                  have e203 : ρ 105 = undef := hp33_
                  have e204 : ρ 104 = undef := hp32_
                  have e205 : ρ 103 = undef := hp31_
                  have e206 : ρ 102 = undef := hp30_
                  have e207 : ρ 101 = undef := hp29_
                  have e208 : ρ 100 = undef := hp28_
                  have e209 : ρ 99 = undef := hp27_
                  have e210 : ρ 98 = undef := hp26_
                  have e211 : ρ 97 = undef := hp25_
                  have e212 : ρ 96 = undef := hp24_
                  have e213 : ρ 95 = undef := hp23_
                  have e214 : ρ 94 = undef := hp22_
                  have e215 : ρ 93 = undef := hp21_
                  have e216 : ρ 92 = undef := hp20_
                  have e217 : ρ 91 = undef := hp19_
                  have e218 : ρ 90 = undef := hp18_
                  have e219 : ρ 89 = undef := hp17_
                  have e220 : ρ 88 = undef := hp16_
                  have e221 : ρ 87 = undef := hp15_
                  have e222 : ρ 86 = undef := hp14_
                  have e223 : ρ 85 = undef := hp13_
                  have e224 : ρ 84 = undef := hp12_
                  have e225 : ρ 83 = undef := hp11_
                  have e226 : ρ 82 = undef := hp10_
                  have e227 : ρ 81 = .bool true := hp9_
                  have e228 : ρ 80 = .bool true := hp8_
                  have e229 : ρ 79 = undef := hp7_
                  have e230 : ρ 78 = undef := hp6_
                  have e231 : ρ 77 = undef := hp5_
                  have e232 : ρ 76 = undef := hp4_
                  have e233 : ρ 75 = .bool (x106 != x112) := hp3_
                  have e234 : ρ 74 = .bool (x106 != x112) := hp2_
                  have e235 : ρ 73 = .bool x112 := hp1_
                  have e236 : ρ 72 = .bool x106 := hp0_
                  refine WA.done (by kernel_rfl) ?_
                  exact Jk119 true _ _ ((hu196 0 rfl).trans ((hu92 0 rfl).trans h68_0)) ((hu196 3 rfl).trans ((hu92 3 rfl).trans h68_3)) ((hu196 4 rfl).trans ((hu92 4 rfl).trans h68_4)) ((hu196 5 rfl).trans ((hu92 5 rfl).trans h68_5)) e197 ((hs.mask [false, false, true, true]).pick [6, 7, 8, 9, 10]) hf
              · obtain ⟨x237, hxx237, hf⟩ := bindE hf
                rcases iteE hf with ⟨hc238, hf⟩ | ⟨hc238, hf⟩
                · refine W.any (by kernel_rfl) 40 0 [true, true, true, true, true, true, true, true, true, true, true, true, true, true, true, true, true, true, true, true, true, true, true, true, true, true, true, true, true, true, true, true, true, true, true, true, true, true, true, true] rfl rfl (poAt [pv (.bool x106), pv (.bool x112), pv (.bool (x106 != x112)), pv (.bool (x106 != x112)), pv (.agg cs107.toArray), pv (.agg cs113.toArray), pv (.bool x237), pv (.bool (!x237)), pv (.bool (!x237)), pv (.bool (!x237)), pv (undef), pv (undef), pv (undef), pv (undef), pv (undef), pv (undef), pv (undef), pv (undef), pv (undef), pv (undef), pv (undef), pv (undef), pv (undef), pv (undef), pv (undef), pv (undef), pv (undef), pv (undef), pv (undef), pv (undef), pv (undef), pv (undef), pv (undef), pv (undef), pv (undef), pv (undef), pv (undef), pv (undef), pv (undef), pv (.bool true)]) (Λ := [blk g115 49 cs113, blk g109 49 cs107, blk g19 27 [.int .i64 x51, .slice a53 x52.length c54, .slice a56 x55.length c57], blk g18 27 [.int .i64 x58, .slice a60 x59.length c61, .slice a63 x62.length c64]]) hs (by kernel_rfl) (by kernel_rfl) (by kernel_rfl) ⟨⟨⟨⟨⟨⟨⟨⟨⟨⟨⟨⟨⟨⟨⟨⟨⟨⟨⟨⟨⟨⟨⟨⟨⟨⟨⟨⟨⟨⟨⟨⟨⟨⟨⟨⟨⟨⟨⟨⟨trivial, ?_⟩, ?_⟩, ?_⟩, ?_⟩, ?_⟩, ?_⟩, ?_⟩, ?_⟩, ?_⟩, ?_⟩, ?_⟩, ?_⟩, ?_⟩, ?_⟩, ?_⟩, ?_⟩, ?_⟩, ?_⟩, ?_⟩, ?_⟩, ?_⟩, ?_⟩, ?_⟩, ?_⟩, ?_⟩, ?_⟩, ?_⟩, ?_⟩, ?_⟩, ?_⟩, ?_⟩, ?_⟩, ?_⟩, ?_⟩, ?_⟩, ?_⟩, ?_⟩, ?_⟩, ?_⟩, ?_⟩ ?_
                  · intro ρ w Γx Λx hs hu hp
                    refine WL.move (v := .bool x106) (hu 9 rfl) ?_
                    exact WL.nil ⟨rfl, _, rfl, rfl, hs.cutG 0 0⟩
                  · intro ρ w Γx Λx hs hu hp
                    refine WL.move (v := .bool x112) (hu 11 rfl) ?_
                    exact WL.nil ⟨rfl, _, rfl, rfl, hs.cutG 0 0⟩
                  · intro ρ w Γx Λx hs hu hp
                    have e239 : ρ 72 = .bool x106 := (hp 0 rfl).1
                    have e240 : ρ 73 = .bool x112 := (hp 1 rfl).1
                    refine WL.neB UN4 e239 e240 ?_
                    exact WL.nil ⟨rfl, _, rfl, rfl, hs.cutG 0 0⟩
                  · intro ρ w Γx Λx hs hu hp
                    have e241 : ρ 74 = .bool (x106 != x112) := (hp 2 rfl).1
                    refine WL.move (v := .bool (x106 != x112)) e241 ?_
                    exact WL.nil ⟨rfl, _, rfl, rfl, hs.cutG 0 0⟩
                  · intro ρ w Γx Λx hs hu hp
                    have e242 : ρ 75 = .bool (x106 != x112) := (hp 3 rfl).1
                    refine WL.loadAll hs (Λx.length + 1) (getApp rfl) TI49 (hu 8 rfl) hl108 ?_ (hg := (wanted_of rfl rfl (bool_tr e242 hc123)).trans rfl)
                    exact WL.nil ⟨rfl, _, rfl, rfl, hs.cutG 0 0⟩
                  · intro ρ w Γx Λx hs hu hp
                    have e243 : ρ 75 = .bool (x106 != x112) := (hp 3 rfl).1
                    refine WL.loadAll hs (Λx.length + 0) (getApp rfl) TI49 (hu 10 rfl) hl114 ?_ (hg := (wanted_of rfl rfl (bool_tr e243 hc123)).trans rfl)
                    exact WL.nil ⟨rfl, _, rfl, rfl, hs.cutG 0 0⟩
                  · intro ρ w Γx Λx hs hu hp
                    have e244 : ρ 76 = .agg cs107.toArray := (hp 4 rfl).1
                    have e245 : ρ 77 = .agg cs113.toArray := (hp 5 rfl).1
                    have e246 : ρ 75 = .bool (x106 != x112) := (hp 3 rfl).1
                    refine WL.call (vs := [.agg cs107.toArray, .agg cs113.toArray]) hs FN24 ⟨e244, ⟨e245, trivial⟩⟩ (fun ok hA => esref14_EqualMessage.calls (x1 := x105) (x5 := x111) hxx237 (hA.get (Γx.length + 2) (getApp rfl)) (hA.get (Γx.length + 0) (getApp rfl))) ?_ (hg := (wanted_of rfl rfl (bool_tr e246 hc123)).trans rfl)
                    rintro _ w hs
                    exact WL.nil ⟨rfl, _, rfl, rfl, hs.cutG 0 0⟩
                  · intro ρ w Γx Λx hs hu hp
                    have e247 : ρ 78 = .bool x237 := (hp 6 rfl).1
                    have e248 : ρ 75 = .bool (x106 != x112) := (hp 3 rfl).1
                    refine WL.not e247 ?_ (hg := (wanted_of rfl rfl (bool_tr e248 hc123)).trans rfl)
                    exact WL.nil ⟨rfl, _, rfl, rfl, hs.cutG 0 0⟩
                  · intro ρ w Γx Λx hs hu hp
                    have e249 : ρ 75 = .bool (x106 != x112) := (hp 3 rfl).1
                    have e250 : ρ 79 = .bool (!x237) := (hp 7 rfl).1
                    refine WL.pickF (v := .bool (!x237)) (bool_tr e249 hc123) e250 ?_
                    exact WL.nil ⟨rfl, _, rfl, rfl, hs.cutG 0 0⟩
                  · intro ρ w Γx Λx hs hu hp
                    have e251 : ρ 80 = .bool (!x237) := (hp 8 rfl).1
                    refine WL.move (v := .bool (!x237)) e251 ?_
                    exact WL.nil ⟨rfl, _, rfl, rfl, hs.cutG 0 0⟩
                  · intro ρ w Γx Λx hs hu hp
                    have e252 : ρ 81 = .bool (!x237) := (hp 9 rfl).1
                    refine WL.pass ((wanted_of rfl rfl (bool_tr e252 hc238)).trans rfl) rfl ?_
                    exact WL.nil ⟨rfl, _, rfl, rfl, hs.cutG 0 0⟩
                  · intro ρ w Γx Λx hs hu hp
                    have e253 : ρ 81 = .bool (!x237) := (hp 9 rfl).1
                    refine WL.pass ((wanted_of rfl rfl (bool_tr e253 hc238)).trans rfl) rfl ?_
                    exact WL.nil ⟨rfl, _, rfl, rfl, hs.cutG 0 0⟩
                  · intro ρ w Γx Λx hs hu hp
                    have e254 : ρ 81 = .bool (!x237) := (hp 9 rfl).1
                    refine WL.pass ((wanted_of rfl rfl (bool_tr e254 hc238)).trans rfl) rfl ?_
                    exact WL.nil ⟨rfl, _, rfl, rfl, hs.cutG 0 0⟩
                  · intro ρ w Γx Λx hs hu hp
                    have e255 : ρ 83 = undef := (hp 11 rfl).1
                    have e256 : ρ 84 = undef := (hp 12 rfl).1
                    have e257 : ρ 81 = .bool (!x237) := (hp 9 rfl).1
                    refine WL.pass ((wanted_of rfl rfl (bool_tr e257 hc238)).trans rfl) rfl ?_
                    exact WL.nil ⟨rfl, _, rfl, rfl, hs.cutG 0 0⟩
                  · intro ρ w Γx Λx hs hu hp
                    have e258 : ρ 85 = undef := (hp 13 rfl).1
                    have e259 : ρ 81 = .bool (!x237) := (hp 9 rfl).1
                    refine WL.pass ((wanted_of rfl rfl (bool_tr e259 hc238)).trans rfl) rfl ?_
                    exact WL.nil ⟨rfl, _, rfl, rfl, hs.cutG 0 0⟩
                  · intro ρ w Γx Λx hs hu hp
                    have e260 : ρ 86 = undef := (hp 14 rfl).1
                    have e261 : ρ 81 = .bool (!x237) := (hp 9 rfl).1
                    refine WL.pass ((wanted_of rfl rfl (bool_tr e261 hc238)).trans rfl) rfl ?_
                    exact WL.nil ⟨rfl, _, rfl, rfl, hs.cutG 0 0⟩
                  · intro ρ w Γx Λx hs hu hp
                    have e262 : ρ 87 = undef := (hp 15 rfl).1
                    have e263 : ρ 81 = .bool (!x237) := (hp 9 rfl).1
                    refine WL.pass ((wanted_of rfl rfl (bool_tr e263 hc238)).trans rfl) rfl ?_
                    exact WL.nil ⟨rfl, _, rfl, rfl, hs.cutG 0 0⟩
                  · intro ρ w Γx Λx hs hu hp
                    have e264 : ρ 81 = .bool (!x237) := (hp 9 rfl).1
                    refine WL.pass ((wanted_of rfl rfl (bool_tr e264 hc238)).trans rfl) rfl ?_
                    exact WL.nil ⟨rfl, _, rfl, rfl, hs.cutG 0 0⟩
                  · intro ρ w Γx Λx hs hu hp
                    have e265 : ρ 81 = .bool (!x237) := (hp 9 rfl).1
                    refine WL.pass ((wanted_of rfl rfl (bool_tr e265 hc238)).trans rfl) rfl ?_
                    exact WL.nil ⟨rfl, _, rfl, rfl, hs.cutG 0 0⟩
                  · intro ρ w Γx Λx hs hu hp
                    have e266 : ρ 89 = undef := (hp 17 rfl).1
                    have e267 : ρ 90 = undef := (hp 18 rfl).1
                    have e268 : ρ 81 = .bool (!x237) := (hp 9 rfl).1
                    refine WL.pass ((wanted_of rfl rfl (bool_tr e268 hc238)).trans rfl) rfl ?_
                    exact WL.nil ⟨rfl, _, rfl, rfl, hs.cutG 0 0⟩
                  · intro ρ w Γx Λx hs hu hp
                    have e269 : ρ 91 = undef := (hp 19 rfl).1
                    have e270 : ρ 81 = .bool (!x237) := (hp 9 rfl).1
                    refine WL.pass ((wanted_of rfl rfl (bool_tr e270 hc238)).trans rfl) rfl ?_
                    exact WL.nil ⟨rfl, _, rfl, rfl, hs.cutG 0 0⟩
                  · intro ρ w Γx Λx hs hu hp
                    have e271 : ρ 92 = undef := (hp 20 rfl).1
                    have e272 : ρ 81 = .bool (!x237) := (hp 9 rfl).1
                    refine WL.pass ((wanted_of rfl rfl (bool_tr e272 hc238)).trans rfl) rfl ?_
                    exact WL.nil ⟨rfl, _, rfl, rfl, hs.cutG 0 0⟩
                  · intro ρ w Γx Λx hs hu hp
                    have e273 : ρ 93 = undef := (hp 21 rfl).1
                    have e274 : ρ 81 = .bool (!x237) := (hp 9 rfl).1
                    refine WL.pass ((wanted_of rfl rfl (bool_tr e274 hc238)).trans rfl) rfl ?_
                    exact WL.nil ⟨rfl, _, rfl, rfl, hs.cutG 0 0⟩
                  · intro ρ w Γx Λx hs hu hp
                    have e275 : ρ 82 = undef := (hp 10 rfl).1
                    have e276 : ρ 88 = undef := (hp 16 rfl).1
                    have e277 : ρ 94 = undef := (hp 22 rfl).1
                    have e278 : ρ 81 = .bool (!x237) := (hp 9 rfl).1
                    refine WL.pass ((wanted_of rfl rfl (bool_tr e278 hc238)).trans rfl) rfl ?_
                    exact WL.nil ⟨rfl, _, rfl, rfl, hs.cutG 0 0⟩
                  · intro ρ w Γx Λx hs hu hp
                    have e279 : ρ 81 = .bool (!x237) := (hp 9 rfl).1
                    refine WL.pass ((wanted_of rfl rfl (bool_tr e279 hc238)).trans rfl) rfl ?_
                    exact WL.nil ⟨rfl, _, rfl, rfl, hs.cutG 0 0⟩
                  · intro ρ w Γx Λx hs hu hp
                    have e280 : ρ 81 = .bool (!x237) := (hp 9 rfl).1
                    refine WL.pass ((wanted_of rfl rfl (bool_tr e280 hc238)).trans rfl) rfl ?_
                    exact WL.nil ⟨rfl, _, rfl, rfl, hs.cutG 0 0⟩
                  · intro ρ w Γx Λx hs hu hp
                    have e281 : ρ 81 = .bool (!x237) := (hp 9 rfl).1
                    refine WL.pass ((wanted_of rfl rfl (bool_tr e281 hc238)).trans rfl) rfl ?_
                    exact WL.nil ⟨rfl, _, rfl, rfl, hs.cutG 0 0⟩
                  · intro ρ w Γx Λx hs hu hp
                    have e282 : ρ 97 = undef := (hp 25 rfl).1
                    have e283 : ρ 98 = undef := (hp 26 rfl).1
                    have e284 : ρ 81 = .bool (!x237) := (hp 9 rfl).1
                    refine WL.pass ((wanted_of rfl rfl (bool_tr e284 hc238)).trans rfl) rfl ?_
                    exact WL.nil ⟨rfl, _, rfl, rfl, hs.cutG 0 0⟩
                  · intro ρ w Γx Λx hs hu hp
                    have e285 : ρ 99 = undef := (hp 27 rfl).1
                    have e286 : ρ 81 = .bool (!x237) := (hp 9 rfl).1
                    refine WL.pass ((wanted_of rfl rfl (bool_tr e286 hc238)).trans rfl) rfl ?_
                    exact WL.nil ⟨rfl, _, rfl, rfl, hs.cutG 0 0⟩
                  · intro ρ w Γx Λx hs hu hp
                    have e287 : ρ 100 = undef := (hp 28 rfl).1
                    have e288 : ρ 81 = .bool (!x237) := (hp 9 rfl).1
                    refine WL.pass ((wanted_of rfl rfl (bool_tr e288 hc238)).trans rfl) rfl ?_
                    exact WL.nil ⟨rfl, _, rfl, rfl, hs.cutG 0 0⟩
                  · intro ρ w Γx Λx hs hu hp
                    have e289 : ρ 101 = undef := (hp 29 rfl).1
                    have e290 : ρ 81 = .bool (!x237) := (hp 9 rfl).1
                    refine WL.pass ((wanted_of rfl rfl (bool_tr e290 hc238)).trans rfl) rfl ?_
                    exact WL.nil ⟨rfl, _, rfl, rfl, hs.cutG 0 0⟩
                  · intro ρ w Γx Λx hs hu hp
                    have e291 : ρ 81 = .bool (!x237) := (hp 9 rfl).1
                    refine WL.pass ((wanted_of rfl rfl (bool_tr e291 hc238)).trans rfl) rfl ?_
                    exact WL.nil ⟨rfl, _, rfl, rfl, hs.cutG 0 0⟩
                  · intro ρ w Γx Λx hs hu hp
                    have e292 : ρ 81 = .bool (!x237) := (hp 9 rfl).1
                    refine WL.pass ((wanted_of rfl rfl (bool_tr e292 hc238)).trans rfl) rfl ?_
                    exact WL.nil ⟨rfl, _, rfl, rfl, hs.cutG 0 0⟩
                  · intro ρ w Γx Λx hs hu hp
                    have e293 : ρ 103 = undef := (hp 31 rfl).1
                    have e294 : ρ 104 = undef := (hp 32 rfl).1
                    have e295 : ρ 81 = .bool (!x237) := (hp 9 rfl).1
                    refine WL.pass ((wanted_of rfl rfl (bool_tr e295 hc238)).trans rfl) rfl ?_
                    exact WL.nil ⟨rfl, _, rfl, rfl, hs.cutG 0 0⟩
                  · intro ρ w Γx Λx hs hu hp
                    have e296 : ρ 105 = undef := (hp 33 rfl).1
                    have e297 : ρ 81 = .bool (!x237) := (hp 9 rfl).1
                    refine WL.pass ((wanted_of rfl rfl (bool_tr e297 hc238)).trans rfl) rfl ?_
                    exact WL.nil ⟨rfl, _, rfl, rfl, hs.cutG 0 0⟩
                  · intro ρ w Γx Λx hs hu hp
                    have e298 : ρ 106 = undef := (hp 34 rfl).1
                    have e299 : ρ 81 = .bool (!x237) := (hp 9 rfl).1
                    refine WL.pass ((wanted_of rfl rfl (bool_tr e299 hc238)).trans rfl) rfl ?_
                    exact WL.nil ⟨rfl, _, rfl, rfl, hs.cutG 0 0⟩
                  · intro ρ w Γx Λx hs hu hp
                    have e300 : ρ 107 = undef := (hp 35 rfl).1
                    have e301 : ρ 81 = .bool (!x237) := (hp 9 rfl).1
                    refine WL.pass ((wanted_of rfl rfl (bool_tr e301 hc238)).trans rfl) rfl ?_
                    exact WL.nil ⟨rfl, _, rfl, rfl, hs.cutG 0 0⟩
                  · intro ρ w Γx Λx hs hu hp
                    have e302 : ρ 96 = undef := (hp 24 rfl).1
                    have e303 : ρ 102 = undef := (hp 30 rfl).1
                    have e304 : ρ 108 = undef := (hp 36 rfl).1
                    have e305 : ρ 81 = .bool (!x237) := (hp 9 rfl).1
                    refine WL.pass ((wanted_of rfl rfl (bool_tr e305 hc238)).trans rfl) rfl ?_
                    exact WL.nil ⟨rfl, _, rfl, rfl, hs.cutG 0 0⟩
                  · intro ρ w Γx Λx hs hu hp
                    have e306 : ρ 95 = undef := (hp 23 rfl).1
                    have e307 : ρ 109 = undef := (hp 37 rfl).1
                    have e308 : ρ 81 = .bool (!x237) := (hp 9 rfl).1
                    refine WL.pass ((wanted_of rfl rfl (bool_tr e308 hc238)).trans rfl) rfl ?_
                    exact WL.nil ⟨rfl, _, rfl, rfl, hs.cutG 0 0⟩
                  · intro ρ w Γx Λx hs hu hp
                    have e309 : ρ 81 = .bool (!x237) := (hp 9 rfl).1
                    have e310 : ρ 110 = undef := (hp 38 rfl).1
                    refine WL.pickT (v := .bool true) (bool_tr e309 hc238) rfl ?_
                    exact WL.nil ⟨rfl, _, rfl, rfl, hs.cutG 0 0⟩
                  · intro ρ w hs hu311 hp
                    obtain ⟨⟨⟨⟨⟨⟨⟨⟨⟨⟨⟨⟨⟨⟨⟨⟨⟨⟨⟨⟨⟨⟨⟨⟨⟨⟨⟨⟨⟨⟨⟨⟨⟨⟨⟨⟨⟨⟨⟨⟨_, hp0_⟩, hp1_⟩, hp2_⟩, hp3_⟩, hp4_⟩, hp5_⟩, hp6_⟩, hp7_⟩, hp8_⟩, hp9_⟩, hp10_⟩, hp11_⟩, hp12_⟩, hp13_⟩, hp14_⟩, hp15_⟩, hp16_⟩, hp17_⟩, hp18_⟩, hp19_⟩, hp20_⟩, hp21_⟩, hp22_⟩, hp23_⟩, hp24_⟩, hp25_⟩, hp26_⟩, hp27_⟩, hp28_⟩, hp29_⟩, hp30_⟩, hp31_⟩, hp32_⟩, hp33_⟩, hp34_⟩, hp35_⟩, hp36_⟩, hp37_⟩, hp38_⟩, hp39_⟩ := hp
                    have hs : St ok (bz w0) w [vl t_api_Message x111 (.agg cs113.toArray), vl t_network_Network (⟨x51, x52, x55⟩ : network_Network) (.agg [.int .i64 x51, .slice a53 x52.length c54, .slice a56 x55.length c57].toArray), vl t_api_Message x105 (.agg cs107.toArray), vl t_network_Network (⟨x58, x59, x62⟩ : network_Network) (.agg [.int .i64 x58, .slice a60 x59.length c61, .slice a63 x62.length c64].toArray), pl (tInt .i64) x74.M ad98, pl t_elasticstorelaw34_Act x74 ad100, vl (tSlice t_elasticstorelaw34_Act) x1 (.slice a2 x1.length c3), vl (tSlice t_network_Packet) x52 (.slice a53 x52.length c54), vl (tSlice t_network_Side) x55 (.slice a56 x55.length c57), vl (tSlice t_network_Packet) x59 (.slice a60 x59.length c61), vl (tSlice t_network_Side) x62 (.slice a63 x62.length c64)] [blk g115 49 cs113, blk g109 49 cs107, blk g19 27 [.int .i64 x51, .slice a53 x52.length c54, .slice a56 x55.length c57], blk g18 27 [.int .i64 x58, .slice a60 x59.length c61, .slice a63 x62.length c64]] := hs
                    have e312 : ρ 111 = .bool true := hp39_
                    have e313 : ρ 110 = undef := hp38_
                    have e314 : ρ 109 = undef := hp37_
                    have e315 : ρ 108 = undef := hp36_
                    have e316 : ρ 107 = undef := hp35_
                    have e317 : ρ 106 = undef := hp34_
                    have e318 : ρ 105 = undef := hp33_
                    have e319 : ρ 104 = undef := hp32_
                    have e320 : ρ 103 = undef := hp31_
                    have e321 : ρ 102 = undef := hp30_
                    have e322 : ρ 101 = undef := hp29_
                    have e323 : ρ 100 = undef := hp28_
                    have e324 : ρ 99 = undef := hp27_
                    have e325 : ρ 98 = undef := hp26_
                    have e326 : ρ 97 = undef := hp25_
                    have e327 : ρ 96 = undef := hp24_
                    have e328 : ρ 95 = undef := hp23_
                    have e329 : ρ 94 = undef := hp22_
                    have e330 : ρ 93 = undef := hp21_
                    have e331 : ρ 92 = undef := hp20_
                    have e332 : ρ 91 = undef := hp19_
                    have e333 : ρ 90 = undef := hp18_
                    have e334 : ρ 89 = undef := hp17_
                    have e335 : ρ 88 = undef := hp16_
                    have e336 : ρ 87 = undef := hp15_
                    have e337 : ρ 86 = undef := hp14_
                    have e338 : ρ 85 = undef := hp13_
                    have e339 : ρ 84 = undef := hp12_
                    have e340 : ρ 83 = undef := hp11_
                    have e341 : ρ 82 = undef := hp10_
                    have e342 : ρ 81 = .bool (!x237) := hp9_
                    have e343 : ρ 80 = .bool (!x237) := hp8_
                    have e344 : ρ 79 = .bool (!x237) := hp7_
                    have e345 : ρ 78 = .bool x237 := hp6_
                    have e346 : ρ 77 = .agg cs113.toArray := hp5_
                    have e347 : ρ 76 = .agg cs107.toArray := hp4_
                    have e348 : ρ 75 = .bool (x106 != x112) := hp3_
                    have e349 : ρ 74 = .bool (x106 != x112) := hp2_
                    have e350 : ρ 73 = .bool x112 := hp1_
                    have e351 : ρ 72 = .bool x106 := hp0_
                    refine WA.done (by kernel_rfl) ?_
                    exact Jk119 true _ _ ((hu311 0 rfl).trans ((hu92 0 rfl).trans h68_0)) ((hu311 3 rfl).trans ((hu92 3 rfl).trans h68_3)) ((hu311 4 rfl).trans ((hu92 4 rfl).trans h68_4)) ((hu311 5 rfl).trans ((hu92 5 rfl).trans h68_5)) e312 ((hs.mask [false, false, true, true]).pick [6, 7, 8, 9, 10]) hf
                · obtain ⟨x352, hxx352, hf⟩ := bindE hf
                  obtain ⟨x356, hxx356, hf⟩ := bindE hf
                  obtain ⟨x357, hxx357, hf⟩ := bindE hf
                  obtain ⟨x361, hxx361, hf⟩ := bindE hf
                  obtain ⟨x362, hxx362, hf⟩ := bindE hf
                  obtain ⟨x363, hxx363, hf⟩ := bindE hf
                  obtain ⟨x367, hxx367, hf⟩ := bindE hf
                  obtain ⟨x368, hxx368, hf⟩ := bindE hf
                  obtain ⟨x372, hxx372, hf⟩ := bindE hf
                  obtain ⟨x373, hxx373, hf⟩ := bindE hf
                  refine W.any (by kernel_rfl) 40 0 [true, true, true, true, true, true, true, true, true, true, true, true, true, true, true, true, true, true, true, true, true, true, true, true, true, true, true, true, true, true, true, true, true, true, true, true, true, true, true, true] rfl rfl (poAt [pv (.bool x106), pv (.bool x112), pv (.bool (x106 != x112)), pv (.bool (x106 != x112)), pv (.agg cs107.toArray), pv (.agg cs113.toArray), pv (.bool x237), pv (.bool (!x237)), pv (.bool (!x237)), pv (.bool (!x237)), pv (.agg ([.int .i64 x58, .slice a60 x59.length c61, .slice a63 x62.length c64] : List Value).toArray), pv (.slice a2 x1.length c3), pv (.int .i64 x27), pq (fun y : Addr => .pointer (some y)) (fun v => [pl t_elasticstorelaw34_Act x352 (adOf v)]) (fun v => []), pq (fun y : Addr => .pointer (some y)) (fun v => [pl (tInt .i64) x352.N (adOf v)]) (fun v => []), pv (.int .i64 x352.N), pv (.int .i64 x356), pv (.slice a2 x1.length c3), pv (.int .i64 x27), pq (fun y : Addr => .pointer (some y)) (fun v => [pl t_elasticstorelaw34_Act x357 (adOf v)]) (fun v => []), pq (fun y : Addr => .pointer (some y)) (fun v => [pl (tInt .i64) x357.M (adOf v)]) (fun v => []), pv (.int .i64 x357.M), pv (.int .i64 x361), pv (.bool x362), pv (.agg ([.int .i64 x51, .slice a53 x52.length c54, .slice a56 x55.length c57] : List Value).toArray), pv (.slice a2 x1.length c3), pv (.int .i64 x27), pq (fun y : Addr => .pointer (some y)) (fun v => [pl t_elasticstorelaw34_Act x363 (adOf v)]) (fun v => []), pq (fun y : Addr => .pointer (some y)) (fun v => [pl (tInt .i64) x363.N (adOf v)]) (fun v => []), pv (.int .i64 x363.N), pv (.int .i64 x367), pv (.slice a2 x1.length c3), pv (.int .i64 x27), pq (fun y : Addr => .pointer (some y)) (fun v => [pl t_elasticstorelaw34_Act x368 (adOf v)]) (fun v => []), pq (fun y : Addr => .pointer (some y)) (fun v => [pl (tInt .i64) x368.M (adOf v)]) (fun v => []), pv (.int .i64 x368.M), pv (.int .i64 x372), pv (.bool x373), pv (.bool (x362 != x373)), pv (.bool (x362 != x373))]) (Λ := [blk g115 49 cs113, blk g109 49 cs107, blk g19 27 [.int .i64 x51, .slice a53 x52.length c54, .slice a56 x55.length c57], blk g18 27 [.int .i64 x58, .slice a60 x59.length c61, .slice a63 x62.length c64]]) hs (by kernel_rfl) (by kernel_rfl) (by kernel_rfl) ⟨⟨⟨⟨⟨⟨⟨⟨⟨⟨⟨⟨⟨⟨⟨⟨⟨⟨⟨⟨⟨⟨⟨⟨⟨⟨⟨⟨⟨⟨⟨⟨⟨⟨⟨⟨⟨⟨⟨⟨trivial, ?_⟩, ?_⟩, ?_⟩, ?_⟩, ?_⟩, ?_⟩, ?_⟩, ?_⟩, ?_⟩, ?_⟩, ?_⟩, ?_⟩, ?_⟩, ?_⟩, ?_⟩, ?_⟩, ?_⟩, ?_⟩, ?_⟩, ?_⟩, ?_⟩, ?_⟩, ?_⟩, ?_⟩, ?_⟩, ?_⟩, ?_⟩, ?_⟩, ?_⟩, ?_⟩, ?_⟩, ?_⟩, ?_⟩, ?_⟩, ?_⟩, ?_⟩, ?_⟩, ?_⟩, ?_⟩, ?_⟩ ?_
                  · intro ρ w Γx Λx hs hu hp
                    refine WL.move (v := .bool x106) (hu 9 rfl) ?_
                    exact WL.nil ⟨rfl, _, rfl, rfl, hs.cutG 0 0⟩
                  · intro ρ w Γx Λx hs hu hp
                    refine WL.move (v := .bool x112) (hu 11 rfl) ?_
                    exact WL.nil ⟨rfl, _, rfl, rfl, hs.cutG 0 0⟩
                  · intro ρ w Γx Λx hs hu hp
                    have e374 : ρ 72 = .bool x106 := (hp 0 rfl).1
                    have e375 : ρ 73 = .bool x112 := (hp 1 rfl).1
                    refine WL.neB UN4 e374 e375 ?_
                    exact WL.nil ⟨rfl, _, rfl, rfl, hs.cutG 0 0⟩
                  · intro ρ w Γx Λx hs hu hp
                    have e376 : ρ 74 = .bool (x106 != x112) := (hp 2 rfl).1
                    refine WL.move (v := .bool (x106 != x112)) e376 ?_
                    exact WL.nil ⟨rfl, _, rfl, rfl, hs.cutG 0 0⟩
                  · intro ρ w Γx Λx hs hu hp
                    have e377 : ρ 75 = .bool (x106 != x112) := (hp 3 rfl).1
                    refine WL.loadAll hs (Λx.length + 1) (getApp rfl) TI49 (hu 8 rfl) hl108 ?_ (hg := (wanted_of rfl rfl (bool_tr e377 hc123)).trans rfl)
                    exact WL.nil ⟨rfl, _, rfl, rfl, hs.cutG 0 0⟩
                  · intro ρ w Γx Λx hs hu hp
                    have e378 : ρ 75 = .bool (x106 != x112) := (hp 3 rfl).1
                    refine WL.loadAll hs (Λx.length + 0) (getApp rfl) TI49 (hu 10 rfl) hl114 ?_ (hg := (wanted_of rfl rfl (bool_tr e378 hc123)).trans rfl)
                    exact WL.nil ⟨rfl, _, rfl, rfl, hs.cutG 0 0⟩
                  · intro ρ w Γx Λx hs hu hp
                    have e379 : ρ 76 = .agg cs107.toArray := (hp 4 rfl).1
                    have e380 : ρ 77 = .agg cs113.toArray := (hp 5 rfl).1
                    have e381 : ρ 75 = .bool (x106 != x112) := (hp 3 rfl).1
                    refine WL.call (vs := [.agg cs107.toArray, .agg cs113.toArray]) hs FN24 ⟨e379, ⟨e380, trivial⟩⟩ (fun ok hA => esref14_EqualMessage.calls (x1 := x105) (x5 := x111) hxx237 (hA.get (Γx.length + 2) (getApp rfl)) (hA.get (Γx.length + 0) (getApp rfl))) ?_ (hg := (wanted_of rfl rfl (bool_tr e381 hc123)).trans rfl)
                    rintro _ w hs
                    exact WL.nil ⟨rfl, _, rfl, rfl, hs.cutG 0 0⟩
                  · intro ρ w Γx Λx hs hu hp
                    have e382 : ρ 78 = .bool x237 := (hp 6 rfl).1
                    have e383 : ρ 75 = .bool (x106 != x112) := (hp 3 rfl).1
                    refine WL.not e382 ?_ (hg := (wanted_of rfl rfl (bool_tr e383 hc123)).trans rfl)
                    exact WL.nil ⟨rfl, _, rfl, rfl, hs.cutG 0 0⟩
                  · intro ρ w Γx Λx hs hu hp
                    have e384 : ρ 75 = .bool (x106 != x112) := (hp 3 rfl).1
                    have e385 : ρ 79 = .bool (!x237) := (hp 7 rfl).1
                    refine WL.pickF (v := .bool (!x237)) (bool_tr e384 hc123) e385 ?_
                    exact WL.nil ⟨rfl, _, rfl, rfl, hs.cutG 0 0⟩
                  · intro ρ w Γx Λx hs hu hp
                    have e386 : ρ 80 = .bool (!x237) := (hp 8 rfl).1
                    refine WL.move (v := .bool (!x237)) e386 ?_
                    exact WL.nil ⟨rfl, _, rfl, rfl, hs.cutG 0 0⟩
                  · intro ρ w Γx Λx hs hu hp
                    have e387 : ρ 81 = .bool (!x237) := (hp 9 rfl).1
                    refine WL.loadN (vs := [.int .i64 x58, .slice a60 x59.length c61, .slice a63 x62.length c64]) hs (Λx.length + 3) (getApp rfl) TI27 ((hu 3 rfl).trans ((hu92 3 rfl).trans h68_3)) rfl rfl ?_ (hg := (wanted_of rfl rfl (bool_tr e387 hc238)).trans rfl)
                    exact WL.nil ⟨rfl, _, rfl, rfl, hs.cutG 0 0⟩
                  · intro ρ w Γx Λx hs hu hp
                    have e388 : ρ 81 = .bool (!x237) := (hp 9 rfl).1
                    refine WL.move (v := .slice a2 x1.length c3) ((hu 0 rfl).trans ((hu92 0 rfl).trans h68_0)) ?_ (hg := (wanted_of rfl rfl (bool_tr e388 hc238)).trans rfl)
                    exact WL.nil ⟨rfl, _, rfl, rfl, hs.cutG 0 0⟩
                  · intro ρ w Γx Λx hs hu hp
                    have e389 : ρ 81 = .bool (!x237) := (hp 9 rfl).1
                    refine WL.move (v := .int .i64 x27) ((hu 5 rfl).trans ((hu92 5 rfl).trans h68_5)) ?_ (hg := (wanted_of rfl rfl (bool_tr e389 hc238)).trans rfl)
                    exact WL.nil ⟨rfl, _, rfl, rfl, hs.cutG 0 0⟩
                  · intro ρ w Γx Λx hs hu hp
                    have e390 : ρ 83 = .slice a2 x1.length c3 := (hp 11 rfl).1
                    have e391 : ρ 84 = .int .i64 x27 := (hp 12 rfl).1
                    have e392 : ρ 81 = .bool (!x237) := (hp 9 rfl).1
                    refine WL.indexAddr hs (Γx.length + 6) (getApp rfl) UN22 TI33 e390 e391 hxx352 (fun ad353 hs => ?_) (hg := (wanted_of rfl rfl (bool_tr e392 hc238)).trans rfl)
                    have hs := hs.add (it := pl t_elasticstorelaw34_Act x352 ad353) fun ok hA => hA.get 0 rfl
                    exact WL.nil ⟨rfl, _, rfl, ⟨ad353, rfl⟩, hs.cutG 1 1⟩
                  · intro ρ w Γx Λx hs hu hp
                    obtain ⟨⟨ad393, e394r⟩, hm395⟩ := hp 13 rfl
                    have e394 : ρ 85 = .pointer (some ad393) := e394r
                    rw [e394r] at hm395
                    have hs := hs.memo1 (it := pl t_elasticstorelaw34_Act x352 ad393) (List.mem_append.2 (.inl (hm395 _ (List.mem_of_getElem? (i := 0) rfl))))
                    have e396 : ρ 81 = .bool (!x237) := (hp 9 rfl).1
                    refine WL.fieldAddrP (z := x352.N) F_elasticstorelaw34_Act_N hs 0 rfl e394 FA33_1 rfl (fun ad354 hs => ?_) (hg := (wanted_of rfl rfl (bool_tr e396 hc238)).trans rfl)
                    have hs := hs.add (it := pl (tInt .i64) x352.N ad354) fun ok hA => hA.get 0 rfl
                    exact WL.nil ⟨rfl, _, rfl, ⟨ad354, rfl⟩, hs.cutG 1 2⟩
                  · intro ρ w Γx Λx hs hu hp
                    obtain ⟨⟨ad397, e398r⟩, hm399⟩ := hp 14 rfl
                    have e398 : ρ 86 = .pointer (some ad397) := e398r
                    rw [e398r] at hm399
                    have hs := hs.memo1 (it := pl (tInt .i64) x352.N ad397) (List.mem_append.2 (.inl (hm399 _ (List.mem_of_getElem? (i := 0) rfl))))
                    have e400 : ρ 81 = .bool (!x237) := (hp 9 rfl).1
                    refine WL.loadP hs 0 rfl TI3 (.inr rfl) e398 (fun v355 hs => ?_) (hg := (wanted_of rfl rfl (bool_tr e400 hc238)).trans rfl)
                    obtain rfl := hs.int 0 rfl
                    exact WL.nil ⟨rfl, _, rfl, rfl, hs.cutG 0 2⟩
                  · intro ρ w Γx Λx hs hu hp
                    have e401 : ρ 87 = .int .i64 x352.N := (hp 15 rfl).1
                    have e402 : ρ 81 = .bool (!x237) := (hp 9 rfl).1
                    refine WL.call (vs := [.int .i64 x352.N, .int .i64 7]) hs FN17 ⟨e401, ⟨rfl, trivial⟩⟩ (fun ok hA => eslaw00_Index.calls (x1 := x352.N) (x2 := 7) hxx356) ?_ (hg := (wanted_of rfl rfl (bool_tr e402 hc238)).trans rfl)
                    rintro _ w hs
                    exact WL.nil ⟨rfl, _, rfl, rfl, hs.cutG 0 0⟩
                  · intro ρ w Γx Λx hs hu hp
                    have e403 : ρ 81 = .bool (!x237) := (hp 9 rfl).1
                    refine WL.move (v := .slice a2 x1.length c3) ((hu 0 rfl).trans ((hu92 0 rfl).trans h68_0)) ?_ (hg := (wanted_of rfl rfl (bool_tr e403 hc238)).trans rfl)
                    exact WL.nil ⟨rfl, _, rfl, rfl, hs.cutG 0 0⟩
                  · intro ρ w Γx Λx hs hu hp
                    have e404 : ρ 81 = .bool (!x237) := (hp 9 rfl).1
                    refine WL.move (v := .int .i64 x27) ((hu 5 rfl).trans ((hu92 5 rfl).trans h68_5)) ?_ (hg := (wanted_of rfl rfl (bool_tr e404 hc238)).trans rfl)
                    exact WL.nil ⟨rfl, _, rfl, rfl, hs.cutG 0 0⟩
                  · intro ρ w Γx Λx hs hu hp
                    have e405 : ρ 89 = .slice a2 x1.length c3 := (hp 17 rfl).1
                    have e406 : ρ 90 = .int .i64 x27 := (hp 18 rfl).1
                    have e407 : ρ 81 = .bool (!x237) := (hp 9 rfl).1
                    refine WL.indexAddr hs (Γx.length + 6) (getApp rfl) UN22 TI33 e405 e406 hxx357 (fun ad358 hs => ?_) (hg := (wanted_of rfl rfl (bool_tr e407 hc238)).trans rfl)
                    have hs := hs.add (it := pl t_elasticstorelaw34_Act x357 ad358) fun ok hA => hA.get 0 rfl
                    exact WL.nil ⟨rfl, _, rfl, ⟨ad358, rfl⟩, hs.cutG 1 1⟩
                  · intro ρ w Γx Λx hs hu hp
                    obtain ⟨⟨ad408, e409r⟩, hm410⟩ := hp 19 rfl
                    have e409 : ρ 91 = .pointer (some ad408) := e409r
                    rw [e409r] at hm410
                    have hs := hs.memo1 (it := pl t_elasticstorelaw34_Act x357 ad408) (List.mem_append.2 (.inl (hm410 _ (List.mem_of_getElem? (i := 0) rfl))))
                    have e411 : ρ 81 = .bool (!x237) := (hp 9 rfl).1
                    refine WL.fieldAddrP (z := x357.M) F_elasticstorelaw34_Act_M hs 0 rfl e409 FA33_2 rfl (fun ad359 hs => ?_) (hg := (wanted_of rfl rfl (bool_tr e411 hc238)).trans rfl)
                    have hs := hs.add (it := pl (tInt .i64) x357.M ad359) fun ok hA => hA.get 0 rfl
                    exact WL.nil ⟨rfl, _, rfl, ⟨ad359, rfl⟩, hs.cutG 1 2⟩
                  · intro ρ w Γx Λx hs hu hp
                    obtain ⟨⟨ad412, e413r⟩, hm414⟩ := hp 20 rfl
                    have e413 : ρ 92 = .pointer (some ad412) := e413r
                    rw [e413r] at hm414
                    have hs := hs.memo1 (it := pl (tInt .i64) x357.M ad412) (List.mem_append.2 (.inl (hm414 _ (List.mem_of_getElem? (i := 0) rfl))))
                    have e415 : ρ 81 = .bool (!x237) := (hp 9 rfl).1
                    refine WL.loadP hs 0 rfl TI3 (.inr rfl) e413 (fun v360 hs => ?_) (hg := (wanted_of rfl rfl (bool_tr e415 hc238)).trans rfl)
                    obtain rfl := hs.int 0 rfl
                    exact WL.nil ⟨rfl, _, rfl, rfl, hs.cutG 0 2⟩
                  · intro ρ w Γx Λx hs hu hp
                    have e416 : ρ 93 = .int .i64 x357.M := (hp 21 rfl).1
                    have e417 : ρ 81 = .bool (!x237) := (hp 9 rfl).1
                    refine WL.call (vs := [.int .i64 x357.M, .int .i64 7]) hs FN17 ⟨e416, ⟨rfl, trivial⟩⟩ (fun ok hA => eslaw00_Index.calls (x1 := x357.M) (x2 := 7) hxx361) ?_ (hg := (wanted_of rfl rfl (bool_tr e417 hc238)).trans rfl)
                    rintro _ w hs
                    exact WL.nil ⟨rfl, _, rfl, rfl, hs.cutG 0 0⟩
                  · intro ρ w Γx Λx hs hu hp
                    have e418 : ρ 82 = .agg ([.int .i64 x58, .slice a60 x59.length c61, .slice a63 x62.length c64] : List Value).toArray := (hp 10 rfl).1
                    have e419 : ρ 88 = .int .i64 x356 := (hp 16 rfl).1
                    have e420 : ρ 94 = .int .i64 x361 := (hp 22 rfl).1
                    have e421 : ρ 81 = .bool (!x237) := (hp 9 rfl).1
                    have hs := hs.add (it := vl t_network_Network (⟨x58, x59, x62⟩ : network_Network) (.agg [.int .i64 x58, .slice a60 x59.length c61, .slice a63 x62.length c64].toArray)) fun ok hA => V_agg (show t_network_Network.R ok _ _ _ from ⟨[.int .i64 x58], [.slice a60 x59.length c61, .slice a63 x62.length c64], rfl, rfl, ⟨[.slice a60 x59.length c61], [.slice a63 x62.length c64], rfl, (R_one (hA.get (Γx.length + 9) (getApp rfl))), (R_one (hA.get (Γx.length + 10) (getApp rfl)))⟩⟩) rfl
                    refine WL.call (vs := [.agg ([.int .i64 x58, .slice a60 x59.length c61, .slice a63 x62.length c64] : List Value).toArray, .int .i64 x356, .int .i64 x361]) hs FN13 ⟨e418, ⟨e419, ⟨e420, trivial⟩⟩⟩ (fun ok hA => network_Blocked.calls (x1 := (⟨x58, x59, x62⟩ : network_Network)) (x5 := x356) (x6 := x361) hxx362 (hA.get 0 rfl)) ?_ (hg := (wanted_of rfl rfl (bool_tr e421 hc238)).trans rfl)
                    rintro _ w hs
                    exact WL.nil ⟨rfl, _, rfl, rfl, hs.cutG 0 1⟩
                  · intro ρ w Γx Λx hs hu hp
                    have e422 : ρ 81 = .bool (!x237) := (hp 9 rfl).1
                    refine WL.loadN (vs := [.int .i64 x51, .slice a53 x52.length c54, .slice a56 x55.length c57]) hs (Λx.length + 2) (getApp rfl) TI27 ((hu 4 rfl).trans ((hu92 4 rfl).trans h68_4)) rfl rfl ?_ (hg := (wanted_of rfl rfl (bool_tr e422 hc238)).trans rfl)
                    exact WL.nil ⟨rfl, _, rfl, rfl, hs.cutG 0 0⟩
                  · intro ρ w Γx Λx hs hu hp
                    have e423 : ρ 81 = .bool (!x237) := (hp 9 rfl).1
                    refine WL.move (v := .slice a2 x1.length c3) ((hu 0 rfl).trans ((hu92 0 rfl).trans h68_0)) ?_ (hg := (wanted_of rfl rfl (bool_tr e423 hc238)).trans rfl)
                    exact WL.nil ⟨rfl, _, rfl, rfl, hs.cutG 0 0⟩
                  · intro ρ w Γx Λx hs hu hp
                    have e424 : ρ 81 = .bool (!x237) := (hp 9 rfl).1
                    refine WL.move (v := .int .i64 x27) ((hu 5 rfl).trans ((hu92 5 rfl).trans h68_5)) ?_ (hg := (wanted_of rfl rfl (bool_tr e424 hc238)).trans rfl)
                    exact WL.nil ⟨rfl, _, rfl, rfl, hs.cutG 0 0⟩
                  · intro ρ w Γx Λx hs hu hp
                    have e425 : ρ 97 = .slice a2 x1.length c3 := (hp 25 rfl).1
                    have e426 : ρ 98 = .int .i64 x27 := (hp 26 rfl).1
                    have e427 : ρ 81 = .bool (!x237) := (hp 9 rfl).1
                    refine WL.indexAddr hs (Γx.length + 6) (getApp rfl) UN22 TI33 e425 e426 hxx363 (fun ad364 hs => ?_) (hg := (wanted_of rfl rfl (bool_tr e427 hc238)).trans rfl)
                    have hs := hs.add (it := pl t_elasticstorelaw34_Act x363 ad364) fun ok hA => hA.get 0 rfl
                    exact WL.nil ⟨rfl, _, rfl, ⟨ad364, rfl⟩, hs.cutG 1 1⟩
                  · intro ρ w Γx Λx hs hu hp
                    obtain ⟨⟨ad428, e429r⟩, hm430⟩ := hp 27 rfl
                    have e429 : ρ 99 = .pointer (some ad428) := e429r
                    rw [e429r] at hm430
                    have hs := hs.memo1 (it := pl t_elasticstorelaw34_Act x363 ad428) (List.mem_append.2 (.inl (hm430 _ (List.mem_of_getElem? (i := 0) rfl))))
                    have e431 : ρ 81 = .bool (!x237) := (hp 9 rfl).1
                    refine WL.fieldAddrP (z := x363.N) F_elasticstorelaw34_Act_N hs 0 rfl e429 FA33_1 rfl (fun ad365 hs => ?_) (hg := (wanted_of rfl rfl (bool_tr e431 hc238)).trans rfl)
                    have hs := hs.add (it := pl (tInt .i64) x363.N ad365) fun ok hA => hA.get 0 rfl
                    exact WL.nil ⟨rfl, _, rfl, ⟨ad365, rfl⟩, hs.cutG 1 2⟩
                  · intro ρ w Γx Λx hs hu hp
                    obtain ⟨⟨ad432, e433r⟩, hm434⟩ := hp 28 rfl
                    have e433 : ρ 100 = .pointer (some ad432) := e433r
                    rw [e433r] at hm434
                    have hs := hs.memo1 (it := pl (tInt .i64) x363.N ad432) (List.mem_append.2 (.inl (hm434 _ (List.mem_of_getElem? (i := 0) rfl))))
                    have e435 : ρ 81 = .bool (!x237) := (hp 9 rfl).1
                    refine WL.loadP hs 0 rfl TI3 (.inr rfl) e433 (fun v366 hs => ?_) (hg := (wanted_of rfl rfl (bool_tr e435 hc238)).trans rfl)
                    obtain rfl := hs.int 0 rfl
                    exact WL.nil ⟨rfl, _, rfl, rfl, hs.cutG 0 2⟩
                  · intro ρ w Γx Λx hs hu hp
                    have e436 : ρ 101 = .int .i64 x363.N := (hp 29 rfl).1
                    have e437 : ρ 81 = .bool (!x237) := (hp 9 rfl).1
                    refine WL.call (vs := [.int .i64 x363.N, .int .i64 7]) hs FN17 ⟨e436, ⟨rfl, trivial⟩⟩ (fun ok hA => eslaw00_Index.calls (x1 := x363.N) (x2 := 7) hxx367) ?_ (hg := (wanted_of rfl rfl (bool_tr e437 hc238)).trans rfl)
                    rintro _ w hs
                    exact WL.nil ⟨rfl, _, rfl, rfl, hs.cutG 0 0⟩
                  · intro ρ w Γx Λx hs hu hp
                    have e438 : ρ 81 = .bool (!x237) := (hp 9 rfl).1
                    refine WL.move (v := .slice a2 x1.length c3) ((hu 0 rfl).trans ((hu92 0 rfl).trans h68_0)) ?_ (hg := (wanted_of rfl rfl (bool_tr e438 hc238)).trans rfl)
                    exact WL.nil ⟨rfl, _, rfl, rfl, hs.cutG 0 0⟩
                  · intro ρ w Γx Λx hs hu hp
                    have e439 : ρ 81 = .bool (!x237) := (hp 9 rfl).1
                    refine WL.move (v := .int .i64 x27) ((hu 5 rfl).trans ((hu92 5 rfl).trans h68_5)) ?_ (hg := (wanted_of rfl rfl (bool_tr e439 hc238)).trans rfl)
                    exact WL.nil ⟨rfl, _, rfl, rfl, hs.cutG 0 0⟩
                  · intro ρ w Γx Λx hs hu hp
                    have e440 : ρ 103 = .slice a2 x1.length c3 := (hp 31 rfl).1
                    have e441 : ρ 104 = .int .i64 x27 := (hp 32 rfl).1
                    have e442 : ρ 81 = .bool (!x237) := (hp 9 rfl).1
                    refine WL.indexAddr hs (Γx.length + 6) (getApp rfl) UN22 TI33 e440 e441 hxx368 (fun ad369 hs => ?_) (hg := (wanted_of rfl rfl (bool_tr e442 hc238)).trans rfl)
                    have hs := hs.add (it := pl t_elasticstorelaw34_Act x368 ad369) fun ok hA => hA.get 0 rfl
                    exact WL.nil ⟨rfl, _, rfl, ⟨ad369, rfl⟩, hs.cutG 1 1⟩
                  · intro ρ w Γx Λx hs hu hp
                    obtain ⟨⟨ad443, e444r⟩, hm445⟩ := hp 33 rfl
                    have e444 : ρ 105 = .pointer (some ad443) := e444r
                    rw [e444r] at hm445
                    have hs := hs.memo1 (it := pl t_elasticstorelaw34_Act x368 ad443) (List.mem_append.2 (.inl (hm445 _ (List.mem_of_getElem? (i := 0) rfl))))
                    have e446 : ρ 81 = .bool (!x237) := (hp 9 rfl).1
                    refine WL.fieldAddrP (z := x368.M) F_elasticstorelaw34_Act_M hs 0 rfl e444 FA33_2 rfl (fun ad370 hs => ?_) (hg := (wanted_of rfl rfl (bool_tr e446 hc238)).trans rfl)
                    have hs := hs.add (it := pl (tInt .i64) x368.M ad370) fun ok hA => hA.get 0 rfl
                    exact WL.nil ⟨rfl, _, rfl, ⟨ad370, rfl⟩, hs.cutG 1 2⟩
                  · intro ρ w Γx Λx hs hu hp
                    obtain ⟨⟨ad447, e448r⟩, hm449⟩ := hp 34 rfl
                    have e448 : ρ 106 = .pointer (some ad447) := e448r
                    rw [e448r] at hm449
                    have hs := hs.memo1 (it := pl (tInt .i64) x368.M ad447) (List.mem_append.2 (.inl (hm449 _ (List.mem_of_getElem? (i := 0) rfl))))
                    have e450 : ρ 81 = .bool (!x237) := (hp 9 rfl).1
                    refine WL.loadP hs 0 rfl TI3 (.inr rfl) e448 (fun v371 hs => ?_) (hg := (wanted_of rfl rfl (bool_tr e450 hc238)).trans rfl)
                    obtain rfl := hs.int 0 rfl
                    exact WL.nil ⟨rfl, _, rfl, rfl, hs.cutG 0 2⟩
                  · intro ρ w Γx Λx hs hu hp
                    have e451 : ρ 107 = .int .i64 x368.M := (hp 35 rfl).1
                    have e452 : ρ 81 = .bool (!x237) := (hp 9 rfl).1
                    refine WL.call (vs := [.int .i64 x368.M, .int .i64 7]) hs FN17 ⟨e451, ⟨rfl, trivial⟩⟩ (fun ok hA => eslaw00_Index.calls (x1 := x368.M) (x2 := 7) hxx372) ?_ (hg := (wanted_of rfl rfl (bool_tr e452 hc238)).trans rfl)
                    rintro _ w hs
                    exact WL.nil ⟨rfl, _, rfl, rfl, hs.cutG 0 0⟩
                  · intro ρ w Γx Λx hs hu hp
                    have e453 : ρ 96 = .agg ([.int .i64 x51, .slice a53 x52.length c54, .slice a56 x55.length c57] : List Value).toArray := (hp 24 rfl).1
                    have e454 : ρ 102 = .int .i64 x367 := (hp 30 rfl).1
                    have e455 : ρ 108 = .int .i64 x372 := (hp 36 rfl).1
                    have e456 : ρ 81 = .bool (!x237) := (hp 9 rfl).1
                    have hs := hs.add (it := vl t_network_Network (⟨x51, x52, x55⟩ : network_Network) (.agg [.int .i64 x51, .slice a53 x52.length c54, .slice a56 x55.length c57].toArray)) fun ok hA => V_agg (show t_network_Network.R ok _ _ _ from ⟨[.int .i64 x51], [.slice a53 x52.length c54, .slice a56 x55.length c57], rfl, rfl, ⟨[.slice a53 x52.length c54], [.slice a56 x55.length c57], rfl, (R_one (hA.get (Γx.length + 7) (getApp rfl))), (R_one (hA.get (Γx.length + 8) (getApp rfl)))⟩⟩) rfl
                    refine WL.call (vs := [.agg ([.int .i64 x51, .slice a53 x52.length c54, .slice a56 x55.length c57] : List Value).toArray, .int .i64 x367, .int .i64 x372]) hs FN25 ⟨e453, ⟨e454, ⟨e455, trivial⟩⟩⟩ (fun ok hA => esref36_Blocked.calls (x1 := (⟨x51, x52, x55⟩ : network_Network)) (x5 := x367) (x6 := x372) hxx373 (hA.get 0 rfl)) ?_ (hg := (wanted_of rfl rfl (bool_tr e456 hc238)).trans rfl)
                    rintro _ w hs
                    exact WL.nil ⟨rfl, _, rfl, rfl, hs.cutG 0 1⟩
                  · intro ρ w Γx Λx hs hu hp
                    have e457 : ρ 95 = .bool x362 := (hp 23 rfl).1
                    have e458 : ρ 109 = .bool x373 := (hp 37 rfl).1
                    have e459 : ρ 81 = .bool (!x237) := (hp 9 rfl).1
                    refine WL.neB UN4 e457 e458 ?_ (hg := (wanted_of rfl rfl (bool_tr e459 hc238)).trans rfl)
                    exact WL.nil ⟨rfl, _, rfl, rfl, hs.cutG 0 0⟩
                  · intro ρ w Γx Λx hs hu hp
                    have e460 : ρ 81 = .bool (!x237) := (hp 9 rfl).1
                    have e461 : ρ 110 = .bool (x362 != x373) := (hp 38 rfl).1
                    refine WL.pickF (v := .bool (x362 != x373)) (bool_tr e460 hc238) e461 ?_
                    exact WL.nil ⟨rfl, _, rfl, rfl, hs.cutG 0 0⟩
                  · intro ρ w hs hu462 hp
                    obtain ⟨⟨⟨⟨⟨⟨⟨⟨⟨⟨⟨⟨⟨⟨⟨⟨⟨⟨⟨⟨⟨⟨⟨⟨⟨⟨⟨⟨⟨⟨⟨⟨⟨⟨⟨⟨⟨⟨⟨⟨_, hp0_⟩, hp1_⟩, hp2_⟩, hp3_⟩, hp4_⟩, hp5_⟩, hp6_⟩, hp7_⟩, hp8_⟩, hp9_⟩, hp10_⟩, hp11_⟩, hp12_⟩, hp13_⟩, hp14_⟩, hp15_⟩, hp16_⟩, hp17_⟩, hp18_⟩, hp19_⟩, hp20_⟩, hp21_⟩, hp22_⟩, hp23_⟩, hp24_⟩, hp25_⟩, hp26_⟩, hp27_⟩, hp28_⟩, hp29_⟩, hp30_⟩, hp31_⟩, hp32_⟩, hp33_⟩, hp34_⟩, hp35_⟩, hp36_⟩, hp37_⟩, hp38_⟩, hp39_⟩ := hp
                    have hs : St ok (bz w0) w [pl (tInt .i64) x368.M (adOf (ρ 106)), pl t_elasticstorelaw34_Act x368 (adOf (ρ 105)), pl (tInt .i64) x363.N (adOf (ρ 100)), pl t_elasticstorelaw34_Act x363 (adOf (ρ 99)), pl (tInt .i64) x357.M (adOf (ρ 92)), pl t_elasticstorelaw34_Act x357 (adOf (ρ 91)), pl (tInt .i64) x352.N (adOf (ρ 86)), pl t_elasticstorelaw34_Act x352 (adOf (ρ 85)), vl t_api_Message x111 (.agg cs113.toArray), vl t_network_Network (⟨x51, x52, x55⟩ : network_Network) (.agg [.int .i64 x51, .slice a53 x52.length c54, .slice a56 x55.length c57].toArray), vl t_api_Message x105 (.agg cs107.toArray), vl t_network_Network (⟨x58, x59, x62⟩ : network_Network) (.agg [.int .i64 x58, .slice a60 x59.length c61, .slice a63 x62.length c64].toArray), pl (tInt .i64) x74.M ad98, pl t_elasticstorelaw34_Act x74 ad100, vl (tSlice t_elasticstorelaw34_Act) x1 (.slice a2 x1.length c3), vl (tSlice t_network_Packet) x52 (.slice a53 x52.length c54), vl (tSlice t_network_Side) x55 (.slice a56 x55.length c57), vl (tSlice t_network_Packet) x59 (.slice a60 x59.length c61), vl (tSlice t_network_Side) x62 (.slice a63 x62.length c64)] [blk g115 49 cs113, blk g109 49 cs107, blk g19 27 [.int .i64 x51, .slice a53 x52.length c54, .slice a56 x55.length c57], blk g18 27 [.int .i64 x58, .slice a60 x59.length c61, .slice a63 x62.length c64]] := hs
                    have e463 : ρ 111 = .bool (x362 != x373) := hp39_
                    have e464 : ρ 110 = .bool (x362 != x373) := hp38_
                    have e465 : ρ 109 = .bool x373 := hp37_
                    have e466 : ρ 108 = .int .i64 x372 := hp36_
                    have e467 : ρ 107 = .int .i64 x368.M := hp35_
                    obtain ⟨ad468, e469⟩ := hp34_
                    have e469 : ρ 106 = .pointer (some ad468) := e469
                    try rw [e469] at hs
                    obtain ⟨ad470, e471⟩ := hp33_
                    have e471 : ρ 105 = .pointer (some ad470) := e471
                    try rw [e471] at hs
                    have e472 : ρ 104 = .int .i64 x27 := hp32_
                    have e473 : ρ 103 = .slice a2 x1.length c3 := hp31_
                    have e474 : ρ 102 = .int .i64 x367 := hp30_
                    have e475 : ρ 101 = .int .i64 x363.N := hp29_
                    obtain ⟨ad476, e477⟩ := hp28_
                    have e477 : ρ 100 = .pointer (some ad476) := e477
                    try rw [e477] at hs
                    obtain ⟨ad478, e479⟩ := hp27_
                    have e479 : ρ 99 = .pointer (some ad478) := e479
                    try rw [e479] at hs
                    have e480 : ρ 98 = .int .i64 x27 := hp26_
                    have e481 : ρ 97 = .slice a2 x1.length c3 := hp25_
                    have e482 : ρ 96 = .agg ([.int .i64 x51, .slice a53 x52.length c54, .slice a56 x55.length c57] : List Value).toArray := hp24_
                    have e483 : ρ 95 = .bool x362 := hp23_
                    have e484 : ρ 94 = .int .i64 x361 := hp22_
                    have e485 : ρ 93 = .int .i64 x357.M := hp21_
                    obtain ⟨ad486, e487⟩ := hp20_
                    have e487 : ρ 92 = .pointer (some ad486) := e487
                    try rw [e487] at hs
                    obtain ⟨ad488, e489⟩ := hp19_
                    have e489 : ρ 91 = .pointer (some ad488) := e489
                    try rw [e489] at hs
                    have e490 : ρ 90 = .int .i64 x27 := hp18_
                    have e491 : ρ 89 = .slice a2 x1.length c3 := hp17_
                    have e492 : ρ 88 = .int .i64 x356 := hp16_
                    have e493 : ρ 87 = .int .i64 x352.N := hp15_
                    obtain ⟨ad494, e495⟩ := hp14_
                    have e495 : ρ 86 = .pointer (some ad494) := e495
                    try rw [e495] at hs
                    obtain ⟨ad496, e497⟩ := hp13_
                    have e497 : ρ 85 = .pointer (some ad496) := e497
                    try rw [e497] at hs
                    have e498 : ρ 84 = .int .i64 x27 := hp12_
                    have e499 : ρ 83 = .slice a2 x1.length c3 := hp11_
                    have e500 : ρ 82 = .agg ([.int .i64 x58, .slice a60 x59.length c61, .slice a63 x62.length c64] : List Value).toArray := hp10_
                    have e501 : ρ 81 = .bool (!x237) := hp9_
                    have e502 : ρ 80 = .bool (!x237) := hp8_
                    have e503 : ρ 79 = .bool (!x237) := hp7_
                    have e504 : ρ 78 = .bool x237 := hp6_
                    have e505 : ρ 77 = .agg cs113.toArray := hp5_
                    have e506 : ρ 76 = .agg cs107.toArray := hp4_
                    have e507 : ρ 75 = .bool (x106 != x112) := hp3_
                    have e508 : ρ 74 = .bool (x106 != x112) := hp2_
                    have e509 : ρ 73 = .bool x112 := hp1_
                    have e510 : ρ 72 = .bool x106 := hp0_
                    refine WA.done (by kernel_rfl) ?_
                    exact Jk119 (x362 != x373) _ _ ((hu462 0 rfl).trans ((hu92 0 rfl).trans h68_0)) ((hu462 3 rfl).trans ((hu92 3 rfl).trans h68_3)) ((hu462 4 rfl).trans ((hu92 4 rfl).trans h68_4)) ((hu462 5 rfl).trans ((hu92 5 rfl).trans h68_5)) e463 ((hs.mask [false, false, true, true]).pick [14, 15, 16, 17, 18]) hf
        rcases iteE hf with ⟨hc511, hf⟩ | ⟨hc511, hf⟩
        · refine W.any (by kernel_rfl) 16 0 [true, true, true, true, true, true, true, true, true, true, true, true, true, true, true, true] rfl rfl (poAt [pv (.bool x50), pv (.bool (!x50)), pv (.bool (!x50)), pv (undef), pv (undef), pv (undef), pv (undef), pv (.bool true), pv (.bool true), pv (undef), pv (undef), pv (undef), pv (undef), pv (undef), pv (undef), pv (.bool true)]) (Λ := [blk g19 27 [.int .i64 x51, .slice a53 x52.length c54, .slice a56 x55.length c57], blk g18 27 [.int .i64 x58, .slice a60 x59.length c61, .slice a63 x62.length c64]]) hs (by kernel_rfl) (by kernel_rfl) (by kernel_rfl) ⟨⟨⟨⟨⟨⟨⟨⟨⟨⟨⟨⟨⟨⟨⟨⟨trivial, ?_⟩, ?_⟩, ?_⟩, ?_⟩, ?_⟩, ?_⟩, ?_⟩, ?_⟩, ?_⟩, ?_⟩, ?_⟩, ?_⟩, ?_⟩, ?_⟩, ?_⟩, ?_⟩ ?_
          · intro ρ w Γx Λx hs hu hp
            refine WL.move (v := .bool x50) ((hu 6 rfl).trans h49_6) ?_
            exact WL.nil ⟨rfl, _, rfl, rfl, hs.cutG 0 0⟩
          · intro ρ w Γx Λx hs hu hp
            have e512 : ρ 35 = .bool x50 := (hp 0 rfl).1
            refine WL.not e512 ?_
            exact WL.nil ⟨rfl, _, rfl, rfl, hs.cutG 0 0⟩
          · intro ρ w Γx Λx hs hu hp
            have e513 : ρ 36 = .bool (!x50) := (hp 1 rfl).1
            refine WL.move (v := .bool (!x50)) e513 ?_
            exact WL.nil ⟨rfl, _, rfl, rfl, hs.cutG 0 0⟩
          · intro ρ w Γx Λx hs hu hp
            have e514 : ρ 37 = .bool (!x50) := (hp 2 rfl).1
            refine WL.pass ((wanted_of rfl rfl (bool_tr e514 hc511)).trans rfl) rfl ?_
            exact WL.nil ⟨rfl, _, rfl, rfl, hs.cutG 0 0⟩
          · intro ρ w Γx Λx hs hu hp
            have e515 : ρ 37 = .bool (!x50) := (hp 2 rfl).1
            refine WL.pass ((wanted_of rfl rfl (bool_tr e515 hc511)).trans rfl) rfl ?_
            exact WL.nil ⟨rfl, _, rfl, rfl, hs.cutG 0 0⟩
          · intro ρ w Γx Λx hs hu hp
            have e516 : ρ 38 = undef := (hp 3 rfl).1
            have e517 : ρ 39 = undef := (hp 4 rfl).1
            have e518 : ρ 37 = .bool (!x50) := (hp 2 rfl).1
            refine WL.pass ((wanted_of rfl rfl (bool_tr e518 hc511)).trans rfl) rfl ?_
            exact WL.nil ⟨rfl, _, rfl, rfl, hs.cutG 0 0⟩
          · intro ρ w Γx Λx hs hu hp
            have e519 : ρ 40 = undef := (hp 5 rfl).1
            have e520 : ρ 37 = .bool (!x50) := (hp 2 rfl).1
            refine WL.pass ((wanted_of rfl rfl (bool_tr e520 hc511)).trans rfl) rfl ?_
            exact WL.nil ⟨rfl, _, rfl, rfl, hs.cutG 0 0⟩
          · intro ρ w Γx Λx hs hu hp
            have e521 : ρ 37 = .bool (!x50) := (hp 2 rfl).1
            have e522 : ρ 41 = undef := (hp 6 rfl).1
            refine WL.pickT (v := .bool true) (bool_tr e521 hc511) rfl ?_
            exact WL.nil ⟨rfl, _, rfl, rfl, hs.cutG 0 0⟩
          · intro ρ w Γx Λx hs hu hp
            have e523 : ρ 42 = .bool true := (hp 7 rfl).1
            refine WL.move (v := .bool true) e523 ?_
            exact WL.nil ⟨rfl, _, rfl, rfl, hs.cutG 0 0⟩
          · intro ρ w Γx Λx hs hu hp
            have e524 : ρ 43 = .bool true := (hp 8 rfl).1
            refine WL.pass ((wanted_of rfl rfl e524).trans rfl) rfl ?_
            exact WL.nil ⟨rfl, _, rfl, rfl, hs.cutG 0 0⟩
          · intro ρ w Γx Λx hs hu hp
            have e525 : ρ 44 = undef := (hp 9 rfl).1
            have e526 : ρ 43 = .bool true := (hp 8 rfl).1
            refine WL.pass ((wanted_of rfl rfl e526).trans rfl) rfl ?_
            exact WL.nil ⟨rfl, _, rfl, rfl, hs.cutG 0 0⟩
          · intro ρ w Γx Λx hs hu hp
            have e527 : ρ 43 = .bool true := (hp 8 rfl).1
            refine WL.pass ((wanted_of rfl rfl e527).trans rfl) rfl ?_
            exact WL.nil ⟨rfl, _, rfl, rfl, hs.cutG 0 0⟩
          · intro ρ w Γx Λx hs hu hp
            have e528 : ρ 46 = undef := (hp 11 rfl).1
            have e529 : ρ 43 = .bool true := (hp 8 rfl).1
            refine WL.pass ((wanted_of rfl rfl e529).trans rfl) rfl ?_
            exact WL.nil ⟨rfl, _, rfl, rfl, hs.cutG 0 0⟩
          · intro ρ w Γx Λx hs hu hp
            have e530 : ρ 45 = undef := (hp 10 rfl).1
            have e531 : ρ 47 = undef := (hp 12 rfl).1
            have e532 : ρ 43 = .bool true := (hp 8 rfl).1
            refine WL.pass ((wanted_of rfl rfl e532).trans rfl) rfl ?_
            exact WL.nil ⟨rfl, _, rfl, rfl, hs.cutG 0 0⟩
          · intro ρ w Γx Λx hs hu hp
            have e533 : ρ 48 = undef := (hp 13 rfl).1
            have e534 : ρ 43 = .bool true := (hp 8 rfl).1
            refine WL.pass ((wanted_of rfl rfl e534).trans rfl) rfl ?_
            exact WL.nil ⟨rfl, _, rfl, rfl, hs.cutG 0 0⟩
          · intro ρ w Γx Λx hs hu hp
            have e535 : ρ 43 = .bool true := (hp 8 rfl).1
            have e536 : ρ 49 = undef := (hp 14 rfl).1
            refine WL.pickT (v := .bool true) e535 rfl ?_
            exact WL.nil ⟨rfl, _, rfl, rfl, hs.cutG 0 0⟩
          · intro ρ w hs hu537 hp
            obtain ⟨⟨⟨⟨⟨⟨⟨⟨⟨⟨⟨⟨⟨⟨⟨⟨_, hp0_⟩, hp1_⟩, hp2_⟩, hp3_⟩, hp4_⟩, hp5_⟩, hp6_⟩, hp7_⟩, hp8_⟩, hp9_⟩, hp10_⟩, hp11_⟩, hp12_⟩, hp13_⟩, hp14_⟩, hp15_⟩ := hp
            have hs : St ok (bz w0) w [vl (tSlice t_elasticstorelaw34_Act) x1 (.slice a2 x1.length c3), vl (tSlice t_network_Packet) x52 (.slice a53 x52.length c54), vl (tSlice t_network_Side) x55 (.slice a56 x55.length c57), vl (tSlice t_network_Packet) x59 (.slice a60 x59.length c61), vl (tSlice t_network_Side) x62 (.slice a63 x62.length c64)] [blk g19 27 [.int .i64 x51, .slice a53 x52.length c54, .slice a56 x55.length c57], blk g18 27 [.int .i64 x58, .slice a60 x59.length c61, .slice a63 x62.length c64]] := hs
            have e538 : ρ 50 = .bool true := hp15_
            have e539 : ρ 49 = undef := hp14_
            have e540 : ρ 48 = undef := hp13_
            have e541 : ρ 47 = undef := hp12_
            have e542 : ρ 46 = undef := hp11_
            have e543 : ρ 45 = undef := hp10_
            have e544 : ρ 44 = undef := hp9_
            have e545 : ρ 43 = .bool true := hp8_
            have e546 : ρ 42 = .bool true := hp7_
            have e547 : ρ 41 = undef := hp6_
            have e548 : ρ 40 = undef := hp5_
            have e549 : ρ 39 = undef := hp4_
            have e550 : ρ 38 = undef := hp3_
            have e551 : ρ 37 = .bool (!x50) := hp2_
            have e552 : ρ 36 = .bool (!x50) := hp1_
            have e553 : ρ 35 = .bool x50 := hp0_
            refine WA.done (by kernel_rfl) ?_
            exact Jk70 true _ _ ((hu537 0 rfl).trans h49_0) ((hu537 3 rfl).trans h49_3) ((hu537 4 rfl).trans h49_4) ((hu537 5 rfl).trans h49_5) e538 ((hs.mask [true, true]).pick [0, 1, 2, 3, 4]) hf
        · obtain ⟨x554, hxx554, hf⟩ := bindE hf
          rcases iteE hf with ⟨hc555, hf⟩ | ⟨hc555, hf⟩
          · refine W.any (by kernel_rfl) 16 0 [true, true, true, true, true, true, true, true, true, true, true, true, true, true, true, true] rfl rfl (poAt [pv (.bool x50), pv (.bool (!x50)), pv (.bool (!x50)), pv (.agg ([.int .i64 x58, .slice a60 x59.length c61, .slice a63 x62.length c64] : List Value).toArray), pv (.agg ([.int .i64 x51, .slice a53 x52.length c54, .slice a56 x55.length c57] : List Value).toArray), pv (.bool x554), pv (.bool (!x554)), pv (.bool (!x554)), pv (.bool (!x554)), pv (undef), pv (undef), pv (undef), pv (undef), pv (undef), pv (undef), pv (.bool true)]) (Λ := [blk g19 27 [.int .i64 x51, .slice a53 x52.length c54, .slice a56 x55.length c57], blk g18 27 [.int .i64 x58, .slice a60 x59.length c61, .slice a63 x62.length c64]]) hs (by kernel_rfl) (by kernel_rfl) (by kernel_rfl) ⟨⟨⟨⟨⟨⟨⟨⟨⟨⟨⟨⟨⟨⟨⟨⟨trivial, ?_⟩, ?_⟩, ?_⟩, ?_⟩, ?_⟩, ?_⟩, ?_⟩, ?_⟩, ?_⟩, ?_⟩, ?_⟩, ?_⟩, ?_⟩, ?_⟩, ?_⟩, ?_⟩ ?_
            · intro ρ w Γx Λx hs hu hp
              refine WL.move (v := .bool x50) ((hu 6 rfl).trans h49_6) ?_
              exact WL.nil ⟨rfl, _, rfl, rfl, hs.cutG 0 0⟩
            · intro ρ w Γx Λx hs hu hp
              have e556 : ρ 35 = .bool x50 := (hp 0 rfl).1
              refine WL.not e556 ?_
              exact WL.nil ⟨rfl, _, rfl, rfl, hs.cutG 0 0⟩
            · intro ρ w Γx Λx hs hu hp
              have e557 : ρ 36 = .bool (!x50) := (hp 1 rfl).1
              refine WL.move (v := .bool (!x50)) e557 ?_
              exact WL.nil ⟨rfl, _, rfl, rfl, hs.cutG 0 0⟩
            · intro ρ w Γx Λx hs hu hp
              have e558 : ρ 37 = .bool (!x50) := (hp 2 rfl).1
              refine WL.loadN (vs := [.int .i64 x58, .slice a60 x59.length c61, .slice a63 x62.length c64]) hs (Λx.length + 1) (getApp rfl) TI27 ((hu 3 rfl).trans h49_3) rfl rfl ?_ (hg := (wanted_of rfl rfl (bool_tr e558 hc511)).trans rfl)
              exact WL.nil ⟨rfl, _, rfl, rfl, hs.cutG 0 0⟩
            · intro ρ w Γx Λx hs hu hp
              have e559 : ρ 37 = .bool (!x50) := (hp 2 rfl).1
              refine WL.loadN (vs := [.int .i64 x51, .slice a53 x52.length c54, .slice a56 x55.length c57]) hs (Λx.length + 0) (getApp rfl) TI27 ((hu 4 rfl).trans h49_4) rfl rfl ?_ (hg := (wanted_of rfl rfl (bool_tr e559 hc511)).trans rfl)
              exact WL.nil ⟨rfl, _, rfl, rfl, hs.cutG 0 0⟩
            · intro ρ w Γx Λx hs hu hp
              have e560 : ρ 38 = .agg ([.int .i64 x58, .slice a60 x59.length c61, .slice a63 x62.length c64] : List Value).toArray := (hp 3 rfl).1
              have e561 : ρ 39 = .agg ([.int .i64 x51, .slice a53 x52.length c54, .slice a56 x55.length c57] : List Value).toArray := (hp 4 rfl).1
              have e562 : ρ 37 = .bool (!x50) := (hp 2 rfl).1
              have hs := hs.add (it := vl t_network_Network (⟨x58, x59, x62⟩ : network_Network) (.agg [.int .i64 x58, .slice a60 x59.length c61, .slice a63 x62.length c64].toArray)) fun ok hA => V_agg (show t_network_Network.R ok _ _ _ from ⟨[.int .i64 x58], [.slice a60 x59.length c61, .slice a63 x62.length c64], rfl, rfl, ⟨[.slice a60 x59.length c61], [.slice a63 x62.length c64], rfl, (R_one (hA.get (Γx.length + 3) (getApp rfl))), (R_one (hA.get (Γx.length + 4) (getApp rfl)))⟩⟩) rfl
              have hs := hs.add (it := vl t_network_Network (⟨x51, x52, x55⟩ : network_Network) (.agg [.int .i64 x51, .slice a53 x52.length c54, .slice a56 x55.length c57].toArray)) fun ok hA => V_agg (show t_network_Network.R ok _ _ _ from ⟨[.int .i64 x51], [.slice a53 x52.length c54, .slice a56 x55.length c57], rfl, rfl, ⟨[.slice a53 x52.length c54], [.slice a56 x55.length c57], rfl, (R_one (hA.get (Γx.length + 1 + 1) (getApp1 rfl))), (R_one (hA.get (Γx.length + 2 + 1) (getApp1 rfl)))⟩⟩) rfl
              refine WL.call (vs := [.agg ([.int .i64 x58, .slice a60 x59.length c61, .slice a63 x62.length c64] : List Value).toArray, .agg ([.int .i64 x51, .slice a53 x52.length c54, .slice a56 x55.length c57] : List Value).toArray]) hs FN16 ⟨e560, ⟨e561, trivial⟩⟩ (fun ok hA => eslaw34_Equal.calls (x1 := (⟨x58, x59, x62⟩ : network_Network)) (x5 := (⟨x51, x52, x55⟩ : network_Network)) hxx554 (hA.get 1 rfl) (hA.get 0 rfl)) ?_ (hg := (wanted_of rfl rfl (bool_tr e562 hc511)).trans rfl)
              rintro _ w hs
              exact WL.nil ⟨rfl, _, rfl, rfl, hs.cutG 0 2⟩
            · intro ρ w Γx Λx hs hu hp
              have e563 : ρ 40 = .bool x554 := (hp 5 rfl).1
              have e564 : ρ 37 = .bool (!x50) := (hp 2 rfl).1
              refine WL.not e563 ?_ (hg := (wanted_of rfl rfl (bool_tr e564 hc511)).trans rfl)
              exact WL.nil ⟨rfl, _, rfl, rfl, hs.cutG 0 0⟩
            · intro ρ w Γx Λx hs hu hp
              have e565 : ρ 37 = .bool (!x50) := (hp 2 rfl).1
              have e566 : ρ 41 = .bool (!x554) := (hp 6 rfl).1
              refine WL.pickF (v := .bool (!x554)) (bool_tr e565 hc511) e566 ?_
              exact WL.nil ⟨rfl, _, rfl, rfl, hs.cutG 0 0⟩
            · intro ρ w Γx Λx hs hu hp
              have e567 : ρ 42 = .bool (!x554) := (hp 7 rfl).1
              refine WL.move (v := .bool (!x554)) e567 ?_
              exact WL.nil ⟨rfl, _, rfl, rfl, hs.cutG 0 0⟩
            · intro ρ w Γx Λx hs hu hp
              have e568 : ρ 43 = .bool (!x554) := (hp 8 rfl).1
              refine WL.pass ((wanted_of rfl rfl (bool_tr e568 hc555)).trans rfl) rfl ?_
              exact WL.nil ⟨rfl, _, rfl, rfl, hs.cutG 0 0⟩
            · intro ρ w Γx Λx hs hu hp
              have e569 : ρ 44 = undef := (hp 9 rfl).1
              have e570 : ρ 43 = .bool (!x554) := (hp 8 rfl).1
              refine WL.pass ((wanted_of rfl rfl (bool_tr e570 hc555)).trans rfl) rfl ?_
              exact WL.nil ⟨rfl, _, rfl, rfl, hs.cutG 0 0⟩
            · intro ρ w Γx Λx hs hu hp
              have e571 : ρ 43 = .bool (!x554) := (hp 8 rfl).1
              refine WL.pass ((wanted_of rfl rfl (bool_tr e571 hc555)).trans rfl) rfl ?_
              exact WL.nil ⟨rfl, _, rfl, rfl, hs.cutG 0 0⟩
            · intro ρ w Γx Λx hs hu hp
              have e572 : ρ 46 = undef := (hp 11 rfl).1
              have e573 : ρ 43 = .bool (!x554) := (hp 8 rfl).1
              refine WL.pass ((wanted_of rfl rfl (bool_tr e573 hc555)).trans rfl) rfl ?_
              exact WL.nil ⟨rfl, _, rfl, rfl, hs.cutG 0 0⟩
            · intro ρ w Γx Λx hs hu hp
              have e574 : ρ 45 = undef := (hp 10 rfl).1
              have e575 : ρ 47 = undef := (hp 12 rfl).1
              have e576 : ρ 43 = .bool (!x554) := (hp 8 rfl).1
              refine WL.pass ((wanted_of rfl rfl (bool_tr e576 hc555)).trans rfl) rfl ?_
              exact WL.nil ⟨rfl, _, rfl, rfl, hs.cutG 0 0⟩
            · intro ρ w Γx Λx hs hu hp
              have e577 : ρ 48 = undef := (hp 13 rfl).1
              have e578 : ρ 43 = .bool (!x554) := (hp 8 rfl).1
              refine WL.pass ((wanted_of rfl rfl (bool_tr e578 hc555)).trans rfl) rfl ?_
              exact WL.nil ⟨rfl, _, rfl, rfl, hs.cutG 0 0⟩
            · intro ρ w Γx Λx hs hu hp
              have e579 : ρ 43 = .bool (!x554) := (hp 8 rfl).1
              have e580 : ρ 49 = undef := (hp 14 rfl).1
              refine WL.pickT (v := .bool true) (bool_tr e579 hc555) rfl ?_
              exact WL.nil ⟨rfl, _, rfl, rfl, hs.cutG 0 0⟩
            · intro ρ w hs hu581 hp
              obtain ⟨⟨⟨⟨⟨⟨⟨⟨⟨⟨⟨⟨⟨⟨⟨⟨_, hp0_⟩, hp1_⟩, hp2_⟩, hp3_⟩, hp4_⟩, hp5_⟩, hp6_⟩, hp7_⟩, hp8_⟩, hp9_⟩, hp10_⟩, hp11_⟩, hp12_⟩, hp13_⟩, hp14_⟩, hp15_⟩ := hp
              have hs : St ok (bz w0) w [vl (tSlice t_elasticstorelaw34_Act) x1 (.slice a2 x1.length c3), vl (tSlice t_network_Packet) x52 (.slice a53 x52.length c54), vl (tSlice t_network_Side) x55 (.slice a56 x55.length c57), vl (tSlice t_network_Packet) x59 (.slice a60 x59.length c61), vl (tSlice t_network_Side) x62 (.slice a63 x62.length c64)] [blk g19 27 [.int .i64 x51, .slice a53 x52.length c54, .slice a56 x55.length c57], blk g18 27 [.int .i64 x58, .slice a60 x59.length c61, .slice a63 x62.length c64]] := hs
              have e582 : ρ 50 = .bool true := hp15_
              have e583 : ρ 49 = undef := hp14_
              have e584 : ρ 48 = undef := hp13_
              have e585 : ρ 47 = undef := hp12_
              have e586 : ρ 46 = undef := hp11_
              have e587 : ρ 45 = undef := hp10_
              have e588 : ρ 44 = undef := hp9_
              have e589 : ρ 43 = .bool (!x554) := hp8_
              have e590 : ρ 42 = .bool (!x554) := hp7_
              have e591 : ρ 41 = .bool (!x554) := hp6_
              have e592 : ρ 40 = .bool x554 := hp5_
              have e593 : ρ 39 = .agg ([.int .i64 x51, .slice a53 x52.length c54, .slice a56 x55.length c57] : List Value).toArray := hp4_
              have e594 : ρ 38 = .agg ([.int .i64 x58, .slice a60 x59.length c61, .slice a63 x62.length c64] : List Value).toArray := hp3_
              have e595 : ρ 37 = .bool (!x50) := hp2_
              have e596 : ρ 36 = .bool (!x50) := hp1_
              have e597 : ρ 35 = .bool x50 := hp0_
              refine WA.done (by kernel_rfl) ?_
              exact Jk70 true _ _ ((hu581 0 rfl).trans h49_0) ((hu581 3 rfl).trans h49_3) ((hu581 4 rfl).trans h49_4) ((hu581 5 rfl).trans h49_5) e582 ((hs.mask [true, true]).pick [0, 1, 2, 3, 4]) hf
          · obtain ⟨x598, hxx598, hf⟩ := bindE hf
            obtain ⟨x601, hxx601, hf⟩ := bindE hf
            obtain ⟨x604, hxx604, hf⟩ := bindE hf
            refine W.any (by kernel_rfl) 16 0 [true, true, true, true, true, true, true, true, true, true, true, true, true, true, true, true] rfl rfl (poAt [pv (.bool x50), pv (.bool (!x50)), pv (.bool (!x50)), pv (.agg ([.int .i64 x58, .slice a60 x59.length c61, .slice a63 x62.length c64] : List Value).toArray), pv (.agg ([.int .i64 x51, .slice a53 x52.length c54, .slice a56 x55.length c57] : List Value).toArray), pv (.bool x554), pv (.bool (!x554)), pv (.bool (!x554)), pv (.bool (!x554)), pv (.agg ([.int .i64 x58, .slice a60 x59.length c61, .slice a63 x62.length c64] : List Value).toArray), pq (fun y : (Option Addr × Nat) => .slice y.1 x598.length y.2) (fun v => [vl (tSlice (tInt .i64)) x598 v]) (fun v => []), pv (.agg ([.int .i64 x51, .slice a53 x52.length c54, .slice a56 x55.length c57] : List Value).toArray), pq (fun y : (Option Addr × Nat) => .slice y.1 x601.length y.2) (fun v => [vl (tSlice (tInt .i64)) x601 v]) (fun v => []), pv (.bool x604), pv (.bool (!x604)), pv (.bool (!x604))]) (Λ := [blk g19 27 [.int .i64 x51, .slice a53 x52.length c54, .slice a56 x55.length c57], blk g18 27 [.int .i64 x58, .slice a60 x59.length c61, .slice a63 x62.length c64]]) hs (by kernel_rfl) (by kernel_rfl) (by kernel_rfl) ⟨⟨⟨⟨⟨⟨⟨⟨⟨⟨⟨⟨⟨⟨⟨⟨trivial, ?_⟩, ?_⟩, ?_⟩, ?_⟩, ?_⟩, ?_⟩, ?_⟩, ?_⟩, ?_⟩, ?_⟩, ?_⟩, ?_⟩, ?_⟩, ?_⟩, ?_⟩, ?_⟩ ?_
            · intro ρ w Γx Λx hs hu hp
              refine WL.move (v := .bool x50) ((hu 6 rfl).trans h49_6) ?_
              exact WL.nil ⟨rfl, _, rfl, rfl, hs.cutG 0 0⟩
            · intro ρ w Γx Λx hs hu hp
              have e605 : ρ 35 = .bool x50 := (hp 0 rfl).1
              refine WL.not e605 ?_
              exact WL.nil ⟨rfl, _, rfl, rfl, hs.cutG 0 0⟩
            · intro ρ w Γx Λx hs hu hp
              have e606 : ρ 36 = .bool (!x50) := (hp 1 rfl).1
              refine WL.move (v := .bool (!x50)) e606 ?_
              exact WL.nil ⟨rfl, _, rfl, rfl, hs.cutG 0 0⟩
            · intro ρ w Γx Λx hs hu hp
              have e607 : ρ 37 = .bool (!x50) := (hp 2 rfl).1
              refine WL.loadN (vs := [.int .i64 x58, .slice a60 x59.length c61, .slice a63 x62.length c64]) hs (Λx.length + 1) (getApp rfl) TI27 ((hu 3 rfl).trans h49_3) rfl rfl ?_ (hg := (wanted_of rfl rfl (bool_tr e607 hc511)).trans rfl)
              exact WL.nil ⟨rfl, _, rfl, rfl, hs.cutG 0 0⟩
            · intro ρ w Γx Λx hs hu hp
              have e608 : ρ 37 = .bool (!x50) := (hp 2 rfl).1
              refine WL.loadN (vs := [.int .i64 x51, .slice a53 x52.length c54, .slice a56 x55.length c57]) hs (Λx.length + 0) (getApp rfl) TI27 ((hu 4 rfl).trans h49_4) rfl rfl ?_ (hg := (wanted_of rfl rfl (bool_tr e608 hc511)).trans rfl)
              exact WL.nil ⟨rfl, _, rfl, rfl, hs.cutG 0 0⟩
            · intro ρ w Γx Λx hs hu hp
              have e609 : ρ 38 = .agg ([.int .i64 x58, .slice a60 x59.length c61, .slice a63 x62.length c64] : List Value).toArray := (hp 3 rfl).1
              have e610 : ρ 39 = .agg ([.int .i64 x51, .slice a53 x52.length c54, .slice a56 x55.length c57] : List Value).toArray := (hp 4 rfl).1
              have e611 : ρ 37 = .bool (!x50) := (hp 2 rfl).1
              have hs := hs.add (it := vl t_network_Network (⟨x58, x59, x62⟩ : network_Network) (.agg [.int .i64 x58, .slice a60 x59.length c61, .slice a63 x62.length c64].toArray)) fun ok hA => V_agg (show t_network_Network.R ok _ _ _ from ⟨[.int .i64 x58], [.slice a60 x59.length c61, .slice a63 x62.length c64], rfl, rfl, ⟨[.slice a60 x59.length c61], [.slice a63 x62.length c64], rfl, (R_one (hA.get (Γx.length + 3) (getApp rfl))), (R_one (hA.get (Γx.length + 4) (getApp rfl)))⟩⟩) rfl
              have hs := hs.add (it := vl t_network_Network (⟨x51, x52, x55⟩ : network_Network) (.agg [.int .i64 x51, .slice a53 x52.length c54, .slice a56 x55.length c57].toArray)) fun ok hA => V_agg (show t_network_Network.R ok _ _ _ from ⟨[.int .i64 x51], [.slice a53 x52.length c54, .slice a56 x55.length c57], rfl, rfl, ⟨[.slice a53 x52.length c54], [.slice a56 x55.length c57], rfl, (R_one (hA.get (Γx.length + 1 + 1) (getApp1 rfl))), (R_one (hA.get (Γx.length + 2 + 1) (getApp1 rfl)))⟩⟩) rfl
              refine WL.call (vs := [.agg ([.int .i64 x58, .slice a60 x59.length c61, .slice a63 x62.length c64] : List Value).toArray, .agg ([.int .i64 x51, .slice a53 x52.length c54, .slice a56 x55.length c57] : List Value).toArray]) hs FN16 ⟨e609, ⟨e610, trivial⟩⟩ (fun ok hA => eslaw34_Equal.calls (x1 := (⟨x58, x59, x62⟩ : network_Network)) (x5 := (⟨x51, x52, x55⟩ : network_Network)) hxx554 (hA.get 1 rfl) (hA.get 0 rfl)) ?_ (hg := (wanted_of rfl rfl (bool_tr e611 hc511)).trans rfl)
              rintro _ w hs
              exact WL.nil ⟨rfl, _, rfl, rfl, hs.cutG 0 2⟩
            · intro ρ w Γx Λx hs hu hp
              have e612 : ρ 40 = .bool x554 := (hp 5 rfl).1
              have e613 : ρ 37 = .bool (!x50) := (hp 2 rfl).1
              refine WL.not e612 ?_ (hg := (wanted_of rfl rfl (bool_tr e613 hc511)).trans rfl)
              exact WL.nil ⟨rfl, _, rfl, rfl, hs.cutG 0 0⟩
            · intro ρ w Γx Λx hs hu hp
              have e614 : ρ 37 = .bool (!x50) := (hp 2 rfl).1
              have e615 : ρ 41 = .bool (!x554) := (hp 6 rfl).1
              refine WL.pickF (v := .bool (!x554)) (bool_tr e614 hc511) e615 ?_
              exact WL.nil ⟨rfl, _, rfl, rfl, hs.cutG 0 0⟩
            · intro ρ w Γx Λx hs hu hp
              have e616 : ρ 42 = .bool (!x554) := (hp 7 rfl).1
              refine WL.move (v := .bool (!x554)) e616 ?_
              exact WL.nil ⟨rfl, _, rfl, rfl, hs.cutG 0 0⟩
            · intro ρ w Γx Λx hs hu hp
              have e617 : ρ 43 = .bool (!x554) := (hp 8 rfl).1
              refine WL.loadN (vs := [.int .i64 x58, .slice a60 x59.length c61, .slice a63 x62.length c64]) hs (Λx.length + 1) (getApp rfl) TI27 ((hu 3 rfl).trans h49_3) rfl rfl ?_ (hg := (wanted_of rfl rfl (bool_tr e617 hc555)).trans rfl)
              exact WL.nil ⟨rfl, _, rfl, rfl, hs.cutG 0 0⟩
            · intro ρ w Γx Λx hs hu hp
              have e618 : ρ 44 = .agg ([.int .i64 x58, .slice a60 x59.length c61, .slice a63 x62.length c64] : List Value).toArray := (hp 9 rfl).1
              have e619 : ρ 43 = .bool (!x554) := (hp 8 rfl).1
              have hs := hs.add (it := vl t_network_Network (⟨x58, x59, x62⟩ : network_Network) (.agg [.int .i64 x58, .slice a60 x59.length c61, .slice a63 x62.length c64].toArray)) fun ok hA => V_agg (show t_network_Network.R ok _ _ _ from ⟨[.int .i64 x58], [.slice a60 x59.length c61, .slice a63 x62.length c64], rfl, rfl, ⟨[.slice a60 x59.length c61], [.slice a63 x62.length c64], rfl, (R_one (hA.get (Γx.length + 3) (getApp rfl))), (R_one (hA.get (Γx.length + 4) (getApp rfl)))⟩⟩) rfl
              refine WL.call (vs := [.agg ([.int .i64 x58, .slice a60 x59.length c61, .slice a63 x62.length c64] : List Value).toArray]) hs FN14 ⟨e618, trivial⟩ (fun ok hA => network_Deliverable.callc (x1 := (⟨x58, x59, x62⟩ : network_Network)) hxx598 (hA.get 0 rfl)) ?_ (hg := (wanted_of rfl rfl (bool_tr e619 hc555)).trans rfl)
              rintro ⟨a599, c600⟩ w hs
              have hs := hs.add (it := vl (tSlice (tInt .i64)) x598 (.slice a599 x598.length c600)) fun ok hA => hA.get 0 rfl
              exact WL.nil ⟨rfl, _, rfl, ⟨(a599, c600), rfl⟩, hs.cutG 1 2⟩
            · intro ρ w Γx Λx hs hu hp
              have e620 : ρ 43 = .bool (!x554) := (hp 8 rfl).1
              refine WL.loadN (vs := [.int .i64 x51, .slice a53 x52.length c54, .slice a56 x55.length c57]) hs (Λx.length + 0) (getApp rfl) TI27 ((hu 4 rfl).trans h49_4) rfl rfl ?_ (hg := (wanted_of rfl rfl (bool_tr e620 hc555)).trans rfl)
              exact WL.nil ⟨rfl, _, rfl, rfl, hs.cutG 0 0⟩
            · intro ρ w Γx Λx hs hu hp
              have e621 : ρ 46 = .agg ([.int .i64 x51, .slice a53 x52.length c54, .slice a56 x55.length c57] : List Value).toArray := (hp 11 rfl).1
              have e622 : ρ 43 = .bool (!x554) := (hp 8 rfl).1
              have hs := hs.add (it := vl t_network_Network (⟨x51, x52, x55⟩ : network_Network) (.agg [.int .i64 x51, .slice a53 x52.length c54, .slice a56 x55.length c57].toArray)) fun ok hA => V_agg (show t_network_Network.R ok _ _ _ from ⟨[.int .i64 x51], [.slice a53 x52.length c54, .slice a56 x55.length c57], rfl, rfl, ⟨[.slice a53 x52.length c54], [.slice a56 x55.length c57], rfl, (R_one (hA.get (Γx.length + 1) (getApp rfl))), (R_one (hA.get (Γx.length + 2) (getApp rfl)))⟩⟩) rfl
              refine WL.call (vs := [.agg ([.int .i64 x51, .slice a53 x52.length c54, .slice a56 x55.length c57] : List Value).toArray]) hs FN21 ⟨e621, trivial⟩ (fun ok hA => esref36_Deliverable.callc (x1 := (⟨x51, x52, x55⟩ : network_Network)) hxx601 (hA.get 0 rfl)) ?_ (hg := (wanted_of rfl rfl (bool_tr e622 hc555)).trans rfl)
              rintro ⟨a602, c603⟩ w hs
              have hs := hs.add (it := vl (tSlice (tInt .i64)) x601 (.slice a602 x601.length c603)) fun ok hA => hA.get 0 rfl
              exact WL.nil ⟨rfl, _, rfl, ⟨(a602, c603), rfl⟩, hs.cutG 1 2⟩
            · intro ρ w Γx Λx hs hu hp
              obtain ⟨⟨⟨a623, c624⟩, e625r⟩, hm626⟩ := hp 10 rfl
              have e625 : ρ 45 = .slice a623 x598.length c624 := e625r
              rw [e625r] at hm626
              have hs := hs.memo1 (it := vl (tSlice (tInt .i64)) x598 (.slice a623 x598.length c624)) (List.mem_append.2 (.inl (hm626 _ (List.mem_of_getElem? (i := 0) rfl))))
              obtain ⟨⟨⟨a627, c628⟩, e629r⟩, hm630⟩ := hp 12 rfl
              have e629 : ρ 47 = .slice a627 x601.length c628 := e629r
              rw [e629r] at hm630
              have hs := hs.memo1 (it := vl (tSlice (tInt .i64)) x601 (.slice a627 x601.length c628)) (List.mem_cons_of_mem _ (List.mem_append.2 (.inl (hm630 _ (List.mem_of_getElem? (i := 0) rfl)))))
              have e631 : ρ 43 = .bool (!x554) := (hp 8 rfl).1
              refine WL.call (vs := [.slice a623 x598.length c624, .slice a627 x601.length c628]) hs FN20 ⟨e625, ⟨e629, trivial⟩⟩ (fun ok hA => eslaw34_equalInts.calls (x1 := x598) (x4 := x601) hxx604 (hA.get 1 rfl) (hA.get 0 rfl)) ?_ (hg := (wanted_of rfl rfl (bool_tr e631 hc555)).trans rfl)
              rintro _ w hs
              exact WL.nil ⟨rfl, _, rfl, rfl, hs.cutG 0 2⟩
            · intro ρ w Γx Λx hs hu hp
              have e632 : ρ 48 = .bool x604 := (hp 13 rfl).1
              have e633 : ρ 43 = .bool (!x554) := (hp 8 rfl).1
              refine WL.not e632 ?_ (hg := (wanted_of rfl rfl (bool_tr e633 hc555)).trans rfl)
              exact WL.nil ⟨rfl, _, rfl, rfl, hs.cutG 0 0⟩
            · intro ρ w Γx Λx hs hu hp
              have e634 : ρ 43 = .bool (!x554) := (hp 8 rfl).1
              have e635 : ρ 49 = .bool (!x604) := (hp 14 rfl).1
              refine WL.pickF (v := .bool (!x604)) (bool_tr e634 hc555) e635 ?_
              exact WL.nil ⟨rfl, _, rfl, rfl, hs.cutG 0 0⟩
            · intro ρ w hs hu636 hp
              obtain ⟨⟨⟨⟨⟨⟨⟨⟨⟨⟨⟨⟨⟨⟨⟨⟨_, hp0_⟩, hp1_⟩, hp2_⟩, hp3_⟩, hp4_⟩, hp5_⟩, hp6_⟩, hp7_⟩, hp8_⟩, hp9_⟩, hp10_⟩, hp11_⟩, hp12_⟩, hp13_⟩, hp14_⟩, hp15_⟩ := hp
              have hs : St ok (bz w0) w [vl (tSlice (tInt .i64)) x601 (ρ 47), vl (tSlice (tInt .i64)) x598 (ρ 45), vl (tSlice t_elasticstorelaw34_Act) x1 (.slice a2 x1.length c3), vl (tSlice t_network_Packet) x52 (.slice a53 x52.length c54), vl (tSlice t_network_Side) x55 (.slice a56 x55.length c57), vl (tSlice t_network_Packet) x59 (.slice a60 x59.length c61), vl (tSlice t_network_Side) x62 (.slice a63 x62.length c64)] [blk g19 27 [.int .i64 x51, .slice a53 x52.length c54, .slice a56 x55.length c57], blk g18 27 [.int .i64 x58, .slice a60 x59.length c61, .slice a63 x62.length c64]] := hs
              have e637 : ρ 50 = .bool (!x604) := hp15_
              have e638 : ρ 49 = .bool (!x604) := hp14_
              have e639 : ρ 48 = .bool x604 := hp13_
              obtain ⟨⟨a640, c641⟩, e642⟩ := hp12_
              have e642 : ρ 47 = .slice a640 x601.length c641 := e642
              try rw [e642] at hs
              have e643 : ρ 46 = .agg ([.int .i64 x51, .slice a53 x52.length c54, .slice a56 x55.length c57] : List Value).toArray := hp11_
              obtain ⟨⟨a644, c645⟩, e646⟩ := hp10_
              have e646 : ρ 45 = .slice a644 x598.length c645 := e646
              try rw [e646] at hs
              have e647 : ρ 44 = .agg ([.int .i64 x58, .slice a60 x59.length c61, .slice a63 x62.length c64] : List Value).toArray := hp9_
              have e648 : ρ 43 = .bool (!x554) := hp8_
              have e649 : ρ 42 = .bool (!x554) := hp7_
              have e650 : ρ 41 = .bool (!x554) := hp6_
              have e651 : ρ 40 = .bool x554 := hp5_
              have e652 : ρ 39 = .agg ([.int .i64 x51, .slice a53 x52.length c54, .slice a56 x55.length c57] : List Value).toArray := hp4_
              have e653 : ρ 38 = .agg ([.int .i64 x58, .slice a60 x59.length c61, .slice a63 x62.length c64] : List Value).toArray := hp3_
              have e654 : ρ 37 = .bool (!x50) := hp2_
              have e655 : ρ 36 = .bool (!x50) := hp1_
              have e656 : ρ 35 = .bool x50 := hp0_
              refine WA.done (by kernel_rfl) ?_
              exact Jk70 (!x604) _ _ ((hu636 0 rfl).trans h49_0) ((hu636 3 rfl).trans h49_3) ((hu636 4 rfl).trans h49_4) ((hu636 5 rfl).trans h49_5) e637 ((hs.mask [true, true]).pick [2, 3, 4, 5, 6]) hf
      obtain ⟨x657, hxx657, hf⟩ := bindE hf
      obtain ⟨⟨x662, x663, x664⟩, hxx662, hf⟩ := bindE hf
      refine W.any (by kernel_rfl) 8 6 [true, true, true, true, true, true, true, true, false, false, false, false, false, false] rfl rfl (poAt [pv (.agg ([.int .i64 x35, .slice a37 x36.length c38, .slice a40 x39.length c41] : List Value).toArray), pv (.agg ([.int .i64 x28, .slice a30 x29.length c31, .slice a33 x32.length c34] : List Value).toArray), pv (.slice a2 x1.length c3), pv (.int .i64 x27), pq (fun y : Addr => .pointer (some y)) (fun v => [pl t_elasticstorelaw34_Act x657 (adOf v)]) (fun v => []), pq (fun y : List Value => .agg y.toArray) (fun v => [vl t_elasticstorelaw34_Act x657 v]) (fun v => []), pq (fun y : (List Value) × (List Value) => .tuple #[.agg y.1.toArray, .agg y.2.toArray, .bool x664]) (fun v => [vl t_network_Network x662 (partOf v 0), vl t_network_Network x663 (partOf v 1)]) (fun v => []), pn [6] (fun r => r.getD 0 undef)]) (Λ := [blk g19 27 [.int .i64 x28, .slice a30 x29.length c31, .slice a33 x32.length c34], blk g18 27 [.int .i64 x35, .slice a37 x36.length c38, .slice a40 x39.length c41]]) hs (by kernel_rfl) (by kernel_rfl) (by kernel_rfl) ⟨⟨⟨⟨⟨⟨⟨⟨trivial, ?_⟩, ?_⟩, ?_⟩, ?_⟩, ?_⟩, ?_⟩, ?_⟩, ?_⟩ ?_
      · intro ρ w Γx Λx hs hu hp
        refine WL.loadN (vs := [.int .i64 x35, .slice a37 x36.length c38, .slice a40 x39.length c41]) hs (Λx.length + 1) (getApp rfl) TI27 ((hu 3 rfl).trans h26_3) rfl rfl ?_
        exact WL.nil ⟨rfl, _, rfl, rfl, hs.cutG 0 0⟩
      · intro ρ w Γx Λx hs hu hp
        refine WL.loadN (vs := [.int .i64 x28, .slice a30 x29.length c31, .slice a33 x32.length c34]) hs (Λx.length + 0) (getApp rfl) TI27 ((hu 4 rfl).trans h26_4) rfl rfl ?_
        exact WL.nil ⟨rfl, _, rfl, rfl, hs.cutG 0 0⟩
      · intro ρ w Γx Λx hs hu hp
        refine WL.move (v := .slice a2 x1.length c3) ((hu 0 rfl).trans h26_0) ?_
        exact WL.nil ⟨rfl, _, rfl, rfl, hs.cutG 0 0⟩
      · intro ρ w Γx Λx hs hu hp
        refine WL.move (v := .int .i64 x27) ((hu 5 rfl).trans h26_5) ?_
        exact WL.nil ⟨rfl, _, rfl, rfl, hs.cutG 0 0⟩
      · intro ρ w Γx Λx hs hu hp
        have e669 : ρ 27 = .slice a2 x1.length c3 := (hp 2 rfl).1
        have e670 : ρ 28 = .int .i64 x27 := (hp 3 rfl).1
        refine WL.indexAddr hs (Γx.length + 0) (getApp rfl) UN22 TI33 e669 e670 hxx657 (fun ad658 hs => ?_)
        have hs := hs.add (it := pl t_elasticstorelaw34_Act x657 ad658) fun ok hA => hA.get 0 rfl
        exact WL.nil ⟨rfl, _, rfl, ⟨ad658, rfl⟩, hs.cutG 1 1⟩
      · intro ρ w Γx Λx hs hu hp
        obtain ⟨⟨ad671, e672r⟩, hm673⟩ := hp 4 rfl
        have e672 : ρ 29 = .pointer (some ad671) := e672r
        rw [e672r] at hm673
        have hs := hs.memo1 (it := pl t_elasticstorelaw34_Act x657 ad671) (List.mem_append.2 (.inl (hm673 _ (List.mem_of_getElem? (i := 0) rfl))))
        refine WL.loadP hs 0 rfl TI33 (.inl rfl) e672 (fun v659 hs => ?_)
        obtain ⟨cs660, hl661, rfl⟩ := hs.aggv (n := 4) 0 rfl rfl rfl
        have hs := hs.add (it := vl t_elasticstorelaw34_Act x657 (.agg cs660.toArray)) fun ok hA => hA.get 0 rfl
        exact WL.nil ⟨rfl, _, rfl, ⟨cs660, rfl⟩, hs.cutG 1 2⟩
      · intro ρ w Γx Λx hs hu hp
        have e674 : ρ 25 = .agg ([.int .i64 x35, .slice a37 x36.length c38, .slice a40 x39.length c41] : List Value).toArray := (hp 0 rfl).1
        have e675 : ρ 26 = .agg ([.int .i64 x28, .slice a30 x29.length c31, .slice a33 x32.length c34] : List Value).toArray := (hp 1 rfl).1
        obtain ⟨⟨cs676, e678r⟩, hm679⟩ := hp 5 rfl
        have e678 : ρ 30 = .agg cs676.toArray := e678r
        rw [e678r] at hm679
        have hs := hs.memo1 (it := vl t_elasticstorelaw34_Act x657 (.agg cs676.toArray)) (List.mem_append.2 (.inl (hm679 _ (List.mem_of_getElem? (i := 0) rfl))))
        have hl677 := hs.agglen (n := 4) 0 rfl rfl rfl
        have hs := hs.add (it := vl t_network_Network (⟨x35, x36, x39⟩ : network_Network) (.agg [.int .i64 x35, .slice a37 x36.length c38, .slice a40 x39.length c41].toArray)) fun ok hA => V_agg (show t_network_Network.R ok _ _ _ from ⟨[.int .i64 x35], [.slice a37 x36.length c38, .slice a40 x39.length c41], rfl, rfl, ⟨[.slice a37 x36.length c38], [.slice a40 x39.length c41], rfl, (R_one (hA.get (Γx.length + 3 + 1) (getApp1 rfl))), (R_one (hA.get (Γx.length + 4 + 1) (getApp1 rfl)))⟩⟩) rfl
        have hs := hs.add (it := vl t_network_Network (⟨x28, x29, x32⟩ : network_Network) (.agg [.int .i64 x28, .slice a30 x29.length c31, .slice a33 x32.length c34].toArray)) fun ok hA => V_agg (show t_network_Network.R ok _ _ _ from ⟨[.int .i64 x28], [.slice a30 x29.length c31, .slice a33 x32.length c34], rfl, rfl, ⟨[.slice a30 x29.length c31], [.slice a33 x32.length c34], rfl, (R_one (hA.get (Γx.length + 1 + 2) (getApp2 rfl))), (R_one (hA.get (Γx.length + 2 + 2) (getApp2 rfl)))⟩⟩) rfl
        refine WL.call (vs := [.agg ([.int .i64 x35, .slice a37 x36.length c38, .slice a40 x39.length c41] : List Value).toArray, .agg ([.int .i64 x28, .slice a30 x29.length c31, .slice a33 x32.length c34] : List Value).toArray, .agg cs676.toArray]) hs FN19 ⟨e674, ⟨e675, ⟨e678, trivial⟩⟩⟩ (fun ok hA => eslaw34_step.calls (x1 := (⟨x35, x36, x39⟩ : network_Network)) (x5 := (⟨x28, x29, x32⟩ : network_Network)) (x9 := x657) hxx662 (hA.get 1 rfl) (hA.get 0 rfl) (hA.get 2 rfl)) ?_
        rintro ⟨cs665, cs666⟩ w hs
        have hl667 := hs.agglen (n := 3) 0 rfl rfl rfl
        have hl668 := hs.agglen (n := 3) 1 rfl rfl rfl
        have hs := hs.add (it := vl t_network_Network x663 (.agg cs666.toArray)) fun ok hA => hA.get 1 rfl
        have hs := hs.add (it := vl t_network_Network x662 (.agg cs665.toArray)) fun ok hA => hA.get 1 rfl
        exact WL.nil ⟨rfl, _, rfl, ⟨(cs665, cs666), rfl⟩, hs.cutG 2 5⟩
      · intro ρ w Γx Λx hs hu hp
        obtain ⟨⟨⟨cs680, cs682⟩, e684r⟩, hm685⟩ := hp 6 rfl
        have e684 : ρ 31 = .tuple #[.agg cs680.toArray, .agg cs682.toArray, .bool x664] := e684r
        rw [e684r] at hm685
        have hs := hs.memo1 (it := vl t_network_Network x663 (.agg cs682.toArray)) (List.mem_append.2 (.inl (hm685 _ (List.mem_of_getElem? (i := 1) rfl))))
        have hs := hs.memo1 (it := vl t_network_Network x662 (.agg cs680.toArray)) (List.mem_cons_of_mem _ (List.mem_append.2 (.inl (hm685 _ (List.mem_of_getElem? (i := 0) rfl)))))
        have hl681 := hs.agglen (n := 3) 0 rfl rfl rfl
        have hl683 := hs.agglen (n := 3) 1 rfl rfl rfl
        refine WL.move (v := .tuple #[.agg cs680.toArray, .agg cs682.toArray, .bool x664]) e684 ?_
        exact WL.nil ⟨rfl, _, rfl, (show (.tuple #[.agg cs680.toArray, .agg cs682.toArray, .bool x664] : Value) = (ρ 31 : Value) by rw [e684]), hs.cutG 0 2⟩
      · intro ρ w hs hu686 hp
        obtain ⟨⟨⟨⟨⟨⟨⟨⟨_, hp0_⟩, hp1_⟩, hp2_⟩, hp3_⟩, hp4_⟩, hp5_⟩, hp6_⟩, hp7_⟩ := hp
        have hs : St ok (bz w0) w [vl t_network_Network x662 (partOf (ρ 31) 0), vl t_network_Network x663 (partOf (ρ 31) 1), vl t_elasticstorelaw34_Act x657 (ρ 30), pl t_elasticstorelaw34_Act x657 (adOf (ρ 29)), vl (tSlice t_elasticstorelaw34_Act) x1 (.slice a2 x1.length c3), vl (tSlice t_network_Packet) x29 (.slice a30 x29.length c31), vl (tSlice t_network_Side) x32 (.slice a33 x32.length c34), vl (tSlice t_network_Packet) x36 (.slice a37 x36.length c38), vl (tSlice t_network_Side) x39 (.slice a40 x39.length c41)] [blk g19 27 [.int .i64 x28, .slice a30 x29.length c31, .slice a33 x32.length c34], blk g18 27 [.int .i64 x35, .slice a37 x36.length c38, .slice a40 x39.length c41]] := hs
        obtain ⟨⟨cs687, cs689⟩, e691⟩ := hp6_
        have e691 : ρ 31 = .tuple #[.agg cs687.toArray, .agg cs689.toArray, .bool x664] := e691
        try rw [e691] at hs
        obtain ⟨cs692, e694⟩ := hp5_
        have e694 : ρ 30 = .agg cs692.toArray := e694
        try rw [e694] at hs
        obtain ⟨ad695, e696⟩ := hp4_
        have e696 : ρ 29 = .pointer (some ad695) := e696
        try rw [e696] at hs
        have e697 : ρ 28 = .int .i64 x27 := hp3_
        have e698 : ρ 27 = .slice a2 x1.length c3 := hp2_
        have e699 : ρ 26 = .agg ([.int .i64 x28, .slice a30 x29.length c31, .slice a33 x32.length c34] : List Value).toArray := hp1_
        have e700 : ρ 25 = .agg ([.int .i64 x35, .slice a37 x36.length c38, .slice a40 x39.length c41] : List Value).toArray := hp0_
        have e701 : ρ 24 = ρ 31 := hp7_
        rw [e691] at e701
        have hl693 := hs.agglen (n := 4) 2 rfl rfl rfl
        have hl688 := hs.agglen (n := 3) 0 rfl rfl rfl
        have hl690 := hs.agglen (n := 3) 1 rfl rfl rfl
        refine WA.step [8, 9, 10] (by kernel_rfl) (by simp) ⟨?_, ?_, ?_, trivial⟩
        · refine WL.extract (v := .agg cs687.toArray) e701 rfl ?_
          refine WL.nil ⟨rfl, _, rfl, ?_⟩
          refine WA.step [9, 10, 11] (by kernel_rfl) (by simp) ⟨?_, ?_, ?_, trivial⟩
          · refine WL.extract (v := .agg cs689.toArray) e701 rfl ?_
            refine WL.nil ⟨rfl, _, rfl, ?_⟩
            refine WA.step [10, 11] (by kernel_rfl) (by simp) ⟨?_, ?_, trivial⟩
            · refine WL.extract (v := .bool x664) e701 rfl ?_
              refine WL.nil ⟨rfl, _, rfl, ?_⟩
              refine WA.step [11] (by kernel_rfl) (by simp) ⟨?_, trivial⟩
              refine WL.storeAll (vs := cs687) hs 1 rfl TI27 ((hu686 3 rfl).trans h26_3) rfl rfl hl688 (hs.ones 0 rfl rfl) rfl (fun w hs => ?_)
              refine WL.nil ⟨rfl, _, rfl, ?_⟩
              refine WA.step [12] (by kernel_rfl) (by simp) ⟨?_, trivial⟩
              refine WL.storeAll (vs := cs689) hs 0 rfl TI27 ((hu686 4 rfl).trans h26_4) rfl rfl hl690 (hs.ones 1 rfl rfl) rfl (fun w hs => ?_)
              refine WL.nil ⟨rfl, _, rfl, ?_⟩
              refine WA.step [13] (by kernel_rfl) (by simp) ⟨?_, trivial⟩
              refine WL.assign (v := .bool x664) rfl ?_
              refine WL.nil ⟨rfl, _, rfl, ?_⟩
              refine WA.done (by kernel_rfl) ?_
              obtain ⟨a710, c711, a712, c713, rfl⟩ := open_network_Network hs 1 rfl
              have hs := hs.add (it := vl (tSlice t_network_Packet) x663.Packets (.slice a710 (x663.Packets).length c711)) fun ok hA => V_fld F_network_Network_Packets (hA.get 1 rfl) rfl rfl rfl
              have hs := hs.add (it := vl (tSlice t_network_Side) x663.Sides (.slice a712 (x663.Sides).length c713)) fun ok hA => V_fld F_network_Network_Sides (hA.get 2 rfl) rfl rfl rfl
              obtain ⟨a714, c715, a716, c717, rfl⟩ := open_network_Network hs 2 rfl
              have hs := hs.add (it := vl (tSlice t_network_Packet) x662.Packets (.slice a714 (x662.Packets).length c715)) fun ok hA => V_fld F_network_Network_Packets (hA.get 2 rfl) rfl rfl rfl
              have hs := hs.add (it := vl (tSlice t_network_Side) x662.Sides (.slice a716 (x662.Sides).length c717)) fun ok hA => V_fld F_network_Network_Sides (hA.get 3 rfl) rfl rfl rfl
              exact Jk65 x664 x663.Next x663.Packets x663.Sides x662.Next x662.Packets x662.Sides a710 c711 a712 c713 a714 c715 a716 c717 _ _ ((hu686 0 rfl).trans h26_0) ((hu686 3 rfl).trans h26_3) ((hu686 4 rfl).trans h26_4) ((hu686 5 rfl).trans h26_5) rfl ((hs.mask [true, true]).pick [8, 3, 2, 1, 0]) hf
            · refine WL.storeAll (vs := cs687) hs 1 rfl TI27 ((hu686 3 rfl).trans h26_3) rfl rfl hl688 (hs.ones 0 rfl rfl) rfl (fun w hs => ?_)
              refine WL.nil ⟨rfl, _, rfl, ?_⟩
              refine WA.step [10, 12] (by kernel_rfl) (by simp) ⟨?_, ?_, trivial⟩
              · refine WL.extract (v := .bool x664) e701 rfl ?_
                refine WL.nil ⟨rfl, _, rfl, ?_⟩
                refine WA.step [12] (by kernel_rfl) (by simp) ⟨?_, trivial⟩
                refine WL.storeAll (vs := cs689) hs 0 rfl TI27 ((hu686 4 rfl).trans h26_4) rfl rfl hl690 (hs.ones 1 rfl rfl) rfl (fun w hs => ?_)
                refine WL.nil ⟨rfl, _, rfl, ?_⟩
                refine WA.step [13] (by kernel_rfl) (by simp) ⟨?_, trivial⟩
                refine WL.assign (v := .bool x664) rfl ?_
                refine WL.nil ⟨rfl, _, rfl, ?_⟩
                refine WA.done (by kernel_rfl) ?_
                obtain ⟨a710, c711, a712, c713, rfl⟩ := open_network_Network hs 1 rfl
                have hs := hs.add (it := vl (tSlice t_network_Packet) x663.Packets (.slice a710 (x663.Packets).length c711)) fun ok hA => V_fld F_network_Network_Packets (hA.get 1 rfl) rfl rfl rfl
                have hs := hs.add (it := vl (tSlice t_network_Side) x663.Sides (.slice a712 (x663.Sides).length c713)) fun ok hA => V_fld F_network_Network_Sides (hA.get 2 rfl) rfl rfl rfl
                obtain ⟨a714, c715, a716, c717, rfl⟩ := open_network_Network hs 2 rfl
                have hs := hs.add (it := vl (tSlice t_network_Packet) x662.Packets (.slice a714 (x662.Packets).length c715)) fun ok hA => V_fld F_network_Network_Packets (hA.get 2 rfl) rfl rfl rfl
                have hs := hs.add (it := vl (tSlice t_network_Side) x662.Sides (.slice a716 (x662.Sides).length c717)) fun ok hA => V_fld F_network_Network_Sides (hA.get 3 rfl) rfl rfl rfl
                exact Jk65 x664 x663.Next x663.Packets x663.Sides x662.Next x662.Packets x662.Sides a710 c711 a712 c713 a714 c715 a716 c717 _ _ ((hu686 0 rfl).trans h26_0) ((hu686 3 rfl).trans h26_3) ((hu686 4 rfl).trans h26_4) ((hu686 5 rfl).trans h26_5) rfl ((hs.mask [true, true]).pick [8, 3, 2, 1, 0]) hf
              · refine WL.storeAll (vs := cs689) hs 0 rfl TI27 ((hu686 4 rfl).trans h26_4) rfl rfl hl690 (hs.ones 1 rfl rfl) rfl (fun w hs => ?_)
                refine WL.nil ⟨rfl, _, rfl, ?_⟩
                refine WA.step [10] (by kernel_rfl) (by simp) ⟨?_, trivial⟩
                refine WL.extract (v := .bool x664) e701 rfl ?_
                refine WL.nil ⟨rfl, _, rfl, ?_⟩
                refine WA.step [13] (by kernel_rfl) (by simp) ⟨?_, trivial⟩
                refine WL.assign (v := .bool x664) rfl ?_
                refine WL.nil ⟨rfl, _, rfl, ?_⟩
                refine WA.done (by kernel_rfl) ?_
                obtain ⟨a710, c711, a712, c713, rfl⟩ := open_network_Network hs 1 rfl
                have hs := hs.add (it := vl (tSlice t_network_Packet) x663.Packets (.slice a710 (x663.Packets).length c711)) fun ok hA => V_fld F_network_Network_Packets (hA.get 1 rfl) rfl rfl rfl
                have hs := hs.add (it := vl (tSlice t_network_Side) x663.Sides (.slice a712 (x663.Sides).length c713)) fun ok hA => V_fld F_network_Network_Sides (hA.get 2 rfl) rfl rfl rfl
                obtain ⟨a714, c715, a716, c717, rfl⟩ := open_network_Network hs 2 rfl
                have hs := hs.add (it := vl (tSlice t_network_Packet) x662.Packets (.slice a714 (x662.Packets).length c715)) fun ok hA => V_fld F_network_Network_Packets (hA.get 2 rfl) rfl rfl rfl
                have hs := hs.add (it := vl (tSlice t_network_Side) x662.Sides (.slice a716 (x662.Sides).length c717)) fun ok hA => V_fld F_network_Network_Sides (hA.get 3 rfl) rfl rfl rfl
                exact Jk65 x664 x663.Next x663.Packets x663.Sides x662.Next x662.Packets x662.Sides a710 c711 a712 c713 a714 c715 a716 c717 _ _ ((hu686 0 rfl).trans h26_0) ((hu686 3 rfl).trans h26_3) ((hu686 4 rfl).trans h26_4) ((hu686 5 rfl).trans h26_5) rfl ((hs.mask [true, true]).pick [8, 3, 2, 1, 0]) hf
          · refine WL.extract (v := .bool x664) e701 rfl ?_
            refine WL.nil ⟨rfl, _, rfl, ?_⟩
            refine WA.step [9, 11] (by kernel_rfl) (by simp) ⟨?_, ?_, trivial⟩
            · refine WL.extract (v := .agg cs689.toArray) e701 rfl ?_
              refine WL.nil ⟨rfl, _, rfl, ?_⟩
              refine WA.step [11] (by kernel_rfl) (by simp) ⟨?_, trivial⟩
              refine WL.storeAll (vs := cs687) hs 1 rfl TI27 ((hu686 3 rfl).trans h26_3) rfl rfl hl688 (hs.ones 0 rfl rfl) rfl (fun w hs => ?_)
              refine WL.nil ⟨rfl, _, rfl, ?_⟩
              refine WA.step [12] (by kernel_rfl) (by simp) ⟨?_, trivial⟩
              refine WL.storeAll (vs := cs689) hs 0 rfl TI27 ((hu686 4 rfl).trans h26_4) rfl rfl hl690 (hs.ones 1 rfl rfl) rfl (fun w hs => ?_)
              refine WL.nil ⟨rfl, _, rfl, ?_⟩
              refine WA.step [13] (by kernel_rfl) (by simp) ⟨?_, trivial⟩
              refine WL.assign (v := .bool x664) rfl ?_
              refine WL.nil ⟨rfl, _, rfl, ?_⟩
              refine WA.done (by kernel_rfl) ?_
              obtain ⟨a710, c711, a712, c713, rfl⟩ := open_network_Network hs 1 rfl
              have hs := hs.add (it := vl (tSlice t_network_Packet) x663.Packets (.slice a710 (x663.Packets).length c711)) fun ok hA => V_fld F_network_Network_Packets (hA.get 1 rfl) rfl rfl rfl
              have hs := hs.add (it := vl (tSlice t_network_Side) x663.Sides (.slice a712 (x663.Sides).length c713)) fun ok hA => V_fld F_network_Network_Sides (hA.get 2 rfl) rfl rfl rfl
              obtain ⟨a714, c715, a716, c717, rfl⟩ := open_network_Network hs 2 rfl
              have hs := hs.add (it := vl (tSlice t_network_Packet) x662.Packets (.slice a714 (x662.Packets).length c715)) fun ok hA => V_fld F_network_Network_Packets (hA.get 2 rfl) rfl rfl rfl
              have hs := hs.add (it := vl (tSlice t_network_Side) x662.Sides (.slice a716 (x662.Sides).length c717)) fun ok hA => V_fld F_network_Network_Sides (hA.get 3 rfl) rfl rfl rfl
              exact Jk65 x664 x663.Next x663.Packets x663.Sides x662.Next x662.Packets x662.Sides a710 c711 a712 c713 a714 c715 a716 c717 _ _ ((hu686 0 rfl).trans h26_0) ((hu686 3 rfl).trans h26_3) ((hu686 4 rfl).trans h26_4) ((hu686 5 rfl).trans h26_5) rfl ((hs.mask [true, true]).pick [8, 3, 2, 1, 0]) hf
            · refine WL.storeAll (vs := cs687) hs 1 rfl TI27 ((hu686 3 rfl).trans h26_3) rfl rfl hl688 (hs.ones 0 rfl rfl) rfl (fun w hs => ?_)
              refine WL.nil ⟨rfl, _, rfl, ?_⟩
              refine WA.step [9] (by kernel_rfl) (by simp) ⟨?_, trivial⟩
              refine WL.extract (v := .agg cs689.toArray) e701 rfl ?_
              refine WL.nil ⟨rfl, _, rfl, ?_⟩
              refine WA.step [12] (by kernel_rfl) (by simp) ⟨?_, trivial⟩
              refine WL.storeAll (vs := cs689) hs 0 rfl TI27 ((hu686 4 rfl).trans h26_4) rfl rfl hl690 (hs.ones 1 rfl rfl) rfl (fun w hs => ?_)
              refine WL.nil ⟨rfl, _, rfl, ?_⟩
              refine WA.step [13] (by kernel_rfl) (by simp) ⟨?_, trivial⟩
              refine WL.assign (v := .bool x664) rfl ?_
              refine WL.nil ⟨rfl, _, rfl, ?_⟩
              refine WA.done (by kernel_rfl) ?_
              obtain ⟨a710, c711, a712, c713, rfl⟩ := open_network_Network hs 1 rfl
              have hs := hs.add (it := vl (tSlice t_network_Packet) x663.Packets (.slice a710 (x663.Packets).length c711)) fun ok hA => V_fld F_network_Network_Packets (hA.get 1 rfl) rfl rfl rfl
              have hs := hs.add (it := vl (tSlice t_network_Side) x663.Sides (.slice a712 (x663.Sides).length c713)) fun ok hA => V_fld F_network_Network_Sides (hA.get 2 rfl) rfl rfl rfl
              obtain ⟨a714, c715, a716, c717, rfl⟩ := open_network_Network hs 2 rfl
              have hs := hs.add (it := vl (tSlice t_network_Packet) x662.Packets (.slice a714 (x662.Packets).length c715)) fun ok hA => V_fld F_network_Network_Packets (hA.get 2 rfl) rfl rfl rfl
              have hs := hs.add (it := vl (tSlice t_network_Side) x662.Sides (.slice a716 (x662.Sides).length c717)) fun ok hA => V_fld F_network_Network_Sides (hA.get 3 rfl) rfl rfl rfl
              exact Jk65 x664 x663.Next x663.Packets x663.Sides x662.Next x662.Packets x662.Sides a710 c711 a712 c713 a714 c715 a716 c717 _ _ ((hu686 0 rfl).trans h26_0) ((hu686 3 rfl).trans h26_3) ((hu686 4 rfl).trans h26_4) ((hu686 5 rfl).trans h26_5) rfl ((hs.mask [true, true]).pick [8, 3, 2, 1, 0]) hf
          · refine WL.storeAll (vs := cs687) hs 1 rfl TI27 ((hu686 3 rfl).trans h26_3) rfl rfl hl688 (hs.ones 0 rfl rfl) rfl (fun w hs => ?_)
            refine WL.nil ⟨rfl, _, rfl, ?_⟩
            refine WA.step [9, 10] (by kernel_rfl) (by simp) ⟨?_, ?_, trivial⟩
            · refine WL.extract (v := .agg cs689.toArray) e701 rfl ?_
              refine WL.nil ⟨rfl, _, rfl, ?_⟩
              refine WA.step [10, 12] (by kernel_rfl) (by simp) ⟨?_, ?_, trivial⟩
              · refine WL.extract (v := .bool x664) e701 rfl ?_
                refine WL.nil ⟨rfl, _, rfl, ?_⟩
                refine WA.step [12] (by kernel_rfl) (by simp) ⟨?_, trivial⟩
                refine WL.storeAll (vs := cs689) hs 0 rfl TI27 ((hu686 4 rfl).trans h26_4) rfl rfl hl690 (hs.ones 1 rfl rfl) rfl (fun w hs => ?_)
                refine WL.nil ⟨rfl, _, rfl, ?_⟩
                refine WA.step [13] (by kernel_rfl) (by simp) ⟨?_, trivial⟩
                refine WL.assign (v := .bool x664) rfl ?_
                refine WL.nil ⟨rfl, _, rfl, ?_⟩
                refine WA.done (by kernel_rfl) ?_
                obtain ⟨a710, c711, a712, c713, rfl⟩ := open_network_Network hs 1 rfl
                have hs := hs.add (it := vl (tSlice t_network_Packet) x663.Packets (.slice a710 (x663.Packets).length c711)) fun ok hA => V_fld F_network_Network_Packets (hA.get 1 rfl) rfl rfl rfl
                have hs := hs.add (it := vl (tSlice t_network_Side) x663.Sides (.slice a712 (x663.Sides).length c713)) fun ok hA => V_fld F_network_Network_Sides (hA.get 2 rfl) rfl rfl rfl
                obtain ⟨a714, c715, a716, c717, rfl⟩ := open_network_Network hs 2 rfl
                have hs := hs.add (it := vl (tSlice t_network_Packet) x662.Packets (.slice a714 (x662.Packets).length c715)) fun ok hA => V_fld F_network_Network_Packets (hA.get 2 rfl) rfl rfl rfl
                have hs := hs.add (it := vl (tSlice t_network_Side) x662.Sides (.slice a716 (x662.Sides).length c717)) fun ok hA => V_fld F_network_Network_Sides (hA.get 3 rfl) rfl rfl rfl
                exact Jk65 x664 x663.Next x663.Packets x663.Sides x662.Next x662.Packets x662.Sides a710 c711 a712 c713 a714 c715 a716 c717 _ _ ((hu686 0 rfl).trans h26_0) ((hu686 3 rfl).trans h26_3) ((hu686 4 rfl).trans h26_4) ((hu686 5 rfl).trans h26_5) rfl ((hs.mask [true, true]).pick [8, 3, 2, 1, 0]) hf
              · refine WL.storeAll (vs := cs689) hs 0 rfl TI27 ((hu686 4 rfl).trans h26_4) rfl rfl hl690 (hs.ones 1 rfl rfl) rfl (fun w hs => ?_)
                refine WL.nil ⟨rfl, _, rfl, ?_⟩
                refine WA.step [10] (by kernel_rfl) (by simp) ⟨?_, trivial⟩
                refine WL.extract (v := .bool x664) e701 rfl ?_
                refine WL.nil ⟨rfl, _, rfl, ?_⟩
                refine WA.step [13] (by kernel_rfl) (by simp) ⟨?_, trivial⟩
                refine WL.assign (v := .bool x664) rfl ?_
                refine WL.nil ⟨rfl, _, rfl, ?_⟩
                refine WA.done (by kernel_rfl) ?_
                obtain ⟨a710, c711, a712, c713, rfl⟩ := open_network_Network hs 1 rfl
                have hs := hs.add (it := vl (tSlice t_network_Packet) x663.Packets (.slice a710 (x663.Packets).length c711)) fun ok hA => V_fld F_network_Network_Packets (hA.get 1 rfl) rfl rfl rfl
                have hs := hs.add (it := vl (tSlice t_network_Side) x663.Sides (.slice a712 (x663.Sides).length c713)) fun ok hA => V_fld F_network_Network_Sides (hA.get 2 rfl) rfl rfl rfl
                obtain ⟨a714, c715, a716, c717, rfl⟩ := open_network_Network hs 2 rfl
                have hs := hs.add (it := vl (tSlice t_network_Packet) x662.Packets (.slice a714 (x662.Packets).length c715)) fun ok hA => V_fld F_network_Network_Packets (hA.get 2 rfl) rfl rfl rfl
                have hs := hs.add (it := vl (tSlice t_network_Side) x662.Sides (.slice a716 (x662.Sides).length c717)) fun ok hA => V_fld F_network_Network_Sides (hA.get 3 rfl) rfl rfl rfl
                exact Jk65 x664 x663.Next x663.Packets x663.Sides x662.Next x662.Packets x662.Sides a710 c711 a712 c713 a714 c715 a716 c717 _ _ ((hu686 0 rfl).trans h26_0) ((hu686 3 rfl).trans h26_3) ((hu686 4 rfl).trans h26_4) ((hu686 5 rfl).trans h26_5) rfl ((hs.mask [true, true]).pick [8, 3, 2, 1, 0]) hf
            · refine WL.extract (v := .bool x664) e701 rfl ?_
              refine WL.nil ⟨rfl, _, rfl, ?_⟩
              refine WA.step [9] (by kernel_rfl) (by simp) ⟨?_, trivial⟩
              refine WL.extract (v := .agg cs689.toArray) e701 rfl ?_
              refine WL.nil ⟨rfl, _, rfl, ?_⟩
              refine WA.step [12] (by kernel_rfl) (by simp) ⟨?_, trivial⟩
              refine WL.storeAll (vs := cs689) hs 0 rfl TI27 ((hu686 4 rfl).trans h26_4) rfl rfl hl690 (hs.ones 1 rfl rfl) rfl (fun w hs => ?_)
              refine WL.nil ⟨rfl, _, rfl, ?_⟩
              refine WA.step [13] (by kernel_rfl) (by simp) ⟨?_, trivial⟩
              refine WL.assign (v := .bool x664) rfl ?_
              refine WL.nil ⟨rfl, _, rfl, ?_⟩
              refine WA.done (by kernel_rfl) ?_
              obtain ⟨a710, c711, a712, c713, rfl⟩ := open_network_Network hs 1 rfl
              have hs := hs.add (it := vl (tSlice t_network_Packet) x663.Packets (.slice a710 (x663.Packets).length c711)) fun ok hA => V_fld F_network_Network_Packets (hA.get 1 rfl) rfl rfl rfl
              have hs := hs.add (it := vl (tSlice t_network_Side) x663.Sides (.slice a712 (x663.Sides).length c713)) fun ok hA => V_fld F_network_Network_Sides (hA.get 2 rfl) rfl rfl rfl
              obtain ⟨a714, c715, a716, c717, rfl⟩ := open_network_Network hs 2 rfl
              have hs := hs.add (it := vl (tSlice t_network_Packet) x662.Packets (.slice a714 (x662.Packets).length c715)) fun ok hA => V_fld F_network_Network_Packets (hA.get 2 rfl) rfl rfl rfl
              have hs := hs.add (it := vl (tSlice t_network_Side) x662.Sides (.slice a716 (x662.Sides).length c717)) fun ok hA => V_fld F_network_Network_Sides (hA.get 3 rfl) rfl rfl rfl
              exact Jk65 x664 x663.Next x663.Packets x663.Sides x662.Next x662.Packets x662.Sides a710 c711 a712 c713 a714 c715 a716 c717 _ _ ((hu686 0 rfl).trans h26_0) ((hu686 3 rfl).trans h26_3) ((hu686 4 rfl).trans h26_4) ((hu686 5 rfl).trans h26_5) rfl ((hs.mask [true, true]).pick [8, 3, 2, 1, 0]) hf
        · refine WL.extract (v := .agg cs689.toArray) e701 rfl ?_
          refine WL.nil ⟨rfl, _, rfl, ?_⟩
          refine WA.step [8, 10] (by kernel_rfl) (by simp) ⟨?_, ?_, trivial⟩
          · refine WL.extract (v := .agg cs687.toArray) e701 rfl ?_
            refine WL.nil ⟨rfl, _, rfl, ?_⟩
            refine WA.step [10, 11] (by kernel_rfl) (by simp) ⟨?_, ?_, trivial⟩
            · refine WL.extract (v := .bool x664) e701 rfl ?_
              refine WL.nil ⟨rfl, _, rfl, ?_⟩
              refine WA.step [11] (by kernel_rfl) (by simp) ⟨?_, trivial⟩
              refine WL.storeAll (vs := cs687) hs 1 rfl TI27 ((hu686 3 rfl).trans h26_3) rfl rfl hl688 (hs.ones 0 rfl rfl) rfl (fun w hs => ?_)
              refine WL.nil ⟨rfl, _, rfl, ?_⟩
              refine WA.step [12] (by kernel_rfl) (by simp) ⟨?_, trivial⟩
              refine WL.storeAll (vs := cs689) hs 0 rfl TI27 ((hu686 4 rfl).trans h26_4) rfl rfl hl690 (hs.ones 1 rfl rfl) rfl (fun w hs => ?_)
              refine WL.nil ⟨rfl, _, rfl, ?_⟩
              refine WA.step [13] (by kernel_rfl) (by simp) ⟨?_, trivial⟩
              refine WL.assign (v := .bool x664) rfl ?_
              refine WL.nil ⟨rfl, _, rfl, ?_⟩
              refine WA.done (by kernel_rfl) ?_
              obtain ⟨a710, c711, a712, c713, rfl⟩ := open_network_Network hs 1 rfl
              have hs := hs.add (it := vl (tSlice t_network_Packet) x663.Packets (.slice a710 (x663.Packets).length c711)) fun ok hA => V_fld F_network_Network_Packets (hA.get 1 rfl) rfl rfl rfl
              have hs := hs.add (it := vl (tSlice t_network_Side) x663.Sides (.slice a712 (x663.Sides).length c713)) fun ok hA => V_fld F_network_Network_Sides (hA.get 2 rfl) rfl rfl rfl
              obtain ⟨a714, c715, a716, c717, rfl⟩ := open_network_Network hs 2 rfl
              have hs := hs.add (it := vl (tSlice t_network_Packet) x662.Packets (.slice a714 (x662.Packets).length c715)) fun ok hA => V_fld F_network_Network_Packets (hA.get 2 rfl) rfl rfl rfl
              have hs := hs.add (it := vl (tSlice t_network_Side) x662.Sides (.slice a716 (x662.Sides).length c717)) fun ok hA => V_fld F_network_Network_Sides (hA.get 3 rfl) rfl rfl rfl
              exact Jk65 x664 x663.Next x663.Packets x663.Sides x662.Next x662.Packets x662.Sides a710 c711 a712 c713 a714 c715 a716 c717 _ _ ((hu686 0 rfl).trans h26_0) ((hu686 3 rfl).trans h26_3) ((hu686 4 rfl).trans h26_4) ((hu686 5 rfl).trans h26_5) rfl ((hs.mask [true, true]).pick [8, 3, 2, 1, 0]) hf
            · refine WL.storeAll (vs := cs687) hs 1 rfl TI27 ((hu686 3 rfl).trans h26_3) rfl rfl hl688 (hs.ones 0 rfl rfl) rfl (fun w hs => ?_)
              refine WL.nil ⟨rfl, _, rfl, ?_⟩
              refine WA.step [10, 12] (by kernel_rfl) (by simp) ⟨?_, ?_, trivial⟩
              · refine WL.extract (v := .bool x664) e701 rfl ?_
                refine WL.nil ⟨rfl, _, rfl, ?_⟩
                refine WA.step [12] (by kernel_rfl) (by simp) ⟨?_, trivial⟩
                refine WL.storeAll (vs := cs689) hs 0 rfl TI27 ((hu686 4 rfl).trans h26_4) rfl rfl hl690 (hs.ones 1 rfl rfl) rfl (fun w hs => ?_)
                refine WL.nil ⟨rfl, _, rfl, ?_⟩
                refine WA.step [13] (by kernel_rfl) (by simp) ⟨?_, trivial⟩
                refine WL.assign (v := .bool x664) rfl ?_
                refine WL.nil ⟨rfl, _, rfl, ?_⟩
                refine WA.done (by kernel_rfl) ?_
                obtain ⟨a710, c711, a712, c713, rfl⟩ := open_network_Network hs 1 rfl
                have hs := hs.add (it := vl (tSlice t_network_Packet) x663.Packets (.slice a710 (x663.Packets).length c711)) fun ok hA => V_fld F_network_Network_Packets (hA.get 1 rfl) rfl rfl rfl
                have hs := hs.add (it := vl (tSlice t_network_Side) x663.Sides (.slice a712 (x663.Sides).length c713)) fun ok hA => V_fld F_network_Network_Sides (hA.get 2 rfl) rfl rfl rfl
                obtain ⟨a714, c715, a716, c717, rfl⟩ := open_network_Network hs 2 rfl
                have hs := hs.add (it := vl (tSlice t_network_Packet) x662.Packets (.slice a714 (x662.Packets).length c715)) fun ok hA => V_fld F_network_Network_Packets (hA.get 2 rfl) rfl rfl rfl
                have hs := hs.add (it := vl (tSlice t_network_Side) x662.Sides (.slice a716 (x662.Sides).length c717)) fun ok hA => V_fld F_network_Network_Sides (hA.get 3 rfl) rfl rfl rfl
                exact Jk65 x664 x663.Next x663.Packets x663.Sides x662.Next x662.Packets x662.Sides a710 c711 a712 c713 a714 c715 a716 c717 _ _ ((hu686 0 rfl).trans h26_0) ((hu686 3 rfl).trans h26_3) ((hu686 4 rfl).trans h26_4) ((hu686 5 rfl).trans h26_5) rfl ((hs.mask [true, true]).pick [8, 3, 2, 1, 0]) hf
              · refine WL.storeAll (vs := cs689) hs 0 rfl TI27 ((hu686 4 rfl).trans h26_4) rfl rfl hl690 (hs.ones 1 rfl rfl) rfl (fun w hs => ?_)
                refine WL.nil ⟨rfl, _, rfl, ?_⟩
                refine WA.step [10] (by kernel_rfl) (by simp) ⟨?_, trivial⟩
                refine WL.extract (v := .bool x664) e701 rfl ?_
                refine WL.nil ⟨rfl, _, rfl, ?_⟩
                refine WA.step [13] (by kernel_rfl) (by simp) ⟨?_, trivial⟩
                refine WL.assign (v := .bool x664) rfl ?_
                refine WL.nil ⟨rfl, _, rfl, ?_⟩
                refine WA.done (by kernel_rfl) ?_
                obtain ⟨a710, c711, a712, c713, rfl⟩ := open_network_Network hs 1 rfl
                have hs := hs.add (it := vl (tSlice t_network_Packet) x663.Packets (.slice a710 (x663.Packets).length c711)) fun ok hA => V_fld F_network_Network_Packets (hA.get 1 rfl) rfl rfl rfl
                have hs := hs.add (it := vl (tSlice t_network_Side) x663.Sides (.slice a712 (x663.Sides).length c713)) fun ok hA => V_fld F_network_Network_Sides (hA.get 2 rfl) rfl rfl rfl
                obtain ⟨a714, c715, a716, c717, rfl⟩ := open_network_Network hs 2 rfl
                have hs := hs.add (it := vl (tSlice t_network_Packet) x662.Packets (.slice a714 (x662.Packets).length c715)) fun ok hA => V_fld F_network_Network_Packets (hA.get 2 rfl) rfl rfl rfl
                have hs := hs.add (it := vl (tSlice t_network_Side) x662.Sides (.slice a716 (x662.Sides).length c717)) fun ok hA => V_fld F_network_Network_Sides (hA.get 3 rfl) rfl rfl rfl
                exact Jk65 x664 x663.Next x663.Packets x663.Sides x662.Next x662.Packets x662.Sides a710 c711 a712 c713 a714 c715 a716 c717 _ _ ((hu686 0 rfl).trans h26_0) ((hu686 3 rfl).trans h26_3) ((hu686 4 rfl).trans h26_4) ((hu686 5 rfl).trans h26_5) rfl ((hs.mask [true, true]).pick [8, 3, 2, 1, 0]) hf
          · refine WL.extract (v := .bool x664) e701 rfl ?_
            refine WL.nil ⟨rfl, _, rfl, ?_⟩
            refine WA.step [8] (by kernel_rfl) (by simp) ⟨?_, trivial⟩
            refine WL.extract (v := .agg cs687.toArray) e701 rfl ?_
            refine WL.nil ⟨rfl, _, rfl, ?_⟩
            refine WA.step [11] (by kernel_rfl) (by simp) ⟨?_, trivial⟩
            refine WL.storeAll (vs := cs687) hs 1 rfl TI27 ((hu686 3 rfl).trans h26_3) rfl rfl hl688 (hs.ones 0 rfl rfl) rfl (fun w hs => ?_)
            refine WL.nil ⟨rfl, _, rfl, ?_⟩
            refine WA.step [12] (by kernel_rfl) (by simp) ⟨?_, trivial⟩
            refine WL.storeAll (vs := cs689) hs 0 rfl TI27 ((hu686 4 rfl).trans h26_4) rfl rfl hl690 (hs.ones 1 rfl rfl) rfl (fun w hs => ?_)
            refine WL.nil ⟨rfl, _, rfl, ?_⟩
            refine WA.step [13] (by kernel_rfl) (by simp) ⟨?_, trivial⟩
            refine WL.assign (v := .bool x664) rfl ?_
            refine WL.nil ⟨rfl, _, rfl, ?_⟩
            refine WA.done (by kernel_rfl) ?_
            obtain ⟨a710, c711, a712, c713, rfl⟩ := open_network_Network hs 1 rfl
            have hs := hs.add (it := vl (tSlice t_network_Packet) x663.Packets (.slice a710 (x663.Packets).length c711)) fun ok hA => V_fld F_network_Network_Packets (hA.get 1 rfl) rfl rfl rfl
            have hs := hs.add (it := vl (tSlice t_network_Side) x663.Sides (.slice a712 (x663.Sides).length c713)) fun ok hA => V_fld F_network_Network_Sides (hA.get 2 rfl) rfl rfl rfl
            obtain ⟨a714, c715, a716, c717, rfl⟩ := open_network_Network hs 2 rfl
            have hs := hs.add (it := vl (tSlice t_network_Packet) x662.Packets (.slice a714 (x662.Packets).length c715)) fun ok hA => V_fld F_network_Network_Packets (hA.get 2 rfl) rfl rfl rfl
            have hs := hs.add (it := vl (tSlice t_network_Side) x662.Sides (.slice a716 (x662.Sides).length c717)) fun ok hA => V_fld F_network_Network_Sides (hA.get 3 rfl) rfl rfl rfl
            exact Jk65 x664 x663.Next x663.Packets x663.Sides x662.Next x662.Packets x662.Sides a710 c711 a712 c713 a714 c715 a716 c717 _ _ ((hu686 0 rfl).trans h26_0) ((hu686 3 rfl).trans h26_3) ((hu686 4 rfl).trans h26_4) ((hu686 5 rfl).trans h26_5) rfl ((hs.mask [true, true]).pick [8, 3, 2, 1, 0]) hf
        · refine WL.extract (v := .bool x664) e701 rfl ?_
          refine WL.nil ⟨rfl, _, rfl, ?_⟩
          refine WA.step [8, 9] (by kernel_rfl) (by simp) ⟨?_, ?_, trivial⟩
          · refine WL.extract (v := .agg cs687.toArray) e701 rfl ?_
            refine WL.nil ⟨rfl, _, rfl, ?_⟩
            refine WA.step [9, 11] (by kernel_rfl) (by simp) ⟨?_, ?_, trivial⟩
            · refine WL.extract (v := .agg cs689.toArray) e701 rfl ?_
              refine WL.nil ⟨rfl, _, rfl, ?_⟩
              refine WA.step [11] (by kernel_rfl) (by simp) ⟨?_, trivial⟩
              refine WL.storeAll (vs := cs687) hs 1 rfl TI27 ((hu686 3 rfl).trans h26_3) rfl rfl hl688 (hs.ones 0 rfl rfl) rfl (fun w hs => ?_)
              refine WL.nil ⟨rfl, _, rfl, ?_⟩
              refine WA.step [12] (by kernel_rfl) (by simp) ⟨?_, trivial⟩
              refine WL.storeAll (vs := cs689) hs 0 rfl TI27 ((hu686 4 rfl).trans h26_4) rfl rfl hl690 (hs.ones 1 rfl rfl) rfl (fun w hs => ?_)
              refine WL.nil ⟨rfl, _, rfl, ?_⟩
              refine WA.step [13] (by kernel_rfl) (by simp) ⟨?_, trivial⟩
              refine WL.assign (v := .bool x664) rfl ?_
              refine WL.nil ⟨rfl, _, rfl, ?_⟩
              refine WA.done (by kernel_rfl) ?_
              obtain ⟨a710, c711, a712, c713, rfl⟩ := open_network_Network hs 1 rfl
              have hs := hs.add (it := vl (tSlice t_network_Packet) x663.Packets (.slice a710 (x663.Packets).length c711)) fun ok hA => V_fld F_network_Network_Packets (hA.get 1 rfl) rfl rfl rfl
              have hs := hs.add (it := vl (tSlice t_network_Side) x663.Sides (.slice a712 (x663.Sides).length c713)) fun ok hA => V_fld F_network_Network_Sides (hA.get 2 rfl) rfl rfl rfl
              obtain ⟨a714, c715, a716, c717, rfl⟩ := open_network_Network hs 2 rfl
              have hs := hs.add (it := vl (tSlice t_network_Packet) x662.Packets (.slice a714 (x662.Packets).length c715)) fun ok hA => V_fld F_network_Network_Packets (hA.get 2 rfl) rfl rfl rfl
              have hs := hs.add (it := vl (tSlice t_network_Side) x662.Sides (.slice a716 (x662.Sides).length c717)) fun ok hA => V_fld F_network_Network_Sides (hA.get 3 rfl) rfl rfl rfl
              exact Jk65 x664 x663.Next x663.Packets x663.Sides x662.Next x662.Packets x662.Sides a710 c711 a712 c713 a714 c715 a716 c717 _ _ ((hu686 0 rfl).trans h26_0) ((hu686 3 rfl).trans h26_3) ((hu686 4 rfl).trans h26_4) ((hu686 5 rfl).trans h26_5) rfl ((hs.mask [true, true]).pick [8, 3, 2, 1, 0]) hf
            · refine WL.storeAll (vs := cs687) hs 1 rfl TI27 ((hu686 3 rfl).trans h26_3) rfl rfl hl688 (hs.ones 0 rfl rfl) rfl (fun w hs => ?_)
              refine WL.nil ⟨rfl, _, rfl, ?_⟩
              refine WA.step [9] (by kernel_rfl) (by simp) ⟨?_, trivial⟩
              refine WL.extract (v := .agg cs689.toArray) e701 rfl ?_
              refine WL.nil ⟨rfl, _, rfl, ?_⟩
              refine WA.step [12] (by kernel_rfl) (by simp) ⟨?_, trivial⟩
              refine WL.storeAll (vs := cs689) hs 0 rfl TI27 ((hu686 4 rfl).trans h26_4) rfl rfl hl690 (hs.ones 1 rfl rfl) rfl (fun w hs => ?_)
              refine WL.nil ⟨rfl, _, rfl, ?_⟩
              refine WA.step [13] (by kernel_rfl) (by simp) ⟨?_, trivial⟩
              refine WL.assign (v := .bool x664) rfl ?_
              refine WL.nil ⟨rfl, _, rfl, ?_⟩
              refine WA.done (by kernel_rfl) ?_
              obtain ⟨a710, c711, a712, c713, rfl⟩ := open_network_Network hs 1 rfl
              have hs := hs.add (it := vl (tSlice t_network_Packet) x663.Packets (.slice a710 (x663.Packets).length c711)) fun ok hA => V_fld F_network_Network_Packets (hA.get 1 rfl) rfl rfl rfl
              have hs := hs.add (it := vl (tSlice t_network_Side) x663.Sides (.slice a712 (x663.Sides).length c713)) fun ok hA => V_fld F_network_Network_Sides (hA.get 2 rfl) rfl rfl rfl
              obtain ⟨a714, c715, a716, c717, rfl⟩ := open_network_Network hs 2 rfl
              have hs := hs.add (it := vl (tSlice t_network_Packet) x662.Packets (.slice a714 (x662.Packets).length c715)) fun ok hA => V_fld F_network_Network_Packets (hA.get 2 rfl) rfl rfl rfl
              have hs := hs.add (it := vl (tSlice t_network_Side) x662.Sides (.slice a716 (x662.Sides).length c717)) fun ok hA => V_fld F_network_Network_Sides (hA.get 3 rfl) rfl rfl rfl
              exact Jk65 x664 x663.Next x663.Packets x663.Sides x662.Next x662.Packets x662.Sides a710 c711 a712 c713 a714 c715 a716 c717 _ _ ((hu686 0 rfl).trans h26_0) ((hu686 3 rfl).trans h26_3) ((hu686 4 rfl).trans h26_4) ((hu686 5 rfl).trans h26_5) rfl ((hs.mask [true, true]).pick [8, 3, 2, 1, 0]) hf
          · refine WL.extract (v := .agg cs689.toArray) e701 rfl ?_
            refine WL.nil ⟨rfl, _, rfl, ?_⟩
            refine WA.step [8] (by kernel_rfl) (by simp) ⟨?_, trivial⟩
            refine WL.extract (v := .agg cs687.toArray) e701 rfl ?_
            refine WL.nil ⟨rfl, _, rfl, ?_⟩
            refine WA.step [11] (by kernel_rfl) (by simp) ⟨?_, trivial⟩
            refine WL.storeAll (vs := cs687) hs 1 rfl TI27 ((hu686 3 rfl).trans h26_3) rfl rfl hl688 (hs.ones 0 rfl rfl) rfl (fun w hs => ?_)
            refine WL.nil ⟨rfl, _, rfl, ?_⟩
            refine WA.step [12] (by kernel_rfl) (by simp) ⟨?_, trivial⟩
            refine WL.storeAll (vs := cs689) hs 0 rfl TI27 ((hu686 4 rfl).trans h26_4) rfl rfl hl690 (hs.ones 1 rfl rfl) rfl (fun w hs => ?_)
            refine WL.nil ⟨rfl, _, rfl, ?_⟩
            refine WA.step [13] (by kernel_rfl) (by simp) ⟨?_, trivial⟩
            refine WL.assign (v := .bool x664) rfl ?_
            refine WL.nil ⟨rfl, _, rfl, ?_⟩
            refine WA.done (by kernel_rfl) ?_
            obtain ⟨a710, c711, a712, c713, rfl⟩ := open_network_Network hs 1 rfl
            have hs := hs.add (it := vl (tSlice t_network_Packet) x663.Packets (.slice a710 (x663.Packets).length c711)) fun ok hA => V_fld F_network_Network_Packets (hA.get 1 rfl) rfl rfl rfl
            have hs := hs.add (it := vl (tSlice t_network_Side) x663.Sides (.slice a712 (x663.Sides).length c713)) fun ok hA => V_fld F_network_Network_Sides (hA.get 2 rfl) rfl rfl rfl
            obtain ⟨a714, c715, a716, c717, rfl⟩ := open_network_Network hs 2 rfl
            have hs := hs.add (it := vl (tSlice t_network_Packet) x662.Packets (.slice a714 (x662.Packets).length c715)) fun ok hA => V_fld F_network_Network_Packets (hA.get 2 rfl) rfl rfl rfl
            have hs := hs.add (it := vl (tSlice t_network_Side) x662.Sides (.slice a716 (x662.Sides).length c717)) fun ok hA => V_fld F_network_Network_Sides (hA.get 3 rfl) rfl rfl rfl
            exact Jk65 x664 x663.Next x663.Packets x663.Sides x662.Next x662.Packets x662.Sides a710 c711 a712 c713 a714 c715 a716 c717 _ _ ((hu686 0 rfl).trans h26_0) ((hu686 3 rfl).trans h26_3) ((hu686 4 rfl).trans h26_4) ((hu686 5 rfl).trans h26_5) rfl ((hs.mask [true, true]).pick [8, 3, 2, 1, 0]) hf
    · refine W.cond_false (bool_tr rfl hc45) ?_
      refine W.exit ?_
      have hr := Option.some.inj hf; subst hr
      have hr := hbbs42 _ rfl; subst hr
      have hf := hfs42
      exact Jk22  _ _  ((hs.mask []).pick []) hf
end Go.Proofs.Ytahobbichanccaa
