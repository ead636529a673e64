import Derived.Test.YtahobbichanccaaFh
import Derived.Test.YtahobbichanccaaFp0
import Derived.Test.YtahobbichanccaaFp3
import Derived.Test.YtahobbichanccaaFp11
import Derived.Test.YtahobbichanccaaFp12
set_option linter.unusedVariables false
set_option linter.unusedSimpArgs false
namespace Go.Proofs.Ytahobbichanccaa
open Go Go.RowKit Go.Proofs.YtahobbichanccaaL
set_option maxRecDepth 100000
set_option maxHeartbeats 400000
/-! elasticstore/elasticstorelaw34.NetworkValues: function 6 -/
theorem eslaw34_NetworkValues.calls {ok : Nat → Prop} {w0 : World} {x1 : List elasticstorelaw34_Act} {x4 : List elasticstorelaw34_Act} {a2 : Option Addr} {c3 : Nat} {a5 : Option Addr} {c6 : Nat} {r : Bool} (hf : eslaw34_NetworkValues x1 x4 = some r) (i0 : (vl (tSlice t_elasticstorelaw34_Act) x1 (.slice a2 x1.length c3)).holds ok w0) (i1 : (vl (tSlice t_elasticstorelaw34_Act) x4 (.slice a5 x4.length c6)).holds ok w0) :
    Calls Try.prog 6 #[.slice a2 x1.length c3, .slice a5 x4.length c6] w0 fun e w' => ∃ v, e = .returned v ∧ ∃ y : Unit, v = .bool r ∧ St ok (bz w0) w' [] [] := by
  unfold eslaw34_NetworkValues at hf
  refine calls_of_W (fn := Try.f6) (N := 55) Try.func6 rfl Try.ntmps6 rfl ?_
  have hs : St ok (bz w0) w0 [vl (tSlice t_elasticstorelaw34_Act) x1 (.slice a2 x1.length c3), vl (tSlice t_elasticstorelaw34_Act) x4 (.slice a5 x4.length c6)] [] := St.init (All.cons i0 (All.cons i1 All.nil))
  clear i0 i1
  refine W.seqK fun K7 hK7 => ?_
  refine W.region ?_
  refine WL.assign (v := .bool false) rfl ?_
  refine WL.nil ?_
  refine hK7 _ _ ?_
  refine W.seqK fun K8 hK8 => ?_
  refine W.seqK fun K9 hK9 => ?_
  have Jk12 : ∀ (x11 : Bool) (ρ : Env) (w : World), ρ 0 = .slice a2 x1.length c3 → ρ 1 = .slice a5 x4.length c6 → ρ 16 = .bool x11 → St ok (bz w0) w [vl (tSlice t_elasticstorelaw34_Act) x1 (.slice a2 x1.length c3), vl (tSlice t_elasticstorelaw34_Act) x4 (.slice a5 x4.length c6)] [] → eslaw34_NetworkValues.j4 x1 x4 x11 = some r → K9 ρ w := by
    intro x11 ρ w h10_0 h10_1 h10_16 hs hf
    refine hK9 _ _ ?_
    unfold eslaw34_NetworkValues.j4 at hf
    rcases iteE hf with ⟨hc13, hf⟩ | ⟨hc13, hf⟩
    · refine W.cond_true (bool_tr h10_16 hc13) ?_
      refine W.seqK fun K14 hK14 => ?_
      refine W.region ?_
      obtain ⟨x15, hxx15, hf⟩ := bindE hf
      refine WL.call (vs := []) hs FN8 trivial (fun ok hA => eslaw34_awake.calls hxx15) ?_
      rintro _ w hs
      refine WL.assign (v := .bool x15) rfl ?_
      refine WL.nil ?_
      refine hK14 _ _ ?_
      refine W.ret ?_
      have hr := Option.some.inj hf; subst hr
      exact ⟨_, resOk_one rfl rfl, (), rfl, (hs.mask []).pick []⟩
    · refine W.cond_false (bool_tr h10_16 hc13) ?_
      refine W.skip ?_
      refine hK8 _ _ ?_
      refine W.seqK fun K16 hK16 => ?_
      refine W.region ?_
      obtain ⟨x17, hxx17, hf⟩ := bindE hf
      refine WL.call (vs := []) hs FN9 trivial (fun ok hA => network_New.calls hxx17) ?_
      rintro ⟨⟨a18, n19, c20⟩, ⟨a21, n22, c23⟩⟩ w hs
      refine WL.build (vs := [(0, .int .i64 1)]) (cs := [.int .i64 1, .slice none 0 0, .slice none 0 0]) ⟨⟨rfl, rfl⟩, trivial⟩ (bld PL27 rfl) ?_
      refine WL.alloc hs ZV27 (fun g24 w hs => ?_)
      refine WL.alloc hs ZV27 (fun g25 w hs => ?_)
      refine WL.storeAll (vs := [.int .i64 x17.Next, .slice a18 n19 c20, .slice a21 n22 c23]) hs 1 rfl TI27 rfl rfl rfl rfl (ones_of rfl) rfl (fun w hs => ?_)
      refine WL.storeAll (vs := [.int .i64 1, .slice none 0 0, .slice none 0 0]) hs 0 rfl TI27 rfl rfl rfl rfl (ones_of rfl) rfl (fun w hs => ?_)
      refine WL.nil ?_
      refine hK16 _ _ ?_
      refine W.seqK fun K26 hK26 => ?_
      have Jk42 : ∀ (x28 : Int) (x29 : List network_Packet) (x32 : List network_Side) (x35 : Int) (x36 : List network_Packet) (x39 : List network_Side) (a30 : Option Addr) (c31 : Nat) (a33 : Option Addr) (c34 : Nat) (a37 : Option Addr) (c38 : Nat) (a40 : Option Addr) (c41 : Nat) (ρ : Env) (w : World), ρ 1 = .slice a5 x4.length c6 → ρ 5 = .pointer (some ⟨g24, 0, none⟩) → ρ 6 = .pointer (some ⟨g25, 0, none⟩) → St ok (bz w0) w [vl (tSlice t_elasticstorelaw34_Act) x4 (.slice a5 x4.length c6), vl (tSlice t_network_Packet) x29 (.slice a30 x29.length c31), vl (tSlice t_network_Side) x32 (.slice a33 x32.length c34), vl (tSlice t_network_Packet) x36 (.slice a37 x36.length c38), vl (tSlice t_network_Side) x39 (.slice a40 x39.length c41)] [blk g25 27 [.int .i64 x28, .slice a30 x29.length c31, .slice a33 x32.length c34], blk g24 27 [.int .i64 x35, .slice a37 x36.length c38, .slice a40 x39.length c41]] → eslaw34_NetworkValues.j2 x4 x28 x29 x32 x35 x36 x39 = some r → K26 ρ w := by
        intro x28 x29 x32 x35 x36 x39 a30 c31 a33 c34 a37 c38 a40 c41 ρ w h27_1 h27_5 h27_6 hs hf
        refine hK26 _ _ ?_
        unfold eslaw34_NetworkValues.j2 at hf
        refine W.seqK fun K43 hK43 => ?_
        have Jk45 : ∀  (ρ : Env) (w : World), St ok (bz w0) w [] [] → eslaw34_NetworkValues.j1 = some r → K43 ρ w := by
          intro  ρ w  hs hf
          refine hK43 _ _ ?_
          unfold eslaw34_NetworkValues.j1 at hf
          refine W.seqK fun K46 hK46 => ?_
          refine W.region ?_
          obtain ⟨x47, hxx47, hf⟩ := bindE hf
          refine WL.call (vs := []) hs FN8 trivial (fun ok hA => eslaw34_awake.calls hxx47) ?_
          rintro _ w hs
          refine WL.assign (v := .bool x47) rfl ?_
          refine WL.nil ?_
          refine hK46 _ _ ?_
          refine W.ret ?_
          have hr := Option.some.inj hf; subst hr
          exact ⟨_, resOk_one rfl rfl, (), rfl, (hs.mask []).pick []⟩
        refine W.seqK fun K48 hK48 => ?_
        refine W.region ?_
        refine WL.assign (v := .int .i64 0) rfl ?_
        refine WL.nil ?_
        refine hK48 _ _ ?_
        refine W.block ?_
        obtain ⟨bs51, hbs51, hfs51⟩ := bindE hf
        refine W.loop hbs51 (fun s ρ w => match s with | x50 => ρ 1 = .slice a5 x4.length c6 ∧ ρ 5 = .pointer (some ⟨g24, 0, none⟩) ∧ ρ 6 = .pointer (some ⟨g25, 0, none⟩) ∧ ρ 8 = .int .i64 x50 ∧ St ok (bz w0) w [vl (tSlice t_elasticstorelaw34_Act) x4 (.slice a5 x4.length c6), vl (tSlice t_network_Packet) x29 (.slice a30 x29.length c31), vl (tSlice t_network_Side) x32 (.slice a33 x32.length c34), vl (tSlice t_network_Packet) x36 (.slice a37 x36.length c38), vl (tSlice t_network_Side) x39 (.slice a40 x39.length c41)] [blk g25 27 [.int .i64 x28, .slice a30 x29.length c31, .slice a33 x32.length c34], blk g24 27 [.int .i64 x35, .slice a37 x36.length c38, .slice a40 x39.length c41]]) ⟨h27_1, h27_5, h27_6, rfl, (hs.mask [true, true]).pick [0, 1, 2, 3, 4]⟩ ?_
        intro x50 ρ w os51 hI hf hbbs51
        obtain ⟨h49_1, h49_5, h49_6, h49_8, hs⟩ := hI
        unfold eslaw34_NetworkValues.l1 at hf
        refine W.seqK fun K52 hK52 => ?_
        refine W.seqK fun K53 hK53 => ?_
        refine W.region ?_
        refine WL.move (v := .int .i64 x50) h49_8 ?_
        refine WL.move (v := .slice a5 x4.length c6) h49_1 ?_
        refine WL.len (v := .slice a5 x4.length c6) rfl (len_slice UN22) ?_
        refine WL.bin (v := .bool (decide (x50 < (x4.length : Int)))) rfl rfl (ib_lss _ _ _) ?_
        refine WL.nil ?_
        refine hK53 _ _ ?_
        rcases iteE hf with ⟨hc54, hf⟩ | ⟨hc54, hf⟩
        · refine W.cond_true (bool_tr rfl hc54) ?_
          refine W.skip ?_
          refine hK52 _ _ ?_
          refine W.seqK fun K55 hK55 => ?_
          refine W.block ?_
          refine W.seqK fun K56 hK56 => ?_
          obtain ⟨x57, hxx57, hf⟩ := bindE hf
          obtain ⟨⟨x62, x63, x64⟩, hxx62, hf⟩ := bindE hf
          refine W.any (by kernel_rfl) 7 0 [true, true, true, true, true, true, true] rfl rfl (poAt [pv (.agg ([.int .i64 x35, .slice a37 x36.length c38, .slice a40 x39.length c41] : List Value).toArray), pv (.agg ([.int .i64 x28, .slice a30 x29.length c31, .slice a33 x32.length c34] : List Value).toArray), pv (.slice a5 x4.length c6), pv (.int .i64 x50), pq (fun y : Addr => .pointer (some y)) (fun v => [pl t_elasticstorelaw34_Act x57 (adOf v)]) (fun v => []), pq (fun y : List Value => .agg y.toArray) (fun v => [vl t_elasticstorelaw34_Act x57 v]) (fun v => []), pq (fun y : (List Value) × (List Value) => .tuple #[.agg y.1.toArray, .agg y.2.toArray, .bool x64]) (fun v => [vl t_network_Network x62 (partOf v 0), vl t_network_Network x63 (partOf v 1)]) (fun v => [])]) (Λ := [blk g25 27 [.int .i64 x28, .slice a30 x29.length c31, .slice a33 x32.length c34], blk g24 27 [.int .i64 x35, .slice a37 x36.length c38, .slice a40 x39.length c41]]) hs (by kernel_rfl) (by kernel_rfl) (by kernel_rfl) ⟨⟨⟨⟨⟨⟨⟨trivial, ?_⟩, ?_⟩, ?_⟩, ?_⟩, ?_⟩, ?_⟩, ?_⟩ ?_
          · intro ρ w Γx Λx hs hu hp
            refine WL.loadN (vs := [.int .i64 x35, .slice a37 x36.length c38, .slice a40 x39.length c41]) hs (Λx.length + 1) (getApp rfl) TI27 ((hu 5 rfl).trans h49_5) rfl rfl ?_
            exact WL.nil ⟨rfl, _, rfl, rfl, hs.cutG 0 0⟩
          · intro ρ w Γx Λx hs hu hp
            refine WL.loadN (vs := [.int .i64 x28, .slice a30 x29.length c31, .slice a33 x32.length c34]) hs (Λx.length + 0) (getApp rfl) TI27 ((hu 6 rfl).trans h49_6) rfl rfl ?_
            exact WL.nil ⟨rfl, _, rfl, rfl, hs.cutG 0 0⟩
          · intro ρ w Γx Λx hs hu hp
            refine WL.move (v := .slice a5 x4.length c6) ((hu 1 rfl).trans h49_1) ?_
            exact WL.nil ⟨rfl, _, rfl, rfl, hs.cutG 0 0⟩
          · intro ρ w Γx Λx hs hu hp
            refine WL.move (v := .int .i64 x50) ((hu 8 rfl).trans h49_8) ?_
            exact WL.nil ⟨rfl, _, rfl, rfl, hs.cutG 0 0⟩
          · intro ρ w Γx Λx hs hu hp
            have e69 : ρ 45 = .slice a5 x4.length c6 := (hp 2 rfl).1
            have e70 : ρ 46 = .int .i64 x50 := (hp 3 rfl).1
            refine WL.indexAddr hs (Γx.length + 0) (getApp rfl) UN22 TI33 e69 e70 hxx57 (fun ad58 hs => ?_)
            have hs := hs.add (it := pl t_elasticstorelaw34_Act x57 ad58) fun ok hA => hA.get 0 rfl
            exact WL.nil ⟨rfl, _, rfl, ⟨ad58, rfl⟩, hs.cutG 1 1⟩
          · intro ρ w Γx Λx hs hu hp
            obtain ⟨⟨ad71, e72r⟩, hm73⟩ := hp 4 rfl
            have e72 : ρ 47 = .pointer (some ad71) := e72r
            rw [e72r] at hm73
            have hs := hs.memo1 (it := pl t_elasticstorelaw34_Act x57 ad71) (List.mem_append.2 (.inl (hm73 _ (List.mem_of_getElem? (i := 0) rfl))))
            refine WL.loadP hs 0 rfl TI33 (.inl rfl) e72 (fun v59 hs => ?_)
            obtain ⟨cs60, hl61, rfl⟩ := hs.aggv (n := 4) 0 rfl rfl rfl
            have hs := hs.add (it := vl t_elasticstorelaw34_Act x57 (.agg cs60.toArray)) fun ok hA => hA.get 0 rfl
            exact WL.nil ⟨rfl, _, rfl, ⟨cs60, rfl⟩, hs.cutG 1 2⟩
          · intro ρ w Γx Λx hs hu hp
            have e74 : ρ 43 = .agg ([.int .i64 x35, .slice a37 x36.length c38, .slice a40 x39.length c41] : List Value).toArray := (hp 0 rfl).1
            have e75 : ρ 44 = .agg ([.int .i64 x28, .slice a30 x29.length c31, .slice a33 x32.length c34] : List Value).toArray := (hp 1 rfl).1
            obtain ⟨⟨cs76, e78r⟩, hm79⟩ := hp 5 rfl
            have e78 : ρ 48 = .agg cs76.toArray := e78r
            rw [e78r] at hm79
            have hs := hs.memo1 (it := vl t_elasticstorelaw34_Act x57 (.agg cs76.toArray)) (List.mem_append.2 (.inl (hm79 _ (List.mem_of_getElem? (i := 0) rfl))))
            have hl77 := hs.agglen (n := 4) 0 rfl rfl rfl
            have hs := hs.add (it := vl t_network_Network (⟨x35, x36, x39⟩ : network_Network) (.agg [.int .i64 x35, .slice a37 x36.length c38, .slice a40 x39.length c41].toArray)) fun ok hA => V_agg (show t_network_Network.R ok _ _ _ from ⟨[.int .i64 x35], [.slice a37 x36.length c38, .slice a40 x39.length c41], rfl, rfl, ⟨[.slice a37 x36.length c38], [.slice a40 x39.length c41], rfl, (R_one (hA.get (Γx.length + 3 + 1) (getApp1 rfl))), (R_one (hA.get (Γx.length + 4 + 1) (getApp1 rfl)))⟩⟩) rfl
            have hs := hs.add (it := vl t_network_Network (⟨x28, x29, x32⟩ : network_Network) (.agg [.int .i64 x28, .slice a30 x29.length c31, .slice a33 x32.length c34].toArray)) fun ok hA => V_agg (show t_network_Network.R ok _ _ _ from ⟨[.int .i64 x28], [.slice a30 x29.length c31, .slice a33 x32.length c34], rfl, rfl, ⟨[.slice a30 x29.length c31], [.slice a33 x32.length c34], rfl, (R_one (hA.get (Γx.length + 1 + 2) (getApp2 rfl))), (R_one (hA.get (Γx.length + 2 + 2) (getApp2 rfl)))⟩⟩) rfl
            refine WL.call (vs := [.agg ([.int .i64 x35, .slice a37 x36.length c38, .slice a40 x39.length c41] : List Value).toArray, .agg ([.int .i64 x28, .slice a30 x29.length c31, .slice a33 x32.length c34] : List Value).toArray, .agg cs76.toArray]) hs FN19 ⟨e74, ⟨e75, ⟨e78, trivial⟩⟩⟩ (fun ok hA => eslaw34_step.calls (x1 := (⟨x35, x36, x39⟩ : network_Network)) (x5 := (⟨x28, x29, x32⟩ : network_Network)) (x9 := x57) hxx62 (hA.get 1 rfl) (hA.get 0 rfl) (hA.get 2 rfl)) ?_
            rintro ⟨cs65, cs66⟩ w hs
            have hl67 := hs.agglen (n := 3) 0 rfl rfl rfl
            have hl68 := hs.agglen (n := 3) 1 rfl rfl rfl
            have hs := hs.add (it := vl t_network_Network x63 (.agg cs66.toArray)) fun ok hA => hA.get 1 rfl
            have hs := hs.add (it := vl t_network_Network x62 (.agg cs65.toArray)) fun ok hA => hA.get 1 rfl
            exact WL.nil ⟨rfl, _, rfl, ⟨(cs65, cs66), rfl⟩, hs.cutG 2 5⟩
          · intro ρ w hs hu80 hp
            obtain ⟨⟨⟨⟨⟨⟨⟨_, hp0_⟩, hp1_⟩, hp2_⟩, hp3_⟩, hp4_⟩, hp5_⟩, hp6_⟩ := hp
            have hs : St ok (bz w0) w [vl t_network_Network x62 (partOf (ρ 49) 0), vl t_network_Network x63 (partOf (ρ 49) 1), vl t_elasticstorelaw34_Act x57 (ρ 48), pl t_elasticstorelaw34_Act x57 (adOf (ρ 47)), vl (tSlice t_elasticstorelaw34_Act) x4 (.slice a5 x4.length c6), vl (tSlice t_network_Packet) x29 (.slice a30 x29.length c31), vl (tSlice t_network_Side) x32 (.slice a33 x32.length c34), vl (tSlice t_network_Packet) x36 (.slice a37 x36.length c38), vl (tSlice t_network_Side) x39 (.slice a40 x39.length c41)] [blk g25 27 [.int .i64 x28, .slice a30 x29.length c31, .slice a33 x32.length c34], blk g24 27 [.int .i64 x35, .slice a37 x36.length c38, .slice a40 x39.length c41]] := hs
            obtain ⟨⟨cs81, cs83⟩, e85⟩ := hp6_
            have e85 : ρ 49 = .tuple #[.agg cs81.toArray, .agg cs83.toArray, .bool x64] := e85
            try rw [e85] at hs
            obtain ⟨cs86, e88⟩ := hp5_
            have e88 : ρ 48 = .agg cs86.toArray := e88
            try rw [e88] at hs
            obtain ⟨ad89, e90⟩ := hp4_
            have e90 : ρ 47 = .pointer (some ad89) := e90
            try rw [e90] at hs
            have e91 : ρ 46 = .int .i64 x50 := hp3_
            have e92 : ρ 45 = .slice a5 x4.length c6 := hp2_
            have e93 : ρ 44 = .agg ([.int .i64 x28, .slice a30 x29.length c31, .slice a33 x32.length c34] : List Value).toArray := hp1_
            have e94 : ρ 43 = .agg ([.int .i64 x35, .slice a37 x36.length c38, .slice a40 x39.length c41] : List Value).toArray := hp0_
            have hl87 := hs.agglen (n := 4) 2 rfl rfl rfl
            have hl82 := hs.agglen (n := 3) 0 rfl rfl rfl
            have hl84 := hs.agglen (n := 3) 1 rfl rfl rfl
            refine WA.done (by kernel_rfl) ?_
            refine hK56 _ _ ?_
            refine W.seqK fun K95 hK95 => ?_
            refine W.region ?_
            refine WL.loadN (vs := [.int .i64 x35, .slice a37 x36.length c38, .slice a40 x39.length c41]) hs 1 rfl TI27 ((hu80 5 rfl).trans h49_5) rfl rfl ?_
            refine WL.loadN (vs := [.int .i64 x28, .slice a30 x29.length c31, .slice a33 x32.length c34]) hs 0 rfl TI27 ((hu80 6 rfl).trans h49_6) rfl rfl ?_
            have hs := hs.add (it := vl t_network_Network (⟨x35, x36, x39⟩ : network_Network) (.agg [.int .i64 x35, .slice a37 x36.length c38, .slice a40 x39.length c41].toArray)) fun ok hA => V_agg (show t_network_Network.R ok _ _ _ from ⟨[.int .i64 x35], [.slice a37 x36.length c38, .slice a40 x39.length c41], rfl, rfl, ⟨[.slice a37 x36.length c38], [.slice a40 x39.length c41], rfl, (R_one (hA.get 7 rfl)), (R_one (hA.get 8 rfl))⟩⟩) rfl
            have hs := hs.add (it := vl t_network_Network (⟨x28, x29, x32⟩ : network_Network) (.agg [.int .i64 x28, .slice a30 x29.length c31, .slice a33 x32.length c34].toArray)) fun ok hA => V_agg (show t_network_Network.R ok _ _ _ from ⟨[.int .i64 x28], [.slice a30 x29.length c31, .slice a33 x32.length c34], rfl, rfl, ⟨[.slice a30 x29.length c31], [.slice a33 x32.length c34], rfl, (R_one (hA.get 6 rfl)), (R_one (hA.get 7 rfl))⟩⟩) rfl
            obtain ⟨x96, hxx96, hf⟩ := bindE hf
            refine WL.call (vs := [.agg ([.int .i64 x35, .slice a37 x36.length c38, .slice a40 x39.length c41] : List Value).toArray, .agg ([.int .i64 x28, .slice a30 x29.length c31, .slice a33 x32.length c34] : List Value).toArray]) hs FN16 ⟨rfl, ⟨rfl, trivial⟩⟩ (fun ok hA => eslaw34_Equal.calls (x1 := (⟨x35, x36, x39⟩ : network_Network)) (x5 := (⟨x28, x29, x32⟩ : network_Network)) hxx96 (hA.get 1 rfl) (hA.get 0 rfl)) ?_
            rintro _ w hs
            refine WL.not rfl ?_
            refine WL.nil ?_
            refine hK95 _ _ ?_
            rcases iteE hf with ⟨hc97, hf⟩ | ⟨hc97, hf⟩
            · refine W.cond_true (bool_tr rfl hc97) ?_
              refine W.seqK fun K98 hK98 => ?_
              refine W.region ?_
              refine WL.assign (v := .bool false) rfl ?_
              refine WL.nil ?_
              refine hK98 _ _ ?_
              refine W.ret ?_
              have hr := Option.some.inj hf; subst hr
              have hr := hbbs51 _ rfl; subst hr
              have hf := hfs51
              have hr := Option.some.inj hf; subst hr
              exact ⟨_, resOk_one rfl rfl, (), rfl, (hs.mask []).pick []⟩
            · refine W.cond_false (bool_tr rfl hc97) ?_
              refine W.skip ?_
              refine hK55 _ _ ?_
              refine W.region ?_
              refine WL.move (v := .int .i64 x50) ((hu80 8 rfl).trans h49_8) ?_
              obtain ⟨x99, ex99, hf⟩ := letE hf
              refine WL.bin (v := .int .i64 x99) rfl rfl (ib_as ex99 (ib_add _ _ _)) ?_
              refine WL.assign (v := .int .i64 x99) rfl ?_
              refine WL.nil ?_
              exact ⟨_, (Option.some.inj hf).symm, ((hu80 1 rfl).trans h49_1), ((hu80 5 rfl).trans h49_5), ((hu80 6 rfl).trans h49_6), rfl, (hs.mask [true, true]).pick [6, 7, 8, 9, 10]⟩
        · refine W.cond_false (bool_tr rfl hc54) ?_
          refine W.exit ?_
          have hr := Option.some.inj hf; subst hr
          have hr := hbbs51 _ rfl; subst hr
          have hf := hfs51
          exact Jk45  _ _  ((hs.mask []).pick []) hf
      refine W.seqK fun K101 hK101 => ?_
      refine W.region ?_
      refine WL.assign (v := .int .i64 0) rfl ?_
      refine WL.nil ?_
      refine hK101 _ _ ?_
      refine W.block ?_
      obtain ⟨bs118, hbs118, hfs118⟩ := bindE hf
      have hs := hs.add (it := vl (tSlice t_network_Packet) [] (.slice none 0 0)) fun ok hA => V_nil
      have hs := hs.add (it := vl (tSlice t_network_Side) [] (.slice none 0 0)) fun ok hA => V_nil
      obtain rfl := hs.ownLen 2 rfl
      have hs := hs.freezeOwn 2 rfl
      obtain rfl := hs.ownLen 2 rfl
      have hs := hs.freezeOwn 2 rfl
      refine W.loop hbs118 (fun s ρ w => match s with | (x103, x104, x105, x108, x111, x112, x115) => ∃ (a106 : Option Addr), ∃ (c107 : Nat), ∃ (a109 : Option Addr), ∃ (c110 : Nat), ∃ (a113 : Option Addr), ∃ (c114 : Nat), ∃ (a116 : Option Addr), ∃ (c117 : Nat), ρ 0 = .slice a2 x1.length c3 ∧ ρ 1 = .slice a5 x4.length c6 ∧ ρ 5 = .pointer (some ⟨g24, 0, none⟩) ∧ ρ 6 = .pointer (some ⟨g25, 0, none⟩) ∧ ρ 7 = .int .i64 x103 ∧ St ok (bz w0) w [vl (tSlice t_elasticstorelaw34_Act) x1 (.slice a2 x1.length c3), vl (tSlice t_elasticstorelaw34_Act) x4 (.slice a5 x4.length c6), vl (tSlice t_network_Packet) x105 (.slice a106 x105.length c107), vl (tSlice t_network_Side) x108 (.slice a109 x108.length c110), vl (tSlice t_network_Packet) x112 (.slice a113 x112.length c114), vl (tSlice t_network_Side) x115 (.slice a116 x115.length c117)] [blk g25 27 [.int .i64 x104, .slice a106 x105.length c107, .slice a109 x108.length c110], blk g24 27 [.int .i64 x111, .slice a113 x112.length c114, .slice a116 x115.length c117]]) ⟨none, 0, none, 0, a18, c20, a21, c23, h10_0, h10_1, rfl, rfl, rfl, (hs.mask [true, true]).pick [4, 5, 3, 2, 1, 0]⟩ ?_
      intro s ρ w os118 hI hf hbbs118
      obtain ⟨x103, x104, x105, x108, x111, x112, x115⟩ := s
      obtain ⟨a106, c107, a109, c110, a113, c114, a116, c117, h102_0, h102_1, h102_5, h102_6, h102_7, hs⟩ := hI
      unfold eslaw34_NetworkValues.l2 at hf
      refine W.seqK fun K119 hK119 => ?_
      refine W.seqK fun K120 hK120 => ?_
      refine W.region ?_
      refine WL.move (v := .int .i64 x103) h102_7 ?_
      refine WL.move (v := .slice a2 x1.length c3) h102_0 ?_
      refine WL.len (v := .slice a2 x1.length c3) rfl (len_slice UN22) ?_
      refine WL.bin (v := .bool (decide (x103 < (x1.length : Int)))) rfl rfl (ib_lss _ _ _) ?_
      refine WL.nil ?_
      refine hK120 _ _ ?_
      rcases iteE hf with ⟨hc121, hf⟩ | ⟨hc121, hf⟩
      · refine W.cond_true (bool_tr rfl hc121) ?_
        refine W.skip ?_
        refine hK119 _ _ ?_
        refine W.seqK fun K122 hK122 => ?_
        have Jk138 : ∀ (x124 : Int) (x125 : List network_Packet) (x128 : List network_Side) (x131 : Int) (x132 : List network_Packet) (x135 : List network_Side) (a126 : Option Addr) (c127 : Nat) (a129 : Option Addr) (c130 : Nat) (a133 : Option Addr) (c134 : Nat) (a136 : Option Addr) (c137 : Nat) (ρ : Env) (w : World), ρ 0 = .slice a2 x1.length c3 → ρ 1 = .slice a5 x4.length c6 → ρ 5 = .pointer (some ⟨g24, 0, none⟩) → ρ 6 = .pointer (some ⟨g25, 0, none⟩) → ρ 7 = .int .i64 x103 → St ok (bz w0) w [vl (tSlice t_elasticstorelaw34_Act) x1 (.slice a2 x1.length c3), vl (tSlice t_elasticstorelaw34_Act) x4 (.slice a5 x4.length c6), vl (tSlice t_network_Packet) x125 (.slice a126 x125.length c127), vl (tSlice t_network_Side) x128 (.slice a129 x128.length c130), vl (tSlice t_network_Packet) x132 (.slice a133 x132.length c134), vl (tSlice t_network_Side) x135 (.slice a136 x135.length c137)] [blk g25 27 [.int .i64 x124, .slice a126 x125.length c127, .slice a129 x128.length c130], blk g24 27 [.int .i64 x131, .slice a133 x132.length c134, .slice a136 x135.length c137]] → eslaw34_NetworkValues.j3 x103 x124 x125 x128 x131 x132 x135 = some os118 → K122 ρ w := by
          intro x124 x125 x128 x131 x132 x135 a126 c127 a129 c130 a133 c134 a136 c137 ρ w h123_0 h123_1 h123_5 h123_6 h123_7 hs hf
          refine hK122 _ _ ?_
          unfold eslaw34_NetworkValues.j3 at hf
          refine W.region ?_
          refine WL.move (v := .int .i64 x103) h123_7 ?_
          obtain ⟨x139, ex139, hf⟩ := letE hf
          refine WL.bin (v := .int .i64 x139) rfl rfl (ib_as ex139 (ib_add _ _ _)) ?_
          refine WL.assign (v := .int .i64 x139) rfl ?_
          refine WL.nil ?_
          exact ⟨_, (Option.some.inj hf).symm, a126, c127, a129, c130, a133, c134, a136, c137, h123_0, h123_1, h123_5, h123_6, rfl, (hs.mask [true, true]).pick [0, 1, 2, 3, 4, 5]⟩
        refine W.block ?_
        obtain ⟨x140, hxx140, hf⟩ := bindE hf
        obtain ⟨⟨x145, x146, x147⟩, hxx145, hf⟩ := bindE hf
        refine W.any (by kernel_rfl) 8 5 [true, true, true, true, true, true, true, true, false, false, false, false, false] rfl rfl (poAt [pv (.agg ([.int .i64 x111, .slice a113 x112.length c114, .slice a116 x115.length c117] : List Value).toArray), pv (.agg ([.int .i64 x104, .slice a106 x105.length c107, .slice a109 x108.length c110] : List Value).toArray), pv (.slice a2 x1.length c3), pv (.int .i64 x103), pq (fun y : Addr => .pointer (some y)) (fun v => [pl t_elasticstorelaw34_Act x140 (adOf v)]) (fun v => []), pq (fun y : List Value => .agg y.toArray) (fun v => [vl t_elasticstorelaw34_Act x140 v]) (fun v => []), pq (fun y : (List Value) × (List Value) => .tuple #[.agg y.1.toArray, .agg y.2.toArray, .bool x147]) (fun v => [vl t_network_Network x145 (partOf v 0), vl t_network_Network x146 (partOf v 1)]) (fun v => []), pn [6] (fun r => r.getD 0 undef)]) (Λ := [blk g25 27 [.int .i64 x104, .slice a106 x105.length c107, .slice a109 x108.length c110], blk g24 27 [.int .i64 x111, .slice a113 x112.length c114, .slice a116 x115.length c117]]) hs (by kernel_rfl) (by kernel_rfl) (by kernel_rfl) ⟨⟨⟨⟨⟨⟨⟨⟨trivial, ?_⟩, ?_⟩, ?_⟩, ?_⟩, ?_⟩, ?_⟩, ?_⟩, ?_⟩ ?_
        · intro ρ w Γx Λx hs hu hp
          refine WL.loadN (vs := [.int .i64 x111, .slice a113 x112.length c114, .slice a116 x115.length c117]) hs (Λx.length + 1) (getApp rfl) TI27 ((hu 5 rfl).trans h102_5) rfl rfl ?_
          exact WL.nil ⟨rfl, _, rfl, rfl, hs.cutG 0 0⟩
        · intro ρ w Γx Λx hs hu hp
          refine WL.loadN (vs := [.int .i64 x104, .slice a106 x105.length c107, .slice a109 x108.length c110]) hs (Λx.length + 0) (getApp rfl) TI27 ((hu 6 rfl).trans h102_6) rfl rfl ?_
          exact WL.nil ⟨rfl, _, rfl, rfl, hs.cutG 0 0⟩
        · intro ρ w Γx Λx hs hu hp
          refine WL.move (v := .slice a2 x1.length c3) ((hu 0 rfl).trans h102_0) ?_
          exact WL.nil ⟨rfl, _, rfl, rfl, hs.cutG 0 0⟩
        · intro ρ w Γx Λx hs hu hp
          refine WL.move (v := .int .i64 x103) ((hu 7 rfl).trans h102_7) ?_
          exact WL.nil ⟨rfl, _, rfl, rfl, hs.cutG 0 0⟩
        · intro ρ w Γx Λx hs hu hp
          have e152 : ρ 29 = .slice a2 x1.length c3 := (hp 2 rfl).1
          have e153 : ρ 30 = .int .i64 x103 := (hp 3 rfl).1
          refine WL.indexAddr hs (Γx.length + 0) (getApp rfl) UN22 TI33 e152 e153 hxx140 (fun ad141 hs => ?_)
          have hs := hs.add (it := pl t_elasticstorelaw34_Act x140 ad141) fun ok hA => hA.get 0 rfl
          exact WL.nil ⟨rfl, _, rfl, ⟨ad141, rfl⟩, hs.cutG 1 1⟩
        · intro ρ w Γx Λx hs hu hp
          obtain ⟨⟨ad154, e155r⟩, hm156⟩ := hp 4 rfl
          have e155 : ρ 31 = .pointer (some ad154) := e155r
          rw [e155r] at hm156
          have hs := hs.memo1 (it := pl t_elasticstorelaw34_Act x140 ad154) (List.mem_append.2 (.inl (hm156 _ (List.mem_of_getElem? (i := 0) rfl))))
          refine WL.loadP hs 0 rfl TI33 (.inl rfl) e155 (fun v142 hs => ?_)
          obtain ⟨cs143, hl144, rfl⟩ := hs.aggv (n := 4) 0 rfl rfl rfl
          have hs := hs.add (it := vl t_elasticstorelaw34_Act x140 (.agg cs143.toArray)) fun ok hA => hA.get 0 rfl
          exact WL.nil ⟨rfl, _, rfl, ⟨cs143, rfl⟩, hs.cutG 1 2⟩
        · intro ρ w Γx Λx hs hu hp
          have e157 : ρ 27 = .agg ([.int .i64 x111, .slice a113 x112.length c114, .slice a116 x115.length c117] : List Value).toArray := (hp 0 rfl).1
          have e158 : ρ 28 = .agg ([.int .i64 x104, .slice a106 x105.length c107, .slice a109 x108.length c110] : List Value).toArray := (hp 1 rfl).1
          obtain ⟨⟨cs159, e161r⟩, hm162⟩ := hp 5 rfl
          have e161 : ρ 32 = .agg cs159.toArray := e161r
          rw [e161r] at hm162
          have hs := hs.memo1 (it := vl t_elasticstorelaw34_Act x140 (.agg cs159.toArray)) (List.mem_append.2 (.inl (hm162 _ (List.mem_of_getElem? (i := 0) rfl))))
          have hl160 := hs.agglen (n := 4) 0 rfl rfl rfl
          have hs := hs.add (it := vl t_network_Network (⟨x111, x112, x115⟩ : network_Network) (.agg [.int .i64 x111, .slice a113 x112.length c114, .slice a116 x115.length c117].toArray)) fun ok hA => V_agg (show t_network_Network.R ok _ _ _ from ⟨[.int .i64 x111], [.slice a113 x112.length c114, .slice a116 x115.length c117], rfl, rfl, ⟨[.slice a113 x112.length c114], [.slice a116 x115.length c117], rfl, (R_one (hA.get (Γx.length + 4 + 1) (getApp1 rfl))), (R_one (hA.get (Γx.length + 5 + 1) (getApp1 rfl)))⟩⟩) rfl
          have hs := hs.add (it := vl t_network_Network (⟨x104, x105, x108⟩ : network_Network) (.agg [.int .i64 x104, .slice a106 x105.length c107, .slice a109 x108.length c110].toArray)) fun ok hA => V_agg (show t_network_Network.R ok _ _ _ from ⟨[.int .i64 x104], [.slice a106 x105.length c107, .slice a109 x108.length c110], rfl, rfl, ⟨[.slice a106 x105.length c107], [.slice a109 x108.length c110], rfl, (R_one (hA.get (Γx.length + 2 + 2) (getApp2 rfl))), (R_one (hA.get (Γx.length + 3 + 2) (getApp2 rfl)))⟩⟩) rfl
          refine WL.call (vs := [.agg ([.int .i64 x111, .slice a113 x112.length c114, .slice a116 x115.length c117] : List Value).toArray, .agg ([.int .i64 x104, .slice a106 x105.length c107, .slice a109 x108.length c110] : List Value).toArray, .agg cs159.toArray]) hs FN19 ⟨e157, ⟨e158, ⟨e161, trivial⟩⟩⟩ (fun ok hA => eslaw34_step.calls (x1 := (⟨x111, x112, x115⟩ : network_Network)) (x5 := (⟨x104, x105, x108⟩ : network_Network)) (x9 := x140) hxx145 (hA.get 1 rfl) (hA.get 0 rfl) (hA.get 2 rfl)) ?_
          rintro ⟨cs148, cs149⟩ w hs
          have hl150 := hs.agglen (n := 3) 0 rfl rfl rfl
          have hl151 := hs.agglen (n := 3) 1 rfl rfl rfl
          have hs := hs.add (it := vl t_network_Network x146 (.agg cs149.toArray)) fun ok hA => hA.get 1 rfl
          have hs := hs.add (it := vl t_network_Network x145 (.agg cs148.toArray)) fun ok hA => hA.get 1 rfl
          exact WL.nil ⟨rfl, _, rfl, ⟨(cs148, cs149), rfl⟩, hs.cutG 2 5⟩
        · intro ρ w Γx Λx hs hu hp
          obtain ⟨⟨⟨cs163, cs165⟩, e167r⟩, hm168⟩ := hp 6 rfl
          have e167 : ρ 33 = .tuple #[.agg cs163.toArray, .agg cs165.toArray, .bool x147] := e167r
          rw [e167r] at hm168
          have hs := hs.memo1 (it := vl t_network_Network x146 (.agg cs165.toArray)) (List.mem_append.2 (.inl (hm168 _ (List.mem_of_getElem? (i := 1) rfl))))
          have hs := hs.memo1 (it := vl t_network_Network x145 (.agg cs163.toArray)) (List.mem_cons_of_mem _ (List.mem_append.2 (.inl (hm168 _ (List.mem_of_getElem? (i := 0) rfl)))))
          have hl164 := hs.agglen (n := 3) 0 rfl rfl rfl
          have hl166 := hs.agglen (n := 3) 1 rfl rfl rfl
          refine WL.move (v := .tuple #[.agg cs163.toArray, .agg cs165.toArray, .bool x147]) e167 ?_
          exact WL.nil ⟨rfl, _, rfl, (show (.tuple #[.agg cs163.toArray, .agg cs165.toArray, .bool x147] : Value) = (ρ 33 : Value) by rw [e167]), hs.cutG 0 2⟩
        · intro ρ w hs hu169 hp
          obtain ⟨⟨⟨⟨⟨⟨⟨⟨_, hp0_⟩, hp1_⟩, hp2_⟩, hp3_⟩, hp4_⟩, hp5_⟩, hp6_⟩, hp7_⟩ := hp
          have hs : St ok (bz w0) w [vl t_network_Network x145 (partOf (ρ 33) 0), vl t_network_Network x146 (partOf (ρ 33) 1), vl t_elasticstorelaw34_Act x140 (ρ 32), pl t_elasticstorelaw34_Act x140 (adOf (ρ 31)), vl (tSlice t_elasticstorelaw34_Act) x1 (.slice a2 x1.length c3), vl (tSlice t_elasticstorelaw34_Act) x4 (.slice a5 x4.length c6), vl (tSlice t_network_Packet) x105 (.slice a106 x105.length c107), vl (tSlice t_network_Side) x108 (.slice a109 x108.length c110), vl (tSlice t_network_Packet) x112 (.slice a113 x112.length c114), vl (tSlice t_network_Side) x115 (.slice a116 x115.length c117)] [blk g25 27 [.int .i64 x104, .slice a106 x105.length c107, .slice a109 x108.length c110], blk g24 27 [.int .i64 x111, .slice a113 x112.length c114, .slice a116 x115.length c117]] := hs
          obtain ⟨⟨cs170, cs172⟩, e174⟩ := hp6_
          have e174 : ρ 33 = .tuple #[.agg cs170.toArray, .agg cs172.toArray, .bool x147] := e174
          try rw [e174] at hs
          obtain ⟨cs175, e177⟩ := hp5_
          have e177 : ρ 32 = .agg cs175.toArray := e177
          try rw [e177] at hs
          obtain ⟨ad178, e179⟩ := hp4_
          have e179 : ρ 31 = .pointer (some ad178) := e179
          try rw [e179] at hs
          have e180 : ρ 30 = .int .i64 x103 := hp3_
          have e181 : ρ 29 = .slice a2 x1.length c3 := hp2_
          have e182 : ρ 28 = .agg ([.int .i64 x104, .slice a106 x105.length c107, .slice a109 x108.length c110] : List Value).toArray := hp1_
          have e183 : ρ 27 = .agg ([.int .i64 x111, .slice a113 x112.length c114, .slice a116 x115.length c117] : List Value).toArray := hp0_
          have e184 : ρ 26 = ρ 33 := hp7_
          rw [e174] at e184
          have hl176 := hs.agglen (n := 4) 2 rfl rfl rfl
          have hl171 := hs.agglen (n := 3) 0 rfl rfl rfl
          have hl173 := hs.agglen (n := 3) 1 rfl rfl rfl
          refine WA.step [8, 9, 10] (by kernel_rfl) (by simp) ⟨?_, ?_, ?_, trivial⟩
          · refine WL.extract (v := .agg cs170.toArray) e184 rfl ?_
            refine WL.nil ⟨rfl, _, rfl, ?_⟩
            refine WA.step [9, 10, 11] (by kernel_rfl) (by simp) ⟨?_, ?_, ?_, trivial⟩
            · refine WL.extract (v := .agg cs172.toArray) e184 rfl ?_
              refine WL.nil ⟨rfl, _, rfl, ?_⟩
              refine WA.step [10, 11] (by kernel_rfl) (by simp) ⟨?_, ?_, trivial⟩
              · refine WL.extract (v := .bool x147) e184 rfl ?_
                refine WL.nil ⟨rfl, _, rfl, ?_⟩
                refine WA.step [11] (by kernel_rfl) (by simp) ⟨?_, trivial⟩
                refine WL.storeAll (vs := cs170) hs 1 rfl TI27 ((hu169 5 rfl).trans h102_5) rfl rfl hl171 (hs.ones 0 rfl rfl) rfl (fun w hs => ?_)
                refine WL.nil ⟨rfl, _, rfl, ?_⟩
                refine WA.step [12] (by kernel_rfl) (by simp) ⟨?_, trivial⟩
                refine WL.storeAll (vs := cs172) hs 0 rfl TI27 ((hu169 6 rfl).trans h102_6) rfl rfl hl173 (hs.ones 1 rfl rfl) rfl (fun w hs => ?_)
                refine WL.nil ⟨rfl, _, rfl, ?_⟩
                refine WA.done (by kernel_rfl) ?_
                obtain ⟨a193, c194, a195, c196, rfl⟩ := open_network_Network hs 1 rfl
                have hs := hs.add (it := vl (tSlice t_network_Packet) x146.Packets (.slice a193 (x146.Packets).length c194)) fun ok hA => V_fld F_network_Network_Packets (hA.get 1 rfl) rfl rfl rfl
                have hs := hs.add (it := vl (tSlice t_network_Side) x146.Sides (.slice a195 (x146.Sides).length c196)) fun ok hA => V_fld F_network_Network_Sides (hA.get 2 rfl) rfl rfl rfl
                obtain ⟨a197, c198, a199, c200, rfl⟩ := open_network_Network hs 2 rfl
                have hs := hs.add (it := vl (tSlice t_network_Packet) x145.Packets (.slice a197 (x145.Packets).length c198)) fun ok hA => V_fld F_network_Network_Packets (hA.get 2 rfl) rfl rfl rfl
                have hs := hs.add (it := vl (tSlice t_network_Side) x145.Sides (.slice a199 (x145.Sides).length c200)) fun ok hA => V_fld F_network_Network_Sides (hA.get 3 rfl) rfl rfl rfl
                exact Jk138 x146.Next x146.Packets x146.Sides x145.Next x145.Packets x145.Sides a193 c194 a195 c196 a197 c198 a199 c200 _ _ ((hu169 0 rfl).trans h102_0) ((hu169 1 rfl).trans h102_1) ((hu169 5 rfl).trans h102_5) ((hu169 6 rfl).trans h102_6) ((hu169 7 rfl).trans h102_7) ((hs.mask [true, true]).pick [8, 9, 3, 2, 1, 0]) hf
              · refine WL.storeAll (vs := cs170) hs 1 rfl TI27 ((hu169 5 rfl).trans h102_5) rfl rfl hl171 (hs.ones 0 rfl rfl) rfl (fun w hs => ?_)
                refine WL.nil ⟨rfl, _, rfl, ?_⟩
                refine WA.step [10, 12] (by kernel_rfl) (by simp) ⟨?_, ?_, trivial⟩
                · refine WL.extract (v := .bool x147) e184 rfl ?_
                  refine WL.nil ⟨rfl, _, rfl, ?_⟩
                  refine WA.step [12] (by kernel_rfl) (by simp) ⟨?_, trivial⟩
                  refine WL.storeAll (vs := cs172) hs 0 rfl TI27 ((hu169 6 rfl).trans h102_6) rfl rfl hl173 (hs.ones 1 rfl rfl) rfl (fun w hs => ?_)
                  refine WL.nil ⟨rfl, _, rfl, ?_⟩
                  refine WA.done (by kernel_rfl) ?_
                  obtain ⟨a193, c194, a195, c196, rfl⟩ := open_network_Network hs 1 rfl
                  have hs := hs.add (it := vl (tSlice t_network_Packet) x146.Packets (.slice a193 (x146.Packets).length c194)) fun ok hA => V_fld F_network_Network_Packets (hA.get 1 rfl) rfl rfl rfl
                  have hs := hs.add (it := vl (tSlice t_network_Side) x146.Sides (.slice a195 (x146.Sides).length c196)) fun ok hA => V_fld F_network_Network_Sides (hA.get 2 rfl) rfl rfl rfl
                  obtain ⟨a197, c198, a199, c200, rfl⟩ := open_network_Network hs 2 rfl
                  have hs := hs.add (it := vl (tSlice t_network_Packet) x145.Packets (.slice a197 (x145.Packets).length c198)) fun ok hA => V_fld F_network_Network_Packets (hA.get 2 rfl) rfl rfl rfl
                  have hs := hs.add (it := vl (tSlice t_network_Side) x145.Sides (.slice a199 (x145.Sides).length c200)) fun ok hA => V_fld F_network_Network_Sides (hA.get 3 rfl) rfl rfl rfl
                  exact Jk138 x146.Next x146.Packets x146.Sides x145.Next x145.Packets x145.Sides a193 c194 a195 c196 a197 c198 a199 c200 _ _ ((hu169 0 rfl).trans h102_0) ((hu169 1 rfl).trans h102_1) ((hu169 5 rfl).trans h102_5) ((hu169 6 rfl).trans h102_6) ((hu169 7 rfl).trans h102_7) ((hs.mask [true, true]).pick [8, 9, 3, 2, 1, 0]) hf
                · refine WL.storeAll (vs := cs172) hs 0 rfl TI27 ((hu169 6 rfl).trans h102_6) rfl rfl hl173 (hs.ones 1 rfl rfl) rfl (fun w hs => ?_)
                  refine WL.nil ⟨rfl, _, rfl, ?_⟩
                  refine WA.step [10] (by kernel_rfl) (by simp) ⟨?_, trivial⟩
                  refine WL.extract (v := .bool x147) e184 rfl ?_
                  refine WL.nil ⟨rfl, _, rfl, ?_⟩
                  refine WA.done (by kernel_rfl) ?_
                  obtain ⟨a193, c194, a195, c196, rfl⟩ := open_network_Network hs 1 rfl
                  have hs := hs.add (it := vl (tSlice t_network_Packet) x146.Packets (.slice a193 (x146.Packets).length c194)) fun ok hA => V_fld F_network_Network_Packets (hA.get 1 rfl) rfl rfl rfl
                  have hs := hs.add (it := vl (tSlice t_network_Side) x146.Sides (.slice a195 (x146.Sides).length c196)) fun ok hA => V_fld F_network_Network_Sides (hA.get 2 rfl) rfl rfl rfl
                  obtain ⟨a197, c198, a199, c200, rfl⟩ := open_network_Network hs 2 rfl
                  have hs := hs.add (it := vl (tSlice t_network_Packet) x145.Packets (.slice a197 (x145.Packets).length c198)) fun ok hA => V_fld F_network_Network_Packets (hA.get 2 rfl) rfl rfl rfl
                  have hs := hs.add (it := vl (tSlice t_network_Side) x145.Sides (.slice a199 (x145.Sides).length c200)) fun ok hA => V_fld F_network_Network_Sides (hA.get 3 rfl) rfl rfl rfl
                  exact Jk138 x146.Next x146.Packets x146.Sides x145.Next x145.Packets x145.Sides a193 c194 a195 c196 a197 c198 a199 c200 _ _ ((hu169 0 rfl).trans h102_0) ((hu169 1 rfl).trans h102_1) ((hu169 5 rfl).trans h102_5) ((hu169 6 rfl).trans h102_6) ((hu169 7 rfl).trans h102_7) ((hs.mask [true, true]).pick [8, 9, 3, 2, 1, 0]) hf
            · refine WL.extract (v := .bool x147) e184 rfl ?_
              refine WL.nil ⟨rfl, _, rfl, ?_⟩
              refine WA.step [9, 11] (by kernel_rfl) (by simp) ⟨?_, ?_, trivial⟩
              · refine WL.extract (v := .agg cs172.toArray) e184 rfl ?_
                refine WL.nil ⟨rfl, _, rfl, ?_⟩
                refine WA.step [11] (by kernel_rfl) (by simp) ⟨?_, trivial⟩
                refine WL.storeAll (vs := cs170) hs 1 rfl TI27 ((hu169 5 rfl).trans h102_5) rfl rfl hl171 (hs.ones 0 rfl rfl) rfl (fun w hs => ?_)
                refine WL.nil ⟨rfl, _, rfl, ?_⟩
                refine WA.step [12] (by kernel_rfl) (by simp) ⟨?_, trivial⟩
                refine WL.storeAll (vs := cs172) hs 0 rfl TI27 ((hu169 6 rfl).trans h102_6) rfl rfl hl173 (hs.ones 1 rfl rfl) rfl (fun w hs => ?_)
                refine WL.nil ⟨rfl, _, rfl, ?_⟩
                refine WA.done (by kernel_rfl) ?_
                obtain ⟨a193, c194, a195, c196, rfl⟩ := open_network_Network hs 1 rfl
                have hs := hs.add (it := vl (tSlice t_network_Packet) x146.Packets (.slice a193 (x146.Packets).length c194)) fun ok hA => V_fld F_network_Network_Packets (hA.get 1 rfl) rfl rfl rfl
                have hs := hs.add (it := vl (tSlice t_network_Side) x146.Sides (.slice a195 (x146.Sides).length c196)) fun ok hA => V_fld F_network_Network_Sides (hA.get 2 rfl) rfl rfl rfl
                obtain ⟨a197, c198, a199, c200, rfl⟩ := open_network_Network hs 2 rfl
                have hs := hs.add (it := vl (tSlice t_network_Packet) x145.Packets (.slice a197 (x145.Packets).length c198)) fun ok hA => V_fld F_network_Network_Packets (hA.get 2 rfl) rfl rfl rfl
                have hs := hs.add (it := vl (tSlice t_network_Side) x145.Sides (.slice a199 (x145.Sides).length c200)) fun ok hA => V_fld F_network_Network_Sides (hA.get 3 rfl) rfl rfl rfl
                exact Jk138 x146.Next x146.Packets x146.Sides x145.Next x145.Packets x145.Sides a193 c194 a195 c196 a197 c198 a199 c200 _ _ ((hu169 0 rfl).trans h102_0) ((hu169 1 rfl).trans h102_1) ((hu169 5 rfl).trans h102_5) ((hu169 6 rfl).trans h102_6) ((hu169 7 rfl).trans h102_7) ((hs.mask [true, true]).pick [8, 9, 3, 2, 1, 0]) hf
              · refine WL.storeAll (vs := cs170) hs 1 rfl TI27 ((hu169 5 rfl).trans h102_5) rfl rfl hl171 (hs.ones 0 rfl rfl) rfl (fun w hs => ?_)
                refine WL.nil ⟨rfl, _, rfl, ?_⟩
                refine WA.step [9] (by kernel_rfl) (by simp) ⟨?_, trivial⟩
                refine WL.extract (v := .agg cs172.toArray) e184 rfl ?_
                refine WL.nil ⟨rfl, _, rfl, ?_⟩
                refine WA.step [12] (by kernel_rfl) (by simp) ⟨?_, trivial⟩
                refine WL.storeAll (vs := cs172) hs 0 rfl TI27 ((hu169 6 rfl).trans h102_6) rfl rfl hl173 (hs.ones 1 rfl rfl) rfl (fun w hs => ?_)
                refine WL.nil ⟨rfl, _, rfl, ?_⟩
                refine WA.done (by kernel_rfl) ?_
                obtain ⟨a193, c194, a195, c196, rfl⟩ := open_network_Network hs 1 rfl
                have hs := hs.add (it := vl (tSlice t_network_Packet) x146.Packets (.slice a193 (x146.Packets).length c194)) fun ok hA => V_fld F_network_Network_Packets (hA.get 1 rfl) rfl rfl rfl
                have hs := hs.add (it := vl (tSlice t_network_Side) x146.Sides (.slice a195 (x146.Sides).length c196)) fun ok hA => V_fld F_network_Network_Sides (hA.get 2 rfl) rfl rfl rfl
                obtain ⟨a197, c198, a199, c200, rfl⟩ := open_network_Network hs 2 rfl
                have hs := hs.add (it := vl (tSlice t_network_Packet) x145.Packets (.slice a197 (x145.Packets).length c198)) fun ok hA => V_fld F_network_Network_Packets (hA.get 2 rfl) rfl rfl rfl
                have hs := hs.add (it := vl (tSlice t_network_Side) x145.Sides (.slice a199 (x145.Sides).length c200)) fun ok hA => V_fld F_network_Network_Sides (hA.get 3 rfl) rfl rfl rfl
                exact Jk138 x146.Next x146.Packets x146.Sides x145.Next x145.Packets x145.Sides a193 c194 a195 c196 a197 c198 a199 c200 _ _ ((hu169 0 rfl).trans h102_0) ((hu169 1 rfl).trans h102_1) ((hu169 5 rfl).trans h102_5) ((hu169 6 rfl).trans h102_6) ((hu169 7 rfl).trans h102_7) ((hs.mask [true, true]).pick [8, 9, 3, 2, 1, 0]) hf
            · refine WL.storeAll (vs := cs170) hs 1 rfl TI27 ((hu169 5 rfl).trans h102_5) rfl rfl hl171 (hs.ones 0 rfl rfl) rfl (fun w hs => ?_)
              refine WL.nil ⟨rfl, _, rfl, ?_⟩
              refine WA.step [9, 10] (by kernel_rfl) (by simp) ⟨?_, ?_, trivial⟩
              · refine WL.extract (v := .agg cs172.toArray) e184 rfl ?_
                refine WL.nil ⟨rfl, _, rfl, ?_⟩
                refine WA.step [10, 12] (by kernel_rfl) (by simp) ⟨?_, ?_, trivial⟩
                · refine WL.extract (v := .bool x147) e184 rfl ?_
                  refine WL.nil ⟨rfl, _, rfl, ?_⟩
                  refine WA.step [12] (by kernel_rfl) (by simp) ⟨?_, trivial⟩
                  refine WL.storeAll (vs := cs172) hs 0 rfl TI27 ((hu169 6 rfl).trans h102_6) rfl rfl hl173 (hs.ones 1 rfl rfl) rfl (fun w hs => ?_)
                  refine WL.nil ⟨rfl, _, rfl, ?_⟩
                  refine WA.done (by kernel_rfl) ?_
                  obtain ⟨a193, c194, a195, c196, rfl⟩ := open_network_Network hs 1 rfl
                  have hs := hs.add (it := vl (tSlice t_network_Packet) x146.Packets (.slice a193 (x146.Packets).length c194)) fun ok hA => V_fld F_network_Network_Packets (hA.get 1 rfl) rfl rfl rfl
                  have hs := hs.add (it := vl (tSlice t_network_Side) x146.Sides (.slice a195 (x146.Sides).length c196)) fun ok hA => V_fld F_network_Network_Sides (hA.get 2 rfl) rfl rfl rfl
                  obtain ⟨a197, c198, a199, c200, rfl⟩ := open_network_Network hs 2 rfl
                  have hs := hs.add (it := vl (tSlice t_network_Packet) x145.Packets (.slice a197 (x145.Packets).length c198)) fun ok hA => V_fld F_network_Network_Packets (hA.get 2 rfl) rfl rfl rfl
                  have hs := hs.add (it := vl (tSlice t_network_Side) x145.Sides (.slice a199 (x145.Sides).length c200)) fun ok hA => V_fld F_network_Network_Sides (hA.get 3 rfl) rfl rfl rfl
                  exact Jk138 x146.Next x146.Packets x146.Sides x145.Next x145.Packets x145.Sides a193 c194 a195 c196 a197 c198 a199 c200 _ _ ((hu169 0 rfl).trans h102_0) ((hu169 1 rfl).trans h102_1) ((hu169 5 rfl).trans h102_5) ((hu169 6 rfl).trans h102_6) ((hu169 7 rfl).trans h102_7) ((hs.mask [true, true]).pick [8, 9, 3, 2, 1, 0]) hf
                · refine WL.storeAll (vs := cs172) hs 0 rfl TI27 ((hu169 6 rfl).trans h102_6) rfl rfl hl173 (hs.ones 1 rfl rfl) rfl (fun w hs => ?_)
                  refine WL.nil ⟨rfl, _, rfl, ?_⟩
                  refine WA.step [10] (by kernel_rfl) (by simp) ⟨?_, trivial⟩
                  refine WL.extract (v := .bool x147) e184 rfl ?_
                  refine WL.nil ⟨rfl, _, rfl, ?_⟩
                  refine WA.done (by kernel_rfl) ?_
                  obtain ⟨a193, c194, a195, c196, rfl⟩ := open_network_Network hs 1 rfl
                  have hs := hs.add (it := vl (tSlice t_network_Packet) x146.Packets (.slice a193 (x146.Packets).length c194)) fun ok hA => V_fld F_network_Network_Packets (hA.get 1 rfl) rfl rfl rfl
                  have hs := hs.add (it := vl (tSlice t_network_Side) x146.Sides (.slice a195 (x146.Sides).length c196)) fun ok hA => V_fld F_network_Network_Sides (hA.get 2 rfl) rfl rfl rfl
                  obtain ⟨a197, c198, a199, c200, rfl⟩ := open_network_Network hs 2 rfl
                  have hs := hs.add (it := vl (tSlice t_network_Packet) x145.Packets (.slice a197 (x145.Packets).length c198)) fun ok hA => V_fld F_network_Network_Packets (hA.get 2 rfl) rfl rfl rfl
                  have hs := hs.add (it := vl (tSlice t_network_Side) x145.Sides (.slice a199 (x145.Sides).length c200)) fun ok hA => V_fld F_network_Network_Sides (hA.get 3 rfl) rfl rfl rfl
                  exact Jk138 x146.Next x146.Packets x146.Sides x145.Next x145.Packets x145.Sides a193 c194 a195 c196 a197 c198 a199 c200 _ _ ((hu169 0 rfl).trans h102_0) ((hu169 1 rfl).trans h102_1) ((hu169 5 rfl).trans h102_5) ((hu169 6 rfl).trans h102_6) ((hu169 7 rfl).trans h102_7) ((hs.mask [true, true]).pick [8, 9, 3, 2, 1, 0]) hf
              · refine WL.extract (v := .bool x147) e184 rfl ?_
                refine WL.nil ⟨rfl, _, rfl, ?_⟩
                refine WA.step [9] (by kernel_rfl) (by simp) ⟨?_, trivial⟩
                refine WL.extract (v := .agg cs172.toArray) e184 rfl ?_
                refine WL.nil ⟨rfl, _, rfl, ?_⟩
                refine WA.step [12] (by kernel_rfl) (by simp) ⟨?_, trivial⟩
                refine WL.storeAll (vs := cs172) hs 0 rfl TI27 ((hu169 6 rfl).trans h102_6) rfl rfl hl173 (hs.ones 1 rfl rfl) rfl (fun w hs => ?_)
                refine WL.nil ⟨rfl, _, rfl, ?_⟩
                refine WA.done (by kernel_rfl) ?_
                obtain ⟨a193, c194, a195, c196, rfl⟩ := open_network_Network hs 1 rfl
                have hs := hs.add (it := vl (tSlice t_network_Packet) x146.Packets (.slice a193 (x146.Packets).length c194)) fun ok hA => V_fld F_network_Network_Packets (hA.get 1 rfl) rfl rfl rfl
                have hs := hs.add (it := vl (tSlice t_network_Side) x146.Sides (.slice a195 (x146.Sides).length c196)) fun ok hA => V_fld F_network_Network_Sides (hA.get 2 rfl) rfl rfl rfl
                obtain ⟨a197, c198, a199, c200, rfl⟩ := open_network_Network hs 2 rfl
                have hs := hs.add (it := vl (tSlice t_network_Packet) x145.Packets (.slice a197 (x145.Packets).length c198)) fun ok hA => V_fld F_network_Network_Packets (hA.get 2 rfl) rfl rfl rfl
                have hs := hs.add (it := vl (tSlice t_network_Side) x145.Sides (.slice a199 (x145.Sides).length c200)) fun ok hA => V_fld F_network_Network_Sides (hA.get 3 rfl) rfl rfl rfl
                exact Jk138 x146.Next x146.Packets x146.Sides x145.Next x145.Packets x145.Sides a193 c194 a195 c196 a197 c198 a199 c200 _ _ ((hu169 0 rfl).trans h102_0) ((hu169 1 rfl).trans h102_1) ((hu169 5 rfl).trans h102_5) ((hu169 6 rfl).trans h102_6) ((hu169 7 rfl).trans h102_7) ((hs.mask [true, true]).pick [8, 9, 3, 2, 1, 0]) hf
          · refine WL.extract (v := .agg cs172.toArray) e184 rfl ?_
            refine WL.nil ⟨rfl, _, rfl, ?_⟩
            refine WA.step [8, 10] (by kernel_rfl) (by simp) ⟨?_, ?_, trivial⟩
            · refine WL.extract (v := .agg cs170.toArray) e184 rfl ?_
              refine WL.nil ⟨rfl, _, rfl, ?_⟩
              refine WA.step [10, 11] (by kernel_rfl) (by simp) ⟨?_, ?_, trivial⟩
              · refine WL.extract (v := .bool x147) e184 rfl ?_
                refine WL.nil ⟨rfl, _, rfl, ?_⟩
                refine WA.step [11] (by kernel_rfl) (by simp) ⟨?_, trivial⟩
                refine WL.storeAll (vs := cs170) hs 1 rfl TI27 ((hu169 5 rfl).trans h102_5) rfl rfl hl171 (hs.ones 0 rfl rfl) rfl (fun w hs => ?_)
                refine WL.nil ⟨rfl, _, rfl, ?_⟩
                refine WA.step [12] (by kernel_rfl) (by simp) ⟨?_, trivial⟩
                refine WL.storeAll (vs := cs172) hs 0 rfl TI27 ((hu169 6 rfl).trans h102_6) rfl rfl hl173 (hs.ones 1 rfl rfl) rfl (fun w hs => ?_)
                refine WL.nil ⟨rfl, _, rfl, ?_⟩
                refine WA.done (by kernel_rfl) ?_
                obtain ⟨a193, c194, a195, c196, rfl⟩ := open_network_Network hs 1 rfl
                have hs := hs.add (it := vl (tSlice t_network_Packet) x146.Packets (.slice a193 (x146.Packets).length c194)) fun ok hA => V_fld F_network_Network_Packets (hA.get 1 rfl) rfl rfl rfl
                have hs := hs.add (it := vl (tSlice t_network_Side) x146.Sides (.slice a195 (x146.Sides).length c196)) fun ok hA => V_fld F_network_Network_Sides (hA.get 2 rfl) rfl rfl rfl
                obtain ⟨a197, c198, a199, c200, rfl⟩ := open_network_Network hs 2 rfl
                have hs := hs.add (it := vl (tSlice t_network_Packet) x145.Packets (.slice a197 (x145.Packets).length c198)) fun ok hA => V_fld F_network_Network_Packets (hA.get 2 rfl) rfl rfl rfl
                have hs := hs.add (it := vl (tSlice t_network_Side) x145.Sides (.slice a199 (x145.Sides).length c200)) fun ok hA => V_fld F_network_Network_Sides (hA.get 3 rfl) rfl rfl rfl
                exact Jk138 x146.Next x146.Packets x146.Sides x145.Next x145.Packets x145.Sides a193 c194 a195 c196 a197 c198 a199 c200 _ _ ((hu169 0 rfl).trans h102_0) ((hu169 1 rfl).trans h102_1) ((hu169 5 rfl).trans h102_5) ((hu169 6 rfl).trans h102_6) ((hu169 7 rfl).trans h102_7) ((hs.mask [true, true]).pick [8, 9, 3, 2, 1, 0]) hf
              · refine WL.storeAll (vs := cs170) hs 1 rfl TI27 ((hu169 5 rfl).trans h102_5) rfl rfl hl171 (hs.ones 0 rfl rfl) rfl (fun w hs => ?_)
                refine WL.nil ⟨rfl, _, rfl, ?_⟩
                refine WA.step [10, 12] (by kernel_rfl) (by simp) ⟨?_, ?_, trivial⟩
                · refine WL.extract (v := .bool x147) e184 rfl ?_
                  refine WL.nil ⟨rfl, _, rfl, ?_⟩
                  refine WA.step [12] (by kernel_rfl) (by simp) ⟨?_, trivial⟩
                  refine WL.storeAll (vs := cs172) hs 0 rfl TI27 ((hu169 6 rfl).trans h102_6) rfl rfl hl173 (hs.ones 1 rfl rfl) rfl (fun w hs => ?_)
                  refine WL.nil ⟨rfl, _, rfl, ?_⟩
                  refine WA.done (by kernel_rfl) ?_
                  obtain ⟨a193, c194, a195, c196, rfl⟩ := open_network_Network hs 1 rfl
                  have hs := hs.add (it := vl (tSlice t_network_Packet) x146.Packets (.slice a193 (x146.Packets).length c194)) fun ok hA => V_fld F_network_Network_Packets (hA.get 1 rfl) rfl rfl rfl
                  have hs := hs.add (it := vl (tSlice t_network_Side) x146.Sides (.slice a195 (x146.Sides).length c196)) fun ok hA => V_fld F_network_Network_Sides (hA.get 2 rfl) rfl rfl rfl
                  obtain ⟨a197, c198, a199, c200, rfl⟩ := open_network_Network hs 2 rfl
                  have hs := hs.add (it := vl (tSlice t_network_Packet) x145.Packets (.slice a197 (x145.Packets).length c198)) fun ok hA => V_fld F_network_Network_Packets (hA.get 2 rfl) rfl rfl rfl
                  have hs := hs.add (it := vl (tSlice t_network_Side) x145.Sides (.slice a199 (x145.Sides).length c200)) fun ok hA => V_fld F_network_Network_Sides (hA.get 3 rfl) rfl rfl rfl
                  exact Jk138 x146.Next x146.Packets x146.Sides x145.Next x145.Packets x145.Sides a193 c194 a195 c196 a197 c198 a199 c200 _ _ ((hu169 0 rfl).trans h102_0) ((hu169 1 rfl).trans h102_1) ((hu169 5 rfl).trans h102_5) ((hu169 6 rfl).trans h102_6) ((hu169 7 rfl).trans h102_7) ((hs.mask [true, true]).pick [8, 9, 3, 2, 1, 0]) hf
                · refine WL.storeAll (vs := cs172) hs 0 rfl TI27 ((hu169 6 rfl).trans h102_6) rfl rfl hl173 (hs.ones 1 rfl rfl) rfl (fun w hs => ?_)
                  refine WL.nil ⟨rfl, _, rfl, ?_⟩
                  refine WA.step [10] (by kernel_rfl) (by simp) ⟨?_, trivial⟩
                  refine WL.extract (v := .bool x147) e184 rfl ?_
                  refine WL.nil ⟨rfl, _, rfl, ?_⟩
                  refine WA.done (by kernel_rfl) ?_
                  obtain ⟨a193, c194, a195, c196, rfl⟩ := open_network_Network hs 1 rfl
                  have hs := hs.add (it := vl (tSlice t_network_Packet) x146.Packets (.slice a193 (x146.Packets).length c194)) fun ok hA => V_fld F_network_Network_Packets (hA.get 1 rfl) rfl rfl rfl
                  have hs := hs.add (it := vl (tSlice t_network_Side) x146.Sides (.slice a195 (x146.Sides).length c196)) fun ok hA => V_fld F_network_Network_Sides (hA.get 2 rfl) rfl rfl rfl
                  obtain ⟨a197, c198, a199, c200, rfl⟩ := open_network_Network hs 2 rfl
                  have hs := hs.add (it := vl (tSlice t_network_Packet) x145.Packets (.slice a197 (x145.Packets).length c198)) fun ok hA => V_fld F_network_Network_Packets (hA.get 2 rfl) rfl rfl rfl
                  have hs := hs.add (it := vl (tSlice t_network_Side) x145.Sides (.slice a199 (x145.Sides).length c200)) fun ok hA => V_fld F_network_Network_Sides (hA.get 3 rfl) rfl rfl rfl
                  exact Jk138 x146.Next x146.Packets x146.Sides x145.Next x145.Packets x145.Sides a193 c194 a195 c196 a197 c198 a199 c200 _ _ ((hu169 0 rfl).trans h102_0) ((hu169 1 rfl).trans h102_1) ((hu169 5 rfl).trans h102_5) ((hu169 6 rfl).trans h102_6) ((hu169 7 rfl).trans h102_7) ((hs.mask [true, true]).pick [8, 9, 3, 2, 1, 0]) hf
            · refine WL.extract (v := .bool x147) e184 rfl ?_
              refine WL.nil ⟨rfl, _, rfl, ?_⟩
              refine WA.step [8] (by kernel_rfl) (by simp) ⟨?_, trivial⟩
              refine WL.extract (v := .agg cs170.toArray) e184 rfl ?_
              refine WL.nil ⟨rfl, _, rfl, ?_⟩
              refine WA.step [11] (by kernel_rfl) (by simp) ⟨?_, trivial⟩
              refine WL.storeAll (vs := cs170) hs 1 rfl TI27 ((hu169 5 rfl).trans h102_5) rfl rfl hl171 (hs.ones 0 rfl rfl) rfl (fun w hs => ?_)
              refine WL.nil ⟨rfl, _, rfl, ?_⟩
              refine WA.step [12] (by kernel_rfl) (by simp) ⟨?_, trivial⟩
              refine WL.storeAll (vs := cs172) hs 0 rfl TI27 ((hu169 6 rfl).trans h102_6) rfl rfl hl173 (hs.ones 1 rfl rfl) rfl (fun w hs => ?_)
              refine WL.nil ⟨rfl, _, rfl, ?_⟩
              refine WA.done (by kernel_rfl) ?_
              obtain ⟨a193, c194, a195, c196, rfl⟩ := open_network_Network hs 1 rfl
              have hs := hs.add (it := vl (tSlice t_network_Packet) x146.Packets (.slice a193 (x146.Packets).length c194)) fun ok hA => V_fld F_network_Network_Packets (hA.get 1 rfl) rfl rfl rfl
              have hs := hs.add (it := vl (tSlice t_network_Side) x146.Sides (.slice a195 (x146.Sides).length c196)) fun ok hA => V_fld F_network_Network_Sides (hA.get 2 rfl) rfl rfl rfl
              obtain ⟨a197, c198, a199, c200, rfl⟩ := open_network_Network hs 2 rfl
              have hs := hs.add (it := vl (tSlice t_network_Packet) x145.Packets (.slice a197 (x145.Packets).length c198)) fun ok hA => V_fld F_network_Network_Packets (hA.get 2 rfl) rfl rfl rfl
              have hs := hs.add (it := vl (tSlice t_network_Side) x145.Sides (.slice a199 (x145.Sides).length c200)) fun ok hA => V_fld F_network_Network_Sides (hA.get 3 rfl) rfl rfl rfl
              exact Jk138 x146.Next x146.Packets x146.Sides x145.Next x145.Packets x145.Sides a193 c194 a195 c196 a197 c198 a199 c200 _ _ ((hu169 0 rfl).trans h102_0) ((hu169 1 rfl).trans h102_1) ((hu169 5 rfl).trans h102_5) ((hu169 6 rfl).trans h102_6) ((hu169 7 rfl).trans h102_7) ((hs.mask [true, true]).pick [8, 9, 3, 2, 1, 0]) hf
          · refine WL.extract (v := .bool x147) e184 rfl ?_
            refine WL.nil ⟨rfl, _, rfl, ?_⟩
            refine WA.step [8, 9] (by kernel_rfl) (by simp) ⟨?_, ?_, trivial⟩
            · refine WL.extract (v := .agg cs170.toArray) e184 rfl ?_
              refine WL.nil ⟨rfl, _, rfl, ?_⟩
              refine WA.step [9, 11] (by kernel_rfl) (by simp) ⟨?_, ?_, trivial⟩
              · refine WL.extract (v := .agg cs172.toArray) e184 rfl ?_
                refine WL.nil ⟨rfl, _, rfl, ?_⟩
                refine WA.step [11] (by kernel_rfl) (by simp) ⟨?_, trivial⟩
                refine WL.storeAll (vs := cs170) hs 1 rfl TI27 ((hu169 5 rfl).trans h102_5) rfl rfl hl171 (hs.ones 0 rfl rfl) rfl (fun w hs => ?_)
                refine WL.nil ⟨rfl, _, rfl, ?_⟩
                refine WA.step [12] (by kernel_rfl) (by simp) ⟨?_, trivial⟩
                refine WL.storeAll (vs := cs172) hs 0 rfl TI27 ((hu169 6 rfl).trans h102_6) rfl rfl hl173 (hs.ones 1 rfl rfl) rfl (fun w hs => ?_)
                refine WL.nil ⟨rfl, _, rfl, ?_⟩
                refine WA.done (by kernel_rfl) ?_
                obtain ⟨a193, c194, a195, c196, rfl⟩ := open_network_Network hs 1 rfl
                have hs := hs.add (it := vl (tSlice t_network_Packet) x146.Packets (.slice a193 (x146.Packets).length c194)) fun ok hA => V_fld F_network_Network_Packets (hA.get 1 rfl) rfl rfl rfl
                have hs := hs.add (it := vl (tSlice t_network_Side) x146.Sides (.slice a195 (x146.Sides).length c196)) fun ok hA => V_fld F_network_Network_Sides (hA.get 2 rfl) rfl rfl rfl
                obtain ⟨a197, c198, a199, c200, rfl⟩ := open_network_Network hs 2 rfl
                have hs := hs.add (it := vl (tSlice t_network_Packet) x145.Packets (.slice a197 (x145.Packets).length c198)) fun ok hA => V_fld F_network_Network_Packets (hA.get 2 rfl) rfl rfl rfl
                have hs := hs.add (it := vl (tSlice t_network_Side) x145.Sides (.slice a199 (x145.Sides).length c200)) fun ok hA => V_fld F_network_Network_Sides (hA.get 3 rfl) rfl rfl rfl
                exact Jk138 x146.Next x146.Packets x146.Sides x145.Next x145.Packets x145.Sides a193 c194 a195 c196 a197 c198 a199 c200 _ _ ((hu169 0 rfl).trans h102_0) ((hu169 1 rfl).trans h102_1) ((hu169 5 rfl).trans h102_5) ((hu169 6 rfl).trans h102_6) ((hu169 7 rfl).trans h102_7) ((hs.mask [true, true]).pick [8, 9, 3, 2, 1, 0]) hf
              · refine WL.storeAll (vs := cs170) hs 1 rfl TI27 ((hu169 5 rfl).trans h102_5) rfl rfl hl171 (hs.ones 0 rfl rfl) rfl (fun w hs => ?_)
                refine WL.nil ⟨rfl, _, rfl, ?_⟩
                refine WA.step [9] (by kernel_rfl) (by simp) ⟨?_, trivial⟩
                refine WL.extract (v := .agg cs172.toArray) e184 rfl ?_
                refine WL.nil ⟨rfl, _, rfl, ?_⟩
                refine WA.step [12] (by kernel_rfl) (by simp) ⟨?_, trivial⟩
                refine WL.storeAll (vs := cs172) hs 0 rfl TI27 ((hu169 6 rfl).trans h102_6) rfl rfl hl173 (hs.ones 1 rfl rfl) rfl (fun w hs => ?_)
                refine WL.nil ⟨rfl, _, rfl, ?_⟩
                refine WA.done (by kernel_rfl) ?_
                obtain ⟨a193, c194, a195, c196, rfl⟩ := open_network_Network hs 1 rfl
                have hs := hs.add (it := vl (tSlice t_network_Packet) x146.Packets (.slice a193 (x146.Packets).length c194)) fun ok hA => V_fld F_network_Network_Packets (hA.get 1 rfl) rfl rfl rfl
                have hs := hs.add (it := vl (tSlice t_network_Side) x146.Sides (.slice a195 (x146.Sides).length c196)) fun ok hA => V_fld F_network_Network_Sides (hA.get 2 rfl) rfl rfl rfl
                obtain ⟨a197, c198, a199, c200, rfl⟩ := open_network_Network hs 2 rfl
                have hs := hs.add (it := vl (tSlice t_network_Packet) x145.Packets (.slice a197 (x145.Packets).length c198)) fun ok hA => V_fld F_network_Network_Packets (hA.get 2 rfl) rfl rfl rfl
                have hs := hs.add (it := vl (tSlice t_network_Side) x145.Sides (.slice a199 (x145.Sides).length c200)) fun ok hA => V_fld F_network_Network_Sides (hA.get 3 rfl) rfl rfl rfl
                exact Jk138 x146.Next x146.Packets x146.Sides x145.Next x145.Packets x145.Sides a193 c194 a195 c196 a197 c198 a199 c200 _ _ ((hu169 0 rfl).trans h102_0) ((hu169 1 rfl).trans h102_1) ((hu169 5 rfl).trans h102_5) ((hu169 6 rfl).trans h102_6) ((hu169 7 rfl).trans h102_7) ((hs.mask [true, true]).pick [8, 9, 3, 2, 1, 0]) hf
            · refine WL.extract (v := .agg cs172.toArray) e184 rfl ?_
              refine WL.nil ⟨rfl, _, rfl, ?_⟩
              refine WA.step [8] (by kernel_rfl) (by simp) ⟨?_, trivial⟩
              refine WL.extract (v := .agg cs170.toArray) e184 rfl ?_
              refine WL.nil ⟨rfl, _, rfl, ?_⟩
              refine WA.step [11] (by kernel_rfl) (by simp) ⟨?_, trivial⟩
              refine WL.storeAll (vs := cs170) hs 1 rfl TI27 ((hu169 5 rfl).trans h102_5) rfl rfl hl171 (hs.ones 0 rfl rfl) rfl (fun w hs => ?_)
              refine WL.nil ⟨rfl, _, rfl, ?_⟩
              refine WA.step [12] (by kernel_rfl) (by simp) ⟨?_, trivial⟩
              refine WL.storeAll (vs := cs172) hs 0 rfl TI27 ((hu169 6 rfl).trans h102_6) rfl rfl hl173 (hs.ones 1 rfl rfl) rfl (fun w hs => ?_)
              refine WL.nil ⟨rfl, _, rfl, ?_⟩
              refine WA.done (by kernel_rfl) ?_
              obtain ⟨a193, c194, a195, c196, rfl⟩ := open_network_Network hs 1 rfl
              have hs := hs.add (it := vl (tSlice t_network_Packet) x146.Packets (.slice a193 (x146.Packets).length c194)) fun ok hA => V_fld F_network_Network_Packets (hA.get 1 rfl) rfl rfl rfl
              have hs := hs.add (it := vl (tSlice t_network_Side) x146.Sides (.slice a195 (x146.Sides).length c196)) fun ok hA => V_fld F_network_Network_Sides (hA.get 2 rfl) rfl rfl rfl
              obtain ⟨a197, c198, a199, c200, rfl⟩ := open_network_Network hs 2 rfl
              have hs := hs.add (it := vl (tSlice t_network_Packet) x145.Packets (.slice a197 (x145.Packets).length c198)) fun ok hA => V_fld F_network_Network_Packets (hA.get 2 rfl) rfl rfl rfl
              have hs := hs.add (it := vl (tSlice t_network_Side) x145.Sides (.slice a199 (x145.Sides).length c200)) fun ok hA => V_fld F_network_Network_Sides (hA.get 3 rfl) rfl rfl rfl
              exact Jk138 x146.Next x146.Packets x146.Sides x145.Next x145.Packets x145.Sides a193 c194 a195 c196 a197 c198 a199 c200 _ _ ((hu169 0 rfl).trans h102_0) ((hu169 1 rfl).trans h102_1) ((hu169 5 rfl).trans h102_5) ((hu169 6 rfl).trans h102_6) ((hu169 7 rfl).trans h102_7) ((hs.mask [true, true]).pick [8, 9, 3, 2, 1, 0]) hf
      · refine W.cond_false (bool_tr rfl hc121) ?_
        refine W.exit ?_
        have hr := Option.some.inj hf; subst hr
        have hr := hbbs118 _ rfl; subst hr
        have hf := hfs118
        exact Jk42 x104 x105 x108 x111 x112 x115 a106 c107 a109 c110 a113 c114 a116 c117 _ _ h102_1 h102_5 h102_6 ((hs.mask [true, true]).pick [1, 2, 3, 4, 5]) hf
  refine W.region ?_
  refine WL.move (v := .slice a2 x1.length c3) rfl ?_
  refine WL.len (v := .slice a2 x1.length c3) rfl (len_slice UN22) ?_
  refine WL.bin (v := .bool (decide (30 < (x1.length : Int)))) rfl rfl (ib_gtr _ _ _) ?_
  refine WL.move (v := .bool (decide (30 < (x1.length : Int)))) rfl ?_
  rcases iteE hf with ⟨hc207, hf⟩ | ⟨hc207, hf⟩
  · refine WL.pass ((wanted_of rfl rfl (bool_tr rfl hc207)).trans rfl) rfl ?_
    refine WL.pass ((wanted_of rfl rfl (bool_tr rfl hc207)).trans rfl) rfl ?_
    refine WL.pass ((wanted_of rfl rfl (bool_tr rfl hc207)).trans rfl) rfl ?_
    refine WL.pickT (v := .bool true) (bool_tr rfl hc207) rfl ?_
    refine WL.nil ?_
    exact Jk12 true _ _ rfl rfl rfl ((hs.mask []).pick [0, 1]) hf
  · refine WL.move (v := .slice a5 x4.length c6) rfl ?_ (hg := (wanted_of rfl rfl (bool_tr rfl hc207)).trans rfl)
    refine WL.len (v := .slice a5 x4.length c6) rfl (len_slice UN22) ?_ (hg := (wanted_of rfl rfl (bool_tr rfl hc207)).trans rfl)
    refine WL.bin (v := .bool (decide (20 < (x4.length : Int)))) rfl rfl (ib_gtr _ _ _) ?_ (hg := (wanted_of rfl rfl (bool_tr rfl hc207)).trans rfl)
    refine WL.pickF (v := .bool (decide (20 < (x4.length : Int)))) (bool_tr rfl hc207) rfl ?_
    refine WL.nil ?_
    exact Jk12 (decide (20 < (x4.length : Int))) _ _ rfl rfl rfl ((hs.mask []).pick [0, 1]) hf
end Go.Proofs.Ytahobbichanccaa
