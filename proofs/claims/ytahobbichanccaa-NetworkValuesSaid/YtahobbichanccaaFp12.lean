import Derived.Test.YtahobbichanccaaFh
import Derived.Test.YtahobbichanccaaFp7
set_option linter.unusedVariables false
set_option linter.unusedSimpArgs false
namespace Go.Proofs.Ytahobbichanccaa
open Go Go.RowKit Go.Proofs.YtahobbichanccaaL
set_option maxRecDepth 100000
set_option maxHeartbeats 400000
/-! elasticstore/elasticstorelaw34.Equal: function 16 -/
theorem eslaw34_Equal.calls {ok : Nat → Prop} {w0 : World} {x1 : network_Network} {x5 : network_Network} {v2 : Value} {v6 : Value} {r : Bool} (hf : eslaw34_Equal x1 x5 = some r) (i0 : (vl t_network_Network x1 v2).holds ok w0) (i1 : (vl t_network_Network x5 v6).holds ok w0) :
    Calls Try.prog 16 #[v2, v6] w0 fun e w' => ∃ v, e = .returned v ∧ ∃ y : Unit, v = .bool r ∧ St ok (bz w0) w' [] [] := by
  unfold eslaw34_Equal at hf
  refine calls_of_W (fn := Try.f16) (N := 84) Try.func16 rfl Try.ntmps16 rfl ?_
  have hs : St ok (bz w0) w0 [vl t_network_Network x1 v2, vl t_network_Network x5 v6] [] := St.init (All.cons i0 (All.cons i1 All.nil))
  clear i0 i1
  obtain ⟨cs3, hl4, rfl⟩ := hs.aggv (n := 3) 0 rfl rfl rfl
  obtain ⟨cs7, hl8, rfl⟩ := hs.aggv (n := 3) 1 rfl rfl rfl
  refine W.seqK fun K9 hK9 => ?_
  refine W.region ?_
  refine WL.box (vs := cs3) hs rfl rfl (fun g10 w hs => ?_)
  refine WL.box (vs := cs7) hs rfl rfl (fun g11 w hs => ?_)
  refine WL.assign (v := .bool false) rfl ?_
  refine WL.nil ?_
  refine hK9 _ _ ?_
  refine W.seqK fun K12 hK12 => ?_
  refine W.seqK fun K13 hK13 => ?_
  have Jk16 : ∀ (x15 : Bool) (ρ : Env) (w : World), ρ 2 = .pointer (some ⟨g10, 0, none⟩) → ρ 3 = .pointer (some ⟨g11, 0, none⟩) → ρ 29 = .bool x15 → St ok (bz w0) w [vl t_network_Network x5 (.agg cs7.toArray), vl t_network_Network x1 (.agg cs3.toArray)] [blk g11 27 cs7, blk g10 27 cs3] → eslaw34_Equal.j4 x1 x5 x15 = some r → K13 ρ w := by
    intro x15 ρ w h14_2 h14_3 h14_29 hs hf
    refine hK13 _ _ ?_
    unfold eslaw34_Equal.j4 at hf
    rcases iteE hf with ⟨hc17, hf⟩ | ⟨hc17, hf⟩
    · refine W.cond_true (bool_tr h14_29 hc17) ?_
      refine W.seqK fun K18 hK18 => ?_
      refine W.region ?_
      refine WL.assign (v := .bool false) rfl ?_
      refine WL.nil ?_
      refine hK18 _ _ ?_
      refine W.ret ?_
      have hr := Option.some.inj hf; subst hr
      exact ⟨_, resOk_one rfl rfl, (), rfl, (hs.mask []).pick []⟩
    · refine W.cond_false (bool_tr h14_29 hc17) ?_
      refine W.skip ?_
      refine hK12 _ _ ?_
      refine W.seqK fun K19 hK19 => ?_
      have Jk21 : ∀  (ρ : Env) (w : World), ρ 2 = .pointer (some ⟨g10, 0, none⟩) → ρ 3 = .pointer (some ⟨g11, 0, none⟩) → St ok (bz w0) w [vl t_network_Network x5 (.agg cs7.toArray), vl t_network_Network x1 (.agg cs3.toArray)] [blk g11 27 cs7, blk g10 27 cs3] → eslaw34_Equal.j2 x1 x5 = some r → K19 ρ w := by
        intro  ρ w h20_2 h20_3 hs hf
        refine hK19 _ _ ?_
        unfold eslaw34_Equal.j2 at hf
        refine W.seqK fun K22 hK22 => ?_
        have Jk24 : ∀  (ρ : Env) (w : World), St ok (bz w0) w [] [] → eslaw34_Equal.j1 = some r → K22 ρ w := by
          intro  ρ w  hs hf
          refine hK22 _ _ ?_
          unfold eslaw34_Equal.j1 at hf
          refine W.seqK fun K25 hK25 => ?_
          refine W.region ?_
          refine WL.assign (v := .bool true) rfl ?_
          refine WL.nil ?_
          refine hK25 _ _ ?_
          refine W.ret ?_
          have hr := Option.some.inj hf; subst hr
          exact ⟨_, resOk_one rfl rfl, (), rfl, (hs.mask []).pick []⟩
        refine W.seqK fun K26 hK26 => ?_
        refine W.region ?_
        refine WL.assign (v := .int .i64 0) rfl ?_
        refine WL.nil ?_
        refine hK26 _ _ ?_
        refine W.block ?_
        obtain ⟨bs29, hbs29, hfs29⟩ := bindE hf
        refine W.loop hbs29 (fun s ρ w => match s with | x28 => ρ 2 = .pointer (some ⟨g10, 0, none⟩) ∧ ρ 3 = .pointer (some ⟨g11, 0, none⟩) ∧ ρ 6 = .int .i64 x28 ∧ St ok (bz w0) w [vl t_network_Network x5 (.agg cs7.toArray), vl t_network_Network x1 (.agg cs3.toArray)] [blk g11 27 cs7, blk g10 27 cs3]) ⟨h20_2, h20_3, rfl, (hs.mask [true, true]).pick [0, 1]⟩ ?_
        intro x28 ρ w os29 hI hf hbbs29
        obtain ⟨h27_2, h27_3, h27_6, hs⟩ := hI
        unfold eslaw34_Equal.l1 at hf
        refine W.seqK fun K30 hK30 => ?_
        refine W.seqK fun K31 hK31 => ?_
        refine W.region ?_
        refine WL.move (v := .int .i64 x28) h27_6 ?_
        refine WL.fieldAddr (m := 2) h27_2 FA27_2 rfl ?_
        refine WL.loadF (z := x1.Sides) F_network_Network_Sides hs 1 rfl 1 rfl rfl TI23 (.inr rfl) rfl rfl (fun v32 hs => ?_)
        obtain ⟨a33, c34, rfl⟩ := hs.slice 0 rfl
        refine WL.len (v := .slice a33 (x1.Sides).length c34) rfl (len_slice UN23) ?_
        refine WL.bin (v := .bool (decide (x28 < ((x1.Sides).length : Int)))) rfl rfl (ib_lss _ _ _) ?_
        refine WL.nil ?_
        refine hK31 _ _ ?_
        rcases iteE hf with ⟨hc35, hf⟩ | ⟨hc35, hf⟩
        · refine W.cond_true (bool_tr rfl hc35) ?_
          refine W.skip ?_
          refine hK30 _ _ ?_
          refine W.seqK fun K36 hK36 => ?_
          refine W.block ?_
          refine W.seqK fun K37 hK37 => ?_
          obtain ⟨x41, hxx41, hf⟩ := bindE hf
          obtain ⟨x49, hxx49, hf⟩ := bindE hf
          refine W.any (by kernel_rfl) 11 0 [true, true, true, true, true, true, true, true, true, true, true] rfl rfl (poAt [pv (.pointer (some ⟨g10, 2, none⟩)), pq (fun y : (Option Addr × Nat) => .slice y.1 (x1.Sides).length y.2) (fun v => [vl (tSlice t_network_Side) x1.Sides v]) (fun v => []), pv (.int .i64 x28), pq (fun y : Addr => .pointer (some y)) (fun v => [pl t_network_Side x41 (adOf v)]) (fun v => []), pq (fun y : List Value => .agg y.toArray) (fun v => [vl t_network_Side x41 v]) (fun v => []), pv (.pointer (some ⟨g11, 2, none⟩)), pq (fun y : (Option Addr × Nat) => .slice y.1 (x5.Sides).length y.2) (fun v => [vl (tSlice t_network_Side) x5.Sides v]) (fun v => []), pv (.int .i64 x28), pq (fun y : Addr => .pointer (some y)) (fun v => [pl t_network_Side x49 (adOf v)]) (fun v => []), pq (fun y : List Value => .agg y.toArray) (fun v => [vl t_network_Side x49 v]) (fun v => []), pv (.bool (!decide ((⟨x41.Process, x41.Side⟩ : network_Side) = (⟨x49.Process, x49.Side⟩ : network_Side))))]) (Λ := [blk g11 27 cs7, blk g10 27 cs3]) hs (by kernel_rfl) (by kernel_rfl) (by kernel_rfl) ⟨⟨⟨⟨⟨⟨⟨⟨⟨⟨⟨trivial, ?_⟩, ?_⟩, ?_⟩, ?_⟩, ?_⟩, ?_⟩, ?_⟩, ?_⟩, ?_⟩, ?_⟩, ?_⟩ ?_
          · intro ρ w Γx Λx hs hu hp
            refine WL.fieldAddr (m := 2) ((hu 2 rfl).trans h27_2) FA27_2 rfl ?_
            exact WL.nil ⟨rfl, _, rfl, rfl, hs.cutG 0 0⟩
          · intro ρ w Γx Λx hs hu hp
            have e54 : ρ 73 = .pointer (some ⟨g10, 2, none⟩) := (hp 0 rfl).1
            refine WL.loadF (z := x1.Sides) F_network_Network_Sides hs (Λx.length + 1) (getApp rfl) (Γx.length + 2) (getApp rfl) rfl TI23 (.inr rfl) e54 rfl (fun v38 hs => ?_)
            obtain ⟨a39, c40, rfl⟩ := hs.slice 0 rfl
            have hs := hs.add (it := vl (tSlice t_network_Side) x1.Sides (.slice a39 (x1.Sides).length c40)) fun ok hA => hA.get 0 rfl
            exact WL.nil ⟨rfl, _, rfl, ⟨(a39, c40), rfl⟩, hs.cutG 1 1⟩
          · intro ρ w Γx Λx hs hu hp
            refine WL.move (v := .int .i64 x28) ((hu 6 rfl).trans h27_6) ?_
            exact WL.nil ⟨rfl, _, rfl, rfl, hs.cutG 0 0⟩
          · intro ρ w Γx Λx hs hu hp
            obtain ⟨⟨⟨a55, c56⟩, e57r⟩, hm58⟩ := hp 1 rfl
            have e57 : ρ 74 = .slice a55 (x1.Sides).length c56 := e57r
            rw [e57r] at hm58
            have hs := hs.memo1 (it := vl (tSlice t_network_Side) x1.Sides (.slice a55 (x1.Sides).length c56)) (List.mem_append.2 (.inl (hm58 _ (List.mem_of_getElem? (i := 0) rfl))))
            have e59 : ρ 75 = .int .i64 x28 := (hp 2 rfl).1
            refine WL.indexAddr hs 0 rfl UN23 TI69 e57 e59 hxx41 (fun ad42 hs => ?_)
            have hs := hs.add (it := pl t_network_Side x41 ad42) fun ok hA => hA.get 0 rfl
            exact WL.nil ⟨rfl, _, rfl, ⟨ad42, rfl⟩, hs.cutG 1 2⟩
          · intro ρ w Γx Λx hs hu hp
            obtain ⟨⟨ad60, e61r⟩, hm62⟩ := hp 3 rfl
            have e61 : ρ 76 = .pointer (some ad60) := e61r
            rw [e61r] at hm62
            have hs := hs.memo1 (it := pl t_network_Side x41 ad60) (List.mem_append.2 (.inl (hm62 _ (List.mem_of_getElem? (i := 0) rfl))))
            refine WL.loadP hs 0 rfl TI69 (.inl rfl) e61 (fun v43 hs => ?_)
            obtain ⟨cs44, hl45, rfl⟩ := hs.aggv (n := 2) 0 rfl rfl rfl
            have hs := hs.add (it := vl t_network_Side x41 (.agg cs44.toArray)) fun ok hA => hA.get 0 rfl
            exact WL.nil ⟨rfl, _, rfl, ⟨cs44, rfl⟩, hs.cutG 1 2⟩
          · intro ρ w Γx Λx hs hu hp
            refine WL.fieldAddr (m := 2) ((hu 3 rfl).trans h27_3) FA27_2 rfl ?_
            exact WL.nil ⟨rfl, _, rfl, rfl, hs.cutG 0 0⟩
          · intro ρ w Γx Λx hs hu hp
            have e63 : ρ 78 = .pointer (some ⟨g11, 2, none⟩) := (hp 5 rfl).1
            refine WL.loadF (z := x5.Sides) F_network_Network_Sides hs (Λx.length + 0) (getApp rfl) (Γx.length + 1) (getApp rfl) rfl TI23 (.inr rfl) e63 rfl (fun v46 hs => ?_)
            obtain ⟨a47, c48, rfl⟩ := hs.slice 0 rfl
            have hs := hs.add (it := vl (tSlice t_network_Side) x5.Sides (.slice a47 (x5.Sides).length c48)) fun ok hA => hA.get 0 rfl
            exact WL.nil ⟨rfl, _, rfl, ⟨(a47, c48), rfl⟩, hs.cutG 1 1⟩
          · intro ρ w Γx Λx hs hu hp
            refine WL.move (v := .int .i64 x28) ((hu 6 rfl).trans h27_6) ?_
            exact WL.nil ⟨rfl, _, rfl, rfl, hs.cutG 0 0⟩
          · intro ρ w Γx Λx hs hu hp
            obtain ⟨⟨⟨a64, c65⟩, e66r⟩, hm67⟩ := hp 6 rfl
            have e66 : ρ 79 = .slice a64 (x5.Sides).length c65 := e66r
            rw [e66r] at hm67
            have hs := hs.memo1 (it := vl (tSlice t_network_Side) x5.Sides (.slice a64 (x5.Sides).length c65)) (List.mem_append.2 (.inl (hm67 _ (List.mem_of_getElem? (i := 0) rfl))))
            have e68 : ρ 80 = .int .i64 x28 := (hp 7 rfl).1
            refine WL.indexAddr hs 0 rfl UN23 TI69 e66 e68 hxx49 (fun ad50 hs => ?_)
            have hs := hs.add (it := pl t_network_Side x49 ad50) fun ok hA => hA.get 0 rfl
            exact WL.nil ⟨rfl, _, rfl, ⟨ad50, rfl⟩, hs.cutG 1 2⟩
          · intro ρ w Γx Λx hs hu hp
            obtain ⟨⟨ad69, e70r⟩, hm71⟩ := hp 8 rfl
            have e70 : ρ 81 = .pointer (some ad69) := e70r
            rw [e70r] at hm71
            have hs := hs.memo1 (it := pl t_network_Side x49 ad69) (List.mem_append.2 (.inl (hm71 _ (List.mem_of_getElem? (i := 0) rfl))))
            refine WL.loadP hs 0 rfl TI69 (.inl rfl) e70 (fun v51 hs => ?_)
            obtain ⟨cs52, hl53, rfl⟩ := hs.aggv (n := 2) 0 rfl rfl rfl
            have hs := hs.add (it := vl t_network_Side x49 (.agg cs52.toArray)) fun ok hA => hA.get 0 rfl
            exact WL.nil ⟨rfl, _, rfl, ⟨cs52, rfl⟩, hs.cutG 1 2⟩
          · intro ρ w Γx Λx hs hu hp
            obtain ⟨⟨cs72, e74r⟩, hm75⟩ := hp 4 rfl
            have e74 : ρ 77 = .agg cs72.toArray := e74r
            rw [e74r] at hm75
            have hs := hs.memo1 (it := vl t_network_Side x41 (.agg cs72.toArray)) (List.mem_append.2 (.inl (hm75 _ (List.mem_of_getElem? (i := 0) rfl))))
            have hl73 := hs.agglen (n := 2) 0 rfl rfl rfl
            obtain ⟨⟨cs76, e78r⟩, hm79⟩ := hp 9 rfl
            have e78 : ρ 82 = .agg cs76.toArray := e78r
            rw [e78r] at hm79
            have hs := hs.memo1 (it := vl t_network_Side x49 (.agg cs76.toArray)) (List.mem_cons_of_mem _ (List.mem_append.2 (.inl (hm79 _ (List.mem_of_getElem? (i := 0) rfl)))))
            have hl77 := hs.agglen (n := 2) 0 rfl rfl rfl
            obtain rfl := open_network_Side hs 1 rfl
            obtain rfl := open_network_Side hs 0 rfl
            refine WL.eqA e74 e78 EG69 (NQ69 (⟨x41.Process, x41.Side⟩ : network_Side) (⟨x49.Process, x49.Side⟩ : network_Side)) ?_
            exact WL.nil ⟨rfl, _, rfl, rfl, hs.cutG 0 2⟩
          · intro ρ w hs hu80 hp
            obtain ⟨⟨⟨⟨⟨⟨⟨⟨⟨⟨⟨_, hp0_⟩, hp1_⟩, hp2_⟩, hp3_⟩, hp4_⟩, hp5_⟩, hp6_⟩, hp7_⟩, hp8_⟩, hp9_⟩, hp10_⟩ := hp
            have hs : St ok (bz w0) w [vl t_network_Side x49 (ρ 82), pl t_network_Side x49 (adOf (ρ 81)), vl (tSlice t_network_Side) x5.Sides (ρ 79), vl t_network_Side x41 (ρ 77), pl t_network_Side x41 (adOf (ρ 76)), vl (tSlice t_network_Side) x1.Sides (ρ 74), vl (tSlice t_network_Side) x1.Sides (.slice a33 (x1.Sides).length c34), vl t_network_Network x5 (.agg cs7.toArray), vl t_network_Network x1 (.agg cs3.toArray)] [blk g11 27 cs7, blk g10 27 cs3] := hs
            have e81 : ρ 83 = .bool (!decide ((⟨x41.Process, x41.Side⟩ : network_Side) = (⟨x49.Process, x49.Side⟩ : network_Side))) := hp10_
            obtain ⟨cs82, e84⟩ := hp9_
            have e84 : ρ 82 = .agg cs82.toArray := e84
            try rw [e84] at hs
            obtain ⟨ad85, e86⟩ := hp8_
            have e86 : ρ 81 = .pointer (some ad85) := e86
            try rw [e86] at hs
            have e87 : ρ 80 = .int .i64 x28 := hp7_
            obtain ⟨⟨a88, c89⟩, e90⟩ := hp6_
            have e90 : ρ 79 = .slice a88 (x5.Sides).length c89 := e90
            try rw [e90] at hs
            have e91 : ρ 78 = .pointer (some ⟨g11, 2, none⟩) := hp5_
            obtain ⟨cs92, e94⟩ := hp4_
            have e94 : ρ 77 = .agg cs92.toArray := e94
            try rw [e94] at hs
            obtain ⟨ad95, e96⟩ := hp3_
            have e96 : ρ 76 = .pointer (some ad95) := e96
            try rw [e96] at hs
            have e97 : ρ 75 = .int .i64 x28 := hp2_
            obtain ⟨⟨a98, c99⟩, e100⟩ := hp1_
            have e100 : ρ 74 = .slice a98 (x1.Sides).length c99 := e100
            try rw [e100] at hs
            have e101 : ρ 73 = .pointer (some ⟨g10, 2, none⟩) := hp0_
            have hl93 := hs.agglen (n := 2) 3 rfl rfl rfl
            have hl83 := hs.agglen (n := 2) 0 rfl rfl rfl
            refine WA.done (by kernel_rfl) ?_
            refine hK37 _ _ ?_
            rcases iteE hf with ⟨hc102, hf⟩ | ⟨hc102, hf⟩
            · refine W.cond_true (bool_tr e81 hc102) ?_
              refine W.seqK fun K103 hK103 => ?_
              refine W.region ?_
              refine WL.assign (v := .bool false) rfl ?_
              refine WL.nil ?_
              refine hK103 _ _ ?_
              refine W.ret ?_
              have hr := Option.some.inj hf; subst hr
              have hr := hbbs29 _ rfl; subst hr
              have hf := hfs29
              have hr := Option.some.inj hf; subst hr
              exact ⟨_, resOk_one rfl rfl, (), rfl, (hs.mask []).pick []⟩
            · refine W.cond_false (bool_tr e81 hc102) ?_
              refine W.skip ?_
              refine hK36 _ _ ?_
              refine W.region ?_
              refine WL.move (v := .int .i64 x28) ((hu80 6 rfl).trans h27_6) ?_
              obtain ⟨x104, ex104, hf⟩ := letE hf
              refine WL.bin (v := .int .i64 x104) rfl rfl (ib_as ex104 (ib_add _ _ _)) ?_
              refine WL.assign (v := .int .i64 x104) rfl ?_
              refine WL.nil ?_
              exact ⟨_, (Option.some.inj hf).symm, ((hu80 2 rfl).trans h27_2), ((hu80 3 rfl).trans h27_3), rfl, (hs.mask [true, true]).pick [7, 8]⟩
        · refine W.cond_false (bool_tr rfl hc35) ?_
          refine W.exit ?_
          have hr := Option.some.inj hf; subst hr
          have hr := hbbs29 _ rfl; subst hr
          have hf := hfs29
          exact Jk24  _ _  ((hs.mask []).pick []) hf
      refine W.seqK fun K106 hK106 => ?_
      refine W.region ?_
      refine WL.assign (v := .int .i64 0) rfl ?_
      refine WL.nil ?_
      refine hK106 _ _ ?_
      refine W.block ?_
      obtain ⟨bs109, hbs109, hfs109⟩ := bindE hf
      refine W.loop hbs109 (fun s ρ w => match s with | x108 => ρ 2 = .pointer (some ⟨g10, 0, none⟩) ∧ ρ 3 = .pointer (some ⟨g11, 0, none⟩) ∧ ρ 5 = .int .i64 x108 ∧ St ok (bz w0) w [vl t_network_Network x5 (.agg cs7.toArray), vl t_network_Network x1 (.agg cs3.toArray)] [blk g11 27 cs7, blk g10 27 cs3]) ⟨h14_2, h14_3, rfl, (hs.mask [true, true]).pick [0, 1]⟩ ?_
      intro x108 ρ w os109 hI hf hbbs109
      obtain ⟨h107_2, h107_3, h107_5, hs⟩ := hI
      unfold eslaw34_Equal.l2 at hf
      refine W.seqK fun K110 hK110 => ?_
      refine W.seqK fun K111 hK111 => ?_
      refine W.region ?_
      refine WL.move (v := .int .i64 x108) h107_5 ?_
      refine WL.fieldAddr (m := 1) h107_2 FA27_1 rfl ?_
      refine WL.loadF (z := x1.Packets) F_network_Network_Packets hs 1 rfl 1 rfl rfl TI25 (.inr rfl) rfl rfl (fun v112 hs => ?_)
      obtain ⟨a113, c114, rfl⟩ := hs.slice 0 rfl
      refine WL.len (v := .slice a113 (x1.Packets).length c114) rfl (len_slice UN25) ?_
      refine WL.bin (v := .bool (decide (x108 < ((x1.Packets).length : Int)))) rfl rfl (ib_lss _ _ _) ?_
      refine WL.nil ?_
      refine hK111 _ _ ?_
      rcases iteE hf with ⟨hc115, hf⟩ | ⟨hc115, hf⟩
      · refine W.cond_true (bool_tr rfl hc115) ?_
        refine W.skip ?_
        refine hK110 _ _ ?_
        refine W.seqK fun K116 hK116 => ?_
        refine W.block ?_
        refine W.seqK fun K117 hK117 => ?_
        have Jk120 : ∀ (x119 : Bool) (ρ : Env) (w : World), ρ 2 = .pointer (some ⟨g10, 0, none⟩) → ρ 3 = .pointer (some ⟨g11, 0, none⟩) → ρ 5 = .int .i64 x108 → ρ 65 = .bool x119 → St ok (bz w0) w [vl t_network_Network x5 (.agg cs7.toArray), vl t_network_Network x1 (.agg cs3.toArray)] [blk g11 27 cs7, blk g10 27 cs3] → eslaw34_Equal.j3 x108 x119 = some os109 → K117 ρ w := by
          intro x119 ρ w h118_2 h118_3 h118_5 h118_65 hs hf
          refine hK117 _ _ ?_
          unfold eslaw34_Equal.j3 at hf
          rcases iteE hf with ⟨hc121, hf⟩ | ⟨hc121, hf⟩
          · refine W.cond_true (bool_tr h118_65 hc121) ?_
            refine W.seqK fun K122 hK122 => ?_
            refine W.region ?_
            refine WL.assign (v := .bool false) rfl ?_
            refine WL.nil ?_
            refine hK122 _ _ ?_
            refine W.ret ?_
            have hr := Option.some.inj hf; subst hr
            have hr := hbbs109 _ rfl; subst hr
            have hf := hfs109
            have hr := Option.some.inj hf; subst hr
            exact ⟨_, resOk_one rfl rfl, (), rfl, (hs.mask []).pick []⟩
          · refine W.cond_false (bool_tr h118_65 hc121) ?_
            refine W.skip ?_
            refine hK116 _ _ ?_
            refine W.region ?_
            refine WL.move (v := .int .i64 x108) h118_5 ?_
            obtain ⟨x123, ex123, hf⟩ := letE hf
            refine WL.bin (v := .int .i64 x123) rfl rfl (ib_as ex123 (ib_add _ _ _)) ?_
            refine WL.assign (v := .int .i64 x123) rfl ?_
            refine WL.nil ?_
            exact ⟨_, (Option.some.inj hf).symm, h118_2, h118_3, rfl, (hs.mask [true, true]).pick [0, 1]⟩
        obtain ⟨x127, hxx127, hf⟩ := bindE hf
        obtain ⟨x134, hxx134, hf⟩ := bindE hf
        rcases iteE hf with ⟨hc138, hf⟩ | ⟨hc138, hf⟩
        · refine W.any (by kernel_rfl) 29 0 [true, true, true, true, true, true, true, true, true, true, true, true, true, true, true, true, true, true, true, true, true, true, true, true, true, true, true, true, true] rfl rfl (poAt [pv (.pointer (some ⟨g10, 1, none⟩)), pq (fun y : (Option Addr × Nat) => .slice y.1 (x1.Packets).length y.2) (fun v => [vl (tSlice t_network_Packet) x1.Packets v]) (fun v => []), pv (.int .i64 x108), pq (fun y : Addr => .pointer (some y)) (fun v => [pl t_network_Packet x127 (adOf v)]) (fun v => []), pq (fun y : Addr => .pointer (some y)) (fun v => [pl (tInt .i64) x127.ID (adOf v)]) (fun v => []), pv (.int .i64 x127.ID), pv (.pointer (some ⟨g11, 1, none⟩)), pq (fun y : (Option Addr × Nat) => .slice y.1 (x5.Packets).length y.2) (fun v => [vl (tSlice t_network_Packet) x5.Packets v]) (fun v => []), pv (.int .i64 x108), pq (fun y : Addr => .pointer (some y)) (fun v => [pl t_network_Packet x134 (adOf v)]) (fun v => []), pq (fun y : Addr => .pointer (some y)) (fun v => [pl (tInt .i64) x134.ID (adOf v)]) (fun v => []), pv (.int .i64 x134.ID), pv (.bool (x127.ID != x134.ID)), pv (.bool (x127.ID != x134.ID)), pv (undef), pv (undef), pv (undef), pv (undef), pv (undef), pv (undef), pv (undef), pv (undef), pv (undef), pv (undef), pv (undef), pv (undef), pv (undef), pv (undef), pv (.bool true)]) (Λ := [blk g11 27 cs7, blk g10 27 cs3]) hs (by kernel_rfl) (by kernel_rfl) (by kernel_rfl) ⟨⟨⟨⟨⟨⟨⟨⟨⟨⟨⟨⟨⟨⟨⟨⟨⟨⟨⟨⟨⟨⟨⟨⟨⟨⟨⟨⟨⟨trivial, ?_⟩, ?_⟩, ?_⟩, ?_⟩, ?_⟩, ?_⟩, ?_⟩, ?_⟩, ?_⟩, ?_⟩, ?_⟩, ?_⟩, ?_⟩, ?_⟩, ?_⟩, ?_⟩, ?_⟩, ?_⟩, ?_⟩, ?_⟩, ?_⟩, ?_⟩, ?_⟩, ?_⟩, ?_⟩, ?_⟩, ?_⟩, ?_⟩, ?_⟩ ?_
          · intro ρ w Γx Λx hs hu hp
            refine WL.fieldAddr (m := 1) ((hu 2 rfl).trans h107_2) FA27_1 rfl ?_
            exact WL.nil ⟨rfl, _, rfl, rfl, hs.cutG 0 0⟩
          · intro ρ w Γx Λx hs hu hp
            have e139 : ρ 37 = .pointer (some ⟨g10, 1, none⟩) := (hp 0 rfl).1
            refine WL.loadF (z := x1.Packets) F_network_Network_Packets hs (Λx.length + 1) (getApp rfl) (Γx.length + 2) (getApp rfl) rfl TI25 (.inr rfl) e139 rfl (fun v124 hs => ?_)
            obtain ⟨a125, c126, rfl⟩ := hs.slice 0 rfl
            have hs := hs.add (it := vl (tSlice t_network_Packet) x1.Packets (.slice a125 (x1.Packets).length c126)) fun ok hA => hA.get 0 rfl
            exact WL.nil ⟨rfl, _, rfl, ⟨(a125, c126), rfl⟩, hs.cutG 1 1⟩
          · intro ρ w Γx Λx hs hu hp
            refine WL.move (v := .int .i64 x108) ((hu 5 rfl).trans h107_5) ?_
            exact WL.nil ⟨rfl, _, rfl, rfl, hs.cutG 0 0⟩
          · intro ρ w Γx Λx hs hu hp
            obtain ⟨⟨⟨a140, c141⟩, e142r⟩, hm143⟩ := hp 1 rfl
            have e142 : ρ 38 = .slice a140 (x1.Packets).length c141 := e142r
            rw [e142r] at hm143
            have hs := hs.memo1 (it := vl (tSlice t_network_Packet) x1.Packets (.slice a140 (x1.Packets).length c141)) (List.mem_append.2 (.inl (hm143 _ (List.mem_of_getElem? (i := 0) rfl))))
            have e144 : ρ 39 = .int .i64 x108 := (hp 2 rfl).1
            refine WL.indexAddr hs 0 rfl UN25 TI51 e142 e144 hxx127 (fun ad128 hs => ?_)
            have hs := hs.add (it := pl t_network_Packet x127 ad128) fun ok hA => hA.get 0 rfl
            exact WL.nil ⟨rfl, _, rfl, ⟨ad128, rfl⟩, hs.cutG 1 2⟩
          · intro ρ w Γx Λx hs hu hp
            obtain ⟨⟨ad145, e146r⟩, hm147⟩ := hp 3 rfl
            have e146 : ρ 40 = .pointer (some ad145) := e146r
            rw [e146r] at hm147
            have hs := hs.memo1 (it := pl t_network_Packet x127 ad145) (List.mem_append.2 (.inl (hm147 _ (List.mem_of_getElem? (i := 0) rfl))))
            refine WL.fieldAddrP (z := x127.ID) F_network_Packet_ID hs 0 rfl e146 FA51_0 rfl (fun ad129 hs => ?_)
            have hs := hs.add (it := pl (tInt .i64) x127.ID ad129) fun ok hA => hA.get 0 rfl
            exact WL.nil ⟨rfl, _, rfl, ⟨ad129, rfl⟩, hs.cutG 1 2⟩
          · intro ρ w Γx Λx hs hu hp
            obtain ⟨⟨ad148, e149r⟩, hm150⟩ := hp 4 rfl
            have e149 : ρ 41 = .pointer (some ad148) := e149r
            rw [e149r] at hm150
            have hs := hs.memo1 (it := pl (tInt .i64) x127.ID ad148) (List.mem_append.2 (.inl (hm150 _ (List.mem_of_getElem? (i := 0) rfl))))
            refine WL.loadP hs 0 rfl TI3 (.inr rfl) e149 (fun v130 hs => ?_)
            obtain rfl := hs.int 0 rfl
            exact WL.nil ⟨rfl, _, rfl, rfl, hs.cutG 0 2⟩
          · intro ρ w Γx Λx hs hu hp
            refine WL.fieldAddr (m := 1) ((hu 3 rfl).trans h107_3) FA27_1 rfl ?_
            exact WL.nil ⟨rfl, _, rfl, rfl, hs.cutG 0 0⟩
          · intro ρ w Γx Λx hs hu hp
            have e151 : ρ 43 = .pointer (some ⟨g11, 1, none⟩) := (hp 6 rfl).1
            refine WL.loadF (z := x5.Packets) F_network_Network_Packets hs (Λx.length + 0) (getApp rfl) (Γx.length + 1) (getApp rfl) rfl TI25 (.inr rfl) e151 rfl (fun v131 hs => ?_)
            obtain ⟨a132, c133, rfl⟩ := hs.slice 0 rfl
            have hs := hs.add (it := vl (tSlice t_network_Packet) x5.Packets (.slice a132 (x5.Packets).length c133)) fun ok hA => hA.get 0 rfl
            exact WL.nil ⟨rfl, _, rfl, ⟨(a132, c133), rfl⟩, hs.cutG 1 1⟩
          · intro ρ w Γx Λx hs hu hp
            refine WL.move (v := .int .i64 x108) ((hu 5 rfl).trans h107_5) ?_
            exact WL.nil ⟨rfl, _, rfl, rfl, hs.cutG 0 0⟩
          · intro ρ w Γx Λx hs hu hp
            obtain ⟨⟨⟨a152, c153⟩, e154r⟩, hm155⟩ := hp 7 rfl
            have e154 : ρ 44 = .slice a152 (x5.Packets).length c153 := e154r
            rw [e154r] at hm155
            have hs := hs.memo1 (it := vl (tSlice t_network_Packet) x5.Packets (.slice a152 (x5.Packets).length c153)) (List.mem_append.2 (.inl (hm155 _ (List.mem_of_getElem? (i := 0) rfl))))
            have e156 : ρ 45 = .int .i64 x108 := (hp 8 rfl).1
            refine WL.indexAddr hs 0 rfl UN25 TI51 e154 e156 hxx134 (fun ad135 hs => ?_)
            have hs := hs.add (it := pl t_network_Packet x134 ad135) fun ok hA => hA.get 0 rfl
            exact WL.nil ⟨rfl, _, rfl, ⟨ad135, rfl⟩, hs.cutG 1 2⟩
          · intro ρ w Γx Λx hs hu hp
            obtain ⟨⟨ad157, e158r⟩, hm159⟩ := hp 9 rfl
            have e158 : ρ 46 = .pointer (some ad157) := e158r
            rw [e158r] at hm159
            have hs := hs.memo1 (it := pl t_network_Packet x134 ad157) (List.mem_append.2 (.inl (hm159 _ (List.mem_of_getElem? (i := 0) rfl))))
            refine WL.fieldAddrP (z := x134.ID) F_network_Packet_ID hs 0 rfl e158 FA51_0 rfl (fun ad136 hs => ?_)
            have hs := hs.add (it := pl (tInt .i64) x134.ID ad136) fun ok hA => hA.get 0 rfl
            exact WL.nil ⟨rfl, _, rfl, ⟨ad136, rfl⟩, hs.cutG 1 2⟩
          · intro ρ w Γx Λx hs hu hp
            obtain ⟨⟨ad160, e161r⟩, hm162⟩ := hp 10 rfl
            have e161 : ρ 47 = .pointer (some ad160) := e161r
            rw [e161r] at hm162
            have hs := hs.memo1 (it := pl (tInt .i64) x134.ID ad160) (List.mem_append.2 (.inl (hm162 _ (List.mem_of_getElem? (i := 0) rfl))))
            refine WL.loadP hs 0 rfl TI3 (.inr rfl) e161 (fun v137 hs => ?_)
            obtain rfl := hs.int 0 rfl
            exact WL.nil ⟨rfl, _, rfl, rfl, hs.cutG 0 2⟩
          · intro ρ w Γx Λx hs hu hp
            have e163 : ρ 42 = .int .i64 x127.ID := (hp 5 rfl).1
            have e164 : ρ 48 = .int .i64 x134.ID := (hp 11 rfl).1
            refine WL.bin (v := .bool (x127.ID != x134.ID)) e163 e164 (ib_neq _ _ _) ?_
            exact WL.nil ⟨rfl, _, rfl, rfl, hs.cutG 0 0⟩
          · intro ρ w Γx Λx hs hu hp
            have e165 : ρ 49 = .bool (x127.ID != x134.ID) := (hp 12 rfl).1
            refine WL.move (v := .bool (x127.ID != x134.ID)) e165 ?_
            exact WL.nil ⟨rfl, _, rfl, rfl, hs.cutG 0 0⟩
          · intro ρ w Γx Λx hs hu hp
            have e166 : ρ 50 = .bool (x127.ID != x134.ID) := (hp 13 rfl).1
            refine WL.pass ((wanted_of rfl rfl (bool_tr e166 hc138)).trans rfl) rfl ?_
            exact WL.nil ⟨rfl, _, rfl, rfl, hs.cutG 0 0⟩
          · intro ρ w Γx Λx hs hu hp
            have e167 : ρ 51 = undef := (hp 14 rfl).1
            have e168 : ρ 50 = .bool (x127.ID != x134.ID) := (hp 13 rfl).1
            refine WL.pass ((wanted_of rfl rfl (bool_tr e168 hc138)).trans rfl) rfl ?_
            exact WL.nil ⟨rfl, _, rfl, rfl, hs.cutG 0 0⟩
          · intro ρ w Γx Λx hs hu hp
            have e169 : ρ 50 = .bool (x127.ID != x134.ID) := (hp 13 rfl).1
            refine WL.pass ((wanted_of rfl rfl (bool_tr e169 hc138)).trans rfl) rfl ?_
            exact WL.nil ⟨rfl, _, rfl, rfl, hs.cutG 0 0⟩
          · intro ρ w Γx Λx hs hu hp
            have e170 : ρ 52 = undef := (hp 15 rfl).1
            have e171 : ρ 53 = undef := (hp 16 rfl).1
            have e172 : ρ 50 = .bool (x127.ID != x134.ID) := (hp 13 rfl).1
            refine WL.pass ((wanted_of rfl rfl (bool_tr e172 hc138)).trans rfl) rfl ?_
            exact WL.nil ⟨rfl, _, rfl, rfl, hs.cutG 0 0⟩
          · intro ρ w Γx Λx hs hu hp
            have e173 : ρ 54 = undef := (hp 17 rfl).1
            have e174 : ρ 50 = .bool (x127.ID != x134.ID) := (hp 13 rfl).1
            refine WL.pass ((wanted_of rfl rfl (bool_tr e174 hc138)).trans rfl) rfl ?_
            exact WL.nil ⟨rfl, _, rfl, rfl, hs.cutG 0 0⟩
          · intro ρ w Γx Λx hs hu hp
            have e175 : ρ 55 = undef := (hp 18 rfl).1
            have e176 : ρ 50 = .bool (x127.ID != x134.ID) := (hp 13 rfl).1
            refine WL.pass ((wanted_of rfl rfl (bool_tr e176 hc138)).trans rfl) rfl ?_
            exact WL.nil ⟨rfl, _, rfl, rfl, hs.cutG 0 0⟩
          · intro ρ w Γx Λx hs hu hp
            have e177 : ρ 50 = .bool (x127.ID != x134.ID) := (hp 13 rfl).1
            refine WL.pass ((wanted_of rfl rfl (bool_tr e177 hc138)).trans rfl) rfl ?_
            exact WL.nil ⟨rfl, _, rfl, rfl, hs.cutG 0 0⟩
          · intro ρ w Γx Λx hs hu hp
            have e178 : ρ 57 = undef := (hp 20 rfl).1
            have e179 : ρ 50 = .bool (x127.ID != x134.ID) := (hp 13 rfl).1
            refine WL.pass ((wanted_of rfl rfl (bool_tr e179 hc138)).trans rfl) rfl ?_
            exact WL.nil ⟨rfl, _, rfl, rfl, hs.cutG 0 0⟩
          · intro ρ w Γx Λx hs hu hp
            have e180 : ρ 50 = .bool (x127.ID != x134.ID) := (hp 13 rfl).1
            refine WL.pass ((wanted_of rfl rfl (bool_tr e180 hc138)).trans rfl) rfl ?_
            exact WL.nil ⟨rfl, _, rfl, rfl, hs.cutG 0 0⟩
          · intro ρ w Γx Λx hs hu hp
            have e181 : ρ 58 = undef := (hp 21 rfl).1
            have e182 : ρ 59 = undef := (hp 22 rfl).1
            have e183 : ρ 50 = .bool (x127.ID != x134.ID) := (hp 13 rfl).1
            refine WL.pass ((wanted_of rfl rfl (bool_tr e183 hc138)).trans rfl) rfl ?_
            exact WL.nil ⟨rfl, _, rfl, rfl, hs.cutG 0 0⟩
          · intro ρ w Γx Λx hs hu hp
            have e184 : ρ 60 = undef := (hp 23 rfl).1
            have e185 : ρ 50 = .bool (x127.ID != x134.ID) := (hp 13 rfl).1
            refine WL.pass ((wanted_of rfl rfl (bool_tr e185 hc138)).trans rfl) rfl ?_
            exact WL.nil ⟨rfl, _, rfl, rfl, hs.cutG 0 0⟩
          · intro ρ w Γx Λx hs hu hp
            have e186 : ρ 61 = undef := (hp 24 rfl).1
            have e187 : ρ 50 = .bool (x127.ID != x134.ID) := (hp 13 rfl).1
            refine WL.pass ((wanted_of rfl rfl (bool_tr e187 hc138)).trans rfl) rfl ?_
            exact WL.nil ⟨rfl, _, rfl, rfl, hs.cutG 0 0⟩
          · intro ρ w Γx Λx hs hu hp
            have e188 : ρ 56 = undef := (hp 19 rfl).1
            have e189 : ρ 62 = undef := (hp 25 rfl).1
            have e190 : ρ 50 = .bool (x127.ID != x134.ID) := (hp 13 rfl).1
            refine WL.pass ((wanted_of rfl rfl (bool_tr e190 hc138)).trans rfl) rfl ?_
            exact WL.nil ⟨rfl, _, rfl, rfl, hs.cutG 0 0⟩
          · intro ρ w Γx Λx hs hu hp
            have e191 : ρ 63 = undef := (hp 26 rfl).1
            have e192 : ρ 50 = .bool (x127.ID != x134.ID) := (hp 13 rfl).1
            refine WL.pass ((wanted_of rfl rfl (bool_tr e192 hc138)).trans rfl) rfl ?_
            exact WL.nil ⟨rfl, _, rfl, rfl, hs.cutG 0 0⟩
          · intro ρ w Γx Λx hs hu hp
            have e193 : ρ 50 = .bool (x127.ID != x134.ID) := (hp 13 rfl).1
            have e194 : ρ 64 = undef := (hp 27 rfl).1
            refine WL.pickT (v := .bool true) (bool_tr e193 hc138) rfl ?_
            exact WL.nil ⟨rfl, _, rfl, rfl, hs.cutG 0 0⟩
          · intro ρ w hs hu195 hp
            obtain ⟨⟨⟨⟨⟨⟨⟨⟨⟨⟨⟨⟨⟨⟨⟨⟨⟨⟨⟨⟨⟨⟨⟨⟨⟨⟨⟨⟨⟨_, hp0_⟩, hp1_⟩, hp2_⟩, hp3_⟩, hp4_⟩, hp5_⟩, hp6_⟩, hp7_⟩, hp8_⟩, hp9_⟩, hp10_⟩, hp11_⟩, hp12_⟩, hp13_⟩, hp14_⟩, hp15_⟩, hp16_⟩, hp17_⟩, hp18_⟩, hp19_⟩, hp20_⟩, hp21_⟩, hp22_⟩, hp23_⟩, hp24_⟩, hp25_⟩, hp26_⟩, hp27_⟩, hp28_⟩ := hp
            have hs : St ok (bz w0) w [pl (tInt .i64) x134.ID (adOf (ρ 47)), pl t_network_Packet x134 (adOf (ρ 46)), vl (tSlice t_network_Packet) x5.Packets (ρ 44), pl (tInt .i64) x127.ID (adOf (ρ 41)), pl t_network_Packet x127 (adOf (ρ 40)), vl (tSlice t_network_Packet) x1.Packets (ρ 38), vl (tSlice t_network_Packet) x1.Packets (.slice a113 (x1.Packets).length c114), vl t_network_Network x5 (.agg cs7.toArray), vl t_network_Network x1 (.agg cs3.toArray)] [blk g11 27 cs7, blk g10 27 cs3] := hs
            have e196 : ρ 65 = .bool true := hp28_
            have e197 : ρ 64 = undef := hp27_
            have e198 : ρ 63 = undef := hp26_
            have e199 : ρ 62 = undef := hp25_
            have e200 : ρ 61 = undef := hp24_
            have e201 : ρ 60 = undef := hp23_
            have e202 : ρ 59 = undef := hp22_
            have e203 : ρ 58 = undef := hp21_
            have e204 : ρ 57 = undef := hp20_
            have e205 : ρ 56 = undef := hp19_
            have e206 : ρ 55 = undef := hp18_
            have e207 : ρ 54 = undef := hp17_
            have e208 : ρ 53 = undef := hp16_
            have e209 : ρ 52 = undef := hp15_
            have e210 : ρ 51 = undef := hp14_
            have e211 : ρ 50 = .bool (x127.ID != x134.ID) := hp13_
            have e212 : ρ 49 = .bool (x127.ID != x134.ID) := hp12_
            have e213 : ρ 48 = .int .i64 x134.ID := hp11_
            obtain ⟨ad214, e215⟩ := hp10_
            have e215 : ρ 47 = .pointer (some ad214) := e215
            try rw [e215] at hs
            obtain ⟨ad216, e217⟩ := hp9_
            have e217 : ρ 46 = .pointer (some ad216) := e217
            try rw [e217] at hs
            have e218 : ρ 45 = .int .i64 x108 := hp8_
            obtain ⟨⟨a219, c220⟩, e221⟩ := hp7_
            have e221 : ρ 44 = .slice a219 (x5.Packets).length c220 := e221
            try rw [e221] at hs
            have e222 : ρ 43 = .pointer (some ⟨g11, 1, none⟩) := hp6_
            have e223 : ρ 42 = .int .i64 x127.ID := hp5_
            obtain ⟨ad224, e225⟩ := hp4_
            have e225 : ρ 41 = .pointer (some ad224) := e225
            try rw [e225] at hs
            obtain ⟨ad226, e227⟩ := hp3_
            have e227 : ρ 40 = .pointer (some ad226) := e227
            try rw [e227] at hs
            have e228 : ρ 39 = .int .i64 x108 := hp2_
            obtain ⟨⟨a229, c230⟩, e231⟩ := hp1_
            have e231 : ρ 38 = .slice a229 (x1.Packets).length c230 := e231
            try rw [e231] at hs
            have e232 : ρ 37 = .pointer (some ⟨g10, 1, none⟩) := hp0_
            refine WA.done (by kernel_rfl) ?_
            exact Jk120 true _ _ ((hu195 2 rfl).trans h107_2) ((hu195 3 rfl).trans h107_3) ((hu195 5 rfl).trans h107_5) e196 ((hs.mask [true, true]).pick [7, 8]) hf
        · obtain ⟨x236, hxx236, hf⟩ := bindE hf
          obtain ⟨x245, hxx245, hf⟩ := bindE hf
          obtain ⟨x251, hxx251, hf⟩ := bindE hf
          refine W.any (by kernel_rfl) 29 0 [true, true, true, true, true, true, true, true, true, true, true, true, true, true, true, true, true, true, true, true, true, true, true, true, true, true, true, true, true] rfl rfl (poAt [pv (.pointer (some ⟨g10, 1, none⟩)), pq (fun y : (Option Addr × Nat) => .slice y.1 (x1.Packets).length y.2) (fun v => [vl (tSlice t_network_Packet) x1.Packets v]) (fun v => []), pv (.int .i64 x108), pq (fun y : Addr => .pointer (some y)) (fun v => [pl t_network_Packet x127 (adOf v)]) (fun v => []), pq (fun y : Addr => .pointer (some y)) (fun v => [pl (tInt .i64) x127.ID (adOf v)]) (fun v => []), pv (.int .i64 x127.ID), pv (.pointer (some ⟨g11, 1, none⟩)), pq (fun y : (Option Addr × Nat) => .slice y.1 (x5.Packets).length y.2) (fun v => [vl (tSlice t_network_Packet) x5.Packets v]) (fun v => []), pv (.int .i64 x108), pq (fun y : Addr => .pointer (some y)) (fun v => [pl t_network_Packet x134 (adOf v)]) (fun v => []), pq (fun y : Addr => .pointer (some y)) (fun v => [pl (tInt .i64) x134.ID (adOf v)]) (fun v => []), pv (.int .i64 x134.ID), pv (.bool (x127.ID != x134.ID)), pv (.bool (x127.ID != x134.ID)), pv (.pointer (some ⟨g10, 1, none⟩)), pq (fun y : (Option Addr × Nat) => .slice y.1 (x1.Packets).length y.2) (fun v => [vl (tSlice t_network_Packet) x1.Packets v]) (fun v => []), pv (.int .i64 x108), pq (fun y : Addr => .pointer (some y)) (fun v => [pl t_network_Packet x236 (adOf v)]) (fun v => []), pq (fun y : Addr => .pointer (some y)) (fun v => [pl t_api_Message x236.Message (adOf v)]) (fun v => []), pq (fun y : List Value => .agg y.toArray) (fun v => [vl t_api_Message x236.Message v]) (fun v => []), pv (.pointer (some ⟨g11, 1, none⟩)), pq (fun y : (Option Addr × Nat) => .slice y.1 (x5.Packets).length y.2) (fun v => [vl (tSlice t_network_Packet) x5.Packets v]) (fun v => []), pv (.int .i64 x108), pq (fun y : Addr => .pointer (some y)) (fun v => [pl t_network_Packet x245 (adOf v)]) (fun v => []), pq (fun y : Addr => .pointer (some y)) (fun v => [pl t_api_Message x245.Message (adOf v)]) (fun v => []), pq (fun y : List Value => .agg y.toArray) (fun v => [vl t_api_Message x245.Message v]) (fun v => []), pv (.bool x251), pv (.bool (!x251)), pv (.bool (!x251))]) (Λ := [blk g11 27 cs7, blk g10 27 cs3]) hs (by kernel_rfl) (by kernel_rfl) (by kernel_rfl) ⟨⟨⟨⟨⟨⟨⟨⟨⟨⟨⟨⟨⟨⟨⟨⟨⟨⟨⟨⟨⟨⟨⟨⟨⟨⟨⟨⟨⟨trivial, ?_⟩, ?_⟩, ?_⟩, ?_⟩, ?_⟩, ?_⟩, ?_⟩, ?_⟩, ?_⟩, ?_⟩, ?_⟩, ?_⟩, ?_⟩, ?_⟩, ?_⟩, ?_⟩, ?_⟩, ?_⟩, ?_⟩, ?_⟩, ?_⟩, ?_⟩, ?_⟩, ?_⟩, ?_⟩, ?_⟩, ?_⟩, ?_⟩, ?_⟩ ?_
          · intro ρ w Γx Λx hs hu hp
            refine WL.fieldAddr (m := 1) ((hu 2 rfl).trans h107_2) FA27_1 rfl ?_
            exact WL.nil ⟨rfl, _, rfl, rfl, hs.cutG 0 0⟩
          · intro ρ w Γx Λx hs hu hp
            have e252 : ρ 37 = .pointer (some ⟨g10, 1, none⟩) := (hp 0 rfl).1
            refine WL.loadF (z := x1.Packets) F_network_Network_Packets hs (Λx.length + 1) (getApp rfl) (Γx.length + 2) (getApp rfl) rfl TI25 (.inr rfl) e252 rfl (fun v124 hs => ?_)
            obtain ⟨a125, c126, rfl⟩ := hs.slice 0 rfl
            have hs := hs.add (it := vl (tSlice t_network_Packet) x1.Packets (.slice a125 (x1.Packets).length c126)) fun ok hA => hA.get 0 rfl
            exact WL.nil ⟨rfl, _, rfl, ⟨(a125, c126), rfl⟩, hs.cutG 1 1⟩
          · intro ρ w Γx Λx hs hu hp
            refine WL.move (v := .int .i64 x108) ((hu 5 rfl).trans h107_5) ?_
            exact WL.nil ⟨rfl, _, rfl, rfl, hs.cutG 0 0⟩
          · intro ρ w Γx Λx hs hu hp
            obtain ⟨⟨⟨a253, c254⟩, e255r⟩, hm256⟩ := hp 1 rfl
            have e255 : ρ 38 = .slice a253 (x1.Packets).length c254 := e255r
            rw [e255r] at hm256
            have hs := hs.memo1 (it := vl (tSlice t_network_Packet) x1.Packets (.slice a253 (x1.Packets).length c254)) (List.mem_append.2 (.inl (hm256 _ (List.mem_of_getElem? (i := 0) rfl))))
            have e257 : ρ 39 = .int .i64 x108 := (hp 2 rfl).1
            refine WL.indexAddr hs 0 rfl UN25 TI51 e255 e257 hxx127 (fun ad128 hs => ?_)
            have hs := hs.add (it := pl t_network_Packet x127 ad128) fun ok hA => hA.get 0 rfl
            exact WL.nil ⟨rfl, _, rfl, ⟨ad128, rfl⟩, hs.cutG 1 2⟩
          · intro ρ w Γx Λx hs hu hp
            obtain ⟨⟨ad258, e259r⟩, hm260⟩ := hp 3 rfl
            have e259 : ρ 40 = .pointer (some ad258) := e259r
            rw [e259r] at hm260
            have hs := hs.memo1 (it := pl t_network_Packet x127 ad258) (List.mem_append.2 (.inl (hm260 _ (List.mem_of_getElem? (i := 0) rfl))))
            refine WL.fieldAddrP (z := x127.ID) F_network_Packet_ID hs 0 rfl e259 FA51_0 rfl (fun ad129 hs => ?_)
            have hs := hs.add (it := pl (tInt .i64) x127.ID ad129) fun ok hA => hA.get 0 rfl
            exact WL.nil ⟨rfl, _, rfl, ⟨ad129, rfl⟩, hs.cutG 1 2⟩
          · intro ρ w Γx Λx hs hu hp
            obtain ⟨⟨ad261, e262r⟩, hm263⟩ := hp 4 rfl
            have e262 : ρ 41 = .pointer (some ad261) := e262r
            rw [e262r] at hm263
            have hs := hs.memo1 (it := pl (tInt .i64) x127.ID ad261) (List.mem_append.2 (.inl (hm263 _ (List.mem_of_getElem? (i := 0) rfl))))
            refine WL.loadP hs 0 rfl TI3 (.inr rfl) e262 (fun v130 hs => ?_)
            obtain rfl := hs.int 0 rfl
            exact WL.nil ⟨rfl, _, rfl, rfl, hs.cutG 0 2⟩
          · intro ρ w Γx Λx hs hu hp
            refine WL.fieldAddr (m := 1) ((hu 3 rfl).trans h107_3) FA27_1 rfl ?_
            exact WL.nil ⟨rfl, _, rfl, rfl, hs.cutG 0 0⟩
          · intro ρ w Γx Λx hs hu hp
            have e264 : ρ 43 = .pointer (some ⟨g11, 1, none⟩) := (hp 6 rfl).1
            refine WL.loadF (z := x5.Packets) F_network_Network_Packets hs (Λx.length + 0) (getApp rfl) (Γx.length + 1) (getApp rfl) rfl TI25 (.inr rfl) e264 rfl (fun v131 hs => ?_)
            obtain ⟨a132, c133, rfl⟩ := hs.slice 0 rfl
            have hs := hs.add (it := vl (tSlice t_network_Packet) x5.Packets (.slice a132 (x5.Packets).length c133)) fun ok hA => hA.get 0 rfl
            exact WL.nil ⟨rfl, _, rfl, ⟨(a132, c133), rfl⟩, hs.cutG 1 1⟩
          · intro ρ w Γx Λx hs hu hp
            refine WL.move (v := .int .i64 x108) ((hu 5 rfl).trans h107_5) ?_
            exact WL.nil ⟨rfl, _, rfl, rfl, hs.cutG 0 0⟩
          · intro ρ w Γx Λx hs hu hp
            obtain ⟨⟨⟨a265, c266⟩, e267r⟩, hm268⟩ := hp 7 rfl
            have e267 : ρ 44 = .slice a265 (x5.Packets).length c266 := e267r
            rw [e267r] at hm268
            have hs := hs.memo1 (it := vl (tSlice t_network_Packet) x5.Packets (.slice a265 (x5.Packets).length c266)) (List.mem_append.2 (.inl (hm268 _ (List.mem_of_getElem? (i := 0) rfl))))
            have e269 : ρ 45 = .int .i64 x108 := (hp 8 rfl).1
            refine WL.indexAddr hs 0 rfl UN25 TI51 e267 e269 hxx134 (fun ad135 hs => ?_)
            have hs := hs.add (it := pl t_network_Packet x134 ad135) fun ok hA => hA.get 0 rfl
            exact WL.nil ⟨rfl, _, rfl, ⟨ad135, rfl⟩, hs.cutG 1 2⟩
          · intro ρ w Γx Λx hs hu hp
            obtain ⟨⟨ad270, e271r⟩, hm272⟩ := hp 9 rfl
            have e271 : ρ 46 = .pointer (some ad270) := e271r
            rw [e271r] at hm272
            have hs := hs.memo1 (it := pl t_network_Packet x134 ad270) (List.mem_append.2 (.inl (hm272 _ (List.mem_of_getElem? (i := 0) rfl))))
            refine WL.fieldAddrP (z := x134.ID) F_network_Packet_ID hs 0 rfl e271 FA51_0 rfl (fun ad136 hs => ?_)
            have hs := hs.add (it := pl (tInt .i64) x134.ID ad136) fun ok hA => hA.get 0 rfl
            exact WL.nil ⟨rfl, _, rfl, ⟨ad136, rfl⟩, hs.cutG 1 2⟩
          · intro ρ w Γx Λx hs hu hp
            obtain ⟨⟨ad273, e274r⟩, hm275⟩ := hp 10 rfl
            have e274 : ρ 47 = .pointer (some ad273) := e274r
            rw [e274r] at hm275
            have hs := hs.memo1 (it := pl (tInt .i64) x134.ID ad273) (List.mem_append.2 (.inl (hm275 _ (List.mem_of_getElem? (i := 0) rfl))))
            refine WL.loadP hs 0 rfl TI3 (.inr rfl) e274 (fun v137 hs => ?_)
            obtain rfl := hs.int 0 rfl
            exact WL.nil ⟨rfl, _, rfl, rfl, hs.cutG 0 2⟩
          · intro ρ w Γx Λx hs hu hp
            have e276 : ρ 42 = .int .i64 x127.ID := (hp 5 rfl).1
            have e277 : ρ 48 = .int .i64 x134.ID := (hp 11 rfl).1
            refine WL.bin (v := .bool (x127.ID != x134.ID)) e276 e277 (ib_neq _ _ _) ?_
            exact WL.nil ⟨rfl, _, rfl, rfl, hs.cutG 0 0⟩
          · intro ρ w Γx Λx hs hu hp
            have e278 : ρ 49 = .bool (x127.ID != x134.ID) := (hp 12 rfl).1
            refine WL.move (v := .bool (x127.ID != x134.ID)) e278 ?_
            exact WL.nil ⟨rfl, _, rfl, rfl, hs.cutG 0 0⟩
          · intro ρ w Γx Λx hs hu hp
            have e279 : ρ 50 = .bool (x127.ID != x134.ID) := (hp 13 rfl).1
            refine WL.fieldAddr (m := 1) ((hu 2 rfl).trans h107_2) FA27_1 rfl ?_ (hg := (wanted_of rfl rfl (bool_tr e279 hc138)).trans rfl)
            exact WL.nil ⟨rfl, _, rfl, rfl, hs.cutG 0 0⟩
          · intro ρ w Γx Λx hs hu hp
            have e280 : ρ 51 = .pointer (some ⟨g10, 1, none⟩) := (hp 14 rfl).1
            have e281 : ρ 50 = .bool (x127.ID != x134.ID) := (hp 13 rfl).1
            refine WL.loadF (z := x1.Packets) F_network_Network_Packets hs (Λx.length + 1) (getApp rfl) (Γx.length + 2) (getApp rfl) rfl TI25 (.inr rfl) e280 rfl (fun v233 hs => ?_) (hg := (wanted_of rfl rfl (bool_tr e281 hc138)).trans rfl)
            obtain ⟨a234, c235, rfl⟩ := hs.slice 0 rfl
            have hs := hs.add (it := vl (tSlice t_network_Packet) x1.Packets (.slice a234 (x1.Packets).length c235)) fun ok hA => hA.get 0 rfl
            exact WL.nil ⟨rfl, _, rfl, ⟨(a234, c235), rfl⟩, hs.cutG 1 1⟩
          · intro ρ w Γx Λx hs hu hp
            have e282 : ρ 50 = .bool (x127.ID != x134.ID) := (hp 13 rfl).1
            refine WL.move (v := .int .i64 x108) ((hu 5 rfl).trans h107_5) ?_ (hg := (wanted_of rfl rfl (bool_tr e282 hc138)).trans rfl)
            exact WL.nil ⟨rfl, _, rfl, rfl, hs.cutG 0 0⟩
          · intro ρ w Γx Λx hs hu hp
            obtain ⟨⟨⟨a283, c284⟩, e285r⟩, hm286⟩ := hp 15 rfl
            have e285 : ρ 52 = .slice a283 (x1.Packets).length c284 := e285r
            rw [e285r] at hm286
            have hs := hs.memo1 (it := vl (tSlice t_network_Packet) x1.Packets (.slice a283 (x1.Packets).length c284)) (List.mem_append.2 (.inl (hm286 _ (List.mem_of_getElem? (i := 0) rfl))))
            have e287 : ρ 53 = .int .i64 x108 := (hp 16 rfl).1
            have e288 : ρ 50 = .bool (x127.ID != x134.ID) := (hp 13 rfl).1
            refine WL.indexAddr hs 0 rfl UN25 TI51 e285 e287 hxx236 (fun ad237 hs => ?_) (hg := (wanted_of rfl rfl (bool_tr e288 hc138)).trans rfl)
            have hs := hs.add (it := pl t_network_Packet x236 ad237) fun ok hA => hA.get 0 rfl
            exact WL.nil ⟨rfl, _, rfl, ⟨ad237, rfl⟩, hs.cutG 1 2⟩
          · intro ρ w Γx Λx hs hu hp
            obtain ⟨⟨ad289, e290r⟩, hm291⟩ := hp 17 rfl
            have e290 : ρ 54 = .pointer (some ad289) := e290r
            rw [e290r] at hm291
            have hs := hs.memo1 (it := pl t_network_Packet x236 ad289) (List.mem_append.2 (.inl (hm291 _ (List.mem_of_getElem? (i := 0) rfl))))
            have e292 : ρ 50 = .bool (x127.ID != x134.ID) := (hp 13 rfl).1
            refine WL.fieldAddrP (z := x236.Message) F_network_Packet_Message hs 0 rfl e290 FA51_1 rfl (fun ad238 hs => ?_) (hg := (wanted_of rfl rfl (bool_tr e292 hc138)).trans rfl)
            have hs := hs.add (it := pl t_api_Message x236.Message ad238) fun ok hA => hA.get 0 rfl
            exact WL.nil ⟨rfl, _, rfl, ⟨ad238, rfl⟩, hs.cutG 1 2⟩
          · intro ρ w Γx Λx hs hu hp
            obtain ⟨⟨ad293, e294r⟩, hm295⟩ := hp 18 rfl
            have e294 : ρ 55 = .pointer (some ad293) := e294r
            rw [e294r] at hm295
            have hs := hs.memo1 (it := pl t_api_Message x236.Message ad293) (List.mem_append.2 (.inl (hm295 _ (List.mem_of_getElem? (i := 0) rfl))))
            have e296 : ρ 50 = .bool (x127.ID != x134.ID) := (hp 13 rfl).1
            refine WL.loadP hs 0 rfl TI49 (.inl rfl) e294 (fun v239 hs => ?_) (hg := (wanted_of rfl rfl (bool_tr e296 hc138)).trans rfl)
            obtain ⟨cs240, hl241, rfl⟩ := hs.aggv (n := 18) 0 rfl rfl rfl
            have hs := hs.add (it := vl t_api_Message x236.Message (.agg cs240.toArray)) fun ok hA => hA.get 0 rfl
            exact WL.nil ⟨rfl, _, rfl, ⟨cs240, rfl⟩, hs.cutG 1 2⟩
          · intro ρ w Γx Λx hs hu hp
            have e297 : ρ 50 = .bool (x127.ID != x134.ID) := (hp 13 rfl).1
            refine WL.fieldAddr (m := 1) ((hu 3 rfl).trans h107_3) FA27_1 rfl ?_ (hg := (wanted_of rfl rfl (bool_tr e297 hc138)).trans rfl)
            exact WL.nil ⟨rfl, _, rfl, rfl, hs.cutG 0 0⟩
          · intro ρ w Γx Λx hs hu hp
            have e298 : ρ 57 = .pointer (some ⟨g11, 1, none⟩) := (hp 20 rfl).1
            have e299 : ρ 50 = .bool (x127.ID != x134.ID) := (hp 13 rfl).1
            refine WL.loadF (z := x5.Packets) F_network_Network_Packets hs (Λx.length + 0) (getApp rfl) (Γx.length + 1) (getApp rfl) rfl TI25 (.inr rfl) e298 rfl (fun v242 hs => ?_) (hg := (wanted_of rfl rfl (bool_tr e299 hc138)).trans rfl)
            obtain ⟨a243, c244, rfl⟩ := hs.slice 0 rfl
            have hs := hs.add (it := vl (tSlice t_network_Packet) x5.Packets (.slice a243 (x5.Packets).length c244)) fun ok hA => hA.get 0 rfl
            exact WL.nil ⟨rfl, _, rfl, ⟨(a243, c244), rfl⟩, hs.cutG 1 1⟩
          · intro ρ w Γx Λx hs hu hp
            have e300 : ρ 50 = .bool (x127.ID != x134.ID) := (hp 13 rfl).1
            refine WL.move (v := .int .i64 x108) ((hu 5 rfl).trans h107_5) ?_ (hg := (wanted_of rfl rfl (bool_tr e300 hc138)).trans rfl)
            exact WL.nil ⟨rfl, _, rfl, rfl, hs.cutG 0 0⟩
          · intro ρ w Γx Λx hs hu hp
            obtain ⟨⟨⟨a301, c302⟩, e303r⟩, hm304⟩ := hp 21 rfl
            have e303 : ρ 58 = .slice a301 (x5.Packets).length c302 := e303r
            rw [e303r] at hm304
            have hs := hs.memo1 (it := vl (tSlice t_network_Packet) x5.Packets (.slice a301 (x5.Packets).length c302)) (List.mem_append.2 (.inl (hm304 _ (List.mem_of_getElem? (i := 0) rfl))))
            have e305 : ρ 59 = .int .i64 x108 := (hp 22 rfl).1
            have e306 : ρ 50 = .bool (x127.ID != x134.ID) := (hp 13 rfl).1
            refine WL.indexAddr hs 0 rfl UN25 TI51 e303 e305 hxx245 (fun ad246 hs => ?_) (hg := (wanted_of rfl rfl (bool_tr e306 hc138)).trans rfl)
            have hs := hs.add (it := pl t_network_Packet x245 ad246) fun ok hA => hA.get 0 rfl
            exact WL.nil ⟨rfl, _, rfl, ⟨ad246, rfl⟩, hs.cutG 1 2⟩
          · intro ρ w Γx Λx hs hu hp
            obtain ⟨⟨ad307, e308r⟩, hm309⟩ := hp 23 rfl
            have e308 : ρ 60 = .pointer (some ad307) := e308r
            rw [e308r] at hm309
            have hs := hs.memo1 (it := pl t_network_Packet x245 ad307) (List.mem_append.2 (.inl (hm309 _ (List.mem_of_getElem? (i := 0) rfl))))
            have e310 : ρ 50 = .bool (x127.ID != x134.ID) := (hp 13 rfl).1
            refine WL.fieldAddrP (z := x245.Message) F_network_Packet_Message hs 0 rfl e308 FA51_1 rfl (fun ad247 hs => ?_) (hg := (wanted_of rfl rfl (bool_tr e310 hc138)).trans rfl)
            have hs := hs.add (it := pl t_api_Message x245.Message ad247) fun ok hA => hA.get 0 rfl
            exact WL.nil ⟨rfl, _, rfl, ⟨ad247, rfl⟩, hs.cutG 1 2⟩
          · intro ρ w Γx Λx hs hu hp
            obtain ⟨⟨ad311, e312r⟩, hm313⟩ := hp 24 rfl
            have e312 : ρ 61 = .pointer (some ad311) := e312r
            rw [e312r] at hm313
            have hs := hs.memo1 (it := pl t_api_Message x245.Message ad311) (List.mem_append.2 (.inl (hm313 _ (List.mem_of_getElem? (i := 0) rfl))))
            have e314 : ρ 50 = .bool (x127.ID != x134.ID) := (hp 13 rfl).1
            refine WL.loadP hs 0 rfl TI49 (.inl rfl) e312 (fun v248 hs => ?_) (hg := (wanted_of rfl rfl (bool_tr e314 hc138)).trans rfl)
            obtain ⟨cs249, hl250, rfl⟩ := hs.aggv (n := 18) 0 rfl rfl rfl
            have hs := hs.add (it := vl t_api_Message x245.Message (.agg cs249.toArray)) fun ok hA => hA.get 0 rfl
            exact WL.nil ⟨rfl, _, rfl, ⟨cs249, rfl⟩, hs.cutG 1 2⟩
          · intro ρ w Γx Λx hs hu hp
            obtain ⟨⟨cs315, e317r⟩, hm318⟩ := hp 19 rfl
            have e317 : ρ 56 = .agg cs315.toArray := e317r
            rw [e317r] at hm318
            have hs := hs.memo1 (it := vl t_api_Message x236.Message (.agg cs315.toArray)) (List.mem_append.2 (.inl (hm318 _ (List.mem_of_getElem? (i := 0) rfl))))
            have hl316 := hs.agglen (n := 18) 0 rfl rfl rfl
            obtain ⟨⟨cs319, e321r⟩, hm322⟩ := hp 25 rfl
            have e321 : ρ 62 = .agg cs319.toArray := e321r
            rw [e321r] at hm322
            have hs := hs.memo1 (it := vl t_api_Message x245.Message (.agg cs319.toArray)) (List.mem_cons_of_mem _ (List.mem_append.2 (.inl (hm322 _ (List.mem_of_getElem? (i := 0) rfl)))))
            have hl320 := hs.agglen (n := 18) 0 rfl rfl rfl
            have e323 : ρ 50 = .bool (x127.ID != x134.ID) := (hp 13 rfl).1
            refine WL.call (vs := [.agg cs315.toArray, .agg cs319.toArray]) hs FN24 ⟨e317, ⟨e321, trivial⟩⟩ (fun ok hA => esref14_EqualMessage.calls (x1 := x236.Message) (x5 := x245.Message) hxx251 (hA.get 1 rfl) (hA.get 0 rfl)) ?_ (hg := (wanted_of rfl rfl (bool_tr e323 hc138)).trans rfl)
            rintro _ w hs
            exact WL.nil ⟨rfl, _, rfl, rfl, hs.cutG 0 2⟩
          · intro ρ w Γx Λx hs hu hp
            have e324 : ρ 63 = .bool x251 := (hp 26 rfl).1
            have e325 : ρ 50 = .bool (x127.ID != x134.ID) := (hp 13 rfl).1
            refine WL.not e324 ?_ (hg := (wanted_of rfl rfl (bool_tr e325 hc138)).trans rfl)
            exact WL.nil ⟨rfl, _, rfl, rfl, hs.cutG 0 0⟩
          · intro ρ w Γx Λx hs hu hp
            have e326 : ρ 50 = .bool (x127.ID != x134.ID) := (hp 13 rfl).1
            have e327 : ρ 64 = .bool (!x251) := (hp 27 rfl).1
            refine WL.pickF (v := .bool (!x251)) (bool_tr e326 hc138) e327 ?_
            exact WL.nil ⟨rfl, _, rfl, rfl, hs.cutG 0 0⟩
          · intro ρ w hs hu328 hp
            obtain ⟨⟨⟨⟨⟨⟨⟨⟨⟨⟨⟨⟨⟨⟨⟨⟨⟨⟨⟨⟨⟨⟨⟨⟨⟨⟨⟨⟨⟨_, hp0_⟩, hp1_⟩, hp2_⟩, hp3_⟩, hp4_⟩, hp5_⟩, hp6_⟩, hp7_⟩, hp8_⟩, hp9_⟩, hp10_⟩, hp11_⟩, hp12_⟩, hp13_⟩, hp14_⟩, hp15_⟩, hp16_⟩, hp17_⟩, hp18_⟩, hp19_⟩, hp20_⟩, hp21_⟩, hp22_⟩, hp23_⟩, hp24_⟩, hp25_⟩, hp26_⟩, hp27_⟩, hp28_⟩ := hp
            have hs : St ok (bz w0) w [vl t_api_Message x245.Message (ρ 62), pl t_api_Message x245.Message (adOf (ρ 61)), pl t_network_Packet x245 (adOf (ρ 60)), vl (tSlice t_network_Packet) x5.Packets (ρ 58), vl t_api_Message x236.Message (ρ 56), pl t_api_Message x236.Message (adOf (ρ 55)), pl t_network_Packet x236 (adOf (ρ 54)), vl (tSlice t_network_Packet) x1.Packets (ρ 52), pl (tInt .i64) x134.ID (adOf (ρ 47)), pl t_network_Packet x134 (adOf (ρ 46)), vl (tSlice t_network_Packet) x5.Packets (ρ 44), pl (tInt .i64) x127.ID (adOf (ρ 41)), pl t_network_Packet x127 (adOf (ρ 40)), vl (tSlice t_network_Packet) x1.Packets (ρ 38), vl (tSlice t_network_Packet) x1.Packets (.slice a113 (x1.Packets).length c114), vl t_network_Network x5 (.agg cs7.toArray), vl t_network_Network x1 (.agg cs3.toArray)] [blk g11 27 cs7, blk g10 27 cs3] := hs
            have e329 : ρ 65 = .bool (!x251) := hp28_
            have e330 : ρ 64 = .bool (!x251) := hp27_
            have e331 : ρ 63 = .bool x251 := hp26_
            obtain ⟨cs332, e334⟩ := hp25_
            have e334 : ρ 62 = .agg cs332.toArray := e334
            try rw [e334] at hs
            obtain ⟨ad335, e336⟩ := hp24_
            have e336 : ρ 61 = .pointer (some ad335) := e336
            try rw [e336] at hs
            obtain ⟨ad337, e338⟩ := hp23_
            have e338 : ρ 60 = .pointer (some ad337) := e338
            try rw [e338] at hs
            have e339 : ρ 59 = .int .i64 x108 := hp22_
            obtain ⟨⟨a340, c341⟩, e342⟩ := hp21_
            have e342 : ρ 58 = .slice a340 (x5.Packets).length c341 := e342
            try rw [e342] at hs
            have e343 : ρ 57 = .pointer (some ⟨g11, 1, none⟩) := hp20_
            obtain ⟨cs344, e346⟩ := hp19_
            have e346 : ρ 56 = .agg cs344.toArray := e346
            try rw [e346] at hs
            obtain ⟨ad347, e348⟩ := hp18_
            have e348 : ρ 55 = .pointer (some ad347) := e348
            try rw [e348] at hs
            obtain ⟨ad349, e350⟩ := hp17_
            have e350 : ρ 54 = .pointer (some ad349) := e350
            try rw [e350] at hs
            have e351 : ρ 53 = .int .i64 x108 := hp16_
            obtain ⟨⟨a352, c353⟩, e354⟩ := hp15_
            have e354 : ρ 52 = .slice a352 (x1.Packets).length c353 := e354
            try rw [e354] at hs
            have e355 : ρ 51 = .pointer (some ⟨g10, 1, none⟩) := hp14_
            have e356 : ρ 50 = .bool (x127.ID != x134.ID) := hp13_
            have e357 : ρ 49 = .bool (x127.ID != x134.ID) := hp12_
            have e358 : ρ 48 = .int .i64 x134.ID := hp11_
            obtain ⟨ad359, e360⟩ := hp10_
            have e360 : ρ 47 = .pointer (some ad359) := e360
            try rw [e360] at hs
            obtain ⟨ad361, e362⟩ := hp9_
            have e362 : ρ 46 = .pointer (some ad361) := e362
            try rw [e362] at hs
            have e363 : ρ 45 = .int .i64 x108 := hp8_
            obtain ⟨⟨a364, c365⟩, e366⟩ := hp7_
            have e366 : ρ 44 = .slice a364 (x5.Packets).length c365 := e366
            try rw [e366] at hs
            have e367 : ρ 43 = .pointer (some ⟨g11, 1, none⟩) := hp6_
            have e368 : ρ 42 = .int .i64 x127.ID := hp5_
            obtain ⟨ad369, e370⟩ := hp4_
            have e370 : ρ 41 = .pointer (some ad369) := e370
            try rw [e370] at hs
            obtain ⟨ad371, e372⟩ := hp3_
            have e372 : ρ 40 = .pointer (some ad371) := e372
            try rw [e372] at hs
            have e373 : ρ 39 = .int .i64 x108 := hp2_
            obtain ⟨⟨a374, c375⟩, e376⟩ := hp1_
            have e376 : ρ 38 = .slice a374 (x1.Packets).length c375 := e376
            try rw [e376] at hs
            have e377 : ρ 37 = .pointer (some ⟨g10, 1, none⟩) := hp0_
            have hl345 := hs.agglen (n := 18) 4 rfl rfl rfl
            have hl333 := hs.agglen (n := 18) 0 rfl rfl rfl
            refine WA.done (by kernel_rfl) ?_
            exact Jk120 (!x251) _ _ ((hu328 2 rfl).trans h107_2) ((hu328 3 rfl).trans h107_3) ((hu328 5 rfl).trans h107_5) e329 ((hs.mask [true, true]).pick [15, 16]) hf
      · refine W.cond_false (bool_tr rfl hc115) ?_
        refine W.exit ?_
        have hr := Option.some.inj hf; subst hr
        have hr := hbbs109 _ rfl; subst hr
        have hf := hfs109
        exact Jk21  _ _ h107_2 h107_3 ((hs.mask [true, true]).pick [1, 2]) hf
  refine W.region ?_
  refine WL.fieldAddr (m := 0) rfl FA27_0 rfl ?_
  refine WL.loadF (z := x1.Next) F_network_Network_Next hs 1 rfl 0 rfl rfl TI3 (.inr rfl) rfl rfl (fun v379 hs => ?_)
  obtain rfl := hs.int 0 rfl
  refine WL.fieldAddr (m := 0) rfl FA27_0 rfl ?_
  refine WL.loadF (z := x5.Next) F_network_Network_Next hs 0 rfl 2 rfl rfl TI3 (.inr rfl) rfl rfl (fun v380 hs => ?_)
  obtain rfl := hs.int 0 rfl
  refine WL.bin (v := .bool (x1.Next != x5.Next)) rfl rfl (ib_neq _ _ _) ?_
  refine WL.move (v := .bool (x1.Next != x5.Next)) rfl ?_
  rcases iteE hf with ⟨hc381, hf⟩ | ⟨hc381, hf⟩
  · refine WL.pass ((wanted_of rfl rfl (bool_tr rfl hc381)).trans rfl) rfl ?_
    refine WL.pass ((wanted_of rfl rfl (bool_tr rfl hc381)).trans rfl) rfl ?_
    refine WL.pass ((wanted_of rfl rfl (bool_tr rfl hc381)).trans rfl) rfl ?_
    refine WL.pass ((wanted_of rfl rfl (bool_tr rfl hc381)).trans rfl) rfl ?_
    refine WL.pass ((wanted_of rfl rfl (bool_tr rfl hc381)).trans rfl) rfl ?_
    refine WL.pass ((wanted_of rfl rfl (bool_tr rfl hc381)).trans rfl) rfl ?_
    refine WL.pass ((wanted_of rfl rfl (bool_tr rfl hc381)).trans rfl) rfl ?_
    refine WL.pickT (v := .bool true) (bool_tr rfl hc381) rfl ?_
    refine WL.move (v := .bool true) rfl ?_
    refine WL.pass ((wanted_of rfl rfl rfl).trans rfl) rfl ?_
    refine WL.pass ((wanted_of rfl rfl rfl).trans rfl) rfl ?_
    refine WL.pass ((wanted_of rfl rfl rfl).trans rfl) rfl ?_
    refine WL.pass ((wanted_of rfl rfl rfl).trans rfl) rfl ?_
    refine WL.pass ((wanted_of rfl rfl rfl).trans rfl) rfl ?_
    refine WL.pass ((wanted_of rfl rfl rfl).trans rfl) rfl ?_
    refine WL.pass ((wanted_of rfl rfl rfl).trans rfl) rfl ?_
    refine WL.pickT (v := .bool true) rfl rfl ?_
    refine WL.nil ?_
    exact Jk16 true _ _ rfl rfl rfl ((hs.mask [true, true]).pick [3, 2]) hf
  · refine WL.fieldAddr (m := 1) rfl FA27_1 rfl ?_ (hg := (wanted_of rfl rfl (bool_tr rfl hc381)).trans rfl)
    refine WL.loadF (z := x1.Packets) F_network_Network_Packets hs 1 rfl 2 rfl rfl TI25 (.inr rfl) rfl rfl (fun v382 hs => ?_) (hg := (wanted_of rfl rfl (bool_tr rfl hc381)).trans rfl)
    obtain ⟨a383, c384, rfl⟩ := hs.slice 0 rfl
    refine WL.len (v := .slice a383 (x1.Packets).length c384) rfl (len_slice UN25) ?_ (hg := (wanted_of rfl rfl (bool_tr rfl hc381)).trans rfl)
    refine WL.fieldAddr (m := 1) rfl FA27_1 rfl ?_ (hg := (wanted_of rfl rfl (bool_tr rfl hc381)).trans rfl)
    refine WL.loadF (z := x5.Packets) F_network_Network_Packets hs 0 rfl 4 rfl rfl TI25 (.inr rfl) rfl rfl (fun v385 hs => ?_) (hg := (wanted_of rfl rfl (bool_tr rfl hc381)).trans rfl)
    obtain ⟨a386, c387, rfl⟩ := hs.slice 0 rfl
    refine WL.len (v := .slice a386 (x5.Packets).length c387) rfl (len_slice UN25) ?_ (hg := (wanted_of rfl rfl (bool_tr rfl hc381)).trans rfl)
    refine WL.bin (v := .bool (((x1.Packets).length : Int) != ((x5.Packets).length : Int))) rfl rfl (ib_neq _ _ _) ?_ (hg := (wanted_of rfl rfl (bool_tr rfl hc381)).trans rfl)
    refine WL.pickF (v := .bool (((x1.Packets).length : Int) != ((x5.Packets).length : Int))) (bool_tr rfl hc381) rfl ?_
    refine WL.move (v := .bool (((x1.Packets).length : Int) != ((x5.Packets).length : Int))) rfl ?_
    rcases iteE hf with ⟨hc388, hf⟩ | ⟨hc388, hf⟩
    · refine WL.pass ((wanted_of rfl rfl (bool_tr rfl hc388)).trans rfl) rfl ?_
      refine WL.pass ((wanted_of rfl rfl (bool_tr rfl hc388)).trans rfl) rfl ?_
      refine WL.pass ((wanted_of rfl rfl (bool_tr rfl hc388)).trans rfl) rfl ?_
      refine WL.pass ((wanted_of rfl rfl (bool_tr rfl hc388)).trans rfl) rfl ?_
      refine WL.pass ((wanted_of rfl rfl (bool_tr rfl hc388)).trans rfl) rfl ?_
      refine WL.pass ((wanted_of rfl rfl (bool_tr rfl hc388)).trans rfl) rfl ?_
      refine WL.pass ((wanted_of rfl rfl (bool_tr rfl hc388)).trans rfl) rfl ?_
      refine WL.pickT (v := .bool true) (bool_tr rfl hc388) rfl ?_
      refine WL.nil ?_
      exact Jk16 true _ _ rfl rfl rfl ((hs.mask [true, true]).pick [5, 4]) hf
    · refine WL.fieldAddr (m := 2) rfl FA27_2 rfl ?_ (hg := (wanted_of rfl rfl (bool_tr rfl hc388)).trans rfl)
      refine WL.loadF (z := x1.Sides) F_network_Network_Sides hs 1 rfl 4 rfl rfl TI23 (.inr rfl) rfl rfl (fun v389 hs => ?_) (hg := (wanted_of rfl rfl (bool_tr rfl hc388)).trans rfl)
      obtain ⟨a390, c391, rfl⟩ := hs.slice 0 rfl
      refine WL.len (v := .slice a390 (x1.Sides).length c391) rfl (len_slice UN23) ?_ (hg := (wanted_of rfl rfl (bool_tr rfl hc388)).trans rfl)
      refine WL.fieldAddr (m := 2) rfl FA27_2 rfl ?_ (hg := (wanted_of rfl rfl (bool_tr rfl hc388)).trans rfl)
      refine WL.loadF (z := x5.Sides) F_network_Network_Sides hs 0 rfl 6 rfl rfl TI23 (.inr rfl) rfl rfl (fun v392 hs => ?_) (hg := (wanted_of rfl rfl (bool_tr rfl hc388)).trans rfl)
      obtain ⟨a393, c394, rfl⟩ := hs.slice 0 rfl
      refine WL.len (v := .slice a393 (x5.Sides).length c394) rfl (len_slice UN23) ?_ (hg := (wanted_of rfl rfl (bool_tr rfl hc388)).trans rfl)
      refine WL.bin (v := .bool (((x1.Sides).length : Int) != ((x5.Sides).length : Int))) rfl rfl (ib_neq _ _ _) ?_ (hg := (wanted_of rfl rfl (bool_tr rfl hc388)).trans rfl)
      refine WL.pickF (v := .bool (((x1.Sides).length : Int) != ((x5.Sides).length : Int))) (bool_tr rfl hc388) rfl ?_
      refine WL.nil ?_
      exact Jk16 (((x1.Sides).length : Int) != ((x5.Sides).length : Int)) _ _ rfl rfl rfl ((hs.mask [true, true]).pick [7, 6]) hf
end Go.Proofs.Ytahobbichanccaa
