import Derived.Test.YtahobbichanccaaFh
import Derived.Test.YtahobbichanccaaFp0
import Derived.Test.YtahobbichanccaaFp1
import Derived.Test.YtahobbichanccaaFp2
import Derived.Test.YtahobbichanccaaFp3
import Derived.Test.YtahobbichanccaaFp4
import Derived.Test.YtahobbichanccaaFp5
import Derived.Test.YtahobbichanccaaFp6
set_option linter.unusedVariables false
set_option linter.unusedSimpArgs false
namespace Go.Proofs.Ytahobbichanccaa
open Go Go.RowKit Go.Proofs.YtahobbichanccaaL
set_option maxRecDepth 100000
set_option maxHeartbeats 400000
/-! elasticstore/elasticstorelaw34.Equal: function 16 -/
theorem eslaw34_Equal.calls {ok : Nat → Prop} {w0 : World} {x1 : network_Network} {x5 : network_Network} {v2 : Value} {v6 : Value} {r : Bool} (hf : eslaw34_Equal x1 x5 = some r) (i0 : (vl t_network_Network x1 v2).holds ok w0) (i1 : (vl t_network_Network x5 v6).holds ok w0) :
    Calls Try.prog 16 #[v2, v6] w0 fun e w' => ∃ v, e = .returned v ∧ ∃ y : Unit, v = .bool r ∧ St ok (bz w0) w' [] [] := by
  unfold eslaw34_Equal at hf
  refine calls_of_W (fn := Try.f16) (N := 84) Try.func16 rfl Try.ntmps16 rfl ?_
  have hs : St ok (bz w0) w0 [vl t_network_Network x1 v2, vl t_network_Network x5 v6] [] := St.init (All.cons i0 (All.cons i1 All.nil))
  clear i0 i1
  obtain ⟨cs3, hl4, rfl⟩ := hs.aggv (n := 3) 0 rfl rfl rfl
  obtain ⟨cs7, hl8, rfl⟩ := hs.aggv (n := 3) 1 rfl rfl rfl
  refine W.seqK fun K9 hK9 => ?_
  refine W.region ?_
  refine WL.box (vs := cs3) hs rfl rfl (fun g10 w hs => ?_)
  refine WL.box (vs := cs7) hs rfl rfl (fun g11 w hs => ?_)
  refine WL.assign (v := .bool false) rfl ?_
  refine WL.nil ?_
  refine hK9 _ _ ?_
  refine W.seqK fun K12 hK12 => ?_
  refine W.seqK fun K13 hK13 => ?_
  have Jk16 : ∀ (x15 : Bool) (ρ : Env) (w : World), ρ 2 = .pointer (some ⟨g10, 0, none⟩) → ρ 3 = .pointer (some ⟨g11, 0, none⟩) → ρ 29 = .bool x15 → St ok (bz w0) w [vl t_network_Network x5 (.agg cs7.toArray), vl t_network_Network x1 (.agg cs3.toArray)] [blk g11 27 cs7, blk g10 27 cs3] → eslaw34_Equal.j4 x1 x5 x15 = some r → K13 ρ w := by
    intro x15 ρ w h14_2 h14_3 h14_29 hs hf
    refine hK13 _ _ ?_
    unfold eslaw34_Equal.j4 at hf
    rcases iteE hf with ⟨hc17, hf⟩ | ⟨hc17, hf⟩
    · refine W.cond_true (bool_tr h14_29 hc17) ?_
      refine W.seqK fun K18 hK18 => ?_
      refine W.region ?_
      refine WL.assign (v := .bool false) rfl ?_
      refine WL.nil ?_
      refine hK18 _ _ ?_
      refine W.ret ?_
      have hr := Option.some.inj hf; subst hr
      exact ⟨_, resOk_one rfl rfl, (), rfl, (hs.mask []).pick []⟩
    · refine W.cond_false (bool_tr h14_29 hc17) ?_
      refine W.skip ?_
      refine hK12 _ _ ?_
      refine W.seqK fun K19 hK19 => ?_
      have Jk21 : ∀  (ρ : Env) (w : World), ρ 2 = .pointer (some ⟨g10, 0, none⟩) → ρ 3 = .pointer (some ⟨g11, 0, none⟩) → St ok (bz w0) w [vl t_network_Network x5 (.agg cs7.toArray), vl t_network_Network x1 (.agg cs3.toArray)] [blk g11 27 cs7, blk g10 27 cs3] → eslaw34_Equal.j2 x1 x5 = some r → K19 ρ w := by
        intro  ρ w h20_2 h20_3 hs hf
        refine hK19 _ _ ?_
        unfold eslaw34_Equal.j2 at hf
        refine W.seqK fun K22 hK22 => ?_
        have Jk24 : ∀  (ρ : Env) (w : World), St ok (bz w0) w [] [] → eslaw34_Equal.j1 = some r → K22 ρ w := by
          intro  ρ w  hs hf
          refine hK22 _ _ ?_
          unfold eslaw34_Equal.j1 at hf
          refine W.seqK fun K25 hK25 => ?_
          refine W.region ?_
          refine WL.assign (v := .bool true) rfl ?_
          refine WL.nil ?_
          refine hK25 _ _ ?_
          refine W.ret ?_
          have hr := Option.some.inj hf; subst hr
          exact ⟨_, resOk_one rfl rfl, (), rfl, (hs.mask []).pick []⟩
        refine W.seqK fun K26 hK26 => ?_
        refine W.region ?_
        refine WL.assign (v := .int .i64 0) rfl ?_
        refine WL.nil ?_
        refine hK26 _ _ ?_
        refine W.block ?_
        obtain ⟨bs29, hbs29, hfs29⟩ := bindE hf
        refine W.loop hbs29 (fun s ρ w => match s with | x28 => ρ 2 = .pointer (some ⟨g10, 0, none⟩) ∧ ρ 3 = .pointer (some ⟨g11, 0, none⟩) ∧ ρ 6 = .int .i64 x28 ∧ St ok (bz w0) w [vl t_network_Network x5 (.agg cs7.toArray), vl t_network_Network x1 (.agg cs3.toArray)] [blk g11 27 cs7, blk g10 27 cs3]) ⟨h20_2, h20_3, rfl, (hs.mask [true, true]).pick [0, 1]⟩ ?_
        intro x28 ρ w os29 hI hf hbbs29
        obtain ⟨h27_2, h27_3, h27_6, hs⟩ := hI
        unfold eslaw34_Equal.l1 at hf
        refine W.seqK fun K30 hK30 => ?_
        refine W.seqK fun K31 hK31 => ?_
        refine W.region ?_
        refine WL.move (v := .int .i64 x28) h27_6 ?_
        refine WL.fieldAddr (m := 2) h27_2 FA27_2 rfl ?_
        refine WL.loadF (z := x1.Sides) F_network_Network_Sides hs 1 rfl 1 rfl rfl TI23 (.inr rfl) rfl rfl (fun v32 hs => ?_)
        obtain ⟨a33, c34, rfl⟩ := hs.slice 0 rfl
        refine WL.len (v := .slice a33 (x1.Sides).length c34) rfl (len_slice UN23) ?_
        refine WL.bin (v := .bool (decide (x28 < ((x1.Sides).length : Int)))) rfl rfl (ib_lss _ _ _) ?_
        refine WL.nil ?_
        refine hK31 _ _ ?_
        rcases iteE hf with ⟨hc35, hf⟩ | ⟨hc35, hf⟩
        · refine W.cond_true (bool_tr rfl hc35) ?_
          refine W.skip ?_
          refine hK30 _ _ ?_
          refine W.seqK fun K36 hK36 => ?_
          refine W.block ?_
          refine W.seqK fun K37 hK37 => ?_
          obtain ⟨x41, hxx41, hf⟩ := bindE hf
          obtain ⟨x49, hxx49, hf⟩ := bindE hf
          refine W.any (by kernel_rfl) 11 0 [true, true, true, true, true, true, true, true, true, true, true] rfl rfl (poAt [pv (.pointer (some ⟨g10, 2, none⟩)), pq (fun y : (Option Addr × Nat) => .slice y.1 (x1.Sides).length y.2) (fun v => [vl (tSlice t_network_Side) x1.Sides v]) (fun v => []), pv (.int .i64 x28), pq (fun y : Addr => .pointer (some y)) (fun v => [pl t_network_Side x41 (adOf v)]) (fun v => []), pq (fun y : List Value => .agg y.toArray) (fun v => [vl t_network_Side x41 v]) (fun v => []), pv (.pointer (some ⟨g11, 2, none⟩)), pq (fun y : (Option Addr × Nat) => .slice y.1 (x5.Sides).length y.2) (fun v => [vl (tSlice t_network_Side) x5.Sides v]) (fun v => []), pv (.int .i64 x28), pq (fun y : Addr => .pointer (some y)) (fun v => [pl t_network_Side x49 (adOf v)]) (fun v => []), pq (fun y : List Value => .agg y.toArray) (fun v => [vl t_network_Side x49 v]) (fun v => []), pv (.bool (!decide ((⟨x41.Process, x41.Side⟩ : network_Side) = (⟨x49.Process, x49.Side⟩ : network_Side))))]) (Λ := [blk g11 27 cs7, blk g10 27 cs3]) hs (by kernel_rfl) (by kernel_rfl) (by kernel_rfl) ⟨⟨⟨⟨⟨⟨⟨⟨⟨⟨⟨trivial, ?_⟩, ?_⟩, ?_⟩, ?_⟩, ?_⟩, ?_⟩, ?_⟩, ?_⟩, ?_⟩, ?_⟩, ?_⟩ ?_
          · intro ρ w Γx Λx hs hu hp
            refine WL.fieldAddr (m := 2) ((hu 2 rfl).trans h27_2) FA27_2 rfl ?_
            exact WL.nil ⟨rfl, _, rfl, rfl, hs.cutG 0 0⟩
          · intro ρ w Γx Λx hs hu hp
            have e54 : ρ 73 = .pointer (some ⟨g10, 2, none⟩) := (hp 0 rfl).1
            refine WL.loadF (z := x1.Sides) F_network_Network_Sides hs (Λx.length + 1) (getApp rfl) (Γx.length + 2) (getApp rfl) rfl TI23 (.inr rfl) e54 rfl (fun v38 hs => ?_)
            obtain ⟨a39, c40, rfl⟩ := hs.slice 0 rfl
            have hs := hs.add (it := vl (tSlice t_network_Side) x1.Sides (.slice a39 (x1.Sides).length c40)) fun ok hA => hA.get 0 rfl
            exact WL.nil ⟨rfl, _, rfl, ⟨(a39, c40), rfl⟩, hs.cutG 1 1⟩
          · intro ρ w Γx Λx hs hu hp
            refine WL.move (v := .int .i64 x28) ((hu 6 rfl).trans h27_6) ?_
            exact WL.nil ⟨rfl, _, rfl, rfl, hs.cutG 0 0⟩
          · intro ρ w Γx Λx hs hu hp
            obtain ⟨⟨⟨a55, c56⟩, e57r⟩, hm58⟩ := hp 1 rfl
            have e57 : ρ 74 = .slice a55 (x1.Sides).length c56 := e57r
            rw [e57r] at hm58
            have hs := hs.memo1 (it := vl (tSlice t_network_Side) x1.Sides (.slice a55 (x1.Sides).length c56)) (List.mem_append.2 (.inl (hm58 _ (List.mem_of_getElem? (i := 0) rfl))))
            have e59 : ρ 75 = .int .i64 x28 := (hp 2 rfl).1
            refine WL.indexAddr hs 0 rfl UN23 TI69 e57 e59 hxx41 (fun ad42 hs => ?_)
            have hs := hs.add (it := pl t_network_Side x41 ad42) fun ok hA => hA.get 0 rfl
            exact WL.nil ⟨rfl, _, rfl, ⟨ad42, rfl⟩, hs.cutG 1 2⟩
          · intro ρ w Γx Λx hs hu hp
            obtain ⟨⟨ad60, e61r⟩, hm62⟩ := hp 3 rfl
            have e61 : ρ 76 = .pointer (some ad60) := e61r
            rw [e61r] at hm62
            have hs := hs.memo1 (it := pl t_network_Side x41 ad60) (List.mem_append.2 (.inl (hm62 _ (List.mem_of_getElem? (i := 0) rfl))))
            refine WL.loadP hs 0 rfl TI69 (.inl rfl) e61 (fun v43 hs => ?_)
            obtain ⟨cs44, hl45, rfl⟩ := hs.aggv (n := 2) 0 rfl rfl rfl
            have hs := hs.add (it := vl t_network_Side x41 (.agg cs44.toArray)) fun ok hA => hA.get 0 rfl
            exact WL.nil ⟨rfl, _, rfl, ⟨cs44, rfl⟩, hs.cutG 1 2⟩
          · intro ρ w Γx Λx hs hu hp
            refine WL.fieldAddr (m := 2) ((hu 3 rfl).trans h27_3) FA27_2 rfl ?_
            exact WL.nil ⟨rfl, _, rfl, rfl, hs.cutG 0 0⟩
          · intro ρ w Γx Λx hs hu hp
            have e63 : ρ 78 = .pointer (some ⟨g11, 2, none⟩) := (hp 5 rfl).1
            refine WL.loadF (z := x5.Sides) F_network_Network_Sides hs (Λx.length + 0) (getApp rfl) (Γx.length + 1) (getApp rfl) rfl TI23 (.inr rfl) e63 rfl (fun v46 hs => ?_)
            obtain ⟨a47, c48, rfl⟩ := hs.slice 0 rfl
            have hs := hs.add (it := vl (tSlice t_network_Side) x5.Sides (.slice a47 (x5.Sides).length c48)) fun ok hA => hA.get 0 rfl
            exact WL.nil ⟨rfl, _, rfl, ⟨(a47, c48), rfl⟩, hs.cutG 1 1⟩
          · intro ρ w Γx Λx hs hu hp
            refine WL.move (v := .int .i64 x28) ((hu 6 rfl).trans h27_6) ?_
            exact WL.nil ⟨rfl, _, rfl, rfl, hs.cutG 0 0⟩
          · intro ρ w Γx Λx hs hu hp
            obtain ⟨⟨⟨a64, c65⟩, e66r⟩, hm67⟩ := hp 6 rfl
            have e66 : ρ 79 = .slice a64 (x5.Sides).length c65 := e66r
            rw [e66r] at hm67
            have hs := hs.memo1 (it := vl (tSlice t_network_Side) x5.Sides (.slice a64 (x5.Sides).length c65)) (List.mem_append.2 (.inl (hm67 _ (List.mem_of_getElem? (i := 0) rfl))))
            have e68 : ρ 80 = .int .i64 x28 := (hp 7 rfl).1
            refine WL.indexAddr hs 0 rfl UN23 TI69 e66 e68 hxx49 (fun ad50 hs => ?_)
            have hs := hs.add (it := pl t_network_Side x49 ad50) fun ok hA => hA.get 0 rfl
            exact WL.nil ⟨rfl, _, rfl, ⟨ad50, rfl⟩, hs.cutG 1 2⟩
          · intro ρ w Γx Λx hs hu hp
            obtain ⟨⟨ad69, e70r⟩, hm71⟩ := hp 8 rfl
            have e70 : ρ 81 = .pointer (some ad69) := e70r
            rw [e70r] at hm71
            have hs := hs.memo1 (it := pl t_network_Side x49 ad69) (List.mem_append.2 (.inl (hm71 _ (List.mem_of_getElem? (i := 0) rfl))))
            refine WL.loadP hs 0 rfl TI69 (.inl rfl) e70 (fun v51 hs => ?_)
            obtain ⟨cs52, hl53, rfl⟩ := hs.aggv (n := 2) 0 rfl rfl rfl
            have hs := hs.add (it := vl t_network_Side x49 (.agg cs52.toArray)) fun ok hA => hA.get 0 rfl
            exact WL.nil ⟨rfl, _, rfl, ⟨cs52, rfl⟩, hs.cutG 1 2⟩
          · intro ρ w Γx Λx hs hu hp
            obtain ⟨⟨cs72, e74r⟩, hm75⟩ := hp 4 rfl
            have e74 : ρ 77 = .agg cs72.toArray := e74r
            rw [e74r] at hm75
            have hs := hs.memo1 (it := vl t_network_Side x41 (.agg cs72.toArray)) (List.mem_append.2 (.inl (hm75 _ (List.mem_of_getElem? (i := 0) rfl))))
            have hl73 := hs.agglen (n := 2) 0 rfl rfl rfl
            obtain ⟨⟨cs76, e78r⟩, hm79⟩ := hp 9 rfl
            have e78 : ρ 82 = .agg cs76.toArray := e78r
            rw [e78r] at hm79
            have hs := hs.memo1 (it := vl t_network_Side x49 (.agg cs76.toArray)) (List.mem_cons_of_mem _ (List.mem_append.2 (.inl (hm79 _ (List.mem_of_getElem? (i := 0) rfl)))))
            have hl77 := hs.agglen (n := 2) 0 rfl rfl rfl
            obtain rfl := open_network_Side hs 1 rfl
            obtain rfl := open_network_Side hs 0 rfl
            refine WL.eqA e74 e78 EG69 (NQ69 (⟨x41.Process, x41.Side⟩ : network_Side) (⟨x49.Process, x49.Side⟩ : network_Side)) ?_
            exact WL.nil ⟨rfl, _, rfl, rfl, hs.cutG 0 2⟩
          · intro ρ w hs hu hp
            obtain ⟨⟨⟨⟨⟨⟨⟨⟨⟨⟨⟨_, hp0_⟩, hp1_⟩, hp2_⟩, hp3_⟩, hp4_⟩, hp5_⟩, hp6_⟩, hp7_⟩, hp8_⟩, hp9_⟩, hp10_⟩ := hp
            have hs : St ok (bz w0) w [vl t_network_Side x49 (ρ 82), pl t_network_Side x49 (adOf (ρ 81)), vl (tSlice t_network_Side) x5.Sides (ρ 79), vl t_network_Side x41 (ρ 77), pl t_network_Side x41 (adOf (ρ 76)), vl (tSlice t_network_Side) x1.Sides (ρ 74), vl (tSlice t_network_Side) x1.Sides (.slice a33 (x1.Sides).length c34), vl t_network_Network x5 (.agg cs7.toArray), vl t_network_Network x1 (.agg cs3.toArray)] [blk g11 27 cs7, blk g10 27 cs3] := hs
            have e80 : ρ 83 = .bool (!decide ((⟨x41.Process, x41.Side⟩ : network_Side) = (⟨x49.Process, x49.Side⟩ : network_Side))) := hp10_
            obtain ⟨cs81, e83⟩ := hp9_
            have e83 : ρ 82 = .agg cs81.toArray := e83
            try rw [e83] at hs
            obtain ⟨ad84, e85⟩ := hp8_
            have e85 : ρ 81 = .pointer (some ad84) := e85
            try rw [e85] at hs
            have e86 : ρ 80 = .int .i64 x28 := hp7_
            obtain ⟨⟨a87, c88⟩, e89⟩ := hp6_
            have e89 : ρ 79 = .slice a87 (x5.Sides).length c88 := e89
            try rw [e89] at hs
            have e90 : ρ 78 = .pointer (some ⟨g11, 2, none⟩) := hp5_
            obtain ⟨cs91, e93⟩ := hp4_
            have e93 : ρ 77 = .agg cs91.toArray := e93
            try rw [e93] at hs
            obtain ⟨ad94, e95⟩ := hp3_
            have e95 : ρ 76 = .pointer (some ad94) := e95
            try rw [e95] at hs
            have e96 : ρ 75 = .int .i64 x28 := hp2_
            obtain ⟨⟨a97, c98⟩, e99⟩ := hp1_
            have e99 : ρ 74 = .slice a97 (x1.Sides).length c98 := e99
            try rw [e99] at hs
            have e100 : ρ 73 = .pointer (some ⟨g10, 2, none⟩) := hp0_
            have hl92 := hs.agglen (n := 2) 3 rfl rfl rfl
            have hl82 := hs.agglen (n := 2) 0 rfl rfl rfl
            refine WA.done (by kernel_rfl) ?_
            refine hK37 _ _ ?_
            rcases iteE hf with ⟨hc101, hf⟩ | ⟨hc101, hf⟩
            · refine W.cond_true (bool_tr e80 hc101) ?_
              refine W.seqK fun K102 hK102 => ?_
              refine W.region ?_
              refine WL.assign (v := .bool false) rfl ?_
              refine WL.nil ?_
              refine hK102 _ _ ?_
              refine W.ret ?_
              have hr := Option.some.inj hf; subst hr
              have hr := hbbs29 _ rfl; subst hr
              have hf := hfs29
              have hr := Option.some.inj hf; subst hr
              exact ⟨_, resOk_one rfl rfl, (), rfl, (hs.mask []).pick []⟩
            · refine W.cond_false (bool_tr e80 hc101) ?_
              refine W.skip ?_
              refine hK36 _ _ ?_
              refine W.region ?_
              refine WL.move (v := .int .i64 x28) ((hu 6 rfl).trans h27_6) ?_
              obtain ⟨x103, ex103, hf⟩ := letE hf
              refine WL.bin (v := .int .i64 x103) rfl rfl (ib_as ex103 (ib_add _ _ _)) ?_
              refine WL.assign (v := .int .i64 x103) rfl ?_
              refine WL.nil ?_
              exact ⟨_, (Option.some.inj hf).symm, ((hu 2 rfl).trans h27_2), ((hu 3 rfl).trans h27_3), rfl, (hs.mask [true, true]).pick [7, 8]⟩
        · refine W.cond_false (bool_tr rfl hc35) ?_
          refine W.exit ?_
          have hr := Option.some.inj hf; subst hr
          have hr := hbbs29 _ rfl; subst hr
          have hf := hfs29
          exact Jk24  _ _  ((hs.mask []).pick []) hf
      refine W.seqK fun K105 hK105 => ?_
      refine W.region ?_
      refine WL.assign (v := .int .i64 0) rfl ?_
      refine WL.nil ?_
      refine hK105 _ _ ?_
      refine W.block ?_
      obtain ⟨bs108, hbs108, hfs108⟩ := bindE hf
      refine W.loop hbs108 (fun s ρ w => match s with | x107 => ρ 2 = .pointer (some ⟨g10, 0, none⟩) ∧ ρ 3 = .pointer (some ⟨g11, 0, none⟩) ∧ ρ 5 = .int .i64 x107 ∧ St ok (bz w0) w [vl t_network_Network x5 (.agg cs7.toArray), vl t_network_Network x1 (.agg cs3.toArray)] [blk g11 27 cs7, blk g10 27 cs3]) ⟨h14_2, h14_3, rfl, (hs.mask [true, true]).pick [0, 1]⟩ ?_
      intro x107 ρ w os108 hI hf hbbs108
      obtain ⟨h106_2, h106_3, h106_5, hs⟩ := hI
      unfold eslaw34_Equal.l2 at hf
      refine W.seqK fun K109 hK109 => ?_
      refine W.seqK fun K110 hK110 => ?_
      refine W.region ?_
      refine WL.move (v := .int .i64 x107) h106_5 ?_
      refine WL.fieldAddr (m := 1) h106_2 FA27_1 rfl ?_
      refine WL.loadF (z := x1.Packets) F_network_Network_Packets hs 1 rfl 1 rfl rfl TI25 (.inr rfl) rfl rfl (fun v111 hs => ?_)
      obtain ⟨a112, c113, rfl⟩ := hs.slice 0 rfl
      refine WL.len (v := .slice a112 (x1.Packets).length c113) rfl (len_slice UN25) ?_
      refine WL.bin (v := .bool (decide (x107 < ((x1.Packets).length : Int)))) rfl rfl (ib_lss _ _ _) ?_
      refine WL.nil ?_
      refine hK110 _ _ ?_
      rcases iteE hf with ⟨hc114, hf⟩ | ⟨hc114, hf⟩
      · refine W.cond_true (bool_tr rfl hc114) ?_
        refine W.skip ?_
        refine hK109 _ _ ?_
        refine W.seqK fun K115 hK115 => ?_
        refine W.block ?_
        refine W.seqK fun K116 hK116 => ?_
        have Jk119 : ∀ (x118 : Bool) (ρ : Env) (w : World), ρ 2 = .pointer (some ⟨g10, 0, none⟩) → ρ 3 = .pointer (some ⟨g11, 0, none⟩) → ρ 5 = .int .i64 x107 → ρ 65 = .bool x118 → St ok (bz w0) w [vl t_network_Network x5 (.agg cs7.toArray), vl t_network_Network x1 (.agg cs3.toArray)] [blk g11 27 cs7, blk g10 27 cs3] → eslaw34_Equal.j3 x107 x118 = some os108 → K116 ρ w := by
          intro x118 ρ w h117_2 h117_3 h117_5 h117_65 hs hf
          refine hK116 _ _ ?_
          unfold eslaw34_Equal.j3 at hf
          rcases iteE hf with ⟨hc120, hf⟩ | ⟨hc120, hf⟩
          · refine W.cond_true (bool_tr h117_65 hc120) ?_
            refine W.seqK fun K121 hK121 => ?_
            refine W.region ?_
            refine WL.assign (v := .bool false) rfl ?_
            refine WL.nil ?_
            refine hK121 _ _ ?_
            refine W.ret ?_
            have hr := Option.some.inj hf; subst hr
            have hr := hbbs108 _ rfl; subst hr
            have hf := hfs108
            have hr := Option.some.inj hf; subst hr
            exact ⟨_, resOk_one rfl rfl, (), rfl, (hs.mask []).pick []⟩
          · refine W.cond_false (bool_tr h117_65 hc120) ?_
            refine W.skip ?_
            refine hK115 _ _ ?_
            refine W.region ?_
            refine WL.move (v := .int .i64 x107) h117_5 ?_
            obtain ⟨x122, ex122, hf⟩ := letE hf
            refine WL.bin (v := .int .i64 x122) rfl rfl (ib_as ex122 (ib_add _ _ _)) ?_
            refine WL.assign (v := .int .i64 x122) rfl ?_
            refine WL.nil ?_
            exact ⟨_, (Option.some.inj hf).symm, h117_2, h117_3, rfl, (hs.mask [true, true]).pick [0, 1]⟩
        obtain ⟨x126, hxx126, hf⟩ := bindE hf
        obtain ⟨x133, hxx133, hf⟩ := bindE hf
        rcases iteE hf with ⟨hc137, hf⟩ | ⟨hc137, hf⟩
        · refine W.any (by kernel_rfl) 29 0 [true, true, true, true, true, true, true, true, true, true, true, true, true, true, true, true, true, true, true, true, true, true, true, true, true, true, true, true, true] rfl rfl (poAt [pv (.pointer (some ⟨g10, 1, none⟩)), pq (fun y : (Option Addr × Nat) => .slice y.1 (x1.Packets).length y.2) (fun v => [vl (tSlice t_network_Packet) x1.Packets v]) (fun v => []), pv (.int .i64 x107), pq (fun y : Addr => .pointer (some y)) (fun v => [pl t_network_Packet x126 (adOf v)]) (fun v => []), pq (fun y : Addr => .pointer (some y)) (fun v => [pl (tInt .i64) x126.ID (adOf v)]) (fun v => []), pv (.int .i64 x126.ID), pv (.pointer (some ⟨g11, 1, none⟩)), pq (fun y : (Option Addr × Nat) => .slice y.1 (x5.Packets).length y.2) (fun v => [vl (tSlice t_network_Packet) x5.Packets v]) (fun v => []), pv (.int .i64 x107), pq (fun y : Addr => .pointer (some y)) (fun v => [pl t_network_Packet x133 (adOf v)]) (fun v => []), pq (fun y : Addr => .pointer (some y)) (fun v => [pl (tInt .i64) x133.ID (adOf v)]) (fun v => []), pv (.int .i64 x133.ID), pv (.bool (x126.ID != x133.ID)), pv (.bool (x126.ID != x133.ID)), pv (undef), pv (undef), pv (undef), pv (undef), pv (undef), pv (undef), pv (undef), pv (undef), pv (undef), pv (undef), pv (undef), pv (undef), pv (undef), pv (undef), pv (.bool true)]) (Λ := [blk g11 27 cs7, blk g10 27 cs3]) hs (by kernel_rfl) (by kernel_rfl) (by kernel_rfl) ⟨⟨⟨⟨⟨⟨⟨⟨⟨⟨⟨⟨⟨⟨⟨⟨⟨⟨⟨⟨⟨⟨⟨⟨⟨⟨⟨⟨⟨trivial, ?_⟩, ?_⟩, ?_⟩, ?_⟩, ?_⟩, ?_⟩, ?_⟩, ?_⟩, ?_⟩, ?_⟩, ?_⟩, ?_⟩, ?_⟩, ?_⟩, ?_⟩, ?_⟩, ?_⟩, ?_⟩, ?_⟩, ?_⟩, ?_⟩, ?_⟩, ?_⟩, ?_⟩, ?_⟩, ?_⟩, ?_⟩, ?_⟩, ?_⟩ ?_
          · intro ρ w Γx Λx hs hu hp
            refine WL.fieldAddr (m := 1) ((hu 2 rfl).trans h106_2) FA27_1 rfl ?_
            exact WL.nil ⟨rfl, _, rfl, rfl, hs.cutG 0 0⟩
          · intro ρ w Γx Λx hs hu hp
            have e138 : ρ 37 = .pointer (some ⟨g10, 1, none⟩) := (hp 0 rfl).1
            refine WL.loadF (z := x1.Packets) F_network_Network_Packets hs (Λx.length + 1) (getApp rfl) (Γx.length + 2) (getApp rfl) rfl TI25 (.inr rfl) e138 rfl (fun v123 hs => ?_)
            obtain ⟨a124, c125, rfl⟩ := hs.slice 0 rfl
            have hs := hs.add (it := vl (tSlice t_network_Packet) x1.Packets (.slice a124 (x1.Packets).length c125)) fun ok hA => hA.get 0 rfl
            exact WL.nil ⟨rfl, _, rfl, ⟨(a124, c125), rfl⟩, hs.cutG 1 1⟩
          · intro ρ w Γx Λx hs hu hp
            refine WL.move (v := .int .i64 x107) ((hu 5 rfl).trans h106_5) ?_
            exact WL.nil ⟨rfl, _, rfl, rfl, hs.cutG 0 0⟩
          · intro ρ w Γx Λx hs hu hp
            obtain ⟨⟨⟨a139, c140⟩, e141r⟩, hm142⟩ := hp 1 rfl
            have e141 : ρ 38 = .slice a139 (x1.Packets).length c140 := e141r
            rw [e141r] at hm142
            have hs := hs.memo1 (it := vl (tSlice t_network_Packet) x1.Packets (.slice a139 (x1.Packets).length c140)) (List.mem_append.2 (.inl (hm142 _ (List.mem_of_getElem? (i := 0) rfl))))
            have e143 : ρ 39 = .int .i64 x107 := (hp 2 rfl).1
            refine WL.indexAddr hs 0 rfl UN25 TI51 e141 e143 hxx126 (fun ad127 hs => ?_)
            have hs := hs.add (it := pl t_network_Packet x126 ad127) fun ok hA => hA.get 0 rfl
            exact WL.nil ⟨rfl, _, rfl, ⟨ad127, rfl⟩, hs.cutG 1 2⟩
          · intro ρ w Γx Λx hs hu hp
            obtain ⟨⟨ad144, e145r⟩, hm146⟩ := hp 3 rfl
            have e145 : ρ 40 = .pointer (some ad144) := e145r
            rw [e145r] at hm146
            have hs := hs.memo1 (it := pl t_network_Packet x126 ad144) (List.mem_append.2 (.inl (hm146 _ (List.mem_of_getElem? (i := 0) rfl))))
            refine WL.fieldAddrP (z := x126.ID) F_network_Packet_ID hs 0 rfl e145 FA51_0 rfl (fun ad128 hs => ?_)
            have hs := hs.add (it := pl (tInt .i64) x126.ID ad128) fun ok hA => hA.get 0 rfl
            exact WL.nil ⟨rfl, _, rfl, ⟨ad128, rfl⟩, hs.cutG 1 2⟩
          · intro ρ w Γx Λx hs hu hp
            obtain ⟨⟨ad147, e148r⟩, hm149⟩ := hp 4 rfl
            have e148 : ρ 41 = .pointer (some ad147) := e148r
            rw [e148r] at hm149
            have hs := hs.memo1 (it := pl (tInt .i64) x126.ID ad147) (List.mem_append.2 (.inl (hm149 _ (List.mem_of_getElem? (i := 0) rfl))))
            refine WL.loadP hs 0 rfl TI3 (.inr rfl) e148 (fun v129 hs => ?_)
            obtain rfl := hs.int 0 rfl
            exact WL.nil ⟨rfl, _, rfl, rfl, hs.cutG 0 2⟩
          · intro ρ w Γx Λx hs hu hp
            refine WL.fieldAddr (m := 1) ((hu 3 rfl).trans h106_3) FA27_1 rfl ?_
            exact WL.nil ⟨rfl, _, rfl, rfl, hs.cutG 0 0⟩
          · intro ρ w Γx Λx hs hu hp
            have e150 : ρ 43 = .pointer (some ⟨g11, 1, none⟩) := (hp 6 rfl).1
            refine WL.loadF (z := x5.Packets) F_network_Network_Packets hs (Λx.length + 0) (getApp rfl) (Γx.length + 1) (getApp rfl) rfl TI25 (.inr rfl) e150 rfl (fun v130 hs => ?_)
            obtain ⟨a131, c132, rfl⟩ := hs.slice 0 rfl
            have hs := hs.add (it := vl (tSlice t_network_Packet) x5.Packets (.slice a131 (x5.Packets).length c132)) fun ok hA => hA.get 0 rfl
            exact WL.nil ⟨rfl, _, rfl, ⟨(a131, c132), rfl⟩, hs.cutG 1 1⟩
          · intro ρ w Γx Λx hs hu hp
            refine WL.move (v := .int .i64 x107) ((hu 5 rfl).trans h106_5) ?_
            exact WL.nil ⟨rfl, _, rfl, rfl, hs.cutG 0 0⟩
          · intro ρ w Γx Λx hs hu hp
            obtain ⟨⟨⟨a151, c152⟩, e153r⟩, hm154⟩ := hp 7 rfl
            have e153 : ρ 44 = .slice a151 (x5.Packets).length c152 := e153r
            rw [e153r] at hm154
            have hs := hs.memo1 (it := vl (tSlice t_network_Packet) x5.Packets (.slice a151 (x5.Packets).length c152)) (List.mem_append.2 (.inl (hm154 _ (List.mem_of_getElem? (i := 0) rfl))))
            have e155 : ρ 45 = .int .i64 x107 := (hp 8 rfl).1
            refine WL.indexAddr hs 0 rfl UN25 TI51 e153 e155 hxx133 (fun ad134 hs => ?_)
            have hs := hs.add (it := pl t_network_Packet x133 ad134) fun ok hA => hA.get 0 rfl
            exact WL.nil ⟨rfl, _, rfl, ⟨ad134, rfl⟩, hs.cutG 1 2⟩
          · intro ρ w Γx Λx hs hu hp
            obtain ⟨⟨ad156, e157r⟩, hm158⟩ := hp 9 rfl
            have e157 : ρ 46 = .pointer (some ad156) := e157r
            rw [e157r] at hm158
            have hs := hs.memo1 (it := pl t_network_Packet x133 ad156) (List.mem_append.2 (.inl (hm158 _ (List.mem_of_getElem? (i := 0) rfl))))
            refine WL.fieldAddrP (z := x133.ID) F_network_Packet_ID hs 0 rfl e157 FA51_0 rfl (fun ad135 hs => ?_)
            have hs := hs.add (it := pl (tInt .i64) x133.ID ad135) fun ok hA => hA.get 0 rfl
            exact WL.nil ⟨rfl, _, rfl, ⟨ad135, rfl⟩, hs.cutG 1 2⟩
          · intro ρ w Γx Λx hs hu hp
            obtain ⟨⟨ad159, e160r⟩, hm161⟩ := hp 10 rfl
            have e160 : ρ 47 = .pointer (some ad159) := e160r
            rw [e160r] at hm161
            have hs := hs.memo1 (it := pl (tInt .i64) x133.ID ad159) (List.mem_append.2 (.inl (hm161 _ (List.mem_of_getElem? (i := 0) rfl))))
            refine WL.loadP hs 0 rfl TI3 (.inr rfl) e160 (fun v136 hs => ?_)
            obtain rfl := hs.int 0 rfl
            exact WL.nil ⟨rfl, _, rfl, rfl, hs.cutG 0 2⟩
          · intro ρ w Γx Λx hs hu hp
            have e162 : ρ 42 = .int .i64 x126.ID := (hp 5 rfl).1
            have e163 : ρ 48 = .int .i64 x133.ID := (hp 11 rfl).1
            refine WL.bin (v := .bool (x126.ID != x133.ID)) e162 e163 (ib_neq _ _ _) ?_
            exact WL.nil ⟨rfl, _, rfl, rfl, hs.cutG 0 0⟩
          · intro ρ w Γx Λx hs hu hp
            have e164 : ρ 49 = .bool (x126.ID != x133.ID) := (hp 12 rfl).1
            refine WL.move (v := .bool (x126.ID != x133.ID)) e164 ?_
            exact WL.nil ⟨rfl, _, rfl, rfl, hs.cutG 0 0⟩
          · intro ρ w Γx Λx hs hu hp
            have e165 : ρ 50 = .bool (x126.ID != x133.ID) := (hp 13 rfl).1
            refine WL.pass ((wanted_of rfl rfl (bool_tr e165 hc137)).trans rfl) rfl ?_
            exact WL.nil ⟨rfl, _, rfl, rfl, hs.cutG 0 0⟩
          · intro ρ w Γx Λx hs hu hp
            have e166 : ρ 51 = undef := (hp 14 rfl).1
            have e167 : ρ 50 = .bool (x126.ID != x133.ID) := (hp 13 rfl).1
            refine WL.pass ((wanted_of rfl rfl (bool_tr e167 hc137)).trans rfl) rfl ?_
            exact WL.nil ⟨rfl, _, rfl, rfl, hs.cutG 0 0⟩
          · intro ρ w Γx Λx hs hu hp
            have e168 : ρ 50 = .bool (x126.ID != x133.ID) := (hp 13 rfl).1
            refine WL.pass ((wanted_of rfl rfl (bool_tr e168 hc137)).trans rfl) rfl ?_
            exact WL.nil ⟨rfl, _, rfl, rfl, hs.cutG 0 0⟩
          · intro ρ w Γx Λx hs hu hp
            have e169 : ρ 52 = undef := (hp 15 rfl).1
            have e170 : ρ 53 = undef := (hp 16 rfl).1
            have e171 : ρ 50 = .bool (x126.ID != x133.ID) := (hp 13 rfl).1
            refine WL.pass ((wanted_of rfl rfl (bool_tr e171 hc137)).trans rfl) rfl ?_
            exact WL.nil ⟨rfl, _, rfl, rfl, hs.cutG 0 0⟩
          · intro ρ w Γx Λx hs hu hp
            have e172 : ρ 54 = undef := (hp 17 rfl).1
            have e173 : ρ 50 = .bool (x126.ID != x133.ID) := (hp 13 rfl).1
            refine WL.pass ((wanted_of rfl rfl (bool_tr e173 hc137)).trans rfl) rfl ?_
            exact WL.nil ⟨rfl, _, rfl, rfl, hs.cutG 0 0⟩
          · intro ρ w Γx Λx hs hu hp
            have e174 : ρ 55 = undef := (hp 18 rfl).1
            have e175 : ρ 50 = .bool (x126.ID != x133.ID) := (hp 13 rfl).1
            refine WL.pass ((wanted_of rfl rfl (bool_tr e175 hc137)).trans rfl) rfl ?_
            exact WL.nil ⟨rfl, _, rfl, rfl, hs.cutG 0 0⟩
          · intro ρ w Γx Λx hs hu hp
            have e176 : ρ 50 = .bool (x126.ID != x133.ID) := (hp 13 rfl).1
            refine WL.pass ((wanted_of rfl rfl (bool_tr e176 hc137)).trans rfl) rfl ?_
            exact WL.nil ⟨rfl, _, rfl, rfl, hs.cutG 0 0⟩
          · intro ρ w Γx Λx hs hu hp
            have e177 : ρ 57 = undef := (hp 20 rfl).1
            have e178 : ρ 50 = .bool (x126.ID != x133.ID) := (hp 13 rfl).1
            refine WL.pass ((wanted_of rfl rfl (bool_tr e178 hc137)).trans rfl) rfl ?_
            exact WL.nil ⟨rfl, _, rfl, rfl, hs.cutG 0 0⟩
          · intro ρ w Γx Λx hs hu hp
            have e179 : ρ 50 = .bool (x126.ID != x133.ID) := (hp 13 rfl).1
            refine WL.pass ((wanted_of rfl rfl (bool_tr e179 hc137)).trans rfl) rfl ?_
            exact WL.nil ⟨rfl, _, rfl, rfl, hs.cutG 0 0⟩
          · intro ρ w Γx Λx hs hu hp
            have e180 : ρ 58 = undef := (hp 21 rfl).1
            have e181 : ρ 59 = undef := (hp 22 rfl).1
            have e182 : ρ 50 = .bool (x126.ID != x133.ID) := (hp 13 rfl).1
            refine WL.pass ((wanted_of rfl rfl (bool_tr e182 hc137)).trans rfl) rfl ?_
            exact WL.nil ⟨rfl, _, rfl, rfl, hs.cutG 0 0⟩
          · intro ρ w Γx Λx hs hu hp
            have e183 : ρ 60 = undef := (hp 23 rfl).1
            have e184 : ρ 50 = .bool (x126.ID != x133.ID) := (hp 13 rfl).1
            refine WL.pass ((wanted_of rfl rfl (bool_tr e184 hc137)).trans rfl) rfl ?_
            exact WL.nil ⟨rfl, _, rfl, rfl, hs.cutG 0 0⟩
          · intro ρ w Γx Λx hs hu hp
            have e185 : ρ 61 = undef := (hp 24 rfl).1
            have e186 : ρ 50 = .bool (x126.ID != x133.ID) := (hp 13 rfl).1
            refine WL.pass ((wanted_of rfl rfl (bool_tr e186 hc137)).trans rfl) rfl ?_
            exact WL.nil ⟨rfl, _, rfl, rfl, hs.cutG 0 0⟩
          · intro ρ w Γx Λx hs hu hp
            have e187 : ρ 56 = undef := (hp 19 rfl).1
            have e188 : ρ 62 = undef := (hp 25 rfl).1
            have e189 : ρ 50 = .bool (x126.ID != x133.ID) := (hp 13 rfl).1
            refine WL.pass ((wanted_of rfl rfl (bool_tr e189 hc137)).trans rfl) rfl ?_
            exact WL.nil ⟨rfl, _, rfl, rfl, hs.cutG 0 0⟩
          · intro ρ w Γx Λx hs hu hp
            have e190 : ρ 63 = undef := (hp 26 rfl).1
            have e191 : ρ 50 = .bool (x126.ID != x133.ID) := (hp 13 rfl).1
            refine WL.pass ((wanted_of rfl rfl (bool_tr e191 hc137)).trans rfl) rfl ?_
            exact WL.nil ⟨rfl, _, rfl, rfl, hs.cutG 0 0⟩
          · intro ρ w Γx Λx hs hu hp
            have e192 : ρ 50 = .bool (x126.ID != x133.ID) := (hp 13 rfl).1
            have e193 : ρ 64 = undef := (hp 27 rfl).1
            refine WL.pickT (v := .bool true) (bool_tr e192 hc137) rfl ?_
            exact WL.nil ⟨rfl, _, rfl, rfl, hs.cutG 0 0⟩
          · intro ρ w hs hu hp
            obtain ⟨⟨⟨⟨⟨⟨⟨⟨⟨⟨⟨⟨⟨⟨⟨⟨⟨⟨⟨⟨⟨⟨⟨⟨⟨⟨⟨⟨⟨_, hp0_⟩, hp1_⟩, hp2_⟩, hp3_⟩, hp4_⟩, hp5_⟩, hp6_⟩, hp7_⟩, hp8_⟩, hp9_⟩, hp10_⟩, hp11_⟩, hp12_⟩, hp13_⟩, hp14_⟩, hp15_⟩, hp16_⟩, hp17_⟩, hp18_⟩, hp19_⟩, hp20_⟩, hp21_⟩, hp22_⟩, hp23_⟩, hp24_⟩, hp25_⟩, hp26_⟩, hp27_⟩, hp28_⟩ := hp
            have hs : St ok (bz w0) w [pl (tInt .i64) x133.ID (adOf (ρ 47)), pl t_network_Packet x133 (adOf (ρ 46)), vl (tSlice t_network_Packet) x5.Packets (ρ 44), pl (tInt .i64) x126.ID (adOf (ρ 41)), pl t_network_Packet x126 (adOf (ρ 40)), vl (tSlice t_network_Packet) x1.Packets (ρ 38), vl (tSlice t_network_Packet) x1.Packets (.slice a112 (x1.Packets).length c113), vl t_network_Network x5 (.agg cs7.toArray), vl t_network_Network x1 (.agg cs3.toArray)] [blk g11 27 cs7, blk g10 27 cs3] := hs
            have e194 : ρ 65 = .bool true := hp28_
            have e195 : ρ 64 = undef := hp27_
            have e196 : ρ 63 = undef := hp26_
            have e197 : ρ 62 = undef := hp25_
            have e198 : ρ 61 = undef := hp24_
            have e199 : ρ 60 = undef := hp23_
            have e200 : ρ 59 = undef := hp22_
            have e201 : ρ 58 = undef := hp21_
            have e202 : ρ 57 = undef := hp20_
            have e203 : ρ 56 = undef := hp19_
            have e204 : ρ 55 = undef := hp18_
            have e205 : ρ 54 = undef := hp17_
            have e206 : ρ 53 = undef := hp16_
            have e207 : ρ 52 = undef := hp15_
            have e208 : ρ 51 = undef := hp14_
            have e209 : ρ 50 = .bool (x126.ID != x133.ID) := hp13_
            have e210 : ρ 49 = .bool (x126.ID != x133.ID) := hp12_
            have e211 : ρ 48 = .int .i64 x133.ID := hp11_
            obtain ⟨ad212, e213⟩ := hp10_
            have e213 : ρ 47 = .pointer (some ad212) := e213
            try rw [e213] at hs
            obtain ⟨ad214, e215⟩ := hp9_
            have e215 : ρ 46 = .pointer (some ad214) := e215
            try rw [e215] at hs
            have e216 : ρ 45 = .int .i64 x107 := hp8_
            obtain ⟨⟨a217, c218⟩, e219⟩ := hp7_
            have e219 : ρ 44 = .slice a217 (x5.Packets).length c218 := e219
            try rw [e219] at hs
            have e220 : ρ 43 = .pointer (some ⟨g11, 1, none⟩) := hp6_
            have e221 : ρ 42 = .int .i64 x126.ID := hp5_
            obtain ⟨ad222, e223⟩ := hp4_
            have e223 : ρ 41 = .pointer (some ad222) := e223
            try rw [e223] at hs
            obtain ⟨ad224, e225⟩ := hp3_
            have e225 : ρ 40 = .pointer (some ad224) := e225
            try rw [e225] at hs
            have e226 : ρ 39 = .int .i64 x107 := hp2_
            obtain ⟨⟨a227, c228⟩, e229⟩ := hp1_
            have e229 : ρ 38 = .slice a227 (x1.Packets).length c228 := e229
            try rw [e229] at hs
            have e230 : ρ 37 = .pointer (some ⟨g10, 1, none⟩) := hp0_
            refine WA.done (by kernel_rfl) ?_
            exact Jk119 true _ _ ((hu 2 rfl).trans h106_2) ((hu 3 rfl).trans h106_3) ((hu 5 rfl).trans h106_5) e194 ((hs.mask [true, true]).pick [7, 8]) hf
        · obtain ⟨x234, hxx234, hf⟩ := bindE hf
          obtain ⟨x243, hxx243, hf⟩ := bindE hf
          obtain ⟨x249, hxx249, hf⟩ := bindE hf
          refine W.any (by kernel_rfl) 29 0 [true, true, true, true, true, true, true, true, true, true, true, true, true, true, true, true, true, true, true, true, true, true, true, true, true, true, true, true, true] rfl rfl (poAt [pv (.pointer (some ⟨g10, 1, none⟩)), pq (fun y : (Option Addr × Nat) => .slice y.1 (x1.Packets).length y.2) (fun v => [vl (tSlice t_network_Packet) x1.Packets v]) (fun v => []), pv (.int .i64 x107), pq (fun y : Addr => .pointer (some y)) (fun v => [pl t_network_Packet x126 (adOf v)]) (fun v => []), pq (fun y : Addr => .pointer (some y)) (fun v => [pl (tInt .i64) x126.ID (adOf v)]) (fun v => []), pv (.int .i64 x126.ID), pv (.pointer (some ⟨g11, 1, none⟩)), pq (fun y : (Option Addr × Nat) => .slice y.1 (x5.Packets).length y.2) (fun v => [vl (tSlice t_network_Packet) x5.Packets v]) (fun v => []), pv (.int .i64 x107), pq (fun y : Addr => .pointer (some y)) (fun v => [pl t_network_Packet x133 (adOf v)]) (fun v => []), pq (fun y : Addr => .pointer (some y)) (fun v => [pl (tInt .i64) x133.ID (adOf v)]) (fun v => []), pv (.int .i64 x133.ID), pv (.bool (x126.ID != x133.ID)), pv (.bool (x126.ID != x133.ID)), pv (.pointer (some ⟨g10, 1, none⟩)), pq (fun y : (Option Addr × Nat) => .slice y.1 (x1.Packets).length y.2) (fun v => [vl (tSlice t_network_Packet) x1.Packets v]) (fun v => []), pv (.int .i64 x107), pq (fun y : Addr => .pointer (some y)) (fun v => [pl t_network_Packet x234 (adOf v)]) (fun v => []), pq (fun y : Addr => .pointer (some y)) (fun v => [pl t_api_Message x234.Message (adOf v)]) (fun v => []), pq (fun y : List Value => .agg y.toArray) (fun v => [vl t_api_Message x234.Message v]) (fun v => []), pv (.pointer (some ⟨g11, 1, none⟩)), pq (fun y : (Option Addr × Nat) => .slice y.1 (x5.Packets).length y.2) (fun v => [vl (tSlice t_network_Packet) x5.Packets v]) (fun v => []), pv (.int .i64 x107), pq (fun y : Addr => .pointer (some y)) (fun v => [pl t_network_Packet x243 (adOf v)]) (fun v => []), pq (fun y : Addr => .pointer (some y)) (fun v => [pl t_api_Message x243.Message (adOf v)]) (fun v => []), pq (fun y : List Value => .agg y.toArray) (fun v => [vl t_api_Message x243.Message v]) (fun v => []), pv (.bool x249), pv (.bool (!x249)), pv (.bool (!x249))]) (Λ := [blk g11 27 cs7, blk g10 27 cs3]) hs (by kernel_rfl) (by kernel_rfl) (by kernel_rfl) ⟨⟨⟨⟨⟨⟨⟨⟨⟨⟨⟨⟨⟨⟨⟨⟨⟨⟨⟨⟨⟨⟨⟨⟨⟨⟨⟨⟨⟨trivial, ?_⟩, ?_⟩, ?_⟩, ?_⟩, ?_⟩, ?_⟩, ?_⟩, ?_⟩, ?_⟩, ?_⟩, ?_⟩, ?_⟩, ?_⟩, ?_⟩, ?_⟩, ?_⟩, ?_⟩, ?_⟩, ?_⟩, ?_⟩, ?_⟩, ?_⟩, ?_⟩, ?_⟩, ?_⟩, ?_⟩, ?_⟩, ?_⟩, ?_⟩ ?_
          · intro ρ w Γx Λx hs hu hp
            refine WL.fieldAddr (m := 1) ((hu 2 rfl).trans h106_2) FA27_1 rfl ?_
            exact WL.nil ⟨rfl, _, rfl, rfl, hs.cutG 0 0⟩
          · intro ρ w Γx Λx hs hu hp
            have e250 : ρ 37 = .pointer (some ⟨g10, 1, none⟩) := (hp 0 rfl).1
            refine WL.loadF (z := x1.Packets) F_network_Network_Packets hs (Λx.length + 1) (getApp rfl) (Γx.length + 2) (getApp rfl) rfl TI25 (.inr rfl) e250 rfl (fun v123 hs => ?_)
            obtain ⟨a124, c125, rfl⟩ := hs.slice 0 rfl
            have hs := hs.add (it := vl (tSlice t_network_Packet) x1.Packets (.slice a124 (x1.Packets).length c125)) fun ok hA => hA.get 0 rfl
            exact WL.nil ⟨rfl, _, rfl, ⟨(a124, c125), rfl⟩, hs.cutG 1 1⟩
          · intro ρ w Γx Λx hs hu hp
            refine WL.move (v := .int .i64 x107) ((hu 5 rfl).trans h106_5) ?_
            exact WL.nil ⟨rfl, _, rfl, rfl, hs.cutG 0 0⟩
          · intro ρ w Γx Λx hs hu hp
            obtain ⟨⟨⟨a251, c252⟩, e253r⟩, hm254⟩ := hp 1 rfl
            have e253 : ρ 38 = .slice a251 (x1.Packets).length c252 := e253r
            rw [e253r] at hm254
            have hs := hs.memo1 (it := vl (tSlice t_network_Packet) x1.Packets (.slice a251 (x1.Packets).length c252)) (List.mem_append.2 (.inl (hm254 _ (List.mem_of_getElem? (i := 0) rfl))))
            have e255 : ρ 39 = .int .i64 x107 := (hp 2 rfl).1
            refine WL.indexAddr hs 0 rfl UN25 TI51 e253 e255 hxx126 (fun ad127 hs => ?_)
            have hs := hs.add (it := pl t_network_Packet x126 ad127) fun ok hA => hA.get 0 rfl
            exact WL.nil ⟨rfl, _, rfl, ⟨ad127, rfl⟩, hs.cutG 1 2⟩
          · intro ρ w Γx Λx hs hu hp
            obtain ⟨⟨ad256, e257r⟩, hm258⟩ := hp 3 rfl
            have e257 : ρ 40 = .pointer (some ad256) := e257r
            rw [e257r] at hm258
            have hs := hs.memo1 (it := pl t_network_Packet x126 ad256) (List.mem_append.2 (.inl (hm258 _ (List.mem_of_getElem? (i := 0) rfl))))
            refine WL.fieldAddrP (z := x126.ID) F_network_Packet_ID hs 0 rfl e257 FA51_0 rfl (fun ad128 hs => ?_)
            have hs := hs.add (it := pl (tInt .i64) x126.ID ad128) fun ok hA => hA.get 0 rfl
            exact WL.nil ⟨rfl, _, rfl, ⟨ad128, rfl⟩, hs.cutG 1 2⟩
          · intro ρ w Γx Λx hs hu hp
            obtain ⟨⟨ad259, e260r⟩, hm261⟩ := hp 4 rfl
            have e260 : ρ 41 = .pointer (some ad259) := e260r
            rw [e260r] at hm261
            have hs := hs.memo1 (it := pl (tInt .i64) x126.ID ad259) (List.mem_append.2 (.inl (hm261 _ (List.mem_of_getElem? (i := 0) rfl))))
            refine WL.loadP hs 0 rfl TI3 (.inr rfl) e260 (fun v129 hs => ?_)
            obtain rfl := hs.int 0 rfl
            exact WL.nil ⟨rfl, _, rfl, rfl, hs.cutG 0 2⟩
          · intro ρ w Γx Λx hs hu hp
            refine WL.fieldAddr (m := 1) ((hu 3 rfl).trans h106_3) FA27_1 rfl ?_
            exact WL.nil ⟨rfl, _, rfl, rfl, hs.cutG 0 0⟩
          · intro ρ w Γx Λx hs hu hp
            have e262 : ρ 43 = .pointer (some ⟨g11, 1, none⟩) := (hp 6 rfl).1
            refine WL.loadF (z := x5.Packets) F_network_Network_Packets hs (Λx.length + 0) (getApp rfl) (Γx.length + 1) (getApp rfl) rfl TI25 (.inr rfl) e262 rfl (fun v130 hs => ?_)
            obtain ⟨a131, c132, rfl⟩ := hs.slice 0 rfl
            have hs := hs.add (it := vl (tSlice t_network_Packet) x5.Packets (.slice a131 (x5.Packets).length c132)) fun ok hA => hA.get 0 rfl
            exact WL.nil ⟨rfl, _, rfl, ⟨(a131, c132), rfl⟩, hs.cutG 1 1⟩
          · intro ρ w Γx Λx hs hu hp
            refine WL.move (v := .int .i64 x107) ((hu 5 rfl).trans h106_5) ?_
            exact WL.nil ⟨rfl, _, rfl, rfl, hs.cutG 0 0⟩
          · intro ρ w Γx Λx hs hu hp
            obtain ⟨⟨⟨a263, c264⟩, e265r⟩, hm266⟩ := hp 7 rfl
            have e265 : ρ 44 = .slice a263 (x5.Packets).length c264 := e265r
            rw [e265r] at hm266
            have hs := hs.memo1 (it := vl (tSlice t_network_Packet) x5.Packets (.slice a263 (x5.Packets).length c264)) (List.mem_append.2 (.inl (hm266 _ (List.mem_of_getElem? (i := 0) rfl))))
            have e267 : ρ 45 = .int .i64 x107 := (hp 8 rfl).1
            refine WL.indexAddr hs 0 rfl UN25 TI51 e265 e267 hxx133 (fun ad134 hs => ?_)
            have hs := hs.add (it := pl t_network_Packet x133 ad134) fun ok hA => hA.get 0 rfl
            exact WL.nil ⟨rfl, _, rfl, ⟨ad134, rfl⟩, hs.cutG 1 2⟩
          · intro ρ w Γx Λx hs hu hp
            obtain ⟨⟨ad268, e269r⟩, hm270⟩ := hp 9 rfl
            have e269 : ρ 46 = .pointer (some ad268) := e269r
            rw [e269r] at hm270
            have hs := hs.memo1 (it := pl t_network_Packet x133 ad268) (List.mem_append.2 (.inl (hm270 _ (List.mem_of_getElem? (i := 0) rfl))))
            refine WL.fieldAddrP (z := x133.ID) F_network_Packet_ID hs 0 rfl e269 FA51_0 rfl (fun ad135 hs => ?_)
            have hs := hs.add (it := pl (tInt .i64) x133.ID ad135) fun ok hA => hA.get 0 rfl
            exact WL.nil ⟨rfl, _, rfl, ⟨ad135, rfl⟩, hs.cutG 1 2⟩
          · intro ρ w Γx Λx hs hu hp
            obtain ⟨⟨ad271, e272r⟩, hm273⟩ := hp 10 rfl
            have e272 : ρ 47 = .pointer (some ad271) := e272r
            rw [e272r] at hm273
            have hs := hs.memo1 (it := pl (tInt .i64) x133.ID ad271) (List.mem_append.2 (.inl (hm273 _ (List.mem_of_getElem? (i := 0) rfl))))
            refine WL.loadP hs 0 rfl TI3 (.inr rfl) e272 (fun v136 hs => ?_)
            obtain rfl := hs.int 0 rfl
            exact WL.nil ⟨rfl, _, rfl, rfl, hs.cutG 0 2⟩
          · intro ρ w Γx Λx hs hu hp
            have e274 : ρ 42 = .int .i64 x126.ID := (hp 5 rfl).1
            have e275 : ρ 48 = .int .i64 x133.ID := (hp 11 rfl).1
            refine WL.bin (v := .bool (x126.ID != x133.ID)) e274 e275 (ib_neq _ _ _) ?_
            exact WL.nil ⟨rfl, _, rfl, rfl, hs.cutG 0 0⟩
          · intro ρ w Γx Λx hs hu hp
            have e276 : ρ 49 = .bool (x126.ID != x133.ID) := (hp 12 rfl).1
            refine WL.move (v := .bool (x126.ID != x133.ID)) e276 ?_
            exact WL.nil ⟨rfl, _, rfl, rfl, hs.cutG 0 0⟩
          · intro ρ w Γx Λx hs hu hp
            have e277 : ρ 50 = .bool (x126.ID != x133.ID) := (hp 13 rfl).1
            refine WL.fieldAddr (m := 1) ((hu 2 rfl).trans h106_2) FA27_1 rfl ?_ (hg := (wanted_of rfl rfl (bool_tr e277 hc137)).trans rfl)
            exact WL.nil ⟨rfl, _, rfl, rfl, hs.cutG 0 0⟩
          · intro ρ w Γx Λx hs hu hp
            have e278 : ρ 51 = .pointer (some ⟨g10, 1, none⟩) := (hp 14 rfl).1
            have e279 : ρ 50 = .bool (x126.ID != x133.ID) := (hp 13 rfl).1
            refine WL.loadF (z := x1.Packets) F_network_Network_Packets hs (Λx.length + 1) (getApp rfl) (Γx.length + 2) (getApp rfl) rfl TI25 (.inr rfl) e278 rfl (fun v231 hs => ?_) (hg := (wanted_of rfl rfl (bool_tr e279 hc137)).trans rfl)
            obtain ⟨a232, c233, rfl⟩ := hs.slice 0 rfl
            have hs := hs.add (it := vl (tSlice t_network_Packet) x1.Packets (.slice a232 (x1.Packets).length c233)) fun ok hA => hA.get 0 rfl
            exact WL.nil ⟨rfl, _, rfl, ⟨(a232, c233), rfl⟩, hs.cutG 1 1⟩
          · intro ρ w Γx Λx hs hu hp
            have e280 : ρ 50 = .bool (x126.ID != x133.ID) := (hp 13 rfl).1
            refine WL.move (v := .int .i64 x107) ((hu 5 rfl).trans h106_5) ?_ (hg := (wanted_of rfl rfl (bool_tr e280 hc137)).trans rfl)
            exact WL.nil ⟨rfl, _, rfl, rfl, hs.cutG 0 0⟩
          · intro ρ w Γx Λx hs hu hp
            obtain ⟨⟨⟨a281, c282⟩, e283r⟩, hm284⟩ := hp 15 rfl
            have e283 : ρ 52 = .slice a281 (x1.Packets).length c282 := e283r
            rw [e283r] at hm284
            have hs := hs.memo1 (it := vl (tSlice t_network_Packet) x1.Packets (.slice a281 (x1.Packets).length c282)) (List.mem_append.2 (.inl (hm284 _ (List.mem_of_getElem? (i := 0) rfl))))
            have e285 : ρ 53 = .int .i64 x107 := (hp 16 rfl).1
            have e286 : ρ 50 = .bool (x126.ID != x133.ID) := (hp 13 rfl).1
            refine WL.indexAddr hs 0 rfl UN25 TI51 e283 e285 hxx234 (fun ad235 hs => ?_) (hg := (wanted_of rfl rfl (bool_tr e286 hc137)).trans rfl)
            have hs := hs.add (it := pl t_network_Packet x234 ad235) fun ok hA => hA.get 0 rfl
            exact WL.nil ⟨rfl, _, rfl, ⟨ad235, rfl⟩, hs.cutG 1 2⟩
          · intro ρ w Γx Λx hs hu hp
            obtain ⟨⟨ad287, e288r⟩, hm289⟩ := hp 17 rfl
            have e288 : ρ 54 = .pointer (some ad287) := e288r
            rw [e288r] at hm289
            have hs := hs.memo1 (it := pl t_network_Packet x234 ad287) (List.mem_append.2 (.inl (hm289 _ (List.mem_of_getElem? (i := 0) rfl))))
            have e290 : ρ 50 = .bool (x126.ID != x133.ID) := (hp 13 rfl).1
            refine WL.fieldAddrP (z := x234.Message) F_network_Packet_Message hs 0 rfl e288 FA51_1 rfl (fun ad236 hs => ?_) (hg := (wanted_of rfl rfl (bool_tr e290 hc137)).trans rfl)
            have hs := hs.add (it := pl t_api_Message x234.Message ad236) fun ok hA => hA.get 0 rfl
            exact WL.nil ⟨rfl, _, rfl, ⟨ad236, rfl⟩, hs.cutG 1 2⟩
          · intro ρ w Γx Λx hs hu hp
            obtain ⟨⟨ad291, e292r⟩, hm293⟩ := hp 18 rfl
            have e292 : ρ 55 = .pointer (some ad291) := e292r
            rw [e292r] at hm293
            have hs := hs.memo1 (it := pl t_api_Message x234.Message ad291) (List.mem_append.2 (.inl (hm293 _ (List.mem_of_getElem? (i := 0) rfl))))
            have e294 : ρ 50 = .bool (x126.ID != x133.ID) := (hp 13 rfl).1
            refine WL.loadP hs 0 rfl TI49 (.inl rfl) e292 (fun v237 hs => ?_) (hg := (wanted_of rfl rfl (bool_tr e294 hc137)).trans rfl)
            obtain ⟨cs238, hl239, rfl⟩ := hs.aggv (n := 18) 0 rfl rfl rfl
            have hs := hs.add (it := vl t_api_Message x234.Message (.agg cs238.toArray)) fun ok hA => hA.get 0 rfl
            exact WL.nil ⟨rfl, _, rfl, ⟨cs238, rfl⟩, hs.cutG 1 2⟩
          · intro ρ w Γx Λx hs hu hp
            have e295 : ρ 50 = .bool (x126.ID != x133.ID) := (hp 13 rfl).1
            refine WL.fieldAddr (m := 1) ((hu 3 rfl).trans h106_3) FA27_1 rfl ?_ (hg := (wanted_of rfl rfl (bool_tr e295 hc137)).trans rfl)
            exact WL.nil ⟨rfl, _, rfl, rfl, hs.cutG 0 0⟩
          · intro ρ w Γx Λx hs hu hp
            have e296 : ρ 57 = .pointer (some ⟨g11, 1, none⟩) := (hp 20 rfl).1
            have e297 : ρ 50 = .bool (x126.ID != x133.ID) := (hp 13 rfl).1
            refine WL.loadF (z := x5.Packets) F_network_Network_Packets hs (Λx.length + 0) (getApp rfl) (Γx.length + 1) (getApp rfl) rfl TI25 (.inr rfl) e296 rfl (fun v240 hs => ?_) (hg := (wanted_of rfl rfl (bool_tr e297 hc137)).trans rfl)
            obtain ⟨a241, c242, rfl⟩ := hs.slice 0 rfl
            have hs := hs.add (it := vl (tSlice t_network_Packet) x5.Packets (.slice a241 (x5.Packets).length c242)) fun ok hA => hA.get 0 rfl
            exact WL.nil ⟨rfl, _, rfl, ⟨(a241, c242), rfl⟩, hs.cutG 1 1⟩
          · intro ρ w Γx Λx hs hu hp
            have e298 : ρ 50 = .bool (x126.ID != x133.ID) := (hp 13 rfl).1
            refine WL.move (v := .int .i64 x107) ((hu 5 rfl).trans h106_5) ?_ (hg := (wanted_of rfl rfl (bool_tr e298 hc137)).trans rfl)
            exact WL.nil ⟨rfl, _, rfl, rfl, hs.cutG 0 0⟩
          · intro ρ w Γx Λx hs hu hp
            obtain ⟨⟨⟨a299, c300⟩, e301r⟩, hm302⟩ := hp 21 rfl
            have e301 : ρ 58 = .slice a299 (x5.Packets).length c300 := e301r
            rw [e301r] at hm302
            have hs := hs.memo1 (it := vl (tSlice t_network_Packet) x5.Packets (.slice a299 (x5.Packets).length c300)) (List.mem_append.2 (.inl (hm302 _ (List.mem_of_getElem? (i := 0) rfl))))
            have e303 : ρ 59 = .int .i64 x107 := (hp 22 rfl).1
            have e304 : ρ 50 = .bool (x126.ID != x133.ID) := (hp 13 rfl).1
            refine WL.indexAddr hs 0 rfl UN25 TI51 e301 e303 hxx243 (fun ad244 hs => ?_) (hg := (wanted_of rfl rfl (bool_tr e304 hc137)).trans rfl)
            have hs := hs.add (it := pl t_network_Packet x243 ad244) fun ok hA => hA.get 0 rfl
            exact WL.nil ⟨rfl, _, rfl, ⟨ad244, rfl⟩, hs.cutG 1 2⟩
          · intro ρ w Γx Λx hs hu hp
            obtain ⟨⟨ad305, e306r⟩, hm307⟩ := hp 23 rfl
            have e306 : ρ 60 = .pointer (some ad305) := e306r
            rw [e306r] at hm307
            have hs := hs.memo1 (it := pl t_network_Packet x243 ad305) (List.mem_append.2 (.inl (hm307 _ (List.mem_of_getElem? (i := 0) rfl))))
            have e308 : ρ 50 = .bool (x126.ID != x133.ID) := (hp 13 rfl).1
            refine WL.fieldAddrP (z := x243.Message) F_network_Packet_Message hs 0 rfl e306 FA51_1 rfl (fun ad245 hs => ?_) (hg := (wanted_of rfl rfl (bool_tr e308 hc137)).trans rfl)
            have hs := hs.add (it := pl t_api_Message x243.Message ad245) fun ok hA => hA.get 0 rfl
            exact WL.nil ⟨rfl, _, rfl, ⟨ad245, rfl⟩, hs.cutG 1 2⟩
          · intro ρ w Γx Λx hs hu hp
            obtain ⟨⟨ad309, e310r⟩, hm311⟩ := hp 24 rfl
            have e310 : ρ 61 = .pointer (some ad309) := e310r
            rw [e310r] at hm311
            have hs := hs.memo1 (it := pl t_api_Message x243.Message ad309) (List.mem_append.2 (.inl (hm311 _ (List.mem_of_getElem? (i := 0) rfl))))
            have e312 : ρ 50 = .bool (x126.ID != x133.ID) := (hp 13 rfl).1
            refine WL.loadP hs 0 rfl TI49 (.inl rfl) e310 (fun v246 hs => ?_) (hg := (wanted_of rfl rfl (bool_tr e312 hc137)).trans rfl)
            obtain ⟨cs247, hl248, rfl⟩ := hs.aggv (n := 18) 0 rfl rfl rfl
            have hs := hs.add (it := vl t_api_Message x243.Message (.agg cs247.toArray)) fun ok hA => hA.get 0 rfl
            exact WL.nil ⟨rfl, _, rfl, ⟨cs247, rfl⟩, hs.cutG 1 2⟩
          · intro ρ w Γx Λx hs hu hp
            obtain ⟨⟨cs313, e315r⟩, hm316⟩ := hp 19 rfl
            have e315 : ρ 56 = .agg cs313.toArray := e315r
            rw [e315r] at hm316
            have hs := hs.memo1 (it := vl t_api_Message x234.Message (.agg cs313.toArray)) (List.mem_append.2 (.inl (hm316 _ (List.mem_of_getElem? (i := 0) rfl))))
            have hl314 := hs.agglen (n := 18) 0 rfl rfl rfl
            obtain ⟨⟨cs317, e319r⟩, hm320⟩ := hp 25 rfl
            have e319 : ρ 62 = .agg cs317.toArray := e319r
            rw [e319r] at hm320
            have hs := hs.memo1 (it := vl t_api_Message x243.Message (.agg cs317.toArray)) (List.mem_cons_of_mem _ (List.mem_append.2 (.inl (hm320 _ (List.mem_of_getElem? (i := 0) rfl)))))
            have hl318 := hs.agglen (n := 18) 0 rfl rfl rfl
            have e321 : ρ 50 = .bool (x126.ID != x133.ID) := (hp 13 rfl).1
            refine WL.call (vs := [.agg cs313.toArray, .agg cs317.toArray]) hs FN24 ⟨e315, ⟨e319, trivial⟩⟩ (fun ok hA => esref14_EqualMessage.calls (x1 := x234.Message) (x5 := x243.Message) hxx249 (hA.get 1 rfl) (hA.get 0 rfl)) ?_ (hg := (wanted_of rfl rfl (bool_tr e321 hc137)).trans rfl)
            rintro _ w hs
            exact WL.nil ⟨rfl, _, rfl, rfl, hs.cutG 0 2⟩
          · intro ρ w Γx Λx hs hu hp
            have e322 : ρ 63 = .bool x249 := (hp 26 rfl).1
            have e323 : ρ 50 = .bool (x126.ID != x133.ID) := (hp 13 rfl).1
            refine WL.not e322 ?_ (hg := (wanted_of rfl rfl (bool_tr e323 hc137)).trans rfl)
            exact WL.nil ⟨rfl, _, rfl, rfl, hs.cutG 0 0⟩
          · intro ρ w Γx Λx hs hu hp
            have e324 : ρ 50 = .bool (x126.ID != x133.ID) := (hp 13 rfl).1
            have e325 : ρ 64 = .bool (!x249) := (hp 27 rfl).1
            refine WL.pickF (v := .bool (!x249)) (bool_tr e324 hc137) e325 ?_
            exact WL.nil ⟨rfl, _, rfl, rfl, hs.cutG 0 0⟩
          · intro ρ w hs hu hp
            obtain ⟨⟨⟨⟨⟨⟨⟨⟨⟨⟨⟨⟨⟨⟨⟨⟨⟨⟨⟨⟨⟨⟨⟨⟨⟨⟨⟨⟨⟨_, hp0_⟩, hp1_⟩, hp2_⟩, hp3_⟩, hp4_⟩, hp5_⟩, hp6_⟩, hp7_⟩, hp8_⟩, hp9_⟩, hp10_⟩, hp11_⟩, hp12_⟩, hp13_⟩, hp14_⟩, hp15_⟩, hp16_⟩, hp17_⟩, hp18_⟩, hp19_⟩, hp20_⟩, hp21_⟩, hp22_⟩, hp23_⟩, hp24_⟩, hp25_⟩, hp26_⟩, hp27_⟩, hp28_⟩ := hp
            have hs : St ok (bz w0) w [vl t_api_Message x243.Message (ρ 62), pl t_api_Message x243.Message (adOf (ρ 61)), pl t_network_Packet x243 (adOf (ρ 60)), vl (tSlice t_network_Packet) x5.Packets (ρ 58), vl t_api_Message x234.Message (ρ 56), pl t_api_Message x234.Message (adOf (ρ 55)), pl t_network_Packet x234 (adOf (ρ 54)), vl (tSlice t_network_Packet) x1.Packets (ρ 52), pl (tInt .i64) x133.ID (adOf (ρ 47)), pl t_network_Packet x133 (adOf (ρ 46)), vl (tSlice t_network_Packet) x5.Packets (ρ 44), pl (tInt .i64) x126.ID (adOf (ρ 41)), pl t_network_Packet x126 (adOf (ρ 40)), vl (tSlice t_network_Packet) x1.Packets (ρ 38), vl (tSlice t_network_Packet) x1.Packets (.slice a112 (x1.Packets).length c113), vl t_network_Network x5 (.agg cs7.toArray), vl t_network_Network x1 (.agg cs3.toArray)] [blk g11 27 cs7, blk g10 27 cs3] := hs
            have e326 : ρ 65 = .bool (!x249) := hp28_
            have e327 : ρ 64 = .bool (!x249) := hp27_
            have e328 : ρ 63 = .bool x249 := hp26_
            obtain ⟨cs329, e331⟩ := hp25_
            have e331 : ρ 62 = .agg cs329.toArray := e331
            try rw [e331] at hs
            obtain ⟨ad332, e333⟩ := hp24_
            have e333 : ρ 61 = .pointer (some ad332) := e333
            try rw [e333] at hs
            obtain ⟨ad334, e335⟩ := hp23_
            have e335 : ρ 60 = .pointer (some ad334) := e335
            try rw [e335] at hs
            have e336 : ρ 59 = .int .i64 x107 := hp22_
            obtain ⟨⟨a337, c338⟩, e339⟩ := hp21_
            have e339 : ρ 58 = .slice a337 (x5.Packets).length c338 := e339
            try rw [e339] at hs
            have e340 : ρ 57 = .pointer (some ⟨g11, 1, none⟩) := hp20_
            obtain ⟨cs341, e343⟩ := hp19_
            have e343 : ρ 56 = .agg cs341.toArray := e343
            try rw [e343] at hs
            obtain ⟨ad344, e345⟩ := hp18_
            have e345 : ρ 55 = .pointer (some ad344) := e345
            try rw [e345] at hs
            obtain ⟨ad346, e347⟩ := hp17_
            have e347 : ρ 54 = .pointer (some ad346) := e347
            try rw [e347] at hs
            have e348 : ρ 53 = .int .i64 x107 := hp16_
            obtain ⟨⟨a349, c350⟩, e351⟩ := hp15_
            have e351 : ρ 52 = .slice a349 (x1.Packets).length c350 := e351
            try rw [e351] at hs
            have e352 : ρ 51 = .pointer (some ⟨g10, 1, none⟩) := hp14_
            have e353 : ρ 50 = .bool (x126.ID != x133.ID) := hp13_
            have e354 : ρ 49 = .bool (x126.ID != x133.ID) := hp12_
            have e355 : ρ 48 = .int .i64 x133.ID := hp11_
            obtain ⟨ad356, e357⟩ := hp10_
            have e357 : ρ 47 = .pointer (some ad356) := e357
            try rw [e357] at hs
            obtain ⟨ad358, e359⟩ := hp9_
            have e359 : ρ 46 = .pointer (some ad358) := e359
            try rw [e359] at hs
            have e360 : ρ 45 = .int .i64 x107 := hp8_
            obtain ⟨⟨a361, c362⟩, e363⟩ := hp7_
            have e363 : ρ 44 = .slice a361 (x5.Packets).length c362 := e363
            try rw [e363] at hs
            have e364 : ρ 43 = .pointer (some ⟨g11, 1, none⟩) := hp6_
            have e365 : ρ 42 = .int .i64 x126.ID := hp5_
            obtain ⟨ad366, e367⟩ := hp4_
            have e367 : ρ 41 = .pointer (some ad366) := e367
            try rw [e367] at hs
            obtain ⟨ad368, e369⟩ := hp3_
            have e369 : ρ 40 = .pointer (some ad368) := e369
            try rw [e369] at hs
            have e370 : ρ 39 = .int .i64 x107 := hp2_
            obtain ⟨⟨a371, c372⟩, e373⟩ := hp1_
            have e373 : ρ 38 = .slice a371 (x1.Packets).length c372 := e373
            try rw [e373] at hs
            have e374 : ρ 37 = .pointer (some ⟨g10, 1, none⟩) := hp0_
            have hl342 := hs.agglen (n := 18) 4 rfl rfl rfl
            have hl330 := hs.agglen (n := 18) 0 rfl rfl rfl
            refine WA.done (by kernel_rfl) ?_
            exact Jk119 (!x249) _ _ ((hu 2 rfl).trans h106_2) ((hu 3 rfl).trans h106_3) ((hu 5 rfl).trans h106_5) e326 ((hs.mask [true, true]).pick [15, 16]) hf
      · refine W.cond_false (bool_tr rfl hc114) ?_
        refine W.exit ?_
        have hr := Option.some.inj hf; subst hr
        have hr := hbbs108 _ rfl; subst hr
        have hf := hfs108
        exact Jk21  _ _ h106_2 h106_3 ((hs.mask [true, true]).pick [1, 2]) hf
  refine W.region ?_
  refine WL.fieldAddr (m := 0) rfl FA27_0 rfl ?_
  refine WL.loadF (z := x1.Next) F_network_Network_Next hs 1 rfl 0 rfl rfl TI3 (.inr rfl) rfl rfl (fun v376 hs => ?_)
  obtain rfl := hs.int 0 rfl
  refine WL.fieldAddr (m := 0) rfl FA27_0 rfl ?_
  refine WL.loadF (z := x5.Next) F_network_Network_Next hs 0 rfl 2 rfl rfl TI3 (.inr rfl) rfl rfl (fun v377 hs => ?_)
  obtain rfl := hs.int 0 rfl
  refine WL.bin (v := .bool (x1.Next != x5.Next)) rfl rfl (ib_neq _ _ _) ?_
  refine WL.move (v := .bool (x1.Next != x5.Next)) rfl ?_
  rcases iteE hf with ⟨hc378, hf⟩ | ⟨hc378, hf⟩
  · refine WL.pass ((wanted_of rfl rfl (bool_tr rfl hc378)).trans rfl) rfl ?_
    refine WL.pass ((wanted_of rfl rfl (bool_tr rfl hc378)).trans rfl) rfl ?_
    refine WL.pass ((wanted_of rfl rfl (bool_tr rfl hc378)).trans rfl) rfl ?_
    refine WL.pass ((wanted_of rfl rfl (bool_tr rfl hc378)).trans rfl) rfl ?_
    refine WL.pass ((wanted_of rfl rfl (bool_tr rfl hc378)).trans rfl) rfl ?_
    refine WL.pass ((wanted_of rfl rfl (bool_tr rfl hc378)).trans rfl) rfl ?_
    refine WL.pass ((wanted_of rfl rfl (bool_tr rfl hc378)).trans rfl) rfl ?_
    refine WL.pickT (v := .bool true) (bool_tr rfl hc378) rfl ?_
    refine WL.move (v := .bool true) rfl ?_
    refine WL.pass ((wanted_of rfl rfl rfl).trans rfl) rfl ?_
    refine WL.pass ((wanted_of rfl rfl rfl).trans rfl) rfl ?_
    refine WL.pass ((wanted_of rfl rfl rfl).trans rfl) rfl ?_
    refine WL.pass ((wanted_of rfl rfl rfl).trans rfl) rfl ?_
    refine WL.pass ((wanted_of rfl rfl rfl).trans rfl) rfl ?_
    refine WL.pass ((wanted_of rfl rfl rfl).trans rfl) rfl ?_
    refine WL.pass ((wanted_of rfl rfl rfl).trans rfl) rfl ?_
    refine WL.pickT (v := .bool true) rfl rfl ?_
    refine WL.nil ?_
    exact Jk16 true _ _ rfl rfl rfl ((hs.mask [true, true]).pick [3, 2]) hf
  · refine WL.fieldAddr (m := 1) rfl FA27_1 rfl ?_ (hg := (wanted_of rfl rfl (bool_tr rfl hc378)).trans rfl)
    refine WL.loadF (z := x1.Packets) F_network_Network_Packets hs 1 rfl 2 rfl rfl TI25 (.inr rfl) rfl rfl (fun v379 hs => ?_) (hg := (wanted_of rfl rfl (bool_tr rfl hc378)).trans rfl)
    obtain ⟨a380, c381, rfl⟩ := hs.slice 0 rfl
    refine WL.len (v := .slice a380 (x1.Packets).length c381) rfl (len_slice UN25) ?_ (hg := (wanted_of rfl rfl (bool_tr rfl hc378)).trans rfl)
    refine WL.fieldAddr (m := 1) rfl FA27_1 rfl ?_ (hg := (wanted_of rfl rfl (bool_tr rfl hc378)).trans rfl)
    refine WL.loadF (z := x5.Packets) F_network_Network_Packets hs 0 rfl 4 rfl rfl TI25 (.inr rfl) rfl rfl (fun v382 hs => ?_) (hg := (wanted_of rfl rfl (bool_tr rfl hc378)).trans rfl)
    obtain ⟨a383, c384, rfl⟩ := hs.slice 0 rfl
    refine WL.len (v := .slice a383 (x5.Packets).length c384) rfl (len_slice UN25) ?_ (hg := (wanted_of rfl rfl (bool_tr rfl hc378)).trans rfl)
    refine WL.bin (v := .bool (((x1.Packets).length : Int) != ((x5.Packets).length : Int))) rfl rfl (ib_neq _ _ _) ?_ (hg := (wanted_of rfl rfl (bool_tr rfl hc378)).trans rfl)
    refine WL.pickF (v := .bool (((x1.Packets).length : Int) != ((x5.Packets).length : Int))) (bool_tr rfl hc378) rfl ?_
    refine WL.move (v := .bool (((x1.Packets).length : Int) != ((x5.Packets).length : Int))) rfl ?_
    rcases iteE hf with ⟨hc385, hf⟩ | ⟨hc385, hf⟩
    · refine WL.pass ((wanted_of rfl rfl (bool_tr rfl hc385)).trans rfl) rfl ?_
      refine WL.pass ((wanted_of rfl rfl (bool_tr rfl hc385)).trans rfl) rfl ?_
      refine WL.pass ((wanted_of rfl rfl (bool_tr rfl hc385)).trans rfl) rfl ?_
      refine WL.pass ((wanted_of rfl rfl (bool_tr rfl hc385)).trans rfl) rfl ?_
      refine WL.pass ((wanted_of rfl rfl (bool_tr rfl hc385)).trans rfl) rfl ?_
      refine WL.pass ((wanted_of rfl rfl (bool_tr rfl hc385)).trans rfl) rfl ?_
      refine WL.pass ((wanted_of rfl rfl (bool_tr rfl hc385)).trans rfl) rfl ?_
      refine WL.pickT (v := .bool true) (bool_tr rfl hc385) rfl ?_
      refine WL.nil ?_
      exact Jk16 true _ _ rfl rfl rfl ((hs.mask [true, true]).pick [5, 4]) hf
    · refine WL.fieldAddr (m := 2) rfl FA27_2 rfl ?_ (hg := (wanted_of rfl rfl (bool_tr rfl hc385)).trans rfl)
      refine WL.loadF (z := x1.Sides) F_network_Network_Sides hs 1 rfl 4 rfl rfl TI23 (.inr rfl) rfl rfl (fun v386 hs => ?_) (hg := (wanted_of rfl rfl (bool_tr rfl hc385)).trans rfl)
      obtain ⟨a387, c388, rfl⟩ := hs.slice 0 rfl
      refine WL.len (v := .slice a387 (x1.Sides).length c388) rfl (len_slice UN23) ?_ (hg := (wanted_of rfl rfl (bool_tr rfl hc385)).trans rfl)
      refine WL.fieldAddr (m := 2) rfl FA27_2 rfl ?_ (hg := (wanted_of rfl rfl (bool_tr rfl hc385)).trans rfl)
      refine WL.loadF (z := x5.Sides) F_network_Network_Sides hs 0 rfl 6 rfl rfl TI23 (.inr rfl) rfl rfl (fun v389 hs => ?_) (hg := (wanted_of rfl rfl (bool_tr rfl hc385)).trans rfl)
      obtain ⟨a390, c391, rfl⟩ := hs.slice 0 rfl
      refine WL.len (v := .slice a390 (x5.Sides).length c391) rfl (len_slice UN23) ?_ (hg := (wanted_of rfl rfl (bool_tr rfl hc385)).trans rfl)
      refine WL.bin (v := .bool (((x1.Sides).length : Int) != ((x5.Sides).length : Int))) rfl rfl (ib_neq _ _ _) ?_ (hg := (wanted_of rfl rfl (bool_tr rfl hc385)).trans rfl)
      refine WL.pickF (v := .bool (((x1.Sides).length : Int) != ((x5.Sides).length : Int))) (bool_tr rfl hc385) rfl ?_
      refine WL.nil ?_
      exact Jk16 (((x1.Sides).length : Int) != ((x5.Sides).length : Int)) _ _ rfl rfl rfl ((hs.mask [true, true]).pick [7, 6]) hf
end Go.Proofs.Ytahobbichanccaa
