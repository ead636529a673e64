import Derived.Test.YtahobbichanccaaFh
import Derived.Test.YtahobbichanccaaFp0
import Derived.Test.YtahobbichanccaaFp1
import Derived.Test.YtahobbichanccaaFp2
import Derived.Test.YtahobbichanccaaFp3
import Derived.Test.YtahobbichanccaaFp4
set_option linter.unusedVariables false
set_option linter.unusedSimpArgs false
namespace Go.Proofs.Ytahobbichanccaa
open Go Go.RowKit Go.Proofs.YtahobbichanccaaL
set_option maxRecDepth 100000
set_option maxHeartbeats 400000
/-! elasticstore/elasticstoreref14.EqualUpdate: function 59 -/
theorem esref14_EqualUpdate.calls {ok : Nat → Prop} {w0 : World} {x1 : api_Update} {x5 : api_Update} {v2 : Value} {v6 : Value} {r : Bool} (hf : esref14_EqualUpdate x1 x5 = some r) (i0 : (vl t_api_Update x1 v2).holds ok w0) (i1 : (vl t_api_Update x5 v6).holds ok w0) :
    Calls Try.prog 59 #[v2, v6] w0 fun e w' => ∃ v, e = .returned v ∧ ∃ y : Unit, v = .bool r ∧ St ok (bz w0) w' [] [] := by
  unfold esref14_EqualUpdate at hf
  refine calls_of_W (fn := Try.f59) (N := 52) Try.func59 rfl Try.ntmps59 rfl ?_
  have hs : St ok (bz w0) w0 [vl t_api_Update x1 v2, vl t_api_Update x5 v6] [] := St.init (All.cons i0 (All.cons i1 All.nil))
  clear i0 i1
  obtain ⟨cs3, hl4, rfl⟩ := hs.aggv (n := 4) 0 rfl rfl rfl
  obtain ⟨cs7, hl8, rfl⟩ := hs.aggv (n := 4) 1 rfl rfl rfl
  refine W.seqK fun K9 hK9 => ?_
  refine W.region ?_
  refine WL.box (vs := cs3) hs rfl rfl (fun g10 w hs => ?_)
  refine WL.box (vs := cs7) hs rfl rfl (fun g11 w hs => ?_)
  refine WL.assign (v := .bool false) rfl ?_
  refine WL.nil ?_
  refine hK9 _ _ ?_
  refine W.seqK fun K12 hK12 => ?_
  refine W.seqK fun K13 hK13 => ?_
  have Jk16 : ∀ (x15 : Bool) (ρ : Env) (w : World), ρ 2 = .pointer (some ⟨g10, 0, none⟩) → ρ 3 = .pointer (some ⟨g11, 0, none⟩) → ρ 33 = .bool x15 → St ok (bz w0) w [vl t_api_Update x5 (.agg cs7.toArray), vl t_api_Update x1 (.agg cs3.toArray)] [blk g11 102 cs7, blk g10 102 cs3] → esref14_EqualUpdate.j2 x1 x5 x15 = some r → K13 ρ w := by
    intro x15 ρ w h14_2 h14_3 h14_33 hs hf
    refine hK13 _ _ ?_
    unfold esref14_EqualUpdate.j2 at hf
    rcases iteE hf with ⟨hc17, hf⟩ | ⟨hc17, hf⟩
    · refine W.cond_true (bool_tr h14_33 hc17) ?_
      refine W.seqK fun K18 hK18 => ?_
      refine W.region ?_
      refine WL.assign (v := .bool false) rfl ?_
      refine WL.nil ?_
      refine hK18 _ _ ?_
      refine W.ret ?_
      have hr := Option.some.inj hf; subst hr
      exact ⟨_, resOk_one rfl rfl, (), rfl, (hs.mask []).pick []⟩
    · refine W.cond_false (bool_tr h14_33 hc17) ?_
      refine W.skip ?_
      refine hK12 _ _ ?_
      refine W.seqK fun K19 hK19 => ?_
      have Jk21 : ∀  (ρ : Env) (w : World), St ok (bz w0) w [] [] → esref14_EqualUpdate.j1 = some r → K19 ρ w := by
        intro  ρ w  hs hf
        refine hK19 _ _ ?_
        unfold esref14_EqualUpdate.j1 at hf
        refine W.seqK fun K22 hK22 => ?_
        refine W.region ?_
        refine WL.assign (v := .bool true) rfl ?_
        refine WL.nil ?_
        refine hK22 _ _ ?_
        refine W.ret ?_
        have hr := Option.some.inj hf; subst hr
        exact ⟨_, resOk_one rfl rfl, (), rfl, (hs.mask []).pick []⟩
      refine W.seqK fun K23 hK23 => ?_
      refine W.region ?_
      refine WL.assign (v := .int .i64 0) rfl ?_
      refine WL.nil ?_
      refine hK23 _ _ ?_
      refine W.block ?_
      obtain ⟨bs26, hbs26, hfs26⟩ := bindE hf
      refine W.loop hbs26 (fun s ρ w => match s with | x25 => ρ 2 = .pointer (some ⟨g10, 0, none⟩) ∧ ρ 3 = .pointer (some ⟨g11, 0, none⟩) ∧ ρ 5 = .int .i64 x25 ∧ St ok (bz w0) w [vl t_api_Update x5 (.agg cs7.toArray), vl t_api_Update x1 (.agg cs3.toArray)] [blk g11 102 cs7, blk g10 102 cs3]) ⟨h14_2, h14_3, rfl, (hs.mask [true, true]).pick [0, 1]⟩ ?_
      intro x25 ρ w os26 hI hf hbbs26
      obtain ⟨h24_2, h24_3, h24_5, hs⟩ := hI
      unfold esref14_EqualUpdate.l1 at hf
      refine W.seqK fun K27 hK27 => ?_
      refine W.seqK fun K28 hK28 => ?_
      refine W.region ?_
      refine WL.move (v := .int .i64 x25) h24_5 ?_
      refine WL.fieldAddr (m := 3) h24_2 FA102_3 rfl ?_
      refine WL.loadF (z := x1.Effects) F_api_Update_Effects hs 1 rfl 1 rfl rfl TI100 (.inr rfl) rfl rfl (fun v29 hs => ?_)
      obtain ⟨a30, c31, rfl⟩ := hs.slice 0 rfl
      refine WL.len (v := .slice a30 (x1.Effects).length c31) rfl (len_slice UN100) ?_
      refine WL.bin (v := .bool (decide (x25 < ((x1.Effects).length : Int)))) rfl rfl (ib_lss _ _ _) ?_
      refine WL.nil ?_
      refine hK28 _ _ ?_
      rcases iteE hf with ⟨hc32, hf⟩ | ⟨hc32, hf⟩
      · refine W.cond_true (bool_tr rfl hc32) ?_
        refine W.skip ?_
        refine hK27 _ _ ?_
        refine W.seqK fun K33 hK33 => ?_
        refine W.block ?_
        refine W.seqK fun K34 hK34 => ?_
        obtain ⟨x38, hxx38, hf⟩ := bindE hf
        obtain ⟨x46, hxx46, hf⟩ := bindE hf
        refine W.any (by kernel_rfl) 11 0 [true, true, true, true, true, true, true, true, true, true, true] rfl rfl (poAt [pv (.pointer (some ⟨g10, 3, none⟩)), pq (fun y : (Option Addr × Nat) => .slice y.1 (x1.Effects).length y.2) (fun v => [vl (tSlice t_api_Effect) x1.Effects v]) (fun v => []), pv (.int .i64 x25), pq (fun y : Addr => .pointer (some y)) (fun v => [pl t_api_Effect x38 (adOf v)]) (fun v => []), pq (fun y : List Value => .agg y.toArray) (fun v => [vl t_api_Effect x38 v]) (fun v => []), pv (.pointer (some ⟨g11, 3, none⟩)), pq (fun y : (Option Addr × Nat) => .slice y.1 (x5.Effects).length y.2) (fun v => [vl (tSlice t_api_Effect) x5.Effects v]) (fun v => []), pv (.int .i64 x25), pq (fun y : Addr => .pointer (some y)) (fun v => [pl t_api_Effect x46 (adOf v)]) (fun v => []), pq (fun y : List Value => .agg y.toArray) (fun v => [vl t_api_Effect x46 v]) (fun v => []), pv (.bool (!decide ((⟨x38.Kind, x38.Object, x38.Field, x38.N, x38.S⟩ : api_Effect) = (⟨x46.Kind, x46.Object, x46.Field, x46.N, x46.S⟩ : api_Effect))))]) (Λ := [blk g11 102 cs7, blk g10 102 cs3]) hs (by kernel_rfl) (by kernel_rfl) (by kernel_rfl) ⟨⟨⟨⟨⟨⟨⟨⟨⟨⟨⟨trivial, ?_⟩, ?_⟩, ?_⟩, ?_⟩, ?_⟩, ?_⟩, ?_⟩, ?_⟩, ?_⟩, ?_⟩, ?_⟩ ?_
        · intro ρ w Γx Λx hs hu hp
          refine WL.fieldAddr (m := 3) ((hu 2 rfl).trans h24_2) FA102_3 rfl ?_
          exact WL.nil ⟨rfl, _, rfl, rfl, hs.cutG 0 0⟩
        · intro ρ w Γx Λx hs hu hp
          have e51 : ρ 41 = .pointer (some ⟨g10, 3, none⟩) := (hp 0 rfl).1
          refine WL.loadF (z := x1.Effects) F_api_Update_Effects hs (Λx.length + 1) (getApp rfl) (Γx.length + 2) (getApp rfl) rfl TI100 (.inr rfl) e51 rfl (fun v35 hs => ?_)
          obtain ⟨a36, c37, rfl⟩ := hs.slice 0 rfl
          have hs := hs.add (it := vl (tSlice t_api_Effect) x1.Effects (.slice a36 (x1.Effects).length c37)) fun ok hA => hA.get 0 rfl
          exact WL.nil ⟨rfl, _, rfl, ⟨(a36, c37), rfl⟩, hs.cutG 1 1⟩
        · intro ρ w Γx Λx hs hu hp
          refine WL.move (v := .int .i64 x25) ((hu 5 rfl).trans h24_5) ?_
          exact WL.nil ⟨rfl, _, rfl, rfl, hs.cutG 0 0⟩
        · intro ρ w Γx Λx hs hu hp
          obtain ⟨⟨⟨a52, c53⟩, e54r⟩, hm55⟩ := hp 1 rfl
          have e54 : ρ 42 = .slice a52 (x1.Effects).length c53 := e54r
          rw [e54r] at hm55
          have hs := hs.memo1 (it := vl (tSlice t_api_Effect) x1.Effects (.slice a52 (x1.Effects).length c53)) (List.mem_append.2 (.inl (hm55 _ (List.mem_of_getElem? (i := 0) rfl))))
          have e56 : ρ 43 = .int .i64 x25 := (hp 2 rfl).1
          refine WL.indexAddr hs 0 rfl UN100 TI122 e54 e56 hxx38 (fun ad39 hs => ?_)
          have hs := hs.add (it := pl t_api_Effect x38 ad39) fun ok hA => hA.get 0 rfl
          exact WL.nil ⟨rfl, _, rfl, ⟨ad39, rfl⟩, hs.cutG 1 2⟩
        · intro ρ w Γx Λx hs hu hp
          obtain ⟨⟨ad57, e58r⟩, hm59⟩ := hp 3 rfl
          have e58 : ρ 44 = .pointer (some ad57) := e58r
          rw [e58r] at hm59
          have hs := hs.memo1 (it := pl t_api_Effect x38 ad57) (List.mem_append.2 (.inl (hm59 _ (List.mem_of_getElem? (i := 0) rfl))))
          refine WL.loadP hs 0 rfl TI122 (.inl rfl) e58 (fun v40 hs => ?_)
          obtain ⟨cs41, hl42, rfl⟩ := hs.aggv (n := 5) 0 rfl rfl rfl
          have hs := hs.add (it := vl t_api_Effect x38 (.agg cs41.toArray)) fun ok hA => hA.get 0 rfl
          exact WL.nil ⟨rfl, _, rfl, ⟨cs41, rfl⟩, hs.cutG 1 2⟩
        · intro ρ w Γx Λx hs hu hp
          refine WL.fieldAddr (m := 3) ((hu 3 rfl).trans h24_3) FA102_3 rfl ?_
          exact WL.nil ⟨rfl, _, rfl, rfl, hs.cutG 0 0⟩
        · intro ρ w Γx Λx hs hu hp
          have e60 : ρ 46 = .pointer (some ⟨g11, 3, none⟩) := (hp 5 rfl).1
          refine WL.loadF (z := x5.Effects) F_api_Update_Effects hs (Λx.length + 0) (getApp rfl) (Γx.length + 1) (getApp rfl) rfl TI100 (.inr rfl) e60 rfl (fun v43 hs => ?_)
          obtain ⟨a44, c45, rfl⟩ := hs.slice 0 rfl
          have hs := hs.add (it := vl (tSlice t_api_Effect) x5.Effects (.slice a44 (x5.Effects).length c45)) fun ok hA => hA.get 0 rfl
          exact WL.nil ⟨rfl, _, rfl, ⟨(a44, c45), rfl⟩, hs.cutG 1 1⟩
        · intro ρ w Γx Λx hs hu hp
          refine WL.move (v := .int .i64 x25) ((hu 5 rfl).trans h24_5) ?_
          exact WL.nil ⟨rfl, _, rfl, rfl, hs.cutG 0 0⟩
        · intro ρ w Γx Λx hs hu hp
          obtain ⟨⟨⟨a61, c62⟩, e63r⟩, hm64⟩ := hp 6 rfl
          have e63 : ρ 47 = .slice a61 (x5.Effects).length c62 := e63r
          rw [e63r] at hm64
          have hs := hs.memo1 (it := vl (tSlice t_api_Effect) x5.Effects (.slice a61 (x5.Effects).length c62)) (List.mem_append.2 (.inl (hm64 _ (List.mem_of_getElem? (i := 0) rfl))))
          have e65 : ρ 48 = .int .i64 x25 := (hp 7 rfl).1
          refine WL.indexAddr hs 0 rfl UN100 TI122 e63 e65 hxx46 (fun ad47 hs => ?_)
          have hs := hs.add (it := pl t_api_Effect x46 ad47) fun ok hA => hA.get 0 rfl
          exact WL.nil ⟨rfl, _, rfl, ⟨ad47, rfl⟩, hs.cutG 1 2⟩
        · intro ρ w Γx Λx hs hu hp
          obtain ⟨⟨ad66, e67r⟩, hm68⟩ := hp 8 rfl
          have e67 : ρ 49 = .pointer (some ad66) := e67r
          rw [e67r] at hm68
          have hs := hs.memo1 (it := pl t_api_Effect x46 ad66) (List.mem_append.2 (.inl (hm68 _ (List.mem_of_getElem? (i := 0) rfl))))
          refine WL.loadP hs 0 rfl TI122 (.inl rfl) e67 (fun v48 hs => ?_)
          obtain ⟨cs49, hl50, rfl⟩ := hs.aggv (n := 5) 0 rfl rfl rfl
          have hs := hs.add (it := vl t_api_Effect x46 (.agg cs49.toArray)) fun ok hA => hA.get 0 rfl
          exact WL.nil ⟨rfl, _, rfl, ⟨cs49, rfl⟩, hs.cutG 1 2⟩
        · intro ρ w Γx Λx hs hu hp
          obtain ⟨⟨cs69, e71r⟩, hm72⟩ := hp 4 rfl
          have e71 : ρ 45 = .agg cs69.toArray := e71r
          rw [e71r] at hm72
          have hs := hs.memo1 (it := vl t_api_Effect x38 (.agg cs69.toArray)) (List.mem_append.2 (.inl (hm72 _ (List.mem_of_getElem? (i := 0) rfl))))
          have hl70 := hs.agglen (n := 5) 0 rfl rfl rfl
          obtain ⟨⟨cs73, e75r⟩, hm76⟩ := hp 9 rfl
          have e75 : ρ 50 = .agg cs73.toArray := e75r
          rw [e75r] at hm76
          have hs := hs.memo1 (it := vl t_api_Effect x46 (.agg cs73.toArray)) (List.mem_cons_of_mem _ (List.mem_append.2 (.inl (hm76 _ (List.mem_of_getElem? (i := 0) rfl)))))
          have hl74 := hs.agglen (n := 5) 0 rfl rfl rfl
          obtain rfl := open_api_Effect hs 1 rfl
          obtain rfl := open_api_Effect hs 0 rfl
          refine WL.eqA e71 e75 EG122 (NQ122 (⟨x38.Kind, x38.Object, x38.Field, x38.N, x38.S⟩ : api_Effect) (⟨x46.Kind, x46.Object, x46.Field, x46.N, x46.S⟩ : api_Effect)) ?_
          exact WL.nil ⟨rfl, _, rfl, rfl, hs.cutG 0 2⟩
        · intro ρ w hs hu hp
          obtain ⟨⟨⟨⟨⟨⟨⟨⟨⟨⟨⟨_, hp0_⟩, hp1_⟩, hp2_⟩, hp3_⟩, hp4_⟩, hp5_⟩, hp6_⟩, hp7_⟩, hp8_⟩, hp9_⟩, hp10_⟩ := hp
          have hs : St ok (bz w0) w [vl t_api_Effect x46 (ρ 50), pl t_api_Effect x46 (adOf (ρ 49)), vl (tSlice t_api_Effect) x5.Effects (ρ 47), vl t_api_Effect x38 (ρ 45), pl t_api_Effect x38 (adOf (ρ 44)), vl (tSlice t_api_Effect) x1.Effects (ρ 42), vl (tSlice t_api_Effect) x1.Effects (.slice a30 (x1.Effects).length c31), vl t_api_Update x5 (.agg cs7.toArray), vl t_api_Update x1 (.agg cs3.toArray)] [blk g11 102 cs7, blk g10 102 cs3] := hs
          have e77 : ρ 51 = .bool (!decide ((⟨x38.Kind, x38.Object, x38.Field, x38.N, x38.S⟩ : api_Effect) = (⟨x46.Kind, x46.Object, x46.Field, x46.N, x46.S⟩ : api_Effect))) := hp10_
          obtain ⟨cs78, e80⟩ := hp9_
          have e80 : ρ 50 = .agg cs78.toArray := e80
          try rw [e80] at hs
          obtain ⟨ad81, e82⟩ := hp8_
          have e82 : ρ 49 = .pointer (some ad81) := e82
          try rw [e82] at hs
          have e83 : ρ 48 = .int .i64 x25 := hp7_
          obtain ⟨⟨a84, c85⟩, e86⟩ := hp6_
          have e86 : ρ 47 = .slice a84 (x5.Effects).length c85 := e86
          try rw [e86] at hs
          have e87 : ρ 46 = .pointer (some ⟨g11, 3, none⟩) := hp5_
          obtain ⟨cs88, e90⟩ := hp4_
          have e90 : ρ 45 = .agg cs88.toArray := e90
          try rw [e90] at hs
          obtain ⟨ad91, e92⟩ := hp3_
          have e92 : ρ 44 = .pointer (some ad91) := e92
          try rw [e92] at hs
          have e93 : ρ 43 = .int .i64 x25 := hp2_
          obtain ⟨⟨a94, c95⟩, e96⟩ := hp1_
          have e96 : ρ 42 = .slice a94 (x1.Effects).length c95 := e96
          try rw [e96] at hs
          have e97 : ρ 41 = .pointer (some ⟨g10, 3, none⟩) := hp0_
          have hl89 := hs.agglen (n := 5) 3 rfl rfl rfl
          have hl79 := hs.agglen (n := 5) 0 rfl rfl rfl
          refine WA.done (by kernel_rfl) ?_
          refine hK34 _ _ ?_
          rcases iteE hf with ⟨hc98, hf⟩ | ⟨hc98, hf⟩
          · refine W.cond_true (bool_tr e77 hc98) ?_
            refine W.seqK fun K99 hK99 => ?_
            refine W.region ?_
            refine WL.assign (v := .bool false) rfl ?_
            refine WL.nil ?_
            refine hK99 _ _ ?_
            refine W.ret ?_
            have hr := Option.some.inj hf; subst hr
            have hr := hbbs26 _ rfl; subst hr
            have hf := hfs26
            have hr := Option.some.inj hf; subst hr
            exact ⟨_, resOk_one rfl rfl, (), rfl, (hs.mask []).pick []⟩
          · refine W.cond_false (bool_tr e77 hc98) ?_
            refine W.skip ?_
            refine hK33 _ _ ?_
            refine W.region ?_
            refine WL.move (v := .int .i64 x25) ((hu 5 rfl).trans h24_5) ?_
            obtain ⟨x100, ex100, hf⟩ := letE hf
            refine WL.bin (v := .int .i64 x100) rfl rfl (ib_as ex100 (ib_add _ _ _)) ?_
            refine WL.assign (v := .int .i64 x100) rfl ?_
            refine WL.nil ?_
            exact ⟨_, (Option.some.inj hf).symm, ((hu 2 rfl).trans h24_2), ((hu 3 rfl).trans h24_3), rfl, (hs.mask [true, true]).pick [7, 8]⟩
      · refine W.cond_false (bool_tr rfl hc32) ?_
        refine W.exit ?_
        have hr := Option.some.inj hf; subst hr
        have hr := hbbs26 _ rfl; subst hr
        have hf := hfs26
        exact Jk21  _ _  ((hs.mask []).pick []) hf
  refine W.region ?_
  refine WL.fieldAddr (m := 0) rfl FA102_0 rfl ?_
  refine WL.loadF (z := x1.Client) F_api_Update_Client hs 1 rfl 0 rfl rfl TI3 (.inr rfl) rfl rfl (fun v102 hs => ?_)
  obtain rfl := hs.int 0 rfl
  refine WL.fieldAddr (m := 0) rfl FA102_0 rfl ?_
  refine WL.loadF (z := x5.Client) F_api_Update_Client hs 0 rfl 2 rfl rfl TI3 (.inr rfl) rfl rfl (fun v103 hs => ?_)
  obtain rfl := hs.int 0 rfl
  refine WL.bin (v := .bool (x1.Client != x5.Client)) rfl rfl (ib_neq _ _ _) ?_
  refine WL.move (v := .bool (x1.Client != x5.Client)) rfl ?_
  rcases iteE hf with ⟨hc104, hf⟩ | ⟨hc104, hf⟩
  · refine WL.pass ((wanted_of rfl rfl (bool_tr rfl hc104)).trans rfl) rfl ?_
    refine WL.pass ((wanted_of rfl rfl (bool_tr rfl hc104)).trans rfl) rfl ?_
    refine WL.pass ((wanted_of rfl rfl (bool_tr rfl hc104)).trans rfl) rfl ?_
    refine WL.pass ((wanted_of rfl rfl (bool_tr rfl hc104)).trans rfl) rfl ?_
    refine WL.pass ((wanted_of rfl rfl (bool_tr rfl hc104)).trans rfl) rfl ?_
    refine WL.pickT (v := .bool true) (bool_tr rfl hc104) rfl ?_
    refine WL.move (v := .bool true) rfl ?_
    refine WL.pass ((wanted_of rfl rfl rfl).trans rfl) rfl ?_
    refine WL.pass ((wanted_of rfl rfl rfl).trans rfl) rfl ?_
    refine WL.pass ((wanted_of rfl rfl rfl).trans rfl) rfl ?_
    refine WL.pass ((wanted_of rfl rfl rfl).trans rfl) rfl ?_
    refine WL.pass ((wanted_of rfl rfl rfl).trans rfl) rfl ?_
    refine WL.pickT (v := .bool true) rfl rfl ?_
    refine WL.move (v := .bool true) rfl ?_
    refine WL.pass ((wanted_of rfl rfl rfl).trans rfl) rfl ?_
    refine WL.pass ((wanted_of rfl rfl rfl).trans rfl) rfl ?_
    refine WL.pass ((wanted_of rfl rfl rfl).trans rfl) rfl ?_
    refine WL.pass ((wanted_of rfl rfl rfl).trans rfl) rfl ?_
    refine WL.pass ((wanted_of rfl rfl rfl).trans rfl) rfl ?_
    refine WL.pass ((wanted_of rfl rfl rfl).trans rfl) rfl ?_
    refine WL.pass ((wanted_of rfl rfl rfl).trans rfl) rfl ?_
    refine WL.pickT (v := .bool true) rfl rfl ?_
    refine WL.nil ?_
    exact Jk16 true _ _ rfl rfl rfl ((hs.mask [true, true]).pick [3, 2]) hf
  · refine WL.fieldAddr (m := 1) rfl FA102_1 rfl ?_ (hg := (wanted_of rfl rfl (bool_tr rfl hc104)).trans rfl)
    refine WL.loadF (z := x1.Seq) F_api_Update_Seq hs 1 rfl 2 rfl rfl TI3 (.inr rfl) rfl rfl (fun v105 hs => ?_) (hg := (wanted_of rfl rfl (bool_tr rfl hc104)).trans rfl)
    obtain rfl := hs.int 0 rfl
    refine WL.fieldAddr (m := 1) rfl FA102_1 rfl ?_ (hg := (wanted_of rfl rfl (bool_tr rfl hc104)).trans rfl)
    refine WL.loadF (z := x5.Seq) F_api_Update_Seq hs 0 rfl 4 rfl rfl TI3 (.inr rfl) rfl rfl (fun v106 hs => ?_) (hg := (wanted_of rfl rfl (bool_tr rfl hc104)).trans rfl)
    obtain rfl := hs.int 0 rfl
    refine WL.bin (v := .bool (x1.Seq != x5.Seq)) rfl rfl (ib_neq _ _ _) ?_ (hg := (wanted_of rfl rfl (bool_tr rfl hc104)).trans rfl)
    refine WL.pickF (v := .bool (x1.Seq != x5.Seq)) (bool_tr rfl hc104) rfl ?_
    refine WL.move (v := .bool (x1.Seq != x5.Seq)) rfl ?_
    rcases iteE hf with ⟨hc107, hf⟩ | ⟨hc107, hf⟩
    · refine WL.pass ((wanted_of rfl rfl (bool_tr rfl hc107)).trans rfl) rfl ?_
      refine WL.pass ((wanted_of rfl rfl (bool_tr rfl hc107)).trans rfl) rfl ?_
      refine WL.pass ((wanted_of rfl rfl (bool_tr rfl hc107)).trans rfl) rfl ?_
      refine WL.pass ((wanted_of rfl rfl (bool_tr rfl hc107)).trans rfl) rfl ?_
      refine WL.pass ((wanted_of rfl rfl (bool_tr rfl hc107)).trans rfl) rfl ?_
      refine WL.pickT (v := .bool true) (bool_tr rfl hc107) rfl ?_
      refine WL.move (v := .bool true) rfl ?_
      refine WL.pass ((wanted_of rfl rfl rfl).trans rfl) rfl ?_
      refine WL.pass ((wanted_of rfl rfl rfl).trans rfl) rfl ?_
      refine WL.pass ((wanted_of rfl rfl rfl).trans rfl) rfl ?_
      refine WL.pass ((wanted_of rfl rfl rfl).trans rfl) rfl ?_
      refine WL.pass ((wanted_of rfl rfl rfl).trans rfl) rfl ?_
      refine WL.pass ((wanted_of rfl rfl rfl).trans rfl) rfl ?_
      refine WL.pass ((wanted_of rfl rfl rfl).trans rfl) rfl ?_
      refine WL.pickT (v := .bool true) rfl rfl ?_
      refine WL.nil ?_
      exact Jk16 true _ _ rfl rfl rfl ((hs.mask [true, true]).pick [5, 4]) hf
    · refine WL.fieldAddr (m := 2) rfl FA102_2 rfl ?_ (hg := (wanted_of rfl rfl (bool_tr rfl hc107)).trans rfl)
      refine WL.loadF (z := x1.Tag) F_api_Update_Tag hs 1 rfl 4 rfl rfl TI3 (.inr rfl) rfl rfl (fun v108 hs => ?_) (hg := (wanted_of rfl rfl (bool_tr rfl hc107)).trans rfl)
      obtain rfl := hs.int 0 rfl
      refine WL.fieldAddr (m := 2) rfl FA102_2 rfl ?_ (hg := (wanted_of rfl rfl (bool_tr rfl hc107)).trans rfl)
      refine WL.loadF (z := x5.Tag) F_api_Update_Tag hs 0 rfl 6 rfl rfl TI3 (.inr rfl) rfl rfl (fun v109 hs => ?_) (hg := (wanted_of rfl rfl (bool_tr rfl hc107)).trans rfl)
      obtain rfl := hs.int 0 rfl
      refine WL.bin (v := .bool (x1.Tag != x5.Tag)) rfl rfl (ib_neq _ _ _) ?_ (hg := (wanted_of rfl rfl (bool_tr rfl hc107)).trans rfl)
      refine WL.pickF (v := .bool (x1.Tag != x5.Tag)) (bool_tr rfl hc107) rfl ?_
      refine WL.move (v := .bool (x1.Tag != x5.Tag)) rfl ?_
      rcases iteE hf with ⟨hc110, hf⟩ | ⟨hc110, hf⟩
      · refine WL.pass ((wanted_of rfl rfl (bool_tr rfl hc110)).trans rfl) rfl ?_
        refine WL.pass ((wanted_of rfl rfl (bool_tr rfl hc110)).trans rfl) rfl ?_
        refine WL.pass ((wanted_of rfl rfl (bool_tr rfl hc110)).trans rfl) rfl ?_
        refine WL.pass ((wanted_of rfl rfl (bool_tr rfl hc110)).trans rfl) rfl ?_
        refine WL.pass ((wanted_of rfl rfl (bool_tr rfl hc110)).trans rfl) rfl ?_
        refine WL.pass ((wanted_of rfl rfl (bool_tr rfl hc110)).trans rfl) rfl ?_
        refine WL.pass ((wanted_of rfl rfl (bool_tr rfl hc110)).trans rfl) rfl ?_
        refine WL.pickT (v := .bool true) (bool_tr rfl hc110) rfl ?_
        refine WL.nil ?_
        exact Jk16 true _ _ rfl rfl rfl ((hs.mask [true, true]).pick [7, 6]) hf
      · refine WL.fieldAddr (m := 3) rfl FA102_3 rfl ?_ (hg := (wanted_of rfl rfl (bool_tr rfl hc110)).trans rfl)
        refine WL.loadF (z := x1.Effects) F_api_Update_Effects hs 1 rfl 6 rfl rfl TI100 (.inr rfl) rfl rfl (fun v111 hs => ?_) (hg := (wanted_of rfl rfl (bool_tr rfl hc110)).trans rfl)
        obtain ⟨a112, c113, rfl⟩ := hs.slice 0 rfl
        refine WL.len (v := .slice a112 (x1.Effects).length c113) rfl (len_slice UN100) ?_ (hg := (wanted_of rfl rfl (bool_tr rfl hc110)).trans rfl)
        refine WL.fieldAddr (m := 3) rfl FA102_3 rfl ?_ (hg := (wanted_of rfl rfl (bool_tr rfl hc110)).trans rfl)
        refine WL.loadF (z := x5.Effects) F_api_Update_Effects hs 0 rfl 8 rfl rfl TI100 (.inr rfl) rfl rfl (fun v114 hs => ?_) (hg := (wanted_of rfl rfl (bool_tr rfl hc110)).trans rfl)
        obtain ⟨a115, c116, rfl⟩ := hs.slice 0 rfl
        refine WL.len (v := .slice a115 (x5.Effects).length c116) rfl (len_slice UN100) ?_ (hg := (wanted_of rfl rfl (bool_tr rfl hc110)).trans rfl)
        refine WL.bin (v := .bool (((x1.Effects).length : Int) != ((x5.Effects).length : Int))) rfl rfl (ib_neq _ _ _) ?_ (hg := (wanted_of rfl rfl (bool_tr rfl hc110)).trans rfl)
        refine WL.pickF (v := .bool (((x1.Effects).length : Int) != ((x5.Effects).length : Int))) (bool_tr rfl hc110) rfl ?_
        refine WL.nil ?_
        exact Jk16 (((x1.Effects).length : Int) != ((x5.Effects).length : Int)) _ _ rfl rfl rfl ((hs.mask [true, true]).pick [9, 8]) hf
/-! elasticstore/elasticstoreref14.EqualState: function 44 -/
theorem esref14_EqualState.calls {ok : Nat → Prop} {w0 : World} {x1 : List api_Update} {x4 : List api_Update} {a2 : Option Addr} {c3 : Nat} {a5 : Option Addr} {c6 : Nat} {r : Bool} (hf : esref14_EqualState x1 x4 = some r) (i0 : (vl (tSlice t_api_Update) x1 (.slice a2 x1.length c3)).holds ok w0) (i1 : (vl (tSlice t_api_Update) x4 (.slice a5 x4.length c6)).holds ok w0) :
    Calls Try.prog 44 #[.slice a2 x1.length c3, .slice a5 x4.length c6] w0 fun e w' => ∃ v, e = .returned v ∧ ∃ y : Unit, v = .bool r ∧ St ok (bz w0) w' [] [] := by
  unfold esref14_EqualState at hf
  refine calls_of_W (fn := Try.f44) (N := 27) Try.func44 rfl Try.ntmps44 rfl ?_
  have hs : St ok (bz w0) w0 [vl (tSlice t_api_Update) x1 (.slice a2 x1.length c3), vl (tSlice t_api_Update) x4 (.slice a5 x4.length c6)] [] := St.init (All.cons i0 (All.cons i1 All.nil))
  clear i0 i1
  refine W.seqK fun K7 hK7 => ?_
  refine W.region ?_
  refine WL.assign (v := .bool false) rfl ?_
  refine WL.nil ?_
  refine hK7 _ _ ?_
  refine W.seqK fun K8 hK8 => ?_
  refine W.seqK fun K9 hK9 => ?_
  refine W.region ?_
  refine WL.move (v := .slice a2 x1.length c3) rfl ?_
  refine WL.len (v := .slice a2 x1.length c3) rfl (len_slice UN45) ?_
  refine WL.move (v := .slice a5 x4.length c6) rfl ?_
  refine WL.len (v := .slice a5 x4.length c6) rfl (len_slice UN45) ?_
  refine WL.bin (v := .bool ((x1.length : Int) != (x4.length : Int))) rfl rfl (ib_neq _ _ _) ?_
  refine WL.nil ?_
  refine hK9 _ _ ?_
  rcases iteE hf with ⟨hc10, hf⟩ | ⟨hc10, hf⟩
  · refine W.cond_true (bool_tr rfl hc10) ?_
    refine W.seqK fun K11 hK11 => ?_
    refine W.region ?_
    refine WL.assign (v := .bool false) rfl ?_
    refine WL.nil ?_
    refine hK11 _ _ ?_
    refine W.ret ?_
    have hr := Option.some.inj hf; subst hr
    exact ⟨_, resOk_one rfl rfl, (), rfl, (hs.mask []).pick []⟩
  · refine W.cond_false (bool_tr rfl hc10) ?_
    refine W.skip ?_
    refine hK8 _ _ ?_
    refine W.seqK fun K12 hK12 => ?_
    have Jk14 : ∀  (ρ : Env) (w : World), St ok (bz w0) w [] [] → esref14_EqualState.j1 = some r → K12 ρ w := by
      intro  ρ w  hs hf
      refine hK12 _ _ ?_
      unfold esref14_EqualState.j1 at hf
      refine W.seqK fun K15 hK15 => ?_
      refine W.region ?_
      refine WL.assign (v := .bool true) rfl ?_
      refine WL.nil ?_
      refine hK15 _ _ ?_
      refine W.ret ?_
      have hr := Option.some.inj hf; subst hr
      exact ⟨_, resOk_one rfl rfl, (), rfl, (hs.mask []).pick []⟩
    refine W.seqK fun K16 hK16 => ?_
    refine W.region ?_
    refine WL.assign (v := .int .i64 0) rfl ?_
    refine WL.nil ?_
    refine hK16 _ _ ?_
    refine W.block ?_
    obtain ⟨bs19, hbs19, hfs19⟩ := bindE hf
    refine W.loop hbs19 (fun s ρ w => match s with | x18 => ρ 0 = .slice a2 x1.length c3 ∧ ρ 1 = .slice a5 x4.length c6 ∧ ρ 5 = .int .i64 x18 ∧ St ok (bz w0) w [vl (tSlice t_api_Update) x1 (.slice a2 x1.length c3), vl (tSlice t_api_Update) x4 (.slice a5 x4.length c6)] []) ⟨rfl, rfl, rfl, (hs.mask []).pick [0, 1]⟩ ?_
    intro x18 ρ w os19 hI hf hbbs19
    obtain ⟨h17_0, h17_1, h17_5, hs⟩ := hI
    unfold esref14_EqualState.l1 at hf
    refine W.seqK fun K20 hK20 => ?_
    refine W.seqK fun K21 hK21 => ?_
    refine W.region ?_
    refine WL.move (v := .int .i64 x18) h17_5 ?_
    refine WL.move (v := .slice a2 x1.length c3) h17_0 ?_
    refine WL.len (v := .slice a2 x1.length c3) rfl (len_slice UN45) ?_
    refine WL.bin (v := .bool (decide (x18 < (x1.length : Int)))) rfl rfl (ib_lss _ _ _) ?_
    refine WL.nil ?_
    refine hK21 _ _ ?_
    rcases iteE hf with ⟨hc22, hf⟩ | ⟨hc22, hf⟩
    · refine W.cond_true (bool_tr rfl hc22) ?_
      refine W.skip ?_
      refine hK20 _ _ ?_
      refine W.seqK fun K23 hK23 => ?_
      refine W.block ?_
      refine W.seqK fun K24 hK24 => ?_
      obtain ⟨x25, hxx25, hf⟩ := bindE hf
      obtain ⟨x30, hxx30, hf⟩ := bindE hf
      obtain ⟨x35, hxx35, hf⟩ := bindE hf
      refine W.any (by kernel_rfl) 10 0 [true, true, true, true, true, true, true, true, true, true] rfl rfl (poAt [pv (.slice a2 x1.length c3), pv (.int .i64 x18), pq (fun y : Addr => .pointer (some y)) (fun v => [pl t_api_Update x25 (adOf v)]) (fun v => []), pq (fun y : List Value => .agg y.toArray) (fun v => [vl t_api_Update x25 v]) (fun v => []), pv (.slice a5 x4.length c6), pv (.int .i64 x18), pq (fun y : Addr => .pointer (some y)) (fun v => [pl t_api_Update x30 (adOf v)]) (fun v => []), pq (fun y : List Value => .agg y.toArray) (fun v => [vl t_api_Update x30 v]) (fun v => []), pv (.bool x35), pv (.bool (!x35))]) (Λ := []) hs (by kernel_rfl) (by kernel_rfl) (by kernel_rfl) ⟨⟨⟨⟨⟨⟨⟨⟨⟨⟨trivial, ?_⟩, ?_⟩, ?_⟩, ?_⟩, ?_⟩, ?_⟩, ?_⟩, ?_⟩, ?_⟩, ?_⟩ ?_
      · intro ρ w Γx Λx hs hu hp
        refine WL.move (v := .slice a2 x1.length c3) ((hu 0 rfl).trans h17_0) ?_
        exact WL.nil ⟨rfl, _, rfl, rfl, hs.cutG 0 0⟩
      · intro ρ w Γx Λx hs hu hp
        refine WL.move (v := .int .i64 x18) ((hu 5 rfl).trans h17_5) ?_
        exact WL.nil ⟨rfl, _, rfl, rfl, hs.cutG 0 0⟩
      · intro ρ w Γx Λx hs hu hp
        have e36 : ρ 17 = .slice a2 x1.length c3 := (hp 0 rfl).1
        have e37 : ρ 18 = .int .i64 x18 := (hp 1 rfl).1
        refine WL.indexAddr hs (Γx.length + 0) (getApp rfl) UN45 TI102 e36 e37 hxx25 (fun ad26 hs => ?_)
        have hs := hs.add (it := pl t_api_Update x25 ad26) fun ok hA => hA.get 0 rfl
        exact WL.nil ⟨rfl, _, rfl, ⟨ad26, rfl⟩, hs.cutG 1 1⟩
      · intro ρ w Γx Λx hs hu hp
        obtain ⟨⟨ad38, e39r⟩, hm40⟩ := hp 2 rfl
        have e39 : ρ 19 = .pointer (some ad38) := e39r
        rw [e39r] at hm40
        have hs := hs.memo1 (it := pl t_api_Update x25 ad38) (List.mem_append.2 (.inl (hm40 _ (List.mem_of_getElem? (i := 0) rfl))))
        refine WL.loadP hs 0 rfl TI102 (.inl rfl) e39 (fun v27 hs => ?_)
        obtain ⟨cs28, hl29, rfl⟩ := hs.aggv (n := 4) 0 rfl rfl rfl
        have hs := hs.add (it := vl t_api_Update x25 (.agg cs28.toArray)) fun ok hA => hA.get 0 rfl
        exact WL.nil ⟨rfl, _, rfl, ⟨cs28, rfl⟩, hs.cutG 1 2⟩
      · intro ρ w Γx Λx hs hu hp
        refine WL.move (v := .slice a5 x4.length c6) ((hu 1 rfl).trans h17_1) ?_
        exact WL.nil ⟨rfl, _, rfl, rfl, hs.cutG 0 0⟩
      · intro ρ w Γx Λx hs hu hp
        refine WL.move (v := .int .i64 x18) ((hu 5 rfl).trans h17_5) ?_
        exact WL.nil ⟨rfl, _, rfl, rfl, hs.cutG 0 0⟩
      · intro ρ w Γx Λx hs hu hp
        have e41 : ρ 21 = .slice a5 x4.length c6 := (hp 4 rfl).1
        have e42 : ρ 22 = .int .i64 x18 := (hp 5 rfl).1
        refine WL.indexAddr hs (Γx.length + 1) (getApp rfl) UN45 TI102 e41 e42 hxx30 (fun ad31 hs => ?_)
        have hs := hs.add (it := pl t_api_Update x30 ad31) fun ok hA => hA.get 0 rfl
        exact WL.nil ⟨rfl, _, rfl, ⟨ad31, rfl⟩, hs.cutG 1 1⟩
      · intro ρ w Γx Λx hs hu hp
        obtain ⟨⟨ad43, e44r⟩, hm45⟩ := hp 6 rfl
        have e44 : ρ 23 = .pointer (some ad43) := e44r
        rw [e44r] at hm45
        have hs := hs.memo1 (it := pl t_api_Update x30 ad43) (List.mem_append.2 (.inl (hm45 _ (List.mem_of_getElem? (i := 0) rfl))))
        refine WL.loadP hs 0 rfl TI102 (.inl rfl) e44 (fun v32 hs => ?_)
        obtain ⟨cs33, hl34, rfl⟩ := hs.aggv (n := 4) 0 rfl rfl rfl
        have hs := hs.add (it := vl t_api_Update x30 (.agg cs33.toArray)) fun ok hA => hA.get 0 rfl
        exact WL.nil ⟨rfl, _, rfl, ⟨cs33, rfl⟩, hs.cutG 1 2⟩
      · intro ρ w Γx Λx hs hu hp
        obtain ⟨⟨cs46, e48r⟩, hm49⟩ := hp 3 rfl
        have e48 : ρ 20 = .agg cs46.toArray := e48r
        rw [e48r] at hm49
        have hs := hs.memo1 (it := vl t_api_Update x25 (.agg cs46.toArray)) (List.mem_append.2 (.inl (hm49 _ (List.mem_of_getElem? (i := 0) rfl))))
        have hl47 := hs.agglen (n := 4) 0 rfl rfl rfl
        obtain ⟨⟨cs50, e52r⟩, hm53⟩ := hp 7 rfl
        have e52 : ρ 24 = .agg cs50.toArray := e52r
        rw [e52r] at hm53
        have hs := hs.memo1 (it := vl t_api_Update x30 (.agg cs50.toArray)) (List.mem_cons_of_mem _ (List.mem_append.2 (.inl (hm53 _ (List.mem_of_getElem? (i := 0) rfl)))))
        have hl51 := hs.agglen (n := 4) 0 rfl rfl rfl
        refine WL.call (vs := [.agg cs46.toArray, .agg cs50.toArray]) hs FN59 ⟨e48, ⟨e52, trivial⟩⟩ (fun ok hA => esref14_EqualUpdate.calls (x1 := x25) (x5 := x30) hxx35 (hA.get 1 rfl) (hA.get 0 rfl)) ?_
        rintro _ w hs
        exact WL.nil ⟨rfl, _, rfl, rfl, hs.cutG 0 2⟩
      · intro ρ w Γx Λx hs hu hp
        have e54 : ρ 25 = .bool x35 := (hp 8 rfl).1
        refine WL.not e54 ?_
        exact WL.nil ⟨rfl, _, rfl, rfl, hs.cutG 0 0⟩
      · intro ρ w hs hu hp
        obtain ⟨⟨⟨⟨⟨⟨⟨⟨⟨⟨_, hp0_⟩, hp1_⟩, hp2_⟩, hp3_⟩, hp4_⟩, hp5_⟩, hp6_⟩, hp7_⟩, hp8_⟩, hp9_⟩ := hp
        have hs : St ok (bz w0) w [vl t_api_Update x30 (ρ 24), pl t_api_Update x30 (adOf (ρ 23)), vl t_api_Update x25 (ρ 20), pl t_api_Update x25 (adOf (ρ 19)), vl (tSlice t_api_Update) x1 (.slice a2 x1.length c3), vl (tSlice t_api_Update) x4 (.slice a5 x4.length c6)] [] := hs
        have e55 : ρ 26 = .bool (!x35) := hp9_
        have e56 : ρ 25 = .bool x35 := hp8_
        obtain ⟨cs57, e59⟩ := hp7_
        have e59 : ρ 24 = .agg cs57.toArray := e59
        try rw [e59] at hs
        obtain ⟨ad60, e61⟩ := hp6_
        have e61 : ρ 23 = .pointer (some ad60) := e61
        try rw [e61] at hs
        have e62 : ρ 22 = .int .i64 x18 := hp5_
        have e63 : ρ 21 = .slice a5 x4.length c6 := hp4_
        obtain ⟨cs64, e66⟩ := hp3_
        have e66 : ρ 20 = .agg cs64.toArray := e66
        try rw [e66] at hs
        obtain ⟨ad67, e68⟩ := hp2_
        have e68 : ρ 19 = .pointer (some ad67) := e68
        try rw [e68] at hs
        have e69 : ρ 18 = .int .i64 x18 := hp1_
        have e70 : ρ 17 = .slice a2 x1.length c3 := hp0_
        have hl65 := hs.agglen (n := 4) 2 rfl rfl rfl
        have hl58 := hs.agglen (n := 4) 0 rfl rfl rfl
        refine WA.done (by kernel_rfl) ?_
        refine hK24 _ _ ?_
        rcases iteE hf with ⟨hc71, hf⟩ | ⟨hc71, hf⟩
        · refine W.cond_true (bool_tr e55 hc71) ?_
          refine W.seqK fun K72 hK72 => ?_
          refine W.region ?_
          refine WL.assign (v := .bool false) rfl ?_
          refine WL.nil ?_
          refine hK72 _ _ ?_
          refine W.ret ?_
          have hr := Option.some.inj hf; subst hr
          have hr := hbbs19 _ rfl; subst hr
          have hf := hfs19
          have hr := Option.some.inj hf; subst hr
          exact ⟨_, resOk_one rfl rfl, (), rfl, (hs.mask []).pick []⟩
        · refine W.cond_false (bool_tr e55 hc71) ?_
          refine W.skip ?_
          refine hK23 _ _ ?_
          refine W.region ?_
          refine WL.move (v := .int .i64 x18) ((hu 5 rfl).trans h17_5) ?_
          obtain ⟨x73, ex73, hf⟩ := letE hf
          refine WL.bin (v := .int .i64 x73) rfl rfl (ib_as ex73 (ib_add _ _ _)) ?_
          refine WL.assign (v := .int .i64 x73) rfl ?_
          refine WL.nil ?_
          exact ⟨_, (Option.some.inj hf).symm, ((hu 0 rfl).trans h17_0), ((hu 1 rfl).trans h17_1), rfl, (hs.mask []).pick [4, 5]⟩
    · refine W.cond_false (bool_tr rfl hc22) ?_
      refine W.exit ?_
      have hr := Option.some.inj hf; subst hr
      have hr := hbbs19 _ rfl; subst hr
      have hf := hfs19
      exact Jk14  _ _  ((hs.mask []).pick []) hf
/-! elasticstore/elasticstoreref03.EqualVector: function 45 -/
theorem esref03_EqualVector.calls {ok : Nat → Prop} {w0 : World} {x1 : List api_Entry} {x4 : List api_Entry} {a2 : Option Addr} {c3 : Nat} {a5 : Option Addr} {c6 : Nat} {r : Bool} (hf : esref03_EqualVector x1 x4 = some r) (i0 : (vl (tSlice t_api_Entry) x1 (.slice a2 x1.length c3)).holds ok w0) (i1 : (vl (tSlice t_api_Entry) x4 (.slice a5 x4.length c6)).holds ok w0) :
    Calls Try.prog 45 #[.slice a2 x1.length c3, .slice a5 x4.length c6] w0 fun e w' => ∃ v, e = .returned v ∧ ∃ y : Unit, v = .bool r ∧ St ok (bz w0) w' [] [] := by
  unfold esref03_EqualVector at hf
  refine calls_of_W (fn := Try.f45) (N := 26) Try.func45 rfl Try.ntmps45 rfl ?_
  have hs : St ok (bz w0) w0 [vl (tSlice t_api_Entry) x1 (.slice a2 x1.length c3), vl (tSlice t_api_Entry) x4 (.slice a5 x4.length c6)] [] := St.init (All.cons i0 (All.cons i1 All.nil))
  clear i0 i1
  refine W.seqK fun K7 hK7 => ?_
  refine W.region ?_
  refine WL.assign (v := .bool false) rfl ?_
  refine WL.nil ?_
  refine hK7 _ _ ?_
  refine W.seqK fun K8 hK8 => ?_
  refine W.seqK fun K9 hK9 => ?_
  refine W.region ?_
  refine WL.move (v := .slice a2 x1.length c3) rfl ?_
  refine WL.len (v := .slice a2 x1.length c3) rfl (len_slice UN47) ?_
  refine WL.move (v := .slice a5 x4.length c6) rfl ?_
  refine WL.len (v := .slice a5 x4.length c6) rfl (len_slice UN47) ?_
  refine WL.bin (v := .bool ((x1.length : Int) != (x4.length : Int))) rfl rfl (ib_neq _ _ _) ?_
  refine WL.nil ?_
  refine hK9 _ _ ?_
  rcases iteE hf with ⟨hc10, hf⟩ | ⟨hc10, hf⟩
  · refine W.cond_true (bool_tr rfl hc10) ?_
    refine W.seqK fun K11 hK11 => ?_
    refine W.region ?_
    refine WL.assign (v := .bool false) rfl ?_
    refine WL.nil ?_
    refine hK11 _ _ ?_
    refine W.ret ?_
    have hr := Option.some.inj hf; subst hr
    exact ⟨_, resOk_one rfl rfl, (), rfl, (hs.mask []).pick []⟩
  · refine W.cond_false (bool_tr rfl hc10) ?_
    refine W.skip ?_
    refine hK8 _ _ ?_
    refine W.seqK fun K12 hK12 => ?_
    have Jk14 : ∀  (ρ : Env) (w : World), St ok (bz w0) w [] [] → esref03_EqualVector.j1 = some r → K12 ρ w := by
      intro  ρ w  hs hf
      refine hK12 _ _ ?_
      unfold esref03_EqualVector.j1 at hf
      refine W.seqK fun K15 hK15 => ?_
      refine W.region ?_
      refine WL.assign (v := .bool true) rfl ?_
      refine WL.nil ?_
      refine hK15 _ _ ?_
      refine W.ret ?_
      have hr := Option.some.inj hf; subst hr
      exact ⟨_, resOk_one rfl rfl, (), rfl, (hs.mask []).pick []⟩
    refine W.seqK fun K16 hK16 => ?_
    refine W.region ?_
    refine WL.assign (v := .int .i64 0) rfl ?_
    refine WL.nil ?_
    refine hK16 _ _ ?_
    refine W.block ?_
    obtain ⟨bs19, hbs19, hfs19⟩ := bindE hf
    refine W.loop hbs19 (fun s ρ w => match s with | x18 => ρ 0 = .slice a2 x1.length c3 ∧ ρ 1 = .slice a5 x4.length c6 ∧ ρ 5 = .int .i64 x18 ∧ St ok (bz w0) w [vl (tSlice t_api_Entry) x1 (.slice a2 x1.length c3), vl (tSlice t_api_Entry) x4 (.slice a5 x4.length c6)] []) ⟨rfl, rfl, rfl, (hs.mask []).pick [0, 1]⟩ ?_
    intro x18 ρ w os19 hI hf hbbs19
    obtain ⟨h17_0, h17_1, h17_5, hs⟩ := hI
    unfold esref03_EqualVector.l1 at hf
    refine W.seqK fun K20 hK20 => ?_
    refine W.seqK fun K21 hK21 => ?_
    refine W.region ?_
    refine WL.move (v := .int .i64 x18) h17_5 ?_
    refine WL.move (v := .slice a2 x1.length c3) h17_0 ?_
    refine WL.len (v := .slice a2 x1.length c3) rfl (len_slice UN47) ?_
    refine WL.bin (v := .bool (decide (x18 < (x1.length : Int)))) rfl rfl (ib_lss _ _ _) ?_
    refine WL.nil ?_
    refine hK21 _ _ ?_
    rcases iteE hf with ⟨hc22, hf⟩ | ⟨hc22, hf⟩
    · refine W.cond_true (bool_tr rfl hc22) ?_
      refine W.skip ?_
      refine hK20 _ _ ?_
      refine W.seqK fun K23 hK23 => ?_
      refine W.block ?_
      refine W.seqK fun K24 hK24 => ?_
      obtain ⟨x25, hxx25, hf⟩ := bindE hf
      obtain ⟨x30, hxx30, hf⟩ := bindE hf
      refine W.any (by kernel_rfl) 9 0 [true, true, true, true, true, true, true, true, true] rfl rfl (poAt [pv (.slice a2 x1.length c3), pv (.int .i64 x18), pq (fun y : Addr => .pointer (some y)) (fun v => [pl t_api_Entry x25 (adOf v)]) (fun v => []), pq (fun y : List Value => .agg y.toArray) (fun v => [vl t_api_Entry x25 v]) (fun v => []), pv (.slice a5 x4.length c6), pv (.int .i64 x18), pq (fun y : Addr => .pointer (some y)) (fun v => [pl t_api_Entry x30 (adOf v)]) (fun v => []), pq (fun y : List Value => .agg y.toArray) (fun v => [vl t_api_Entry x30 v]) (fun v => []), pv (.bool (!decide ((⟨x25.Author, x25.Count⟩ : api_Entry) = (⟨x30.Author, x30.Count⟩ : api_Entry))))]) (Λ := []) hs (by kernel_rfl) (by kernel_rfl) (by kernel_rfl) ⟨⟨⟨⟨⟨⟨⟨⟨⟨trivial, ?_⟩, ?_⟩, ?_⟩, ?_⟩, ?_⟩, ?_⟩, ?_⟩, ?_⟩, ?_⟩ ?_
      · intro ρ w Γx Λx hs hu hp
        refine WL.move (v := .slice a2 x1.length c3) ((hu 0 rfl).trans h17_0) ?_
        exact WL.nil ⟨rfl, _, rfl, rfl, hs.cutG 0 0⟩
      · intro ρ w Γx Λx hs hu hp
        refine WL.move (v := .int .i64 x18) ((hu 5 rfl).trans h17_5) ?_
        exact WL.nil ⟨rfl, _, rfl, rfl, hs.cutG 0 0⟩
      · intro ρ w Γx Λx hs hu hp
        have e35 : ρ 17 = .slice a2 x1.length c3 := (hp 0 rfl).1
        have e36 : ρ 18 = .int .i64 x18 := (hp 1 rfl).1
        refine WL.indexAddr hs (Γx.length + 0) (getApp rfl) UN47 TI104 e35 e36 hxx25 (fun ad26 hs => ?_)
        have hs := hs.add (it := pl t_api_Entry x25 ad26) fun ok hA => hA.get 0 rfl
        exact WL.nil ⟨rfl, _, rfl, ⟨ad26, rfl⟩, hs.cutG 1 1⟩
      · intro ρ w Γx Λx hs hu hp
        obtain ⟨⟨ad37, e38r⟩, hm39⟩ := hp 2 rfl
        have e38 : ρ 19 = .pointer (some ad37) := e38r
        rw [e38r] at hm39
        have hs := hs.memo1 (it := pl t_api_Entry x25 ad37) (List.mem_append.2 (.inl (hm39 _ (List.mem_of_getElem? (i := 0) rfl))))
        refine WL.loadP hs 0 rfl TI104 (.inl rfl) e38 (fun v27 hs => ?_)
        obtain ⟨cs28, hl29, rfl⟩ := hs.aggv (n := 2) 0 rfl rfl rfl
        have hs := hs.add (it := vl t_api_Entry x25 (.agg cs28.toArray)) fun ok hA => hA.get 0 rfl
        exact WL.nil ⟨rfl, _, rfl, ⟨cs28, rfl⟩, hs.cutG 1 2⟩
      · intro ρ w Γx Λx hs hu hp
        refine WL.move (v := .slice a5 x4.length c6) ((hu 1 rfl).trans h17_1) ?_
        exact WL.nil ⟨rfl, _, rfl, rfl, hs.cutG 0 0⟩
      · intro ρ w Γx Λx hs hu hp
        refine WL.move (v := .int .i64 x18) ((hu 5 rfl).trans h17_5) ?_
        exact WL.nil ⟨rfl, _, rfl, rfl, hs.cutG 0 0⟩
      · intro ρ w Γx Λx hs hu hp
        have e40 : ρ 21 = .slice a5 x4.length c6 := (hp 4 rfl).1
        have e41 : ρ 22 = .int .i64 x18 := (hp 5 rfl).1
        refine WL.indexAddr hs (Γx.length + 1) (getApp rfl) UN47 TI104 e40 e41 hxx30 (fun ad31 hs => ?_)
        have hs := hs.add (it := pl t_api_Entry x30 ad31) fun ok hA => hA.get 0 rfl
        exact WL.nil ⟨rfl, _, rfl, ⟨ad31, rfl⟩, hs.cutG 1 1⟩
      · intro ρ w Γx Λx hs hu hp
        obtain ⟨⟨ad42, e43r⟩, hm44⟩ := hp 6 rfl
        have e43 : ρ 23 = .pointer (some ad42) := e43r
        rw [e43r] at hm44
        have hs := hs.memo1 (it := pl t_api_Entry x30 ad42) (List.mem_append.2 (.inl (hm44 _ (List.mem_of_getElem? (i := 0) rfl))))
        refine WL.loadP hs 0 rfl TI104 (.inl rfl) e43 (fun v32 hs => ?_)
        obtain ⟨cs33, hl34, rfl⟩ := hs.aggv (n := 2) 0 rfl rfl rfl
        have hs := hs.add (it := vl t_api_Entry x30 (.agg cs33.toArray)) fun ok hA => hA.get 0 rfl
        exact WL.nil ⟨rfl, _, rfl, ⟨cs33, rfl⟩, hs.cutG 1 2⟩
      · intro ρ w Γx Λx hs hu hp
        obtain ⟨⟨cs45, e47r⟩, hm48⟩ := hp 3 rfl
        have e47 : ρ 20 = .agg cs45.toArray := e47r
        rw [e47r] at hm48
        have hs := hs.memo1 (it := vl t_api_Entry x25 (.agg cs45.toArray)) (List.mem_append.2 (.inl (hm48 _ (List.mem_of_getElem? (i := 0) rfl))))
        have hl46 := hs.agglen (n := 2) 0 rfl rfl rfl
        obtain ⟨⟨cs49, e51r⟩, hm52⟩ := hp 7 rfl
        have e51 : ρ 24 = .agg cs49.toArray := e51r
        rw [e51r] at hm52
        have hs := hs.memo1 (it := vl t_api_Entry x30 (.agg cs49.toArray)) (List.mem_cons_of_mem _ (List.mem_append.2 (.inl (hm52 _ (List.mem_of_getElem? (i := 0) rfl)))))
        have hl50 := hs.agglen (n := 2) 0 rfl rfl rfl
        obtain rfl := open_api_Entry hs 1 rfl
        obtain rfl := open_api_Entry hs 0 rfl
        refine WL.eqA e47 e51 EG104 (NQ104 (⟨x25.Author, x25.Count⟩ : api_Entry) (⟨x30.Author, x30.Count⟩ : api_Entry)) ?_
        exact WL.nil ⟨rfl, _, rfl, rfl, hs.cutG 0 2⟩
      · intro ρ w hs hu hp
        obtain ⟨⟨⟨⟨⟨⟨⟨⟨⟨_, hp0_⟩, hp1_⟩, hp2_⟩, hp3_⟩, hp4_⟩, hp5_⟩, hp6_⟩, hp7_⟩, hp8_⟩ := hp
        have hs : St ok (bz w0) w [vl t_api_Entry x30 (ρ 24), pl t_api_Entry x30 (adOf (ρ 23)), vl t_api_Entry x25 (ρ 20), pl t_api_Entry x25 (adOf (ρ 19)), vl (tSlice t_api_Entry) x1 (.slice a2 x1.length c3), vl (tSlice t_api_Entry) x4 (.slice a5 x4.length c6)] [] := hs
        have e53 : ρ 25 = .bool (!decide ((⟨x25.Author, x25.Count⟩ : api_Entry) = (⟨x30.Author, x30.Count⟩ : api_Entry))) := hp8_
        obtain ⟨cs54, e56⟩ := hp7_
        have e56 : ρ 24 = .agg cs54.toArray := e56
        try rw [e56] at hs
        obtain ⟨ad57, e58⟩ := hp6_
        have e58 : ρ 23 = .pointer (some ad57) := e58
        try rw [e58] at hs
        have e59 : ρ 22 = .int .i64 x18 := hp5_
        have e60 : ρ 21 = .slice a5 x4.length c6 := hp4_
        obtain ⟨cs61, e63⟩ := hp3_
        have e63 : ρ 20 = .agg cs61.toArray := e63
        try rw [e63] at hs
        obtain ⟨ad64, e65⟩ := hp2_
        have e65 : ρ 19 = .pointer (some ad64) := e65
        try rw [e65] at hs
        have e66 : ρ 18 = .int .i64 x18 := hp1_
        have e67 : ρ 17 = .slice a2 x1.length c3 := hp0_
        have hl62 := hs.agglen (n := 2) 2 rfl rfl rfl
        have hl55 := hs.agglen (n := 2) 0 rfl rfl rfl
        refine WA.done (by kernel_rfl) ?_
        refine hK24 _ _ ?_
        rcases iteE hf with ⟨hc68, hf⟩ | ⟨hc68, hf⟩
        · refine W.cond_true (bool_tr e53 hc68) ?_
          refine W.seqK fun K69 hK69 => ?_
          refine W.region ?_
          refine WL.assign (v := .bool false) rfl ?_
          refine WL.nil ?_
          refine hK69 _ _ ?_
          refine W.ret ?_
          have hr := Option.some.inj hf; subst hr
          have hr := hbbs19 _ rfl; subst hr
          have hf := hfs19
          have hr := Option.some.inj hf; subst hr
          exact ⟨_, resOk_one rfl rfl, (), rfl, (hs.mask []).pick []⟩
        · refine W.cond_false (bool_tr e53 hc68) ?_
          refine W.skip ?_
          refine hK23 _ _ ?_
          refine W.region ?_
          refine WL.move (v := .int .i64 x18) ((hu 5 rfl).trans h17_5) ?_
          obtain ⟨x70, ex70, hf⟩ := letE hf
          refine WL.bin (v := .int .i64 x70) rfl rfl (ib_as ex70 (ib_add _ _ _)) ?_
          refine WL.assign (v := .int .i64 x70) rfl ?_
          refine WL.nil ?_
          exact ⟨_, (Option.some.inj hf).symm, ((hu 0 rfl).trans h17_0), ((hu 1 rfl).trans h17_1), rfl, (hs.mask []).pick [4, 5]⟩
    · refine W.cond_false (bool_tr rfl hc22) ?_
      refine W.exit ?_
      have hr := Option.some.inj hf; subst hr
      have hr := hbbs19 _ rfl; subst hr
      have hf := hfs19
      exact Jk14  _ _  ((hs.mask []).pick []) hf
end Go.Proofs.Ytahobbichanccaa
