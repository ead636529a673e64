import Derived.Test.YthfoljpjhegkmaaDoorFh
set_option linter.unusedVariables false
set_option linter.unusedSimpArgs false
namespace Go.Proofs.YthfoljpjhegkmaaDoor
open Go Go.RowKit Go.Proofs.YthfoljpjhegkmaaDoorL
set_option maxRecDepth 100000
set_option maxHeartbeats 4000000
/-! elasticstore/elasticstoreref10.Ascending: function 33 -/
theorem esref10_Ascending.calls {ok : Nat → Prop} {w0 : World} {x1 : List Int} {a2 : Option Addr} {c3 : Nat} {r : Bool} (hf : esref10_Ascending x1 = some r) (i0 : (vl (tSlice (tInt .i64)) x1 (.slice a2 x1.length c3)).holds ok w0) :
    Calls Tryd.prog 33 #[.slice a2 x1.length c3] w0 fun e w' => ∃ v, e = .returned v ∧ ∃ y : Unit, v = .bool r ∧ St ok (bz w0) w' [] [] := by
  unfold esref10_Ascending at hf
  refine calls_of_W (fn := Tryd.f33) (N := 20) Tryd.func33 rfl Tryd.ntmps33 rfl ?_
  have hs : St ok (bz w0) w0 [vl (tSlice (tInt .i64)) x1 (.slice a2 x1.length c3)] [] := St.init (All.cons i0 All.nil)
  clear i0
  refine W.seqK fun K4 hK4 => ?_
  refine W.region ?_
  refine WL.assign (v := .bool false) rfl ?_
  refine WL.nil ?_
  refine hK4 _ _ ?_
  refine W.seqK fun K5 hK5 => ?_
  have Jk7 : ∀  (ρ : Env) (w : World), St ok (bz w0) w [] [] → esref10_Ascending.j1 = some r → K5 ρ w := by
    intro  ρ w  hs hf
    refine hK5 _ _ ?_
    unfold esref10_Ascending.j1 at hf
    refine W.seqK fun K8 hK8 => ?_
    refine W.region ?_
    refine WL.assign (v := .bool true) rfl ?_
    refine WL.nil ?_
    refine hK8 _ _ ?_
    refine W.ret ?_
    have hr := Option.some.inj hf; subst hr
    exact ⟨_, resOk_one rfl rfl, (), rfl, (hs.mask []).pick []⟩
  refine W.seqK fun K9 hK9 => ?_
  refine W.region ?_
  refine WL.assign (v := .int .i64 1) rfl ?_
  refine WL.nil ?_
  refine hK9 _ _ ?_
  refine W.block ?_
  obtain ⟨bs12, hbs12, hfs12⟩ := bindE hf
  refine W.loop hbs12 (fun s ρ w => match s with | x11 => ρ 0 = .slice a2 x1.length c3 ∧ ρ 3 = .int .i64 x11 ∧ St ok (bz w0) w [vl (tSlice (tInt .i64)) x1 (.slice a2 x1.length c3)] []) ⟨rfl, rfl, (hs.mask []).pick [0]⟩ ?_
  intro x11 ρ w os12 hI hf hbbs12
  obtain ⟨h10_0, h10_3, hs⟩ := hI
  unfold esref10_Ascending.l1 at hf
  refine W.seqK fun K13 hK13 => ?_
  refine W.seqK fun K14 hK14 => ?_
  refine W.region ?_
  refine WL.move (v := .int .i64 x11) h10_3 ?_
  refine WL.move (v := .slice a2 x1.length c3) h10_0 ?_
  refine WL.len (v := .slice a2 x1.length c3) rfl (len_slice UN33) ?_
  refine WL.bin (v := .bool (decide (x11 < (x1.length : Int)))) rfl rfl (ib_lss _ _ _) ?_
  refine WL.nil ?_
  refine hK14 _ _ ?_
  rcases iteE hf with ⟨hc15, hf⟩ | ⟨hc15, hf⟩
  · refine W.cond_true (bool_tr rfl hc15) ?_
    refine W.skip ?_
    refine hK13 _ _ ?_
    refine W.seqK fun K16 hK16 => ?_
    refine W.block ?_
    refine W.seqK fun K17 hK17 => ?_
    obtain ⟨x18, ex18, hf⟩ := letE hf
    obtain ⟨x19, hxx19, hf⟩ := bindE hf
    obtain ⟨x22, hxx22, hf⟩ := bindE hf
    refine W.any (by kernel_rfl) 10 0 [true, true, true, true, true, true, true, true, true, true] rfl rfl (poAt [pv (.slice a2 x1.length c3), pv (.int .i64 x11), pv (.int .i64 x18), pq (fun y : Addr => .pointer (some y)) (fun v => [pl (tInt .i64) x19 (adOf v)]) (fun v => []), pv (.int .i64 x19), pv (.slice a2 x1.length c3), pv (.int .i64 x11), pq (fun y : Addr => .pointer (some y)) (fun v => [pl (tInt .i64) x22 (adOf v)]) (fun v => []), pv (.int .i64 x22), pv (.bool (decide (x22 ≤ x19)))]) (Λ := []) hs (by kernel_rfl) (by kernel_rfl) (by kernel_rfl) ⟨⟨⟨⟨⟨⟨⟨⟨⟨⟨trivial, ?_⟩, ?_⟩, ?_⟩, ?_⟩, ?_⟩, ?_⟩, ?_⟩, ?_⟩, ?_⟩, ?_⟩ ?_
    · intro ρ w Γx Λx hs hu hp
      refine WL.move (v := .slice a2 x1.length c3) ((hu 0 rfl).trans h10_0) ?_
      exact WL.nil ⟨rfl, _, rfl, rfl, hs.cutG 0 0⟩
    · intro ρ w Γx Λx hs hu hp
      refine WL.move (v := .int .i64 x11) ((hu 3 rfl).trans h10_3) ?_
      exact WL.nil ⟨rfl, _, rfl, rfl, hs.cutG 0 0⟩
    · intro ρ w Γx Λx hs hu hp
      have e25 : ρ 11 = .int .i64 x11 := (hp 1 rfl).1
      refine WL.bin (v := .int .i64 x18) e25 rfl (ib_as ex18 (ib_sub _ _ _)) ?_
      exact WL.nil ⟨rfl, _, rfl, rfl, hs.cutG 0 0⟩
    · intro ρ w Γx Λx hs hu hp
      have e26 : ρ 10 = .slice a2 x1.length c3 := (hp 0 rfl).1
      have e27 : ρ 12 = .int .i64 x18 := (hp 2 rfl).1
      refine WL.indexAddr hs (Γx.length + 0) (getApp rfl) UN33 TI3 e26 e27 hxx19 (fun ad20 hs => ?_)
      have hs := hs.add (it := pl (tInt .i64) x19 ad20) fun ok hA => hA.get 0 rfl
      exact WL.nil ⟨rfl, _, rfl, ⟨ad20, rfl⟩, hs.cutG 1 1⟩
    · intro ρ w Γx Λx hs hu hp
      obtain ⟨⟨ad28, e29r⟩, hm30⟩ := hp 3 rfl
      have e29 : ρ 13 = .pointer (some ad28) := e29r
      rw [e29r] at hm30
      have hs := hs.memo1 (it := pl (tInt .i64) x19 ad28) (List.mem_append.2 (.inl (hm30 _ (List.mem_of_getElem? (i := 0) rfl))))
      refine WL.loadP hs 0 rfl TI3 (.inr rfl) e29 (fun v21 hs => ?_)
      obtain rfl := hs.int 0 rfl
      exact WL.nil ⟨rfl, _, rfl, rfl, hs.cutG 0 2⟩
    · intro ρ w Γx Λx hs hu hp
      refine WL.move (v := .slice a2 x1.length c3) ((hu 0 rfl).trans h10_0) ?_
      exact WL.nil ⟨rfl, _, rfl, rfl, hs.cutG 0 0⟩
    · intro ρ w Γx Λx hs hu hp
      refine WL.move (v := .int .i64 x11) ((hu 3 rfl).trans h10_3) ?_
      exact WL.nil ⟨rfl, _, rfl, rfl, hs.cutG 0 0⟩
    · intro ρ w Γx Λx hs hu hp
      have e31 : ρ 15 = .slice a2 x1.length c3 := (hp 5 rfl).1
      have e32 : ρ 16 = .int .i64 x11 := (hp 6 rfl).1
      refine WL.indexAddr hs (Γx.length + 0) (getApp rfl) UN33 TI3 e31 e32 hxx22 (fun ad23 hs => ?_)
      have hs := hs.add (it := pl (tInt .i64) x22 ad23) fun ok hA => hA.get 0 rfl
      exact WL.nil ⟨rfl, _, rfl, ⟨ad23, rfl⟩, hs.cutG 1 1⟩
    · intro ρ w Γx Λx hs hu hp
      obtain ⟨⟨ad33, e34r⟩, hm35⟩ := hp 7 rfl
      have e34 : ρ 17 = .pointer (some ad33) := e34r
      rw [e34r] at hm35
      have hs := hs.memo1 (it := pl (tInt .i64) x22 ad33) (List.mem_append.2 (.inl (hm35 _ (List.mem_of_getElem? (i := 0) rfl))))
      refine WL.loadP hs 0 rfl TI3 (.inr rfl) e34 (fun v24 hs => ?_)
      obtain rfl := hs.int 0 rfl
      exact WL.nil ⟨rfl, _, rfl, rfl, hs.cutG 0 2⟩
    · intro ρ w Γx Λx hs hu hp
      have e36 : ρ 14 = .int .i64 x19 := (hp 4 rfl).1
      have e37 : ρ 18 = .int .i64 x22 := (hp 8 rfl).1
      refine WL.bin (v := .bool (decide (x22 ≤ x19))) e36 e37 (ib_geq _ _ _) ?_
      exact WL.nil ⟨rfl, _, rfl, rfl, hs.cutG 0 0⟩
    · intro ρ w hs hu38 hp
      obtain ⟨⟨⟨⟨⟨⟨⟨⟨⟨⟨_, hp0_⟩, hp1_⟩, hp2_⟩, hp3_⟩, hp4_⟩, hp5_⟩, hp6_⟩, hp7_⟩, hp8_⟩, hp9_⟩ := hp
      have hs : St ok (bz w0) w [pl (tInt .i64) x22 (adOf (ρ 17)), pl (tInt .i64) x19 (adOf (ρ 13)), vl (tSlice (tInt .i64)) x1 (.slice a2 x1.length c3)] [] := hs
      have e39 : ρ 19 = .bool (decide (x22 ≤ x19)) := hp9_
      have e40 : ρ 18 = .int .i64 x22 := hp8_
      obtain ⟨ad41, e42⟩ := hp7_
      have e42 : ρ 17 = .pointer (some ad41) := e42
      try rw [e42] at hs
      have e43 : ρ 16 = .int .i64 x11 := hp6_
      have e44 : ρ 15 = .slice a2 x1.length c3 := hp5_
      have e45 : ρ 14 = .int .i64 x19 := hp4_
      obtain ⟨ad46, e47⟩ := hp3_
      have e47 : ρ 13 = .pointer (some ad46) := e47
      try rw [e47] at hs
      have e48 : ρ 12 = .int .i64 x18 := hp2_
      have e49 : ρ 11 = .int .i64 x11 := hp1_
      have e50 : ρ 10 = .slice a2 x1.length c3 := hp0_
      refine WA.done (by kernel_rfl) ?_
      refine hK17 _ _ ?_
      rcases iteE hf with ⟨hc51, hf⟩ | ⟨hc51, hf⟩
      · refine W.cond_true (bool_tr e39 hc51) ?_
        refine W.seqK fun K52 hK52 => ?_
        refine W.region ?_
        refine WL.assign (v := .bool false) rfl ?_
        refine WL.nil ?_
        refine hK52 _ _ ?_
        refine W.ret ?_
        have hr := Option.some.inj hf; subst hr
        have hr := hbbs12 _ rfl; subst hr
        have hf := hfs12
        have hr := Option.some.inj hf; subst hr
        exact ⟨_, resOk_one rfl rfl, (), rfl, (hs.mask []).pick []⟩
      · refine W.cond_false (bool_tr e39 hc51) ?_
        refine W.skip ?_
        refine hK16 _ _ ?_
        refine W.region ?_
        refine WL.move (v := .int .i64 x11) ((hu38 3 rfl).trans h10_3) ?_
        obtain ⟨x53, ex53, hf⟩ := letE hf
        refine WL.bin (v := .int .i64 x53) rfl rfl (ib_as ex53 (ib_add _ _ _)) ?_
        refine WL.assign (v := .int .i64 x53) rfl ?_
        refine WL.nil ?_
        exact ⟨_, (Option.some.inj hf).symm, ((hu38 0 rfl).trans h10_0), rfl, (hs.mask []).pick [2]⟩
  · refine W.cond_false (bool_tr rfl hc15) ?_
    refine W.exit ?_
    have hr := Option.some.inj hf; subst hr
    have hr := hbbs12 _ rfl; subst hr
    have hf := hfs12
    exact Jk7  _ _  ((hs.mask []).pick []) hf
end Go.Proofs.YthfoljpjhegkmaaDoor
