import Derived.Test.YtodebgfppmcjlaaFh
import Derived.Test.YtodebgfppmcjlaaFp7
set_option linter.unusedVariables false
set_option linter.unusedSimpArgs false
namespace Go.Proofs.Ytodebgfppmcjlaa
open Go Go.RowKit Go.Proofs.YtodebgfppmcjlaaL
set_option maxRecDepth 100000
set_option maxHeartbeats 4000000
/-! elasticstore/elasticstoreref06.without: function 39 -/
theorem esref06_without.calls {ok : Nat → Prop} {w0 : World} {x1 : List Int} {x4 : Int} {a2 : Option Addr} {c3 : Nat} {r : List Int} (hf : esref06_without x1 x4 = some r) (i0 : (vl (tSlice (tInt .i64)) x1 (.slice a2 x1.length c3)).holds ok w0) :
    Calls Try.prog 39 #[.slice a2 x1.length c3, .int .i64 x4] w0 fun e w' => ∃ v, e = .returned v ∧ ∃ y : (Option Addr × Nat × Nat), v = .slice y.1 y.2.1 y.2.2 ∧ St ok (bz w0) w' [] [own (tInt .i64) 3 (.slice y.1 y.2.1 y.2.2) r] := by
  unfold esref06_without at hf
  refine calls_of_W (fn := Try.f39) (N := 15) Try.func39 rfl Try.ntmps39 rfl ?_
  have hs : St ok (bz w0) w0 [vl (tSlice (tInt .i64)) x1 (.slice a2 x1.length c3)] [] := St.init (All.cons i0 All.nil)
  clear i0
  refine W.seqK fun K5 hK5 => ?_
  refine W.region ?_
  refine WL.assign (v := .slice none 0 0) rfl ?_
  refine WL.nil ?_
  refine hK5 _ _ ?_
  refine W.seqK fun K6 hK6 => ?_
  obtain ⟨x8, hxx8, hf⟩ := bindE hf
  obtain ⟨x11, hxx11, hf⟩ := bindE hf
  obtain ⟨hbx11, hex11⟩ := appE hxx11
  obtain ⟨x16, ex16, hf⟩ := letE hf
  obtain ⟨x17, hxx17, hf⟩ := bindE hf
  refine W.any (by kernel_rfl) 9 2 [true, true, true, true, true, true, true, true, true, false, false] rfl rfl (poAt [pq (fun y : Option Addr => .slice y 0 0) (fun v => []) (fun v => []), pv (.slice a2 x1.length c3), pv (.int .i64 x4), pq (fun y : (Option Addr × Nat) => .slice y.1 x8.length y.2) (fun v => [vl (tSlice (tInt .i64)) x8 v]) (fun v => []), pq (fun y : (Option Addr × Nat × Nat) => .slice y.1 y.2.1 y.2.2) (fun v => []) (fun v => [own (tInt .i64) 3 v x11]), pv (.slice a2 x1.length c3), pv (.int .i64 x4), pv (.int .i64 x16), pq (fun y : (Option Addr × Nat) => .slice y.1 x17.length y.2) (fun v => [vl (tSlice (tInt .i64)) x17 v]) (fun v => [])]) (Λ := []) hs (by kernel_rfl) (by kernel_rfl) (by kernel_rfl) ⟨⟨⟨⟨⟨⟨⟨⟨⟨trivial, ?_⟩, ?_⟩, ?_⟩, ?_⟩, ?_⟩, ?_⟩, ?_⟩, ?_⟩, ?_⟩ ?_
  · intro ρ w Γx Λx hs hu hp
    refine WL.buildSlice0 hs UN33 TI3 (fun a7 w hs => ?_)
    exact WL.nil ⟨rfl, _, rfl, ⟨a7, rfl⟩, hs.cutG 0 0⟩
  · intro ρ w Γx Λx hs hu hp
    refine WL.move (v := .slice a2 x1.length c3) (hu 0 rfl) ?_
    exact WL.nil ⟨rfl, _, rfl, rfl, hs.cutG 0 0⟩
  · intro ρ w Γx Λx hs hu hp
    refine WL.move (v := .int .i64 x4) (hu 1 rfl) ?_
    exact WL.nil ⟨rfl, _, rfl, rfl, hs.cutG 0 0⟩
  · intro ρ w Γx Λx hs hu hp
    have e20 : ρ 6 = .slice a2 x1.length c3 := (hp 1 rfl).1
    have e21 : ρ 7 = .int .i64 x4 := (hp 2 rfl).1
    refine WL.slice_h hs (Γx.length + 0) (getApp rfl) UN33 TI3 e20 e21 hxx8 (fun a9 c10 hs => ?_)
    have hs := hs.add (it := vl (tSlice (tInt .i64)) x8 (.slice a9 x8.length c10)) fun ok hA => hA.get 0 rfl
    exact WL.nil ⟨rfl, _, rfl, ⟨(a9, c10), rfl⟩, hs.cutG 1 1⟩
  · intro ρ w Γx Λx hs hu hp
    obtain ⟨⟨a22, e23r⟩, hm24⟩ := hp 0 rfl
    have e23 : ρ 5 = .slice a22 0 0 := e23r
    obtain ⟨⟨⟨a25, c26⟩, e27r⟩, hm28⟩ := hp 3 rfl
    have e27 : ρ 8 = .slice a25 x8.length c26 := e27r
    rw [e27r] at hm28
    have hs := hs.memo1 (it := vl (tSlice (tInt .i64)) x8 (.slice a25 x8.length c26)) (List.mem_append.2 (.inl (hm28 _ (List.mem_of_getElem? (i := 0) rfl))))
    have hs := hs.ownEmpty (tInt .i64) 3 a22
    refine WL.appendS (zs := x11) hs 0 rfl 0 rfl UN33 UN33 EI3 e23 e27 hbx11 (by omega) hex11 (fun v12 w hs => ?_)
    obtain ⟨a13, n15, c14, rfl⟩ := hs.ownv3 0 rfl
    exact WL.nil ⟨rfl, _, rfl, ⟨(a13, n15, c14), rfl⟩, hs.cutG 0 1⟩
  · intro ρ w Γx Λx hs hu hp
    refine WL.move (v := .slice a2 x1.length c3) (hu 0 rfl) ?_
    exact WL.nil ⟨rfl, _, rfl, rfl, hs.cutG 0 0⟩
  · intro ρ w Γx Λx hs hu hp
    refine WL.move (v := .int .i64 x4) (hu 1 rfl) ?_
    exact WL.nil ⟨rfl, _, rfl, rfl, hs.cutG 0 0⟩
  · intro ρ w Γx Λx hs hu hp
    have e29 : ρ 11 = .int .i64 x4 := (hp 6 rfl).1
    refine WL.bin (v := .int .i64 x16) e29 rfl (ib_as ex16 (ib_add _ _ _)) ?_
    exact WL.nil ⟨rfl, _, rfl, rfl, hs.cutG 0 0⟩
  · intro ρ w Γx Λx hs hu hp
    have e30 : ρ 10 = .slice a2 x1.length c3 := (hp 5 rfl).1
    have e31 : ρ 12 = .int .i64 x16 := (hp 7 rfl).1
    refine WL.slice_l hs (Γx.length + 0) (getApp rfl) UN33 TI3 e30 e31 hxx17 (fun a18 c19 hs => ?_)
    have hs := hs.add (it := vl (tSlice (tInt .i64)) x17 (.slice a18 x17.length c19)) fun ok hA => hA.get 0 rfl
    exact WL.nil ⟨rfl, _, rfl, ⟨(a18, c19), rfl⟩, hs.cutG 1 1⟩
  · intro ρ w hs hu32 hp
    obtain ⟨⟨⟨⟨⟨⟨⟨⟨⟨_, hp0_⟩, hp1_⟩, hp2_⟩, hp3_⟩, hp4_⟩, hp5_⟩, hp6_⟩, hp7_⟩, hp8_⟩ := hp
    have hs : St ok (bz w0) w [vl (tSlice (tInt .i64)) x17 (ρ 13), vl (tSlice (tInt .i64)) x8 (ρ 8), vl (tSlice (tInt .i64)) x1 (.slice a2 x1.length c3)] [own (tInt .i64) 3 ((ρ 9)) x11] := hs
    obtain ⟨⟨a33, c34⟩, e35⟩ := hp8_
    have e35 : ρ 13 = .slice a33 x17.length c34 := e35
    try rw [e35] at hs
    have e36 : ρ 12 = .int .i64 x16 := hp7_
    have e37 : ρ 11 = .int .i64 x4 := hp6_
    have e38 : ρ 10 = .slice a2 x1.length c3 := hp5_
    obtain ⟨⟨a39, n41, c40⟩, e42⟩ := hp4_
    have e42 : ρ 9 = .slice a39 n41 c40 := e42
    try rw [e42] at hs
    obtain ⟨⟨a43, c44⟩, e45⟩ := hp3_
    have e45 : ρ 8 = .slice a43 x8.length c44 := e45
    try rw [e45] at hs
    have e46 : ρ 7 = .int .i64 x4 := hp2_
    have e47 : ρ 6 = .slice a2 x1.length c3 := hp1_
    obtain ⟨a48, e49⟩ := hp0_
    have e49 : ρ 5 = .slice a48 0 0 := e49
    try rw [e49] at hs
    refine WA.step [9] (by kernel_rfl) (by simp) ⟨?_, trivial⟩
    obtain ⟨x50, hxx50, hf⟩ := bindE hf
    obtain ⟨hbx50, hex50⟩ := appE hxx50
    refine WL.appendS (zs := x50) hs 0 rfl 0 rfl UN33 UN33 EI3 e42 e35 hbx50 (by omega) hex50 (fun v51 w hs => ?_)
    obtain ⟨a52, n54, c53, rfl⟩ := hs.ownv3 0 rfl
    refine WL.nil ⟨rfl, _, rfl, ?_⟩
    refine WA.step [10] (by kernel_rfl) (by simp) ⟨?_, trivial⟩
    refine WL.assign (v := .slice a52 n54 c53) rfl ?_
    refine WL.nil ⟨rfl, _, rfl, ?_⟩
    refine WA.done (by kernel_rfl) ?_
    refine hK6 _ _ ?_
    refine W.ret ?_
    have hr := Option.some.inj hf; subst hr
    exact ⟨_, resOk_one rfl rfl, (a52, n54, c53), rfl, (hs.mask [true]).pick []⟩
theorem esref06_without.callc {ok : Nat → Prop} {w0 : World} {x1 : List Int} {x4 : Int} {a2 : Option Addr} {c3 : Nat} {r : List Int} (hf : esref06_without x1 x4 = some r) (i0 : (vl (tSlice (tInt .i64)) x1 (.slice a2 x1.length c3)).holds ok w0) :
    Calls Try.prog 39 #[.slice a2 x1.length c3, .int .i64 x4] w0 fun e w' => ∃ v, e = .returned v ∧ ∃ y : (Option Addr × Nat), v = .slice y.1 r.length y.2 ∧ St ok (bz w0) w' [vl (tSlice (tInt .i64)) r (.slice y.1 r.length y.2)] [] := by
  refine (esref06_without.calls (ok := ok) (w0 := w0) (x1 := x1) (x4 := x4) hf i0).mono ?_
  rintro e w' ⟨v, rfl, ⟨a55, n56, c57⟩, rfl, hs⟩
  obtain rfl := hs.ownLen 0 rfl
  have hs := hs.freezeOwn 0 rfl
  exact ⟨_, rfl, (a55, c57), rfl, hs.pick [0]⟩
/-! elasticstore/elasticstoreref06.Less: function 40 -/
theorem esref06_Less.calls {ok : Nat → Prop} {w0 : World} {x1 : List Int} {x4 : List Int} {a2 : Option Addr} {c3 : Nat} {a5 : Option Addr} {c6 : Nat} {r : Bool} (hf : esref06_Less x1 x4 = some r) (i0 : (vl (tSlice (tInt .i64)) x1 (.slice a2 x1.length c3)).holds ok w0) (i1 : (vl (tSlice (tInt .i64)) x4 (.slice a5 x4.length c6)).holds ok w0) :
    Calls Try.prog 40 #[.slice a2 x1.length c3, .slice a5 x4.length c6] w0 fun e w' => ∃ v, e = .returned v ∧ ∃ y : Unit, v = .bool r ∧ St ok (bz w0) w' [] [] := by
  unfold esref06_Less at hf
  refine calls_of_W (fn := Try.f40) (N := 41) Try.func40 rfl Try.ntmps40 rfl ?_
  have hs : St ok (bz w0) w0 [vl (tSlice (tInt .i64)) x1 (.slice a2 x1.length c3), vl (tSlice (tInt .i64)) x4 (.slice a5 x4.length c6)] [] := St.init (All.cons i0 (All.cons i1 All.nil))
  clear i0 i1
  refine W.seqK fun K7 hK7 => ?_
  refine W.region ?_
  refine WL.assign (v := .bool false) rfl ?_
  refine WL.nil ?_
  refine hK7 _ _ ?_
  refine W.seqK fun K8 hK8 => ?_
  have Jk10 : ∀  (ρ : Env) (w : World), ρ 0 = .slice a2 x1.length c3 → ρ 1 = .slice a5 x4.length c6 → St ok (bz w0) w [vl (tSlice (tInt .i64)) x1 (.slice a2 x1.length c3), vl (tSlice (tInt .i64)) x4 (.slice a5 x4.length c6)] [] → esref06_Less.j1 x1 x4 = some r → K8 ρ w := by
    intro  ρ w h9_0 h9_1 hs hf
    refine hK8 _ _ ?_
    unfold esref06_Less.j1 at hf
    refine W.seqK fun K11 hK11 => ?_
    refine W.region ?_
    refine WL.move (v := .slice a2 x1.length c3) h9_0 ?_
    refine WL.len (v := .slice a2 x1.length c3) rfl (len_slice UN33) ?_
    refine WL.move (v := .slice a5 x4.length c6) h9_1 ?_
    refine WL.len (v := .slice a5 x4.length c6) rfl (len_slice UN33) ?_
    refine WL.bin (v := .bool (decide ((x1.length : Int) < (x4.length : Int)))) rfl rfl (ib_lss _ _ _) ?_
    refine WL.assign (v := .bool (decide ((x1.length : Int) < (x4.length : Int)))) rfl ?_
    refine WL.nil ?_
    refine hK11 _ _ ?_
    refine W.ret ?_
    have hr := Option.some.inj hf; subst hr
    exact ⟨_, resOk_one rfl rfl, (), rfl, (hs.mask []).pick []⟩
  refine W.seqK fun K12 hK12 => ?_
  refine W.region ?_
  refine WL.assign (v := .int .i64 0) rfl ?_
  refine WL.nil ?_
  refine hK12 _ _ ?_
  refine W.block ?_
  obtain ⟨bs15, hbs15, hfs15⟩ := bindE hf
  refine W.loop hbs15 (fun s ρ w => match s with | x14 => ρ 0 = .slice a2 x1.length c3 ∧ ρ 1 = .slice a5 x4.length c6 ∧ ρ 5 = .int .i64 x14 ∧ St ok (bz w0) w [vl (tSlice (tInt .i64)) x1 (.slice a2 x1.length c3), vl (tSlice (tInt .i64)) x4 (.slice a5 x4.length c6)] []) ⟨rfl, rfl, rfl, (hs.mask []).pick [0, 1]⟩ ?_
  intro x14 ρ w os15 hI hf hbbs15
  obtain ⟨h13_0, h13_1, h13_5, hs⟩ := hI
  unfold esref06_Less.l1 at hf
  refine W.seqK fun K16 hK16 => ?_
  refine W.seqK fun K17 hK17 => ?_
  have Jk20 : ∀ (x19 : Bool) (ρ : Env) (w : World), ρ 0 = .slice a2 x1.length c3 → ρ 1 = .slice a5 x4.length c6 → ρ 5 = .int .i64 x14 → ρ 15 = .bool x19 → St ok (bz w0) w [vl (tSlice (tInt .i64)) x1 (.slice a2 x1.length c3), vl (tSlice (tInt .i64)) x4 (.slice a5 x4.length c6)] [] → esref06_Less.j2 x1 x4 x14 x19 = some os15 → K17 ρ w := by
    intro x19 ρ w h18_0 h18_1 h18_5 h18_15 hs hf
    refine hK17 _ _ ?_
    unfold esref06_Less.j2 at hf
    rcases iteE hf with ⟨hc21, hf⟩ | ⟨hc21, hf⟩
    · refine W.cond_true (bool_tr h18_15 hc21) ?_
      refine W.skip ?_
      refine hK16 _ _ ?_
      refine W.seqK fun K22 hK22 => ?_
      refine W.block ?_
      refine W.seqK fun K23 hK23 => ?_
      obtain ⟨x24, hxx24, hf⟩ := bindE hf
      obtain ⟨x27, hxx27, hf⟩ := bindE hf
      refine W.any (by kernel_rfl) 9 0 [true, true, true, true, true, true, true, true, true] rfl rfl (poAt [pv (.slice a2 x1.length c3), pv (.int .i64 x14), pq (fun y : Addr => .pointer (some y)) (fun v => [pl (tInt .i64) x24 (adOf v)]) (fun v => []), pv (.int .i64 x24), pv (.slice a5 x4.length c6), pv (.int .i64 x14), pq (fun y : Addr => .pointer (some y)) (fun v => [pl (tInt .i64) x27 (adOf v)]) (fun v => []), pv (.int .i64 x27), pv (.bool (x24 != x27))]) (Λ := []) hs (by kernel_rfl) (by kernel_rfl) (by kernel_rfl) ⟨⟨⟨⟨⟨⟨⟨⟨⟨trivial, ?_⟩, ?_⟩, ?_⟩, ?_⟩, ?_⟩, ?_⟩, ?_⟩, ?_⟩, ?_⟩ ?_
      · intro ρ w Γx Λx hs hu hp
        refine WL.move (v := .slice a2 x1.length c3) ((hu 0 rfl).trans h18_0) ?_
        exact WL.nil ⟨rfl, _, rfl, rfl, hs.cutG 0 0⟩
      · intro ρ w Γx Λx hs hu hp
        refine WL.move (v := .int .i64 x14) ((hu 5 rfl).trans h18_5) ?_
        exact WL.nil ⟨rfl, _, rfl, rfl, hs.cutG 0 0⟩
      · intro ρ w Γx Λx hs hu hp
        have e30 : ρ 18 = .slice a2 x1.length c3 := (hp 0 rfl).1
        have e31 : ρ 19 = .int .i64 x14 := (hp 1 rfl).1
        refine WL.indexAddr hs (Γx.length + 0) (getApp rfl) UN33 TI3 e30 e31 hxx24 (fun ad25 hs => ?_)
        have hs := hs.add (it := pl (tInt .i64) x24 ad25) fun ok hA => hA.get 0 rfl
        exact WL.nil ⟨rfl, _, rfl, ⟨ad25, rfl⟩, hs.cutG 1 1⟩
      · intro ρ w Γx Λx hs hu hp
        obtain ⟨⟨ad32, e33r⟩, hm34⟩ := hp 2 rfl
        have e33 : ρ 20 = .pointer (some ad32) := e33r
        rw [e33r] at hm34
        have hs := hs.memo1 (it := pl (tInt .i64) x24 ad32) (List.mem_append.2 (.inl (hm34 _ (List.mem_of_getElem? (i := 0) rfl))))
        refine WL.loadP hs 0 rfl TI3 (.inr rfl) e33 (fun v26 hs => ?_)
        obtain rfl := hs.int 0 rfl
        exact WL.nil ⟨rfl, _, rfl, rfl, hs.cutG 0 2⟩
      · intro ρ w Γx Λx hs hu hp
        refine WL.move (v := .slice a5 x4.length c6) ((hu 1 rfl).trans h18_1) ?_
        exact WL.nil ⟨rfl, _, rfl, rfl, hs.cutG 0 0⟩
      · intro ρ w Γx Λx hs hu hp
        refine WL.move (v := .int .i64 x14) ((hu 5 rfl).trans h18_5) ?_
        exact WL.nil ⟨rfl, _, rfl, rfl, hs.cutG 0 0⟩
      · intro ρ w Γx Λx hs hu hp
        have e35 : ρ 22 = .slice a5 x4.length c6 := (hp 4 rfl).1
        have e36 : ρ 23 = .int .i64 x14 := (hp 5 rfl).1
        refine WL.indexAddr hs (Γx.length + 1) (getApp rfl) UN33 TI3 e35 e36 hxx27 (fun ad28 hs => ?_)
        have hs := hs.add (it := pl (tInt .i64) x27 ad28) fun ok hA => hA.get 0 rfl
        exact WL.nil ⟨rfl, _, rfl, ⟨ad28, rfl⟩, hs.cutG 1 1⟩
      · intro ρ w Γx Λx hs hu hp
        obtain ⟨⟨ad37, e38r⟩, hm39⟩ := hp 6 rfl
        have e38 : ρ 24 = .pointer (some ad37) := e38r
        rw [e38r] at hm39
        have hs := hs.memo1 (it := pl (tInt .i64) x27 ad37) (List.mem_append.2 (.inl (hm39 _ (List.mem_of_getElem? (i := 0) rfl))))
        refine WL.loadP hs 0 rfl TI3 (.inr rfl) e38 (fun v29 hs => ?_)
        obtain rfl := hs.int 0 rfl
        exact WL.nil ⟨rfl, _, rfl, rfl, hs.cutG 0 2⟩
      · intro ρ w Γx Λx hs hu hp
        have e40 : ρ 21 = .int .i64 x24 := (hp 3 rfl).1
        have e41 : ρ 25 = .int .i64 x27 := (hp 7 rfl).1
        refine WL.bin (v := .bool (x24 != x27)) e40 e41 (ib_neq _ _ _) ?_
        exact WL.nil ⟨rfl, _, rfl, rfl, hs.cutG 0 0⟩
      · intro ρ w hs hu42 hp
        obtain ⟨⟨⟨⟨⟨⟨⟨⟨⟨_, hp0_⟩, hp1_⟩, hp2_⟩, hp3_⟩, hp4_⟩, hp5_⟩, hp6_⟩, hp7_⟩, hp8_⟩ := hp
        have hs : St ok (bz w0) w [pl (tInt .i64) x27 (adOf (ρ 24)), pl (tInt .i64) x24 (adOf (ρ 20)), vl (tSlice (tInt .i64)) x1 (.slice a2 x1.length c3), vl (tSlice (tInt .i64)) x4 (.slice a5 x4.length c6)] [] := hs
        have e43 : ρ 26 = .bool (x24 != x27) := hp8_
        have e44 : ρ 25 = .int .i64 x27 := hp7_
        obtain ⟨ad45, e46⟩ := hp6_
        have e46 : ρ 24 = .pointer (some ad45) := e46
        try rw [e46] at hs
        have e47 : ρ 23 = .int .i64 x14 := hp5_
        have e48 : ρ 22 = .slice a5 x4.length c6 := hp4_
        have e49 : ρ 21 = .int .i64 x24 := hp3_
        obtain ⟨ad50, e51⟩ := hp2_
        have e51 : ρ 20 = .pointer (some ad50) := e51
        try rw [e51] at hs
        have e52 : ρ 19 = .int .i64 x14 := hp1_
        have e53 : ρ 18 = .slice a2 x1.length c3 := hp0_
        refine WA.done (by kernel_rfl) ?_
        refine hK23 _ _ ?_
        rcases iteE hf with ⟨hc54, hf⟩ | ⟨hc54, hf⟩
        · refine W.cond_true (bool_tr e43 hc54) ?_
          refine W.seqK fun K55 hK55 => ?_
          obtain ⟨x56, hxx56, hf⟩ := bindE hf
          obtain ⟨x59, hxx59, hf⟩ := bindE hf
          refine W.any (by kernel_rfl) 9 1 [true, true, true, true, true, true, true, true, true, false] rfl rfl (poAt [pv (.slice a2 x1.length c3), pv (.int .i64 x14), pq (fun y : Addr => .pointer (some y)) (fun v => [pl (tInt .i64) x56 (adOf v)]) (fun v => []), pv (.int .i64 x56), pv (.slice a5 x4.length c6), pv (.int .i64 x14), pq (fun y : Addr => .pointer (some y)) (fun v => [pl (tInt .i64) x59 (adOf v)]) (fun v => []), pv (.int .i64 x59), pv (.bool (decide (x56 < x59)))]) (Λ := []) hs (by kernel_rfl) (by kernel_rfl) (by kernel_rfl) ⟨⟨⟨⟨⟨⟨⟨⟨⟨trivial, ?_⟩, ?_⟩, ?_⟩, ?_⟩, ?_⟩, ?_⟩, ?_⟩, ?_⟩, ?_⟩ ?_
          · intro ρ w Γx Λx hs hu hp
            refine WL.move (v := .slice a2 x1.length c3) ((hu 0 rfl).trans ((hu42 0 rfl).trans h18_0)) ?_
            exact WL.nil ⟨rfl, _, rfl, rfl, hs.cutG 0 0⟩
          · intro ρ w Γx Λx hs hu hp
            refine WL.move (v := .int .i64 x14) ((hu 5 rfl).trans ((hu42 5 rfl).trans h18_5)) ?_
            exact WL.nil ⟨rfl, _, rfl, rfl, hs.cutG 0 0⟩
          · intro ρ w Γx Λx hs hu hp
            have e62 : ρ 27 = .slice a2 x1.length c3 := (hp 0 rfl).1
            have e63 : ρ 28 = .int .i64 x14 := (hp 1 rfl).1
            refine WL.indexAddr hs (Γx.length + 2) (getApp rfl) UN33 TI3 e62 e63 hxx56 (fun ad57 hs => ?_)
            have hs := hs.add (it := pl (tInt .i64) x56 ad57) fun ok hA => hA.get 0 rfl
            exact WL.nil ⟨rfl, _, rfl, ⟨ad57, rfl⟩, hs.cutG 1 1⟩
          · intro ρ w Γx Λx hs hu hp
            obtain ⟨⟨ad64, e65r⟩, hm66⟩ := hp 2 rfl
            have e65 : ρ 29 = .pointer (some ad64) := e65r
            rw [e65r] at hm66
            have hs := hs.memo1 (it := pl (tInt .i64) x56 ad64) (List.mem_append.2 (.inl (hm66 _ (List.mem_of_getElem? (i := 0) rfl))))
            refine WL.loadP hs 0 rfl TI3 (.inr rfl) e65 (fun v58 hs => ?_)
            obtain rfl := hs.int 0 rfl
            exact WL.nil ⟨rfl, _, rfl, rfl, hs.cutG 0 2⟩
          · intro ρ w Γx Λx hs hu hp
            refine WL.move (v := .slice a5 x4.length c6) ((hu 1 rfl).trans ((hu42 1 rfl).trans h18_1)) ?_
            exact WL.nil ⟨rfl, _, rfl, rfl, hs.cutG 0 0⟩
          · intro ρ w Γx Λx hs hu hp
            refine WL.move (v := .int .i64 x14) ((hu 5 rfl).trans ((hu42 5 rfl).trans h18_5)) ?_
            exact WL.nil ⟨rfl, _, rfl, rfl, hs.cutG 0 0⟩
          · intro ρ w Γx Λx hs hu hp
            have e67 : ρ 31 = .slice a5 x4.length c6 := (hp 4 rfl).1
            have e68 : ρ 32 = .int .i64 x14 := (hp 5 rfl).1
            refine WL.indexAddr hs (Γx.length + 3) (getApp rfl) UN33 TI3 e67 e68 hxx59 (fun ad60 hs => ?_)
            have hs := hs.add (it := pl (tInt .i64) x59 ad60) fun ok hA => hA.get 0 rfl
            exact WL.nil ⟨rfl, _, rfl, ⟨ad60, rfl⟩, hs.cutG 1 1⟩
          · intro ρ w Γx Λx hs hu hp
            obtain ⟨⟨ad69, e70r⟩, hm71⟩ := hp 6 rfl
            have e70 : ρ 33 = .pointer (some ad69) := e70r
            rw [e70r] at hm71
            have hs := hs.memo1 (it := pl (tInt .i64) x59 ad69) (List.mem_append.2 (.inl (hm71 _ (List.mem_of_getElem? (i := 0) rfl))))
            refine WL.loadP hs 0 rfl TI3 (.inr rfl) e70 (fun v61 hs => ?_)
            obtain rfl := hs.int 0 rfl
            exact WL.nil ⟨rfl, _, rfl, rfl, hs.cutG 0 2⟩
          · intro ρ w Γx Λx hs hu hp
            have e72 : ρ 30 = .int .i64 x56 := (hp 3 rfl).1
            have e73 : ρ 34 = .int .i64 x59 := (hp 7 rfl).1
            refine WL.bin (v := .bool (decide (x56 < x59))) e72 e73 (ib_lss _ _ _) ?_
            exact WL.nil ⟨rfl, _, rfl, rfl, hs.cutG 0 0⟩
          · intro ρ w hs hu74 hp
            obtain ⟨⟨⟨⟨⟨⟨⟨⟨⟨_, hp0_⟩, hp1_⟩, hp2_⟩, hp3_⟩, hp4_⟩, hp5_⟩, hp6_⟩, hp7_⟩, hp8_⟩ := hp
            have hs : St ok (bz w0) w [pl (tInt .i64) x59 (adOf (ρ 33)), pl (tInt .i64) x56 (adOf (ρ 29)), pl (tInt .i64) x27 ad45, pl (tInt .i64) x24 ad50, vl (tSlice (tInt .i64)) x1 (.slice a2 x1.length c3), vl (tSlice (tInt .i64)) x4 (.slice a5 x4.length c6)] [] := hs
            have e75 : ρ 35 = .bool (decide (x56 < x59)) := hp8_
            have e76 : ρ 34 = .int .i64 x59 := hp7_
            obtain ⟨ad77, e78⟩ := hp6_
            have e78 : ρ 33 = .pointer (some ad77) := e78
            try rw [e78] at hs
            have e79 : ρ 32 = .int .i64 x14 := hp5_
            have e80 : ρ 31 = .slice a5 x4.length c6 := hp4_
            have e81 : ρ 30 = .int .i64 x56 := hp3_
            obtain ⟨ad82, e83⟩ := hp2_
            have e83 : ρ 29 = .pointer (some ad82) := e83
            try rw [e83] at hs
            have e84 : ρ 28 = .int .i64 x14 := hp1_
            have e85 : ρ 27 = .slice a2 x1.length c3 := hp0_
            refine WA.step [9] (by kernel_rfl) (by simp) ⟨?_, trivial⟩
            refine WL.assign (v := .bool (decide (x56 < x59))) e75 ?_
            refine WL.nil ⟨rfl, _, rfl, ?_⟩
            refine WA.done (by kernel_rfl) ?_
            refine hK55 _ _ ?_
            refine W.ret ?_
            have hr := Option.some.inj hf; subst hr
            have hr := hbbs15 _ rfl; subst hr
            have hf := hfs15
            have hr := Option.some.inj hf; subst hr
            exact ⟨_, resOk_one rfl rfl, (), rfl, (hs.mask []).pick []⟩
        · refine W.cond_false (bool_tr e43 hc54) ?_
          refine W.skip ?_
          refine hK22 _ _ ?_
          refine W.region ?_
          refine WL.move (v := .int .i64 x14) ((hu42 5 rfl).trans h18_5) ?_
          obtain ⟨x86, ex86, hf⟩ := letE hf
          refine WL.bin (v := .int .i64 x86) rfl rfl (ib_as ex86 (ib_add _ _ _)) ?_
          refine WL.assign (v := .int .i64 x86) rfl ?_
          refine WL.nil ?_
          exact ⟨_, (Option.some.inj hf).symm, ((hu42 0 rfl).trans h18_0), ((hu42 1 rfl).trans h18_1), rfl, (hs.mask []).pick [2, 3]⟩
    · refine W.cond_false (bool_tr h18_15 hc21) ?_
      refine W.exit ?_
      have hr := Option.some.inj hf; subst hr
      have hr := hbbs15 _ rfl; subst hr
      have hf := hfs15
      exact Jk10  _ _ h18_0 h18_1 ((hs.mask []).pick [0, 1]) hf
  refine W.region ?_
  refine WL.move (v := .int .i64 x14) h13_5 ?_
  refine WL.move (v := .slice a2 x1.length c3) h13_0 ?_
  refine WL.len (v := .slice a2 x1.length c3) rfl (len_slice UN33) ?_
  refine WL.bin (v := .bool (decide (x14 < (x1.length : Int)))) rfl rfl (ib_lss _ _ _) ?_
  refine WL.move (v := .bool (decide (x14 < (x1.length : Int)))) rfl ?_
  rcases iteE hf with ⟨hc87, hf⟩ | ⟨hc87, hf⟩
  · refine WL.move (v := .int .i64 x14) h13_5 ?_ (hg := (wanted_of rfl rfl (bool_tr rfl hc87)).trans rfl)
    refine WL.move (v := .slice a5 x4.length c6) h13_1 ?_ (hg := (wanted_of rfl rfl (bool_tr rfl hc87)).trans rfl)
    refine WL.len (v := .slice a5 x4.length c6) rfl (len_slice UN33) ?_ (hg := (wanted_of rfl rfl (bool_tr rfl hc87)).trans rfl)
    refine WL.bin (v := .bool (decide (x14 < (x4.length : Int)))) rfl rfl (ib_lss _ _ _) ?_ (hg := (wanted_of rfl rfl (bool_tr rfl hc87)).trans rfl)
    refine WL.pickT (v := .bool (decide (x14 < (x4.length : Int)))) (bool_tr rfl hc87) rfl ?_
    refine WL.nil ?_
    exact Jk20 (decide (x14 < (x4.length : Int))) _ _ h13_0 h13_1 h13_5 rfl ((hs.mask []).pick [0, 1]) hf
  · refine WL.pass ((wanted_of rfl rfl (bool_tr rfl hc87)).trans rfl) rfl ?_
    refine WL.pass ((wanted_of rfl rfl (bool_tr rfl hc87)).trans rfl) rfl ?_
    refine WL.pass ((wanted_of rfl rfl (bool_tr rfl hc87)).trans rfl) rfl ?_
    refine WL.pass ((wanted_of rfl rfl (bool_tr rfl hc87)).trans rfl) rfl ?_
    refine WL.pickF (v := .bool false) (bool_tr rfl hc87) rfl ?_
    refine WL.nil ?_
    exact Jk20 false _ _ h13_0 h13_1 h13_5 rfl ((hs.mask []).pick [0, 1]) hf
/-! elasticstore/elasticstoreref06.Minimal: function 21 -/
theorem esref06_Minimal.calls {ok : Nat → Prop} {w0 : World} {x1 : api_View} {v2 : Value} {r : List (List Int)} (hf : esref06_Minimal x1 = some r) (i0 : (vl t_api_View x1 v2).holds ok w0) :
    Calls Try.prog 21 #[v2] w0 fun e w' => ∃ v, e = .returned v ∧ ∃ y : (Option Addr × Nat), v = .slice y.1 r.length y.2 ∧ St ok (bz w0) w' [vl (tSlice (tSlice (tInt .i64))) r (.slice y.1 r.length y.2)] [] := by
  unfold esref06_Minimal at hf
  refine calls_of_W (fn := Try.f21) (N := 73) Try.func21 rfl Try.ntmps21 rfl ?_
  have hs : St ok (bz w0) w0 [vl t_api_View x1 v2] [] := St.init (All.cons i0 All.nil)
  clear i0
  obtain ⟨cs3, hl4, rfl⟩ := hs.aggv (n := 4) 0 rfl rfl rfl
  refine W.seqK fun K5 hK5 => ?_
  refine W.region ?_
  refine WL.box (vs := cs3) hs rfl rfl (fun g6 w hs => ?_)
  refine WL.assign (v := .slice none 0 0) rfl ?_
  refine WL.nil ?_
  refine hK5 _ _ ?_
  refine W.seqK fun K7 hK7 => ?_
  refine W.region ?_
  refine WL.assign (v := .slice none 0 0) rfl ?_
  refine WL.nil ?_
  refine hK7 _ _ ?_
  refine W.seqK fun K8 hK8 => ?_
  have Jk13 : ∀ (x10 : List (List Int)) (a11 : Option Addr) (c12 : Nat) (ρ : Env) (w : World), ρ 3 = .slice a11 x10.length c12 → St ok (bz w0) w [vl (tSlice (tSlice (tInt .i64))) x10 (.slice a11 x10.length c12)] [] → esref06_Minimal.j1 x10 = some r → K8 ρ w := by
    intro x10 a11 c12 ρ w h9_3 hs hf
    refine hK8 _ _ ?_
    unfold esref06_Minimal.j1 at hf
    refine W.seqK fun K14 hK14 => ?_
    refine W.region ?_
    refine WL.move (v := .slice a11 x10.length c12) h9_3 ?_
    refine WL.assign (v := .slice a11 x10.length c12) rfl ?_
    refine WL.nil ?_
    refine hK14 _ _ ?_
    refine W.ret ?_
    have hr := Option.some.inj hf; subst hr
    exact ⟨_, resOk_one rfl rfl, (a11, c12), rfl, (hs.mask []).pick [0]⟩
  refine W.seqK fun K15 hK15 => ?_
  refine W.region ?_
  refine WL.assign (v := .int .i64 1) rfl ?_
  refine WL.nil ?_
  refine hK15 _ _ ?_
  refine W.block ?_
  obtain ⟨bs21, hbs21, hfs21⟩ := bindE hf
  have hs := hs.add (it := vl (tSlice (tSlice (tInt .i64))) [] (.slice none 0 0)) fun ok hA => V_nil
  refine W.loop hbs21 (fun s ρ w => match s with | (x17, x20) => ∃ (a18 : Option Addr), ∃ (c19 : Nat), ρ 1 = .pointer (some ⟨g6, 0, none⟩) ∧ ρ 3 = .slice a18 x17.length c19 ∧ ρ 4 = .int .i64 x20 ∧ St ok (bz w0) w [vl (tSlice (tSlice (tInt .i64))) x17 (.slice a18 x17.length c19), vl t_api_View x1 (.agg cs3.toArray)] [blk g6 26 cs3]) ⟨none, 0, rfl, rfl, rfl, (hs.mask [true]).pick [0, 1]⟩ ?_
  intro s ρ w os21 hI hf hbbs21
  obtain ⟨x17, x20⟩ := s
  obtain ⟨a18, c19, h16_1, h16_3, h16_4, hs⟩ := hI
  unfold esref06_Minimal.l3 at hf
  refine W.seqK fun K22 hK22 => ?_
  refine W.seqK fun K23 hK23 => ?_
  refine W.region ?_
  refine WL.move (v := .int .i64 x20) h16_4 ?_
  refine WL.fieldAddr (m := 0) h16_1 FA26_0 rfl ?_
  refine WL.loadF (z := x1.Members) F_api_View_Members hs 0 rfl 1 rfl rfl TI24 (.inr rfl) rfl rfl (fun v24 hs => ?_)
  obtain ⟨a25, c26, rfl⟩ := hs.slice 0 rfl
  refine WL.len (v := .slice a25 (x1.Members).length c26) rfl (len_slice UN24) ?_
  obtain ⟨x27, ex27, hf⟩ := letE hf
  refine WL.convI_ UN3 UN56 rfl ex27 ?_
  obtain ⟨hn28, hf⟩ := guardE hf
  refine WL.shl rfl rfl hn28 ?_
  refine WL.bin (v := .bool (decide (x20 < shlI .i64 1 x27))) rfl rfl (ib_lss _ _ _) ?_
  refine WL.nil ?_
  refine hK23 _ _ ?_
  rcases iteE hf with ⟨hc29, hf⟩ | ⟨hc29, hf⟩
  · refine W.cond_true (bool_tr rfl hc29) ?_
    refine W.skip ?_
    refine hK22 _ _ ?_
    refine W.seqK fun K30 hK30 => ?_
    have Jk35 : ∀ (x32 : List (List Int)) (a33 : Option Addr) (c34 : Nat) (ρ : Env) (w : World), ρ 1 = .pointer (some ⟨g6, 0, none⟩) → ρ 3 = .slice a33 x32.length c34 → ρ 4 = .int .i64 x20 → St ok (bz w0) w [vl (tSlice (tSlice (tInt .i64))) x32 (.slice a33 x32.length c34), vl t_api_View x1 (.agg cs3.toArray)] [blk g6 26 cs3] → esref06_Minimal.j2 x20 x32 = some os21 → K30 ρ w := by
      intro x32 a33 c34 ρ w h31_1 h31_3 h31_4 hs hf
      refine hK30 _ _ ?_
      unfold esref06_Minimal.j2 at hf
      refine W.region ?_
      refine WL.move (v := .int .i64 x20) h31_4 ?_
      obtain ⟨x36, ex36, hf⟩ := letE hf
      refine WL.bin (v := .int .i64 x36) rfl rfl (ib_as ex36 (ib_add _ _ _)) ?_
      refine WL.assign (v := .int .i64 x36) rfl ?_
      refine WL.nil ?_
      exact ⟨_, (Option.some.inj hf).symm, a33, c34, h31_1, h31_3, rfl, (hs.mask [true]).pick [0, 1]⟩
    refine W.block ?_
    refine W.seqK fun K37 hK37 => ?_
    refine W.region ?_
    refine WL.loadAll hs 0 rfl TI26 h16_1 hl4 ?_
    refine WL.move (v := .int .i64 x20) h16_4 ?_
    obtain ⟨x38, hxx38, hf⟩ := bindE hf
    refine WL.call (vs := [.agg cs3.toArray, .int .i64 x20]) hs FN38 ⟨rfl, ⟨rfl, trivial⟩⟩ (fun ok hA => esref06_subset.calls (x1 := x1) (x5 := x20) hxx38 (hA.get 2 rfl)) ?_
    rintro ⟨a39, n40, c41⟩ w hs
    refine WL.assign (v := .slice a39 n40 c41) rfl ?_
    refine WL.nil ?_
    refine hK37 _ _ ?_
    refine W.seqK fun K42 hK42 => ?_
    refine W.seqK fun K43 hK43 => ?_
    refine W.region ?_
    refine WL.loadAll hs 1 rfl TI26 h16_1 hl4 ?_
    refine WL.move (v := .slice a39 n40 c41) rfl ?_
    obtain ⟨x44, hxx44, hf⟩ := bindE hf
    refine WL.callL (vs := [.agg cs3.toArray, .slice a39 x38.length c41]) hs FN19 ⟨rfl, ⟨(Eq.trans rfl (sl_len (hs.ownLen 0 rfl))), trivial⟩⟩ (esref06_IsQuorum.calls (x1 := x1) (x5 := x38) hxx44 (hs.allT.get 2 rfl) (hs.ownN 0 rfl)) ?_
    rintro _ w hs
    refine WL.not rfl ?_
    refine WL.nil ?_
    refine hK43 _ _ ?_
    rcases iteE hf with ⟨hc45, hf⟩ | ⟨hc45, hf⟩
    · refine W.cond_true (bool_tr rfl hc45) ?_
      refine W.exit ?_
      exact Jk35 x17 a18 c19 _ _ h16_1 h16_3 h16_4 ((hs.mask [false, true]).pick [1, 2]) hf
    · refine W.cond_false (bool_tr rfl hc45) ?_
      refine W.skip ?_
      refine hK42 _ _ ?_
      refine W.seqK fun K46 hK46 => ?_
      refine W.region ?_
      refine WL.assign (v := .bool true) rfl ?_
      refine WL.nil ?_
      refine hK46 _ _ ?_
      obtain rfl := hs.ownLen 0 rfl
      have hs := hs.freezeOwn 0 rfl
      refine W.seqK fun K222 hK222 => ?_
      have Jk225 : ∀ (x224 : Bool) (ρ : Env) (w : World), ρ 1 = .pointer (some ⟨g6, 0, none⟩) → ρ 3 = .slice a18 x17.length c19 → ρ 4 = .int .i64 x20 → ρ 5 = .slice a39 x38.length c41 → ρ 6 = .bool x224 → St ok (bz w0) w [vl (tSlice (tSlice (tInt .i64))) x17 (.slice a18 x17.length c19), vl (tSlice (tInt .i64)) x38 (.slice a39 x38.length c41), vl t_api_View x1 (.agg cs3.toArray)] [blk g6 26 cs3] → esref06_Minimal.j5 x17 x20 x38 x224 = some os21 → K222 ρ w := by
        intro x224 ρ w h223_1 h223_3 h223_4 h223_5 h223_6 hs hf
        refine hK222 _ _ ?_
        unfold esref06_Minimal.j5 at hf
        refine W.seqK fun K226 hK226 => ?_
        refine W.seqK fun K227 hK227 => ?_
        refine W.region ?_
        refine WL.move (v := .bool x224) h223_6 ?_
        refine WL.not rfl ?_
        refine WL.nil ?_
        refine hK227 _ _ ?_
        rcases iteE hf with ⟨hc228, hf⟩ | ⟨hc228, hf⟩
        · refine W.cond_true (bool_tr rfl hc228) ?_
          refine W.exit ?_
          exact Jk35 x17 a18 c19 _ _ h223_1 h223_3 h223_4 ((hs.mask [true]).pick [0, 2]) hf
        · refine W.cond_false (bool_tr rfl hc228) ?_
          refine W.skip ?_
          refine hK226 _ _ ?_
          refine W.seqK fun K229 hK229 => ?_
          refine W.region ?_
          refine WL.move (v := .slice a18 x17.length c19) h223_3 ?_
          refine WL.len (v := .slice a18 x17.length c19) rfl (len_slice UN36) ?_
          refine WL.assign (v := .int .i64 (x17.length : Int)) rfl ?_
          refine WL.nil ?_
          refine hK229 _ _ ?_
          refine W.seqK fun K230 hK230 => ?_
          have Jk233 : ∀ (x232 : Int) (ρ : Env) (w : World), ρ 1 = .pointer (some ⟨g6, 0, none⟩) → ρ 3 = .slice a18 x17.length c19 → ρ 4 = .int .i64 x20 → ρ 5 = .slice a39 x38.length c41 → ρ 8 = .int .i64 x232 → St ok (bz w0) w [vl (tSlice (tSlice (tInt .i64))) x17 (.slice a18 x17.length c19), vl (tSlice (tInt .i64)) x38 (.slice a39 x38.length c41), vl t_api_View x1 (.agg cs3.toArray)] [blk g6 26 cs3] → esref06_Minimal.j3 x17 x20 x38 x232 = some os21 → K230 ρ w := by
            intro x232 ρ w h231_1 h231_3 h231_4 h231_5 h231_8 hs hf
            refine hK230 _ _ ?_
            unfold esref06_Minimal.j3 at hf
            refine W.seqK fun K234 hK234 => ?_
            refine W.region ?_
            refine WL.buildSlice0 hs UN36 TI33 (fun a235 w hs => ?_)
            refine WL.move (v := .slice a18 x17.length c19) h231_3 ?_
            refine WL.move (v := .int .i64 x232) h231_8 ?_
            obtain ⟨x236, hxx236, hf⟩ := bindE hf
            refine WL.slice_l hs 0 rfl UN36 TI33 rfl rfl hxx236 (fun a237 c238 hs => ?_)
            have hs := hs.ownEmpty (tSlice (tInt .i64)) 33 a235
            obtain ⟨x239, hxx239, hf⟩ := bindE hf
            obtain ⟨hbx239, hex239⟩ := appE hxx239
            refine WL.appendS (zs := x239) hs 0 rfl 0 rfl UN36 UN36 EI33 rfl rfl hbx239 (by omega) hex239 (fun v240 w hs => ?_)
            obtain ⟨a241, n243, c242, rfl⟩ := hs.ownv3 0 rfl
            refine WL.assign (v := .slice a241 n243 c242) rfl ?_
            refine WL.nil ?_
            refine hK234 _ _ ?_
            refine W.region ?_
            refine WL.move (v := .slice a18 x17.length c19) h231_3 ?_
            refine WL.move (v := .int .i64 x232) h231_8 ?_
            refine WL.move (v := .int .i64 x232) h231_8 ?_
            obtain ⟨x244, hxx244, hf⟩ := bindE hf
            refine WL.slice_hm hs 1 rfl UN36 TI33 rfl rfl rfl rfl hxx244 (fun a245 hs => ?_)
            refine WL.move (v := .slice a39 x38.length c41) h231_5 ?_
            refine WL.buildSlice (n := 1) (vs := [(0, .slice a39 x38.length c41)]) (cs := [.slice a39 x38.length c41]) hs ⟨⟨rfl, rfl⟩, trivial⟩ (bls PS36 (by decide) rfl) (fun g246 w hs => ?_)
            obtain ⟨x247, hxx247, hf⟩ := bindE hf
            obtain ⟨hbx247, hex247⟩ := appE hxx247
            refine WL.appendFO (ys := [x38]) (zs := x247) hs 0 rfl 0 rfl UN36 EI33 rfl rfl (fun ok hA => (Cells.one (T := tSlice (tInt .i64)) (R_one (hA.get 3 rfl)))) hbx247 (by omega) hex247 (Nat.zero_lt_succ _) (fun a248 c249 w hs => ?_)
            refine WL.move (v := .slice a241 n243 c242) rfl ?_
            obtain rfl := hs.ownLen 2 rfl
            have hs := hs.freezeOwn 2 rfl
            obtain ⟨x250, hxx250, hf⟩ := bindE hf
            obtain ⟨hbx250, hex250⟩ := appE hxx250
            refine WL.appendS (zs := x250) hs 0 rfl 0 rfl UN36 UN36 EI33 rfl rfl hbx250 (by omega) hex250 (fun v251 w hs => ?_)
            obtain ⟨a252, n254, c253, rfl⟩ := hs.ownv3 0 rfl
            refine WL.assign (v := .slice a252 n254 c253) rfl ?_
            refine WL.nil ?_
            obtain rfl := hs.ownLen 0 rfl
            have hs := hs.freezeOwn 0 rfl
            exact Jk35 x250 a252 c253 _ _ h231_1 rfl h231_4 ((hs.mask [false, true]).pick [0, 6]) hf
          refine W.block ?_
          obtain ⟨bs257, hbs257, hfs257⟩ := bindE hf
          refine W.loop hbs257 (fun s ρ w => match s with | x256 => ρ 1 = .pointer (some ⟨g6, 0, none⟩) ∧ ρ 3 = .slice a18 x17.length c19 ∧ ρ 4 = .int .i64 x20 ∧ ρ 5 = .slice a39 x38.length c41 ∧ ρ 8 = .int .i64 x256 ∧ St ok (bz w0) w [vl (tSlice (tSlice (tInt .i64))) x17 (.slice a18 x17.length c19), vl (tSlice (tInt .i64)) x38 (.slice a39 x38.length c41), vl t_api_View x1 (.agg cs3.toArray)] [blk g6 26 cs3]) ⟨h223_1, h223_3, h223_4, h223_5, rfl, (hs.mask [true]).pick [0, 1, 2]⟩ ?_
          intro x256 ρ w os257 hI hf hbbs257
          obtain ⟨h255_1, h255_3, h255_4, h255_5, h255_8, hs⟩ := hI
          unfold esref06_Minimal.l1 at hf
          refine W.seqK fun K258 hK258 => ?_
          refine W.seqK fun K259 hK259 => ?_
          have Jk262 : ∀ (x261 : Bool) (ρ : Env) (w : World), ρ 1 = .pointer (some ⟨g6, 0, none⟩) → ρ 3 = .slice a18 x17.length c19 → ρ 4 = .int .i64 x20 → ρ 5 = .slice a39 x38.length c41 → ρ 8 = .int .i64 x256 → ρ 55 = .bool x261 → St ok (bz w0) w [vl (tSlice (tSlice (tInt .i64))) x17 (.slice a18 x17.length c19), vl (tSlice (tInt .i64)) x38 (.slice a39 x38.length c41), vl t_api_View x1 (.agg cs3.toArray)] [blk g6 26 cs3] → esref06_Minimal.j4 x256 x261 = some os257 → K259 ρ w := by
            intro x261 ρ w h260_1 h260_3 h260_4 h260_5 h260_8 h260_55 hs hf
            refine hK259 _ _ ?_
            unfold esref06_Minimal.j4 at hf
            rcases iteE hf with ⟨hc263, hf⟩ | ⟨hc263, hf⟩
            · refine W.cond_true (bool_tr h260_55 hc263) ?_
              refine W.skip ?_
              refine hK258 _ _ ?_
              refine W.block ?_
              refine W.region ?_
              refine WL.move (v := .int .i64 x256) h260_8 ?_
              obtain ⟨x264, ex264, hf⟩ := letE hf
              refine WL.bin (v := .int .i64 x264) rfl rfl (ib_as ex264 (ib_sub _ _ _)) ?_
              refine WL.assign (v := .int .i64 x264) rfl ?_
              refine WL.nil ?_
              exact ⟨_, (Option.some.inj hf).symm, h260_1, h260_3, h260_4, h260_5, rfl, (hs.mask [true]).pick [0, 1, 2]⟩
            · refine W.cond_false (bool_tr h260_55 hc263) ?_
              refine W.exit ?_
              have hr := Option.some.inj hf; subst hr
              have hr := hbbs257 _ rfl; subst hr
              have hf := hfs257
              exact Jk233 x256 _ _ h260_1 h260_3 h260_4 h260_5 h260_8 ((hs.mask [true]).pick [0, 1, 2]) hf
          refine W.region ?_
          refine WL.move (v := .int .i64 x256) h255_8 ?_
          refine WL.bin (v := .bool (decide (0 < x256))) rfl rfl (ib_gtr _ _ _) ?_
          refine WL.move (v := .bool (decide (0 < x256))) rfl ?_
          rcases iteE hf with ⟨hc265, hf⟩ | ⟨hc265, hf⟩
          · refine WL.move (v := .slice a39 x38.length c41) h255_5 ?_ (hg := (wanted_of rfl rfl (bool_tr rfl hc265)).trans rfl)
            refine WL.move (v := .slice a18 x17.length c19) h255_3 ?_ (hg := (wanted_of rfl rfl (bool_tr rfl hc265)).trans rfl)
            refine WL.move (v := .int .i64 x256) h255_8 ?_ (hg := (wanted_of rfl rfl (bool_tr rfl hc265)).trans rfl)
            obtain ⟨x266, ex266, hf⟩ := letE hf
            refine WL.bin (v := .int .i64 x266) rfl rfl (ib_as ex266 (ib_sub _ _ _)) ?_ (hg := (wanted_of rfl rfl (bool_tr rfl hc265)).trans rfl)
            obtain ⟨x267, hxx267, hf⟩ := bindE hf
            refine WL.indexAddr hs 0 rfl UN36 TI33 rfl rfl hxx267 (fun ad268 hs => ?_) (hg := (wanted_of rfl rfl (bool_tr rfl hc265)).trans rfl)
            refine WL.loadP hs 0 rfl TI33 (.inr rfl) rfl (fun v269 hs => ?_) (hg := (wanted_of rfl rfl (bool_tr rfl hc265)).trans rfl)
            obtain ⟨a270, c271, rfl⟩ := hs.slice 0 rfl
            obtain ⟨x272, hxx272, hf⟩ := bindE hf
            refine WL.call (vs := [.slice a39 x38.length c41, .slice a270 x267.length c271]) hs FN40 ⟨rfl, ⟨rfl, trivial⟩⟩ (fun ok hA => esref06_Less.calls (x1 := x38) (x4 := x267) hxx272 (hA.get 3 rfl) (hA.get 0 rfl)) ?_ (hg := (wanted_of rfl rfl (bool_tr rfl hc265)).trans rfl)
            rintro _ w hs
            refine WL.pickT (v := .bool x272) (bool_tr rfl hc265) rfl ?_
            refine WL.nil ?_
            exact Jk262 x272 _ _ h255_1 h255_3 h255_4 h255_5 h255_8 rfl ((hs.mask [true]).pick [2, 3, 4]) hf
          · refine WL.pass ((wanted_of rfl rfl (bool_tr rfl hc265)).trans rfl) rfl ?_
            refine WL.pass ((wanted_of rfl rfl (bool_tr rfl hc265)).trans rfl) rfl ?_
            refine WL.pass ((wanted_of rfl rfl (bool_tr rfl hc265)).trans rfl) rfl ?_
            refine WL.pass ((wanted_of rfl rfl (bool_tr rfl hc265)).trans rfl) rfl ?_
            refine WL.pass ((wanted_of rfl rfl (bool_tr rfl hc265)).trans rfl) rfl ?_
            refine WL.pass ((wanted_of rfl rfl (bool_tr rfl hc265)).trans rfl) rfl ?_
            refine WL.pass ((wanted_of rfl rfl (bool_tr rfl hc265)).trans rfl) rfl ?_
            refine WL.pickF (v := .bool false) (bool_tr rfl hc265) rfl ?_
            refine WL.nil ?_
            exact Jk262 false _ _ h255_1 h255_3 h255_4 h255_5 h255_8 rfl ((hs.mask [true]).pick [0, 1, 2]) hf
      refine W.seqK fun K274 hK274 => ?_
      refine W.region ?_
      refine WL.assign (v := .int .i64 0) rfl ?_
      refine WL.nil ?_
      refine hK274 _ _ ?_
      refine W.block ?_
      obtain ⟨bs278, hbs278, hfs278⟩ := bindE hf
      refine W.loop hbs278 (fun s ρ w => match s with | (x276, x277) => ρ 1 = .pointer (some ⟨g6, 0, none⟩) ∧ ρ 3 = .slice a18 x17.length c19 ∧ ρ 4 = .int .i64 x20 ∧ ρ 5 = .slice a39 x38.length c41 ∧ ρ 6 = .bool x276 ∧ ρ 7 = .int .i64 x277 ∧ St ok (bz w0) w [vl (tSlice (tSlice (tInt .i64))) x17 (.slice a18 x17.length c19), vl (tSlice (tInt .i64)) x38 (.slice a39 x38.length c41), vl t_api_View x1 (.agg cs3.toArray)] [blk g6 26 cs3]) ⟨h16_1, h16_3, h16_4, rfl, rfl, rfl, (hs.mask [true]).pick [2, 0, 3]⟩ ?_
      intro s ρ w os278 hI hf hbbs278
      obtain ⟨x276, x277⟩ := s
      obtain ⟨h275_1, h275_3, h275_4, h275_5, h275_6, h275_7, hs⟩ := hI
      unfold esref06_Minimal.l2 at hf
      refine W.seqK fun K279 hK279 => ?_
      refine W.seqK fun K280 hK280 => ?_
      refine W.region ?_
      refine WL.move (v := .int .i64 x277) h275_7 ?_
      refine WL.move (v := .slice a39 x38.length c41) h275_5 ?_
      refine WL.len (v := .slice a39 x38.length c41) rfl (len_slice UN33) ?_
      refine WL.bin (v := .bool (decide (x277 < (x38.length : Int)))) rfl rfl (ib_lss _ _ _) ?_
      refine WL.nil ?_
      refine hK280 _ _ ?_
      rcases iteE hf with ⟨hc281, hf⟩ | ⟨hc281, hf⟩
      · refine W.cond_true (bool_tr rfl hc281) ?_
        refine W.skip ?_
        refine hK279 _ _ ?_
        refine W.seqK fun K282 hK282 => ?_
        have Jk285 : ∀ (x284 : Bool) (ρ : Env) (w : World), ρ 1 = .pointer (some ⟨g6, 0, none⟩) → ρ 3 = .slice a18 x17.length c19 → ρ 4 = .int .i64 x20 → ρ 5 = .slice a39 x38.length c41 → ρ 6 = .bool x284 → ρ 7 = .int .i64 x277 → St ok (bz w0) w [vl (tSlice (tSlice (tInt .i64))) x17 (.slice a18 x17.length c19), vl (tSlice (tInt .i64)) x38 (.slice a39 x38.length c41), vl t_api_View x1 (.agg cs3.toArray)] [blk g6 26 cs3] → esref06_Minimal.j6 x277 x284 = some os278 → K282 ρ w := by
          intro x284 ρ w h283_1 h283_3 h283_4 h283_5 h283_6 h283_7 hs hf
          refine hK282 _ _ ?_
          unfold esref06_Minimal.j6 at hf
          refine W.region ?_
          refine WL.move (v := .int .i64 x277) h283_7 ?_
          obtain ⟨x286, ex286, hf⟩ := letE hf
          refine WL.bin (v := .int .i64 x286) rfl rfl (ib_as ex286 (ib_add _ _ _)) ?_
          refine WL.assign (v := .int .i64 x286) rfl ?_
          refine WL.nil ?_
          exact ⟨_, (Option.some.inj hf).symm, h283_1, h283_3, h283_4, h283_5, h283_6, rfl, (hs.mask [true]).pick [0, 1, 2]⟩
        refine W.block ?_
        rcases iteE hf with ⟨hc287, hf⟩ | ⟨hc287, hf⟩
        · obtain ⟨x288, hxx288, hf⟩ := bindE hf
          obtain ⟨x291, hxx291, hf⟩ := bindE hf
          refine W.any (by kernel_rfl) 9 1 [true, true, true, true, true, true, true, true, true, false] rfl rfl (poAt [pv (.bool x276), pv (.bool x276), pv (.agg cs3.toArray), pv (.slice a39 x38.length c41), pv (.int .i64 x277), pq (fun y : (Option Addr × Nat) => .slice y.1 x288.length y.2) (fun v => [vl (tSlice (tInt .i64)) x288 v]) (fun v => []), pv (.bool x291), pv (.bool (!x291)), pv (.bool (!x291))]) (Λ := [blk g6 26 cs3]) hs (by kernel_rfl) (by kernel_rfl) (by kernel_rfl) ⟨⟨⟨⟨⟨⟨⟨⟨⟨trivial, ?_⟩, ?_⟩, ?_⟩, ?_⟩, ?_⟩, ?_⟩, ?_⟩, ?_⟩, ?_⟩ ?_
          · intro ρ w Γx Λx hs hu hp
            refine WL.move (v := .bool x276) ((hu 6 rfl).trans h275_6) ?_
            exact WL.nil ⟨rfl, _, rfl, rfl, hs.cutG 0 0⟩
          · intro ρ w Γx Λx hs hu hp
            have e292 : ρ 32 = .bool x276 := (hp 0 rfl).1
            refine WL.move (v := .bool x276) e292 ?_
            exact WL.nil ⟨rfl, _, rfl, rfl, hs.cutG 0 0⟩
          · intro ρ w Γx Λx hs hu hp
            have e293 : ρ 33 = .bool x276 := (hp 1 rfl).1
            refine WL.loadAll hs (Λx.length + 0) (getApp rfl) TI26 ((hu 1 rfl).trans h275_1) hl4 ?_ (hg := (wanted_of rfl rfl (bool_tr e293 hc287)).trans rfl)
            exact WL.nil ⟨rfl, _, rfl, rfl, hs.cutG 0 0⟩
          · intro ρ w Γx Λx hs hu hp
            have e294 : ρ 33 = .bool x276 := (hp 1 rfl).1
            refine WL.move (v := .slice a39 x38.length c41) ((hu 5 rfl).trans h275_5) ?_ (hg := (wanted_of rfl rfl (bool_tr e294 hc287)).trans rfl)
            exact WL.nil ⟨rfl, _, rfl, rfl, hs.cutG 0 0⟩
          · intro ρ w Γx Λx hs hu hp
            have e295 : ρ 33 = .bool x276 := (hp 1 rfl).1
            refine WL.move (v := .int .i64 x277) ((hu 7 rfl).trans h275_7) ?_ (hg := (wanted_of rfl rfl (bool_tr e295 hc287)).trans rfl)
            exact WL.nil ⟨rfl, _, rfl, rfl, hs.cutG 0 0⟩
          · intro ρ w Γx Λx hs hu hp
            have e296 : ρ 35 = .slice a39 x38.length c41 := (hp 3 rfl).1
            have e297 : ρ 36 = .int .i64 x277 := (hp 4 rfl).1
            have e298 : ρ 33 = .bool x276 := (hp 1 rfl).1
            refine WL.call (vs := [.slice a39 x38.length c41, .int .i64 x277]) hs FN39 ⟨e296, ⟨e297, trivial⟩⟩ (fun ok hA => esref06_without.callc (x1 := x38) (x4 := x277) hxx288 (hA.get (Γx.length + 1) (getApp rfl))) ?_ (hg := (wanted_of rfl rfl (bool_tr e298 hc287)).trans rfl)
            rintro ⟨a289, c290⟩ w hs
            have hs := hs.add (it := vl (tSlice (tInt .i64)) x288 (.slice a289 x288.length c290)) fun ok hA => hA.get 0 rfl
            exact WL.nil ⟨rfl, _, rfl, ⟨(a289, c290), rfl⟩, hs.cutG 1 1⟩
          · intro ρ w Γx Λx hs hu hp
            have e299 : ρ 34 = .agg cs3.toArray := (hp 2 rfl).1
            obtain ⟨⟨⟨a300, c301⟩, e302r⟩, hm303⟩ := hp 5 rfl
            have e302 : ρ 37 = .slice a300 x288.length c301 := e302r
            rw [e302r] at hm303
            have hs := hs.memo1 (it := vl (tSlice (tInt .i64)) x288 (.slice a300 x288.length c301)) (List.mem_append.2 (.inl (hm303 _ (List.mem_of_getElem? (i := 0) rfl))))
            have e304 : ρ 33 = .bool x276 := (hp 1 rfl).1
            refine WL.call (vs := [.agg cs3.toArray, .slice a300 x288.length c301]) hs FN19 ⟨e299, ⟨e302, trivial⟩⟩ (fun ok hA => esref06_IsQuorum.calls (x1 := x1) (x5 := x288) hxx291 (hA.get (Γx.length + 2 + 1) (getApp1 rfl)) (hA.get 0 rfl)) ?_ (hg := (wanted_of rfl rfl (bool_tr e304 hc287)).trans rfl)
            rintro _ w hs
            exact WL.nil ⟨rfl, _, rfl, rfl, hs.cutG 0 1⟩
          · intro ρ w Γx Λx hs hu hp
            have e305 : ρ 38 = .bool x291 := (hp 6 rfl).1
            have e306 : ρ 33 = .bool x276 := (hp 1 rfl).1
            refine WL.not e305 ?_ (hg := (wanted_of rfl rfl (bool_tr e306 hc287)).trans rfl)
            exact WL.nil ⟨rfl, _, rfl, rfl, hs.cutG 0 0⟩
          · intro ρ w Γx Λx hs hu hp
            have e307 : ρ 33 = .bool x276 := (hp 1 rfl).1
            have e308 : ρ 39 = .bool (!x291) := (hp 7 rfl).1
            refine WL.pickT (v := .bool (!x291)) (bool_tr e307 hc287) e308 ?_
            exact WL.nil ⟨rfl, _, rfl, rfl, hs.cutG 0 0⟩
          · intro ρ w hs hu309 hp
            obtain ⟨⟨⟨⟨⟨⟨⟨⟨⟨_, hp0_⟩, hp1_⟩, hp2_⟩, hp3_⟩, hp4_⟩, hp5_⟩, hp6_⟩, hp7_⟩, hp8_⟩ := hp
            have hs : St ok (bz w0) w [vl (tSlice (tInt .i64)) x288 (ρ 37), vl (tSlice (tSlice (tInt .i64))) x17 (.slice a18 x17.length c19), vl (tSlice (tInt .i64)) x38 (.slice a39 x38.length c41), vl t_api_View x1 (.agg cs3.toArray)] [blk g6 26 cs3] := hs
            have e310 : ρ 40 = .bool (!x291) := hp8_
            have e311 : ρ 39 = .bool (!x291) := hp7_
            have e312 : ρ 38 = .bool x291 := hp6_
            obtain ⟨⟨a313, c314⟩, e315⟩ := hp5_
            have e315 : ρ 37 = .slice a313 x288.length c314 := e315
            try rw [e315] at hs
            have e316 : ρ 36 = .int .i64 x277 := hp4_
            have e317 : ρ 35 = .slice a39 x38.length c41 := hp3_
            have e318 : ρ 34 = .agg cs3.toArray := hp2_
            have e319 : ρ 33 = .bool x276 := hp1_
            have e320 : ρ 32 = .bool x276 := hp0_
            refine WA.step [9] (by kernel_rfl) (by simp) ⟨?_, trivial⟩
            refine WL.assign (v := .bool (!x291)) e310 ?_
            refine WL.nil ⟨rfl, _, rfl, ?_⟩
            refine WA.done (by kernel_rfl) ?_
            exact Jk285 (!x291) _ _ ((hu309 1 rfl).trans h275_1) ((hu309 3 rfl).trans h275_3) ((hu309 4 rfl).trans h275_4) ((hu309 5 rfl).trans h275_5) rfl ((hu309 7 rfl).trans h275_7) ((hs.mask [true]).pick [1, 2, 3]) hf
        · refine W.any (by kernel_rfl) 9 1 [true, true, true, true, true, true, true, true, true, false] rfl rfl (poAt [pv (.bool x276), pv (.bool x276), pv (undef), pv (undef), pv (undef), pv (undef), pv (undef), pv (undef), pv (.bool false)]) (Λ := [blk g6 26 cs3]) hs (by kernel_rfl) (by kernel_rfl) (by kernel_rfl) ⟨⟨⟨⟨⟨⟨⟨⟨⟨trivial, ?_⟩, ?_⟩, ?_⟩, ?_⟩, ?_⟩, ?_⟩, ?_⟩, ?_⟩, ?_⟩ ?_
          · intro ρ w Γx Λx hs hu hp
            refine WL.move (v := .bool x276) ((hu 6 rfl).trans h275_6) ?_
            exact WL.nil ⟨rfl, _, rfl, rfl, hs.cutG 0 0⟩
          · intro ρ w Γx Λx hs hu hp
            have e321 : ρ 32 = .bool x276 := (hp 0 rfl).1
            refine WL.move (v := .bool x276) e321 ?_
            exact WL.nil ⟨rfl, _, rfl, rfl, hs.cutG 0 0⟩
          · intro ρ w Γx Λx hs hu hp
            have e322 : ρ 33 = .bool x276 := (hp 1 rfl).1
            refine WL.pass ((wanted_of rfl rfl (bool_tr e322 hc287)).trans rfl) rfl ?_
            exact WL.nil ⟨rfl, _, rfl, rfl, hs.cutG 0 0⟩
          · intro ρ w Γx Λx hs hu hp
            have e323 : ρ 33 = .bool x276 := (hp 1 rfl).1
            refine WL.pass ((wanted_of rfl rfl (bool_tr e323 hc287)).trans rfl) rfl ?_
            exact WL.nil ⟨rfl, _, rfl, rfl, hs.cutG 0 0⟩
          · intro ρ w Γx Λx hs hu hp
            have e324 : ρ 33 = .bool x276 := (hp 1 rfl).1
            refine WL.pass ((wanted_of rfl rfl (bool_tr e324 hc287)).trans rfl) rfl ?_
            exact WL.nil ⟨rfl, _, rfl, rfl, hs.cutG 0 0⟩
          · intro ρ w Γx Λx hs hu hp
            have e325 : ρ 35 = undef := (hp 3 rfl).1
            have e326 : ρ 36 = undef := (hp 4 rfl).1
            have e327 : ρ 33 = .bool x276 := (hp 1 rfl).1
            refine WL.pass ((wanted_of rfl rfl (bool_tr e327 hc287)).trans rfl) rfl ?_
            exact WL.nil ⟨rfl, _, rfl, rfl, hs.cutG 0 0⟩
          · intro ρ w Γx Λx hs hu hp
            have e328 : ρ 34 = undef := (hp 2 rfl).1
            have e329 : ρ 37 = undef := (hp 5 rfl).1
            have e330 : ρ 33 = .bool x276 := (hp 1 rfl).1
            refine WL.pass ((wanted_of rfl rfl (bool_tr e330 hc287)).trans rfl) rfl ?_
            exact WL.nil ⟨rfl, _, rfl, rfl, hs.cutG 0 0⟩
          · intro ρ w Γx Λx hs hu hp
            have e331 : ρ 38 = undef := (hp 6 rfl).1
            have e332 : ρ 33 = .bool x276 := (hp 1 rfl).1
            refine WL.pass ((wanted_of rfl rfl (bool_tr e332 hc287)).trans rfl) rfl ?_
            exact WL.nil ⟨rfl, _, rfl, rfl, hs.cutG 0 0⟩
          · intro ρ w Γx Λx hs hu hp
            have e333 : ρ 33 = .bool x276 := (hp 1 rfl).1
            have e334 : ρ 39 = undef := (hp 7 rfl).1
            refine WL.pickF (v := .bool false) (bool_tr e333 hc287) rfl ?_
            exact WL.nil ⟨rfl, _, rfl, rfl, hs.cutG 0 0⟩
          · intro ρ w hs hu335 hp
            obtain ⟨⟨⟨⟨⟨⟨⟨⟨⟨_, hp0_⟩, hp1_⟩, hp2_⟩, hp3_⟩, hp4_⟩, hp5_⟩, hp6_⟩, hp7_⟩, hp8_⟩ := hp
            have hs : St ok (bz w0) w [vl (tSlice (tSlice (tInt .i64))) x17 (.slice a18 x17.length c19), vl (tSlice (tInt .i64)) x38 (.slice a39 x38.length c41), vl t_api_View x1 (.agg cs3.toArray)] [blk g6 26 cs3] := hs
            have e336 : ρ 40 = .bool false := hp8_
            have e337 : ρ 39 = undef := hp7_
            have e338 : ρ 38 = undef := hp6_
            have e339 : ρ 37 = undef := hp5_
            have e340 : ρ 36 = undef := hp4_
            have e341 : ρ 35 = undef := hp3_
            have e342 : ρ 34 = undef := hp2_
            have e343 : ρ 33 = .bool x276 := hp1_
            have e344 : ρ 32 = .bool x276 := hp0_
            refine WA.step [9] (by kernel_rfl) (by simp) ⟨?_, trivial⟩
            refine WL.assign (v := .bool false) e336 ?_
            refine WL.nil ⟨rfl, _, rfl, ?_⟩
            refine WA.done (by kernel_rfl) ?_
            exact Jk285 false _ _ ((hu335 1 rfl).trans h275_1) ((hu335 3 rfl).trans h275_3) ((hu335 4 rfl).trans h275_4) ((hu335 5 rfl).trans h275_5) rfl ((hu335 7 rfl).trans h275_7) ((hs.mask [true]).pick [0, 1, 2]) hf
      · refine W.cond_false (bool_tr rfl hc281) ?_
        refine W.exit ?_
        have hr := Option.some.inj hf; subst hr
        have hr := hbbs278 _ rfl; subst hr
        have hf := hfs278
        exact Jk225 x276 _ _ h275_1 h275_3 h275_4 h275_5 h275_6 ((hs.mask [true]).pick [0, 1, 2]) hf
  · refine W.cond_false (bool_tr rfl hc29) ?_
    refine W.exit ?_
    have hr := Option.some.inj hf; subst hr
    have hr := hbbs21 _ rfl; subst hr
    have hf := hfs21
    exact Jk13 x17 a18 c19 _ _ h16_3 ((hs.mask []).pick [1]) hf
end Go.Proofs.Ytodebgfppmcjlaa
