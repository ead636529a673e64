import Derived.Test.YtlbcfjblpopcnaaFh
import Derived.Test.YtlbcfjblpopcnaaLz
import Derived.Test.YtlbcfjblpopcnaaFp1
import Derived.Test.YtlbcfjblpopcnaaFp2
import Derived.Test.YtlbcfjblpopcnaaFp5
import Derived.Test.YtlbcfjblpopcnaaFp7
set_option linter.unusedVariables false
set_option linter.unusedSimpArgs false
namespace Go.Proofs.Ytlbcfjblpopcnaa
open Go Go.RowKit Go.Proofs.YtlbcfjblpopcnaaL
set_option maxRecDepth 100000
set_option maxHeartbeats 4000000
/-! elasticstore/elasticstorelaw30.FoldSums: function 10 -/
theorem eslaw30_FoldSums.calls {ok : Nat → Prop} {w0 : World} {x1 : List Int} {x4 : Int} {a2 : Option Addr} {c3 : Nat} {r : Bool} (hf : eslaw30_FoldSums x1 x4 = some r) (i0 : (vl (tSlice (tInt .i64)) x1 (.slice a2 x1.length c3)).holds ok w0) :
    Calls Try.prog 10 #[.slice a2 x1.length c3, .int .i64 x4] w0 fun e w' => ∃ v, e = .returned v ∧ ∃ y : Unit, v = .bool r ∧ St ok (bz w0) w' [] [] := by
  unfold eslaw30_FoldSums at hf
  refine calls_of_W (fn := Try.f10) (N := 92) Try.func10 rfl Try.ntmps10 rfl ?_
  have hs : St ok (bz w0) w0 [vl (tSlice (tInt .i64)) x1 (.slice a2 x1.length c3)] [] := St.init (All.cons i0 All.nil)
  clear i0
  refine W.seqK fun K5 hK5 => ?_
  refine W.region ?_
  refine WL.assign (v := .bool false) rfl ?_
  refine WL.nil ?_
  refine hK5 _ _ ?_
  refine W.seqK fun K6 hK6 => ?_
  refine W.region ?_
  refine WL.move (v := .slice a2 x1.length c3) rfl ?_
  obtain ⟨x7, hxx7, hf⟩ := bindE hf
  refine WL.call (vs := [.slice a2 x1.length c3]) hs FN19 ⟨rfl, trivial⟩ (fun ok hA => eslaw00_Updates.calls (x1 := x1) hxx7 (hA.get 0 rfl)) ?_
  rintro ⟨a8, n9, c10⟩ w hs
  refine WL.assign (v := .slice a8 n9 c10) rfl ?_
  refine WL.nil ?_
  refine hK6 _ _ ?_
  refine W.seqK fun K11 hK11 => ?_
  refine W.region ?_
  refine WL.move (v := .slice a8 n9 c10) rfl ?_
  refine WL.move (v := .int .i64 x4) rfl ?_
  obtain rfl := hs.ownLen 0 rfl
  have hs := hs.freezeOwn 0 rfl
  obtain ⟨x12, hxx12, hf⟩ := bindE hf
  refine WL.call (vs := [.slice a8 x7.length c10, .int .i64 x4]) hs FN18 ⟨rfl, ⟨rfl, trivial⟩⟩ (fun ok hA => eslaw00_Some.calls (x1 := x7) (x4 := x4) hxx12 (hA.get 0 rfl)) ?_
  rintro ⟨a13, n14, c15⟩ w hs
  refine WL.assign (v := .slice a13 n14 c15) rfl ?_
  refine WL.nil ?_
  refine hK11 _ _ ?_
  refine W.seqK fun K16 hK16 => ?_
  refine W.region ?_
  refine WL.move (v := .slice a13 n14 c15) rfl ?_
  obtain rfl := hs.ownLen 0 rfl
  have hs := hs.freezeOwn 0 rfl
  obtain ⟨x17, hxx17, hf⟩ := bindE hf
  refine WL.call (vs := [.slice a13 x12.length c15]) hs FN13 ⟨rfl, trivial⟩ (fun ok hA => fold_Fold.calls (x1 := x12) hxx17 (hA.get 0 rfl)) ?_
  rintro cs18 w hs
  have hl19 := hs.agglen (n := 1) 0 rfl rfl rfl
  refine WL.move (v := .slice a8 x7.length c10) rfl ?_
  obtain ⟨x20, hxx20, hf⟩ := bindE hf
  refine WL.call (vs := [.slice a8 x7.length c10]) hs FN13 ⟨rfl, trivial⟩ (fun ok hA => fold_Fold.calls (x1 := x7) hxx20 (hA.get 2 rfl)) ?_
  rintro cs21 w hs
  have hl22 := hs.agglen (n := 1) 0 rfl rfl rfl
  refine WL.alloc hs ZV29 (fun g23 w hs => ?_)
  refine WL.alloc hs ZV29 (fun g24 w hs => ?_)
  refine WL.storeAll (vs := cs18) hs 1 rfl TI29 rfl rfl rfl hl19 (hs.ones 1 rfl rfl) rfl (fun w hs => ?_)
  refine WL.storeAll (vs := cs21) hs 0 rfl TI29 rfl rfl rfl hl22 (hs.ones 0 rfl rfl) rfl (fun w hs => ?_)
  refine WL.nil ?_
  refine hK16 _ _ ?_
  refine W.seqK fun K25 hK25 => ?_
  refine W.region ?_
  refine WL.build (vs := []) (cs := [.slice none 0 0]) trivial (bld PL29 rfl) ?_
  refine WL.alloc hs ZV29 (fun g26 w hs => ?_)
  refine WL.storeAll (vs := [.slice none 0 0]) hs 0 rfl TI29 rfl rfl rfl rfl (ones_of rfl) rfl (fun w hs => ?_)
  refine WL.nil ?_
  refine hK25 _ _ ?_
  refine W.seqK fun K27 hK27 => ?_
  have Jk32 : ∀ (x29 : List fold_Object) (a30 : Option Addr) (c31 : Nat) (ρ : Env) (w : World), ρ 7 = .pointer (some ⟨g23, 0, none⟩) → ρ 8 = .pointer (some ⟨g24, 0, none⟩) → ρ 9 = .pointer (some ⟨g26, 0, none⟩) → St ok (bz w0) w [vl (tSlice t_fold_Object) x29 (.slice a30 x29.length c31), vl t_fold_Store x20 (.agg cs21.toArray), vl t_fold_Store x17 (.agg cs18.toArray)] [blk g26 29 [.slice a30 x29.length c31], blk g24 29 cs21, blk g23 29 cs18] → eslaw30_FoldSums.j3 x17 x20 x29 = some r → K27 ρ w := by
    intro x29 a30 c31 ρ w h28_7 h28_8 h28_9 hs hf
    refine hK27 _ _ ?_
    unfold eslaw30_FoldSums.j3 at hf
    refine W.seqK fun K33 hK33 => ?_
    have Jk35 : ∀  (ρ : Env) (w : World), St ok (bz w0) w [] [] → eslaw30_FoldSums.j1 = some r → K33 ρ w := by
      intro  ρ w  hs hf
      refine hK33 _ _ ?_
      unfold eslaw30_FoldSums.j1 at hf
      refine W.seqK fun K36 hK36 => ?_
      refine W.region ?_
      obtain ⟨x37, hxx37, hf⟩ := bindE hf
      refine WL.call (vs := []) hs FN12 trivial (fun ok hA => eslaw30_awake.calls hxx37) ?_
      rintro _ w hs
      refine WL.assign (v := .bool x37) rfl ?_
      refine WL.nil ?_
      refine hK36 _ _ ?_
      refine W.ret ?_
      have hr := Option.some.inj hf; subst hr
      exact ⟨_, resOk_one rfl rfl, (), rfl, (hs.mask []).pick []⟩
    refine W.seqK fun K38 hK38 => ?_
    refine W.region ?_
    refine WL.assign (v := .int .i64 0) rfl ?_
    refine WL.nil ?_
    refine hK38 _ _ ?_
    refine W.block ?_
    obtain ⟨bs41, hbs41, hfs41⟩ := bindE hf
    refine W.loop hbs41 (fun s ρ w => match s with | x40 => ρ 7 = .pointer (some ⟨g23, 0, none⟩) ∧ ρ 8 = .pointer (some ⟨g24, 0, none⟩) ∧ ρ 9 = .pointer (some ⟨g26, 0, none⟩) ∧ ρ 11 = .int .i64 x40 ∧ St ok (bz w0) w [vl (tSlice t_fold_Object) x29 (.slice a30 x29.length c31), vl t_fold_Store x20 (.agg cs21.toArray), vl t_fold_Store x17 (.agg cs18.toArray)] [blk g26 29 [.slice a30 x29.length c31], blk g24 29 cs21, blk g23 29 cs18]) ⟨h28_7, h28_8, h28_9, rfl, (hs.mask [true, true, true]).pick [0, 1, 2]⟩ ?_
    intro x40 ρ w os41 hI hf hbbs41
    obtain ⟨h39_7, h39_8, h39_9, h39_11, hs⟩ := hI
    unfold eslaw30_FoldSums.l2 at hf
    refine W.seqK fun K42 hK42 => ?_
    refine W.seqK fun K43 hK43 => ?_
    refine W.region ?_
    refine WL.move (v := .int .i64 x40) h39_11 ?_
    refine WL.fieldAddr (m := 0) h39_8 FA29_0 rfl ?_
    refine WL.loadF (z := x20.Objects) F_fold_Store_Objects hs 1 rfl 1 rfl rfl TI27 (.inr rfl) rfl rfl (fun v44 hs => ?_)
    obtain ⟨a45, c46, rfl⟩ := hs.slice 0 rfl
    refine WL.len (v := .slice a45 (x20.Objects).length c46) rfl (len_slice UN27) ?_
    refine WL.bin (v := .bool (decide (x40 < ((x20.Objects).length : Int)))) rfl rfl (ib_lss _ _ _) ?_
    refine WL.nil ?_
    refine hK43 _ _ ?_
    rcases iteE hf with ⟨hc47, hf⟩ | ⟨hc47, hf⟩
    · refine W.cond_true (bool_tr rfl hc47) ?_
      refine W.skip ?_
      refine hK42 _ _ ?_
      refine W.seqK fun K48 hK48 => ?_
      have Jk50 : ∀  (ρ : Env) (w : World), ρ 7 = .pointer (some ⟨g23, 0, none⟩) → ρ 8 = .pointer (some ⟨g24, 0, none⟩) → ρ 9 = .pointer (some ⟨g26, 0, none⟩) → ρ 11 = .int .i64 x40 → St ok (bz w0) w [vl (tSlice t_fold_Object) x29 (.slice a30 x29.length c31), vl t_fold_Store x20 (.agg cs21.toArray), vl t_fold_Store x17 (.agg cs18.toArray)] [blk g26 29 [.slice a30 x29.length c31], blk g24 29 cs21, blk g23 29 cs18] → eslaw30_FoldSums.j2 x40 = some os41 → K48 ρ w := by
        intro  ρ w h49_7 h49_8 h49_9 h49_11 hs hf
        refine hK48 _ _ ?_
        unfold eslaw30_FoldSums.j2 at hf
        refine W.region ?_
        refine WL.move (v := .int .i64 x40) h49_11 ?_
        obtain ⟨x51, ex51, hf⟩ := letE hf
        refine WL.bin (v := .int .i64 x51) rfl rfl (ib_as ex51 (ib_add _ _ _)) ?_
        refine WL.assign (v := .int .i64 x51) rfl ?_
        refine WL.nil ?_
        exact ⟨_, (Option.some.inj hf).symm, h49_7, h49_8, h49_9, rfl, (hs.mask [true, true, true]).pick [0, 1, 2]⟩
      refine W.block ?_
      refine W.seqK fun K52 hK52 => ?_
      refine W.region ?_
      refine WL.fieldAddr (m := 0) h39_8 FA29_0 rfl ?_
      refine WL.loadF (z := x20.Objects) F_fold_Store_Objects hs 1 rfl 2 rfl rfl TI27 (.inr rfl) rfl rfl (fun v53 hs => ?_)
      obtain ⟨a54, c55, rfl⟩ := hs.slice 0 rfl
      refine WL.move (v := .int .i64 x40) h39_11 ?_
      obtain ⟨x56, hxx56, hf⟩ := bindE hf
      refine WL.indexAddr hs 0 rfl UN27 TI51 rfl rfl hxx56 (fun ad57 hs => ?_)
      refine WL.loadP hs 0 rfl TI51 (.inl rfl) rfl (fun v58 hs => ?_)
      obtain ⟨cs59, hl60, rfl⟩ := hs.aggv (n := 2) 0 rfl rfl rfl
      refine WL.alloc hs ZV51 (fun g61 w hs => ?_)
      refine WL.storeAll (vs := cs59) hs 0 rfl TI51 rfl rfl rfl hl60 (hs.ones 0 rfl rfl) rfl (fun w hs => ?_)
      refine WL.nil ?_
      refine hK52 _ _ ?_
      refine W.seqK fun K62 hK62 => ?_
      refine W.region ?_
      refine WL.assign (v := .int .i64 0) rfl ?_
      refine WL.nil ?_
      refine hK62 _ _ ?_
      refine W.block ?_
      obtain ⟨bs65, hbs65, hfs65⟩ := bindE hf
      refine W.loop hbs65 (fun s ρ w => match s with | x64 => ρ 7 = .pointer (some ⟨g23, 0, none⟩) ∧ ρ 8 = .pointer (some ⟨g24, 0, none⟩) ∧ ρ 9 = .pointer (some ⟨g26, 0, none⟩) ∧ ρ 11 = .int .i64 x40 ∧ ρ 12 = .pointer (some ⟨g61, 0, none⟩) ∧ ρ 13 = .int .i64 x64 ∧ St ok (bz w0) w [vl t_fold_Object x56 (.agg cs59.toArray), vl (tSlice t_fold_Object) x29 (.slice a30 x29.length c31), vl t_fold_Store x20 (.agg cs21.toArray), vl t_fold_Store x17 (.agg cs18.toArray)] [blk g61 51 cs59, blk g26 29 [.slice a30 x29.length c31], blk g24 29 cs21, blk g23 29 cs18]) ⟨h39_7, h39_8, h39_9, h39_11, rfl, rfl, (hs.mask [true, true, true, true]).pick [0, 4, 5, 6]⟩ ?_
      intro x64 ρ w os65 hI hf hbbs65
      obtain ⟨h63_7, h63_8, h63_9, h63_11, h63_12, h63_13, hs⟩ := hI
      unfold eslaw30_FoldSums.l1 at hf
      refine W.seqK fun K66 hK66 => ?_
      refine W.seqK fun K67 hK67 => ?_
      refine W.region ?_
      refine WL.move (v := .int .i64 x64) h63_13 ?_
      refine WL.fieldAddr (m := 1) h63_12 FA51_1 rfl ?_
      refine WL.loadF (z := x56.Fields) F_fold_Object_Fields hs 0 rfl 0 rfl rfl TI49 (.inr rfl) rfl rfl (fun v68 hs => ?_)
      obtain ⟨a69, c70, rfl⟩ := hs.slice 0 rfl
      refine WL.len (v := .slice a69 (x56.Fields).length c70) rfl (len_slice UN49) ?_
      refine WL.bin (v := .bool (decide (x64 < ((x56.Fields).length : Int)))) rfl rfl (ib_lss _ _ _) ?_
      refine WL.nil ?_
      refine hK67 _ _ ?_
      rcases iteE hf with ⟨hc71, hf⟩ | ⟨hc71, hf⟩
      · refine W.cond_true (bool_tr rfl hc71) ?_
        refine W.skip ?_
        refine hK66 _ _ ?_
        refine W.seqK fun K72 hK72 => ?_
        refine W.block ?_
        refine W.seqK fun K73 hK73 => ?_
        refine W.region ?_
        refine WL.fieldAddr (m := 1) h63_12 FA51_1 rfl ?_
        refine WL.loadF (z := x56.Fields) F_fold_Object_Fields hs 0 rfl 1 rfl rfl TI49 (.inr rfl) rfl rfl (fun v74 hs => ?_)
        obtain ⟨a75, c76, rfl⟩ := hs.slice 0 rfl
        refine WL.move (v := .int .i64 x64) h63_13 ?_
        obtain ⟨x77, hxx77, hf⟩ := bindE hf
        refine WL.indexAddr hs 0 rfl UN49 TI57 rfl rfl hxx77 (fun ad78 hs => ?_)
        refine WL.fieldAddrP (z := x77.Name) F_fold_Field_Name hs 0 rfl rfl FA57_0 rfl (fun ad79 hs => ?_)
        refine WL.loadP hs 0 rfl TI9 (.inr rfl) rfl (fun v80 hs => ?_)
        obtain rfl := hs.str 0 rfl
        refine WL.assign (v := bstr x77.Name) rfl ?_
        refine WL.nil ?_
        refine hK73 _ _ ?_
        refine W.seqK fun K81 hK81 => ?_
        obtain ⟨x83, hxx83, hf⟩ := bindE hf
        obtain ⟨x86, hxx86, hf⟩ := bindE hf
        obtain ⟨x91, hxx91, hf⟩ := bindE hf
        obtain ⟨x94, hxx94, hf⟩ := bindE hf
        obtain ⟨x98, ex98, hf⟩ := letE hf
        obtain ⟨x102, hxx102, hf⟩ := bindE hf
        refine W.any (by kernel_rfl) 22 0 [true, true, true, true, true, true, true, true, true, true, true, true, true, true, true, true, true, true, true, true, true, true] rfl rfl (poAt [pv (.agg cs18.toArray), pv (.pointer (some ⟨g61, 0, none⟩)), pv (bstr x56.Name), pq (fun y : List Value => .agg y.toArray) (fun v => [vl t_fold_Object x83 v]) (fun v => []), pv (bstr x77.Name), pq (fun y : List Value => .agg y.toArray) (fun v => [vl t_fold_Field x86 v]) (fun v => []), pv (.int .i64 x86.Sum), pv (.agg ([.slice a30 x29.length c31] : List Value).toArray), pv (.pointer (some ⟨g61, 0, none⟩)), pv (bstr x56.Name), pq (fun y : List Value => .agg y.toArray) (fun v => [vl t_fold_Object x91 v]) (fun v => []), pv (bstr x77.Name), pq (fun y : List Value => .agg y.toArray) (fun v => [vl t_fold_Field x94 v]) (fun v => []), pv (.int .i64 x94.Sum), pv (.int .i64 x98), pv (.pointer (some ⟨g61, 1, none⟩)), pq (fun y : (Option Addr × Nat) => .slice y.1 (x56.Fields).length y.2) (fun v => [vl (tSlice t_fold_Field) x56.Fields v]) (fun v => []), pv (.int .i64 x64), pq (fun y : Addr => .pointer (some y)) (fun v => [pl t_fold_Field x102 (adOf v)]) (fun v => []), pq (fun y : Addr => .pointer (some y)) (fun v => [pl (tInt .i64) x102.Sum (adOf v)]) (fun v => []), pv (.int .i64 x102.Sum), pv (.bool (x98 != x102.Sum))]) (Λ := [blk g61 51 cs59, blk g26 29 [.slice a30 x29.length c31], blk g24 29 cs21, blk g23 29 cs18]) hs (by kernel_rfl) (by kernel_rfl) (by kernel_rfl) ⟨⟨⟨⟨⟨⟨⟨⟨⟨⟨⟨⟨⟨⟨⟨⟨⟨⟨⟨⟨⟨⟨trivial, ?_⟩, ?_⟩, ?_⟩, ?_⟩, ?_⟩, ?_⟩, ?_⟩, ?_⟩, ?_⟩, ?_⟩, ?_⟩, ?_⟩, ?_⟩, ?_⟩, ?_⟩, ?_⟩, ?_⟩, ?_⟩, ?_⟩, ?_⟩, ?_⟩, ?_⟩ ?_
        · intro ρ w Γx Λx hs hu hp
          refine WL.loadAll hs (Λx.length + 3) (getApp rfl) TI29 ((hu 7 rfl).trans h63_7) hl19 ?_
          exact WL.nil ⟨rfl, _, rfl, rfl, hs.cutG 0 0⟩
        · intro ρ w Γx Λx hs hu hp
          refine WL.fieldAddr (m := 0) ((hu 12 rfl).trans h63_12) FA51_0 rfl ?_
          exact WL.nil ⟨rfl, _, rfl, rfl, hs.cutG 0 0⟩
        · intro ρ w Γx Λx hs hu hp
          have e106 : ρ 70 = .pointer (some ⟨g61, 0, none⟩) := (hp 1 rfl).1
          refine WL.loadF (z := x56.Name) F_fold_Object_Name hs (Λx.length + 0) (getApp rfl) (Γx.length + 5) (getApp rfl) rfl TI9 (.inr rfl) e106 rfl (fun v82 hs => ?_)
          obtain rfl := hs.str 0 rfl
          exact WL.nil ⟨rfl, _, rfl, rfl, hs.cutG 0 1⟩
        · intro ρ w Γx Λx hs hu hp
          have e107 : ρ 69 = .agg cs18.toArray := (hp 0 rfl).1
          have e108 : ρ 71 = bstr x56.Name := (hp 2 rfl).1
          refine WL.call (vs := [.agg cs18.toArray, bstr x56.Name]) hs FN27 ⟨e107, ⟨e108, trivial⟩⟩ (fun ok hA => fold_Find.calls (x1 := x17) (x2 := x56.Name) hxx83 (hA.get (Γx.length + 8) (getApp rfl))) ?_
          rintro cs84 w hs
          have hl85 := hs.agglen (n := 2) 0 rfl rfl rfl
          have hs := hs.add (it := vl t_fold_Object x83 (.agg cs84.toArray)) fun ok hA => hA.get 0 rfl
          exact WL.nil ⟨rfl, _, rfl, ⟨cs84, rfl⟩, hs.cutG 1 1⟩
        · intro ρ w Γx Λx hs hu hp
          refine WL.move (v := bstr x77.Name) (hu 14 rfl) ?_
          exact WL.nil ⟨rfl, _, rfl, rfl, hs.cutG 0 0⟩
        · intro ρ w Γx Λx hs hu hp
          obtain ⟨⟨cs109, e111r⟩, hm112⟩ := hp 3 rfl
          have e111 : ρ 72 = .agg cs109.toArray := e111r
          rw [e111r] at hm112
          have hs := hs.memo1 (it := vl t_fold_Object x83 (.agg cs109.toArray)) (List.mem_append.2 (.inl (hm112 _ (List.mem_of_getElem? (i := 0) rfl))))
          have hl110 := hs.agglen (n := 2) 0 rfl rfl rfl
          have e113 : ρ 73 = bstr x77.Name := (hp 4 rfl).1
          refine WL.call (vs := [.agg cs109.toArray, bstr x77.Name]) hs FN28 ⟨e111, ⟨e113, trivial⟩⟩ (fun ok hA => fold_FieldOf.callc (x1 := x83) (x5 := x77.Name) hxx86 (hA.get 0 rfl)) ?_
          rintro cs87 w hs
          have hl88 := hs.agglen (n := 12) 0 rfl rfl rfl
          have hs := hs.add (it := vl t_fold_Field x86 (.agg cs87.toArray)) fun ok hA => hA.get 0 rfl
          exact WL.nil ⟨rfl, _, rfl, ⟨cs87, rfl⟩, hs.cutG 1 2⟩
        · intro ρ w Γx Λx hs hu hp
          obtain ⟨⟨cs114, e116r⟩, hm117⟩ := hp 5 rfl
          have e116 : ρ 74 = .agg cs114.toArray := e116r
          rw [e116r] at hm117
          have hs := hs.memo1 (it := vl t_fold_Field x86 (.agg cs114.toArray)) (List.mem_append.2 (.inl (hm117 _ (List.mem_of_getElem? (i := 0) rfl))))
          have hl115 := hs.agglen (n := 12) 0 rfl rfl rfl
          refine WL.fieldV (z := x86.Sum) (l := cs114) F_fold_Field_Sum hs 0 rfl rfl e116 FV57_4 TI2 (.inr rfl) rfl (fun v89 hs => ?_)
          obtain rfl := hs.int 0 rfl
          exact WL.nil ⟨rfl, _, rfl, rfl, hs.cutG 0 2⟩
        · intro ρ w Γx Λx hs hu hp
          refine WL.loadN (vs := [.slice a30 x29.length c31]) hs (Λx.length + 1) (getApp rfl) TI29 ((hu 9 rfl).trans h63_9) rfl rfl ?_
          exact WL.nil ⟨rfl, _, rfl, rfl, hs.cutG 0 0⟩
        · intro ρ w Γx Λx hs hu hp
          refine WL.fieldAddr (m := 0) ((hu 12 rfl).trans h63_12) FA51_0 rfl ?_
          exact WL.nil ⟨rfl, _, rfl, rfl, hs.cutG 0 0⟩
        · intro ρ w Γx Λx hs hu hp
          have e118 : ρ 77 = .pointer (some ⟨g61, 0, none⟩) := (hp 8 rfl).1
          refine WL.loadF (z := x56.Name) F_fold_Object_Name hs (Λx.length + 0) (getApp rfl) (Γx.length + 5) (getApp rfl) rfl TI9 (.inr rfl) e118 rfl (fun v90 hs => ?_)
          obtain rfl := hs.str 0 rfl
          exact WL.nil ⟨rfl, _, rfl, rfl, hs.cutG 0 1⟩
        · intro ρ w Γx Λx hs hu hp
          have e119 : ρ 76 = .agg ([.slice a30 x29.length c31] : List Value).toArray := (hp 7 rfl).1
          have e120 : ρ 78 = bstr x56.Name := (hp 9 rfl).1
          have hs := hs.add (it := vl t_fold_Store (⟨x29⟩ : fold_Store) (.agg [.slice a30 x29.length c31].toArray)) fun ok hA => V_agg ((R_one (hA.get (Γx.length + 6) (getApp rfl)))) rfl
          refine WL.call (vs := [.agg ([.slice a30 x29.length c31] : List Value).toArray, bstr x56.Name]) hs FN27 ⟨e119, ⟨e120, trivial⟩⟩ (fun ok hA => fold_Find.calls (x1 := (⟨x29⟩ : fold_Store)) (x2 := x56.Name) hxx91 (hA.get 0 rfl)) ?_
          rintro cs92 w hs
          have hl93 := hs.agglen (n := 2) 0 rfl rfl rfl
          have hs := hs.add (it := vl t_fold_Object x91 (.agg cs92.toArray)) fun ok hA => hA.get 0 rfl
          exact WL.nil ⟨rfl, _, rfl, ⟨cs92, rfl⟩, hs.cutG 1 2⟩
        · intro ρ w Γx Λx hs hu hp
          refine WL.move (v := bstr x77.Name) (hu 14 rfl) ?_
          exact WL.nil ⟨rfl, _, rfl, rfl, hs.cutG 0 0⟩
        · intro ρ w Γx Λx hs hu hp
          obtain ⟨⟨cs121, e123r⟩, hm124⟩ := hp 10 rfl
          have e123 : ρ 79 = .agg cs121.toArray := e123r
          rw [e123r] at hm124
          have hs := hs.memo1 (it := vl t_fold_Object x91 (.agg cs121.toArray)) (List.mem_append.2 (.inl (hm124 _ (List.mem_of_getElem? (i := 0) rfl))))
          have hl122 := hs.agglen (n := 2) 0 rfl rfl rfl
          have e125 : ρ 80 = bstr x77.Name := (hp 11 rfl).1
          refine WL.call (vs := [.agg cs121.toArray, bstr x77.Name]) hs FN28 ⟨e123, ⟨e125, trivial⟩⟩ (fun ok hA => fold_FieldOf.callc (x1 := x91) (x5 := x77.Name) hxx94 (hA.get 0 rfl)) ?_
          rintro cs95 w hs
          have hl96 := hs.agglen (n := 12) 0 rfl rfl rfl
          have hs := hs.add (it := vl t_fold_Field x94 (.agg cs95.toArray)) fun ok hA => hA.get 0 rfl
          exact WL.nil ⟨rfl, _, rfl, ⟨cs95, rfl⟩, hs.cutG 1 2⟩
        · intro ρ w Γx Λx hs hu hp
          obtain ⟨⟨cs126, e128r⟩, hm129⟩ := hp 12 rfl
          have e128 : ρ 81 = .agg cs126.toArray := e128r
          rw [e128r] at hm129
          have hs := hs.memo1 (it := vl t_fold_Field x94 (.agg cs126.toArray)) (List.mem_append.2 (.inl (hm129 _ (List.mem_of_getElem? (i := 0) rfl))))
          have hl127 := hs.agglen (n := 12) 0 rfl rfl rfl
          refine WL.fieldV (z := x94.Sum) (l := cs126) F_fold_Field_Sum hs 0 rfl rfl e128 FV57_4 TI2 (.inr rfl) rfl (fun v97 hs => ?_)
          obtain rfl := hs.int 0 rfl
          exact WL.nil ⟨rfl, _, rfl, rfl, hs.cutG 0 2⟩
        · intro ρ w Γx Λx hs hu hp
          have e130 : ρ 75 = .int .i64 x86.Sum := (hp 6 rfl).1
          have e131 : ρ 82 = .int .i64 x94.Sum := (hp 13 rfl).1
          refine WL.bin (v := .int .i64 x98) e130 e131 (ib_as ex98 (ib_add _ _ _)) ?_
          exact WL.nil ⟨rfl, _, rfl, rfl, hs.cutG 0 0⟩
        · intro ρ w Γx Λx hs hu hp
          refine WL.fieldAddr (m := 1) ((hu 12 rfl).trans h63_12) FA51_1 rfl ?_
          exact WL.nil ⟨rfl, _, rfl, rfl, hs.cutG 0 0⟩
        · intro ρ w Γx Λx hs hu hp
          have e132 : ρ 84 = .pointer (some ⟨g61, 1, none⟩) := (hp 15 rfl).1
          refine WL.loadF (z := x56.Fields) F_fold_Object_Fields hs (Λx.length + 0) (getApp rfl) (Γx.length + 5) (getApp rfl) rfl TI49 (.inr rfl) e132 rfl (fun v99 hs => ?_)
          obtain ⟨a100, c101, rfl⟩ := hs.slice 0 rfl
          have hs := hs.add (it := vl (tSlice t_fold_Field) x56.Fields (.slice a100 (x56.Fields).length c101)) fun ok hA => hA.get 0 rfl
          exact WL.nil ⟨rfl, _, rfl, ⟨(a100, c101), rfl⟩, hs.cutG 1 1⟩
        · intro ρ w Γx Λx hs hu hp
          refine WL.move (v := .int .i64 x64) ((hu 13 rfl).trans h63_13) ?_
          exact WL.nil ⟨rfl, _, rfl, rfl, hs.cutG 0 0⟩
        · intro ρ w Γx Λx hs hu hp
          obtain ⟨⟨⟨a133, c134⟩, e135r⟩, hm136⟩ := hp 16 rfl
          have e135 : ρ 85 = .slice a133 (x56.Fields).length c134 := e135r
          rw [e135r] at hm136
          have hs := hs.memo1 (it := vl (tSlice t_fold_Field) x56.Fields (.slice a133 (x56.Fields).length c134)) (List.mem_append.2 (.inl (hm136 _ (List.mem_of_getElem? (i := 0) rfl))))
          have e137 : ρ 86 = .int .i64 x64 := (hp 17 rfl).1
          refine WL.indexAddr hs 0 rfl UN49 TI57 e135 e137 hxx102 (fun ad103 hs => ?_)
          have hs := hs.add (it := pl t_fold_Field x102 ad103) fun ok hA => hA.get 0 rfl
          exact WL.nil ⟨rfl, _, rfl, ⟨ad103, rfl⟩, hs.cutG 1 2⟩
        · intro ρ w Γx Λx hs hu hp
          obtain ⟨⟨ad138, e139r⟩, hm140⟩ := hp 18 rfl
          have e139 : ρ 87 = .pointer (some ad138) := e139r
          rw [e139r] at hm140
          have hs := hs.memo1 (it := pl t_fold_Field x102 ad138) (List.mem_append.2 (.inl (hm140 _ (List.mem_of_getElem? (i := 0) rfl))))
          refine WL.fieldAddrP (z := x102.Sum) F_fold_Field_Sum hs 0 rfl e139 FA57_4 rfl (fun ad104 hs => ?_)
          have hs := hs.add (it := pl (tInt .i64) x102.Sum ad104) fun ok hA => hA.get 0 rfl
          exact WL.nil ⟨rfl, _, rfl, ⟨ad104, rfl⟩, hs.cutG 1 2⟩
        · intro ρ w Γx Λx hs hu hp
          obtain ⟨⟨ad141, e142r⟩, hm143⟩ := hp 19 rfl
          have e142 : ρ 88 = .pointer (some ad141) := e142r
          rw [e142r] at hm143
          have hs := hs.memo1 (it := pl (tInt .i64) x102.Sum ad141) (List.mem_append.2 (.inl (hm143 _ (List.mem_of_getElem? (i := 0) rfl))))
          refine WL.loadP hs 0 rfl TI2 (.inr rfl) e142 (fun v105 hs => ?_)
          obtain rfl := hs.int 0 rfl
          exact WL.nil ⟨rfl, _, rfl, rfl, hs.cutG 0 2⟩
        · intro ρ w Γx Λx hs hu hp
          have e144 : ρ 83 = .int .i64 x98 := (hp 14 rfl).1
          have e145 : ρ 89 = .int .i64 x102.Sum := (hp 20 rfl).1
          refine WL.bin (v := .bool (x98 != x102.Sum)) e144 e145 (ib_neq _ _ _) ?_
          exact WL.nil ⟨rfl, _, rfl, rfl, hs.cutG 0 0⟩
        · intro ρ w hs hu146 hp
          obtain ⟨⟨⟨⟨⟨⟨⟨⟨⟨⟨⟨⟨⟨⟨⟨⟨⟨⟨⟨⟨⟨⟨_, hp0_⟩, hp1_⟩, hp2_⟩, hp3_⟩, hp4_⟩, hp5_⟩, hp6_⟩, hp7_⟩, hp8_⟩, hp9_⟩, hp10_⟩, hp11_⟩, hp12_⟩, hp13_⟩, hp14_⟩, hp15_⟩, hp16_⟩, hp17_⟩, hp18_⟩, hp19_⟩, hp20_⟩, hp21_⟩ := hp
          have hs : St ok (bz w0) w [pl (tInt .i64) x102.Sum (adOf (ρ 88)), pl t_fold_Field x102 (adOf (ρ 87)), vl (tSlice t_fold_Field) x56.Fields (ρ 85), vl t_fold_Field x94 (ρ 81), vl t_fold_Object x91 (ρ 79), vl t_fold_Field x86 (ρ 74), vl t_fold_Object x83 (ρ 72), vl tStr x77.Name (bstr x77.Name), pl tStr x77.Name ad79, pl t_fold_Field x77 ad78, vl (tSlice t_fold_Field) x56.Fields (.slice a75 (x56.Fields).length c76), vl (tSlice t_fold_Field) x56.Fields (.slice a69 (x56.Fields).length c70), vl t_fold_Object x56 (.agg cs59.toArray), vl (tSlice t_fold_Object) x29 (.slice a30 x29.length c31), vl t_fold_Store x20 (.agg cs21.toArray), vl t_fold_Store x17 (.agg cs18.toArray)] [blk g61 51 cs59, blk g26 29 [.slice a30 x29.length c31], blk g24 29 cs21, blk g23 29 cs18] := hs
          have e147 : ρ 90 = .bool (x98 != x102.Sum) := hp21_
          have e148 : ρ 89 = .int .i64 x102.Sum := hp20_
          obtain ⟨ad149, e150⟩ := hp19_
          have e150 : ρ 88 = .pointer (some ad149) := e150
          try rw [e150] at hs
          obtain ⟨ad151, e152⟩ := hp18_
          have e152 : ρ 87 = .pointer (some ad151) := e152
          try rw [e152] at hs
          have e153 : ρ 86 = .int .i64 x64 := hp17_
          obtain ⟨⟨a154, c155⟩, e156⟩ := hp16_
          have e156 : ρ 85 = .slice a154 (x56.Fields).length c155 := e156
          try rw [e156] at hs
          have e157 : ρ 84 = .pointer (some ⟨g61, 1, none⟩) := hp15_
          have e158 : ρ 83 = .int .i64 x98 := hp14_
          have e159 : ρ 82 = .int .i64 x94.Sum := hp13_
          obtain ⟨cs160, e162⟩ := hp12_
          have e162 : ρ 81 = .agg cs160.toArray := e162
          try rw [e162] at hs
          have e163 : ρ 80 = bstr x77.Name := hp11_
          obtain ⟨cs164, e166⟩ := hp10_
          have e166 : ρ 79 = .agg cs164.toArray := e166
          try rw [e166] at hs
          have e167 : ρ 78 = bstr x56.Name := hp9_
          have e168 : ρ 77 = .pointer (some ⟨g61, 0, none⟩) := hp8_
          have e169 : ρ 76 = .agg ([.slice a30 x29.length c31] : List Value).toArray := hp7_
          have e170 : ρ 75 = .int .i64 x86.Sum := hp6_
          obtain ⟨cs171, e173⟩ := hp5_
          have e173 : ρ 74 = .agg cs171.toArray := e173
          try rw [e173] at hs
          have e174 : ρ 73 = bstr x77.Name := hp4_
          obtain ⟨cs175, e177⟩ := hp3_
          have e177 : ρ 72 = .agg cs175.toArray := e177
          try rw [e177] at hs
          have e178 : ρ 71 = bstr x56.Name := hp2_
          have e179 : ρ 70 = .pointer (some ⟨g61, 0, none⟩) := hp1_
          have e180 : ρ 69 = .agg cs18.toArray := hp0_
          have hl176 := hs.agglen (n := 2) 6 rfl rfl rfl
          have hl172 := hs.agglen (n := 12) 5 rfl rfl rfl
          have hl165 := hs.agglen (n := 2) 4 rfl rfl rfl
          have hl161 := hs.agglen (n := 12) 3 rfl rfl rfl
          refine WA.done (by kernel_rfl) ?_
          refine hK81 _ _ ?_
          rcases iteE hf with ⟨hc181, hf⟩ | ⟨hc181, hf⟩
          · refine W.cond_true (bool_tr e147 hc181) ?_
            refine W.seqK fun K182 hK182 => ?_
            refine W.region ?_
            refine WL.assign (v := .bool false) rfl ?_
            refine WL.nil ?_
            refine hK182 _ _ ?_
            refine W.ret ?_
            have hr := Option.some.inj hf; subst hr
            have hr := hbbs65 _ rfl; subst hr
            have hf := hfs65
            have hr := Option.some.inj hf; subst hr
            have hr := hbbs41 _ rfl; subst hr
            have hf := hfs41
            have hr := Option.some.inj hf; subst hr
            exact ⟨_, resOk_one rfl rfl, (), rfl, (hs.mask []).pick []⟩
          · refine W.cond_false (bool_tr e147 hc181) ?_
            refine W.skip ?_
            refine hK72 _ _ ?_
            refine W.region ?_
            refine WL.move (v := .int .i64 x64) ((hu146 13 rfl).trans h63_13) ?_
            obtain ⟨x183, ex183, hf⟩ := letE hf
            refine WL.bin (v := .int .i64 x183) rfl rfl (ib_as ex183 (ib_add _ _ _)) ?_
            refine WL.assign (v := .int .i64 x183) rfl ?_
            refine WL.nil ?_
            exact ⟨_, (Option.some.inj hf).symm, ((hu146 7 rfl).trans h63_7), ((hu146 8 rfl).trans h63_8), ((hu146 9 rfl).trans h63_9), ((hu146 11 rfl).trans h63_11), ((hu146 12 rfl).trans h63_12), rfl, (hs.mask [true, true, true, true]).pick [12, 13, 14, 15]⟩
      · refine W.cond_false (bool_tr rfl hc71) ?_
        refine W.exit ?_
        have hr := Option.some.inj hf; subst hr
        have hr := hbbs65 _ rfl; subst hr
        have hf := hfs65
        exact Jk50  _ _ h63_7 h63_8 h63_9 h63_11 ((hs.mask [false, true, true, true]).pick [2, 3, 4]) hf
    · refine W.cond_false (bool_tr rfl hc47) ?_
      refine W.exit ?_
      have hr := Option.some.inj hf; subst hr
      have hr := hbbs41 _ rfl; subst hr
      have hf := hfs41
      exact Jk35  _ _  ((hs.mask []).pick []) hf
  refine W.seqK fun K186 hK186 => ?_
  refine W.region ?_
  refine WL.assign (v := .int .i64 0) rfl ?_
  refine WL.nil ?_
  refine hK186 _ _ ?_
  refine W.block ?_
  obtain ⟨bs192, hbs192, hfs192⟩ := bindE hf
  have hs := hs.add (it := vl (tSlice t_fold_Object) [] (.slice none 0 0)) fun ok hA => V_nil
  refine W.loop hbs192 (fun s ρ w => match s with | (x188, x189) => ∃ (a190 : Option Addr), ∃ (c191 : Nat), ρ 5 = .slice a8 x7.length c10 ∧ ρ 6 = .slice a13 x12.length c15 ∧ ρ 7 = .pointer (some ⟨g23, 0, none⟩) ∧ ρ 8 = .pointer (some ⟨g24, 0, none⟩) ∧ ρ 9 = .pointer (some ⟨g26, 0, none⟩) ∧ ρ 10 = .int .i64 x188 ∧ St ok (bz w0) w [vl (tSlice t_api_Update) x7 (.slice a8 x7.length c10), vl (tSlice t_api_Update) x12 (.slice a13 x12.length c15), vl (tSlice t_fold_Object) x189 (.slice a190 x189.length c191), vl t_fold_Store x20 (.agg cs21.toArray), vl t_fold_Store x17 (.agg cs18.toArray)] [blk g26 29 [.slice a190 x189.length c191], blk g24 29 cs21, blk g23 29 cs18]) ⟨none, 0, rfl, rfl, rfl, rfl, rfl, rfl, (hs.mask [true, true, true]).pick [4, 3, 0, 1, 2]⟩ ?_
  intro s ρ w os192 hI hf hbbs192
  obtain ⟨x188, x189⟩ := s
  obtain ⟨a190, c191, h187_5, h187_6, h187_7, h187_8, h187_9, h187_10, hs⟩ := hI
  unfold eslaw30_FoldSums.l3 at hf
  refine W.seqK fun K193 hK193 => ?_
  refine W.seqK fun K194 hK194 => ?_
  refine W.region ?_
  refine WL.move (v := .int .i64 x188) h187_10 ?_
  refine WL.move (v := .slice a8 x7.length c10) h187_5 ?_
  refine WL.len (v := .slice a8 x7.length c10) rfl (len_slice UN23) ?_
  refine WL.bin (v := .bool (decide (x188 < (x7.length : Int)))) rfl rfl (ib_lss _ _ _) ?_
  refine WL.nil ?_
  refine hK194 _ _ ?_
  rcases iteE hf with ⟨hc195, hf⟩ | ⟨hc195, hf⟩
  · refine W.cond_true (bool_tr rfl hc195) ?_
    refine W.skip ?_
    refine hK193 _ _ ?_
    refine W.seqK fun K196 hK196 => ?_
    have Jk201 : ∀ (x198 : List fold_Object) (a199 : Option Addr) (c200 : Nat) (ρ : Env) (w : World), ρ 5 = .slice a8 x7.length c10 → ρ 6 = .slice a13 x12.length c15 → ρ 7 = .pointer (some ⟨g23, 0, none⟩) → ρ 8 = .pointer (some ⟨g24, 0, none⟩) → ρ 9 = .pointer (some ⟨g26, 0, none⟩) → ρ 10 = .int .i64 x188 → St ok (bz w0) w [vl (tSlice t_api_Update) x7 (.slice a8 x7.length c10), vl (tSlice t_api_Update) x12 (.slice a13 x12.length c15), vl (tSlice t_fold_Object) x198 (.slice a199 x198.length c200), vl t_fold_Store x20 (.agg cs21.toArray), vl t_fold_Store x17 (.agg cs18.toArray)] [blk g26 29 [.slice a199 x198.length c200], blk g24 29 cs21, blk g23 29 cs18] → eslaw30_FoldSums.j4 x188 x198 = some os192 → K196 ρ w := by
      intro x198 a199 c200 ρ w h197_5 h197_6 h197_7 h197_8 h197_9 h197_10 hs hf
      refine hK196 _ _ ?_
      unfold eslaw30_FoldSums.j4 at hf
      refine W.region ?_
      refine WL.move (v := .int .i64 x188) h197_10 ?_
      obtain ⟨x202, ex202, hf⟩ := letE hf
      refine WL.bin (v := .int .i64 x202) rfl rfl (ib_as ex202 (ib_add _ _ _)) ?_
      refine WL.assign (v := .int .i64 x202) rfl ?_
      refine WL.nil ?_
      exact ⟨_, (Option.some.inj hf).symm, a199, c200, h197_5, h197_6, h197_7, h197_8, h197_9, rfl, (hs.mask [true, true, true]).pick [0, 1, 2, 3, 4]⟩
    refine W.block ?_
    refine W.seqK fun K203 hK203 => ?_
    refine W.region ?_
    refine WL.move (v := .slice a13 x12.length c15) h187_6 ?_
    refine WL.move (v := .slice a8 x7.length c10) h187_5 ?_
    refine WL.move (v := .int .i64 x188) h187_10 ?_
    obtain ⟨x204, hxx204, hf⟩ := bindE hf
    refine WL.indexAddr hs 0 rfl UN23 TI41 rfl rfl hxx204 (fun ad205 hs => ?_)
    refine WL.loadP hs 0 rfl TI41 (.inl rfl) rfl (fun v206 hs => ?_)
    obtain ⟨cs207, hl208, rfl⟩ := hs.aggv (n := 4) 0 rfl rfl rfl
    obtain ⟨x209, hxx209, hf⟩ := bindE hf
    refine WL.call (vs := [.slice a13 x12.length c15, .agg cs207.toArray]) hs FN35 ⟨rfl, ⟨rfl, trivial⟩⟩ (fun ok hA => eslaw30_in.calls (x1 := x12) (x4 := x204) hxx209 (hA.get 3 rfl) (hA.get 0 rfl)) ?_
    rintro _ w hs
    refine WL.not rfl ?_
    refine WL.nil ?_
    refine hK203 _ _ ?_
    rcases iteE hf with ⟨hc210, hf⟩ | ⟨hc210, hf⟩
    · refine W.cond_true (bool_tr rfl hc210) ?_
      obtain ⟨x211, hxx211, hf⟩ := bindE hf
      obtain ⟨x216, hxx216, hf⟩ := bindE hf
      refine W.any (by kernel_rfl) 6 1 [true, true, true, true, true, true, false] rfl rfl (poAt [pv (.agg ([.slice a190 x189.length c191] : List Value).toArray), pv (.slice a8 x7.length c10), pv (.int .i64 x188), pq (fun y : Addr => .pointer (some y)) (fun v => [pl t_api_Update x211 (adOf v)]) (fun v => []), pq (fun y : List Value => .agg y.toArray) (fun v => [vl t_api_Update x211 v]) (fun v => []), pq (fun y : List Value => .agg y.toArray) (fun v => [vl t_fold_Store x216 v]) (fun v => [])]) (Λ := [blk g26 29 [.slice a190 x189.length c191], blk g24 29 cs21, blk g23 29 cs18]) hs (by kernel_rfl) (by kernel_rfl) (by kernel_rfl) ⟨⟨⟨⟨⟨⟨trivial, ?_⟩, ?_⟩, ?_⟩, ?_⟩, ?_⟩, ?_⟩ ?_
      · intro ρ w Γx Λx hs hu hp
        refine WL.loadN (vs := [.slice a190 x189.length c191]) hs (Λx.length + 0) (getApp rfl) TI29 ((hu 9 rfl).trans h187_9) rfl rfl ?_
        exact WL.nil ⟨rfl, _, rfl, rfl, hs.cutG 0 0⟩
      · intro ρ w Γx Λx hs hu hp
        refine WL.move (v := .slice a8 x7.length c10) ((hu 5 rfl).trans h187_5) ?_
        exact WL.nil ⟨rfl, _, rfl, rfl, hs.cutG 0 0⟩
      · intro ρ w Γx Λx hs hu hp
        refine WL.move (v := .int .i64 x188) ((hu 10 rfl).trans h187_10) ?_
        exact WL.nil ⟨rfl, _, rfl, rfl, hs.cutG 0 0⟩
      · intro ρ w Γx Λx hs hu hp
        have e219 : ρ 39 = .slice a8 x7.length c10 := (hp 1 rfl).1
        have e220 : ρ 40 = .int .i64 x188 := (hp 2 rfl).1
        refine WL.indexAddr hs (Γx.length + 2) (getApp rfl) UN23 TI41 e219 e220 hxx211 (fun ad212 hs => ?_)
        have hs := hs.add (it := pl t_api_Update x211 ad212) fun ok hA => hA.get 0 rfl
        exact WL.nil ⟨rfl, _, rfl, ⟨ad212, rfl⟩, hs.cutG 1 1⟩
      · intro ρ w Γx Λx hs hu hp
        obtain ⟨⟨ad221, e222r⟩, hm223⟩ := hp 3 rfl
        have e222 : ρ 41 = .pointer (some ad221) := e222r
        rw [e222r] at hm223
        have hs := hs.memo1 (it := pl t_api_Update x211 ad221) (List.mem_append.2 (.inl (hm223 _ (List.mem_of_getElem? (i := 0) rfl))))
        refine WL.loadP hs 0 rfl TI41 (.inl rfl) e222 (fun v213 hs => ?_)
        obtain ⟨cs214, hl215, rfl⟩ := hs.aggv (n := 4) 0 rfl rfl rfl
        have hs := hs.add (it := vl t_api_Update x211 (.agg cs214.toArray)) fun ok hA => hA.get 0 rfl
        exact WL.nil ⟨rfl, _, rfl, ⟨cs214, rfl⟩, hs.cutG 1 2⟩
      · intro ρ w Γx Λx hs hu hp
        have e224 : ρ 38 = .agg ([.slice a190 x189.length c191] : List Value).toArray := (hp 0 rfl).1
        obtain ⟨⟨cs225, e227r⟩, hm228⟩ := hp 4 rfl
        have e227 : ρ 42 = .agg cs225.toArray := e227r
        rw [e227r] at hm228
        have hs := hs.memo1 (it := vl t_api_Update x211 (.agg cs225.toArray)) (List.mem_append.2 (.inl (hm228 _ (List.mem_of_getElem? (i := 0) rfl))))
        have hl226 := hs.agglen (n := 4) 0 rfl rfl rfl
        have hs := hs.add (it := vl t_fold_Store (⟨x189⟩ : fold_Store) (.agg [.slice a190 x189.length c191].toArray)) fun ok hA => V_agg ((R_one (hA.get (Γx.length + 4 + 1) (getApp1 rfl)))) rfl
        refine WL.call (vs := [.agg ([.slice a190 x189.length c191] : List Value).toArray, .agg cs225.toArray]) hs FN22 ⟨e224, ⟨e227, trivial⟩⟩ (fun ok hA => fold_Apply.calls (x1 := (⟨x189⟩ : fold_Store)) (x2 := x211) hxx216 (hA.get 0 rfl) (hA.get 1 rfl)) ?_
        rintro cs217 w hs
        have hl218 := hs.agglen (n := 1) 0 rfl rfl rfl
        have hs := hs.add (it := vl t_fold_Store x216 (.agg cs217.toArray)) fun ok hA => hA.get 0 rfl
        exact WL.nil ⟨rfl, _, rfl, ⟨cs217, rfl⟩, hs.cutG 1 3⟩
      · intro ρ w hs hu229 hp
        obtain ⟨⟨⟨⟨⟨⟨_, hp0_⟩, hp1_⟩, hp2_⟩, hp3_⟩, hp4_⟩, hp5_⟩ := hp
        have hs : St ok (bz w0) w [vl t_fold_Store x216 (ρ 43), vl t_api_Update x211 (ρ 42), pl t_api_Update x211 (adOf (ρ 41)), vl t_api_Update x204 (.agg cs207.toArray), pl t_api_Update x204 ad205, vl (tSlice t_api_Update) x7 (.slice a8 x7.length c10), vl (tSlice t_api_Update) x12 (.slice a13 x12.length c15), vl (tSlice t_fold_Object) x189 (.slice a190 x189.length c191), vl t_fold_Store x20 (.agg cs21.toArray), vl t_fold_Store x17 (.agg cs18.toArray)] [blk g26 29 [.slice a190 x189.length c191], blk g24 29 cs21, blk g23 29 cs18] := hs
        obtain ⟨cs230, e232⟩ := hp5_
        have e232 : ρ 43 = .agg cs230.toArray := e232
        try rw [e232] at hs
        obtain ⟨cs233, e235⟩ := hp4_
        have e235 : ρ 42 = .agg cs233.toArray := e235
        try rw [e235] at hs
        obtain ⟨ad236, e237⟩ := hp3_
        have e237 : ρ 41 = .pointer (some ad236) := e237
        try rw [e237] at hs
        have e238 : ρ 40 = .int .i64 x188 := hp2_
        have e239 : ρ 39 = .slice a8 x7.length c10 := hp1_
        have e240 : ρ 38 = .agg ([.slice a190 x189.length c191] : List Value).toArray := hp0_
        have hl234 := hs.agglen (n := 4) 1 rfl rfl rfl
        have hl231 := hs.agglen (n := 1) 0 rfl rfl rfl
        refine WA.step [6] (by kernel_rfl) (by simp) ⟨?_, trivial⟩
        refine WL.storeAll (vs := cs230) hs 0 rfl TI29 ((hu229 9 rfl).trans h187_9) e232 rfl hl231 (hs.ones 0 rfl rfl) rfl (fun w hs => ?_)
        refine WL.nil ⟨rfl, _, rfl, ?_⟩
        refine WA.done (by kernel_rfl) ?_
        obtain ⟨a243, c244, rfl⟩ := open_fold_Store hs 0 rfl
        have hs := hs.add (it := vl (tSlice t_fold_Object) x216.Objects (.slice a243 (x216.Objects).length c244)) fun ok hA => V_fld F_fold_Store_Objects (hA.get 0 rfl) rfl rfl rfl
        exact Jk201 x216.Objects a243 c244 _ _ ((hu229 5 rfl).trans h187_5) ((hu229 6 rfl).trans h187_6) ((hu229 7 rfl).trans h187_7) ((hu229 8 rfl).trans h187_8) ((hu229 9 rfl).trans h187_9) ((hu229 10 rfl).trans h187_10) ((hs.mask [true, true, true]).pick [6, 7, 0, 9, 10]) hf
    · refine W.cond_false (bool_tr rfl hc210) ?_
      refine W.skip ?_
      exact Jk201 x189 a190 c191 _ _ h187_5 h187_6 h187_7 h187_8 h187_9 h187_10 ((hs.mask [true, true, true]).pick [2, 3, 4, 5, 6]) hf
  · refine W.cond_false (bool_tr rfl hc195) ?_
    refine W.exit ?_
    have hr := Option.some.inj hf; subst hr
    have hr := hbbs192 _ rfl; subst hr
    have hf := hfs192
    exact Jk32 x189 a190 c191 _ _ h187_7 h187_8 h187_9 ((hs.mask [true, true, true]).pick [2, 3, 4]) hf
/-! elasticstore/elasticstorelaw30.earlier: function 29 -/
theorem eslaw30_earlier.calls {ok : Nat → Prop} {w0 : World} {x1 : fold_Register} {x5 : fold_Register} {v2 : Value} {v6 : Value} {r : Bool} (hf : eslaw30_earlier x1 x5 = some r) (i0 : (vl t_fold_Register x1 v2).holds ok w0) (i1 : (vl t_fold_Register x5 v6).holds ok w0) :
    Calls Try.prog 29 #[v2, v6] w0 fun e w' => ∃ v, e = .returned v ∧ ∃ y : Unit, v = .bool r ∧ St ok (bz w0) w' [] [] := by
  unfold eslaw30_earlier at hf
  refine calls_of_W (fn := Try.f29) (N := 38) Try.func29 rfl Try.ntmps29 rfl ?_
  have hs : St ok (bz w0) w0 [vl t_fold_Register x1 v2, vl t_fold_Register x5 v6] [] := St.init (All.cons i0 (All.cons i1 All.nil))
  clear i0 i1
  obtain ⟨cs3, hl4, rfl⟩ := hs.aggv (n := 6) 0 rfl rfl rfl
  obtain ⟨cs7, hl8, rfl⟩ := hs.aggv (n := 6) 1 rfl rfl rfl
  refine W.seqK fun K9 hK9 => ?_
  refine W.region ?_
  refine WL.box (vs := cs3) hs rfl rfl (fun g10 w hs => ?_)
  refine WL.box (vs := cs7) hs rfl rfl (fun g11 w hs => ?_)
  refine WL.assign (v := .bool false) rfl ?_
  refine WL.nil ?_
  refine hK9 _ _ ?_
  refine W.seqK fun K12 hK12 => ?_
  have Jk15 : ∀ (x14 : Bool) (ρ : Env) (w : World), ρ 4 = .bool x14 → St ok (bz w0) w [] [] → eslaw30_earlier.j1 x14 = some r → K12 ρ w := by
    intro x14 ρ w h13_4 hs hf
    refine hK12 _ _ ?_
    unfold eslaw30_earlier.j1 at hf
    refine W.ret ?_
    have hr := Option.some.inj hf; subst hr
    exact ⟨_, resOk_one rfl h13_4, (), rfl, (hs.mask []).pick []⟩
  refine W.region ?_
  refine WL.fieldAddr (m := 1) rfl FA54_1 rfl ?_
  refine WL.loadF (z := x1.Tag) F_fold_Register_Tag hs 1 rfl 0 rfl rfl TI3 (.inr rfl) rfl rfl (fun v16 hs => ?_)
  obtain rfl := hs.int 0 rfl
  refine WL.fieldAddr (m := 1) rfl FA54_1 rfl ?_
  refine WL.loadF (z := x5.Tag) F_fold_Register_Tag hs 0 rfl 2 rfl rfl TI3 (.inr rfl) rfl rfl (fun v17 hs => ?_)
  obtain rfl := hs.int 0 rfl
  refine WL.bin (v := .bool (decide (x1.Tag < x5.Tag))) rfl rfl (ib_lss _ _ _) ?_
  refine WL.move (v := .bool (decide (x1.Tag < x5.Tag))) rfl ?_
  rcases iteE hf with ⟨hc18, hf⟩ | ⟨hc18, hf⟩
  · refine WL.pass ((wanted_of rfl rfl (bool_tr rfl hc18)).trans rfl) rfl ?_
    refine WL.pass ((wanted_of rfl rfl (bool_tr rfl hc18)).trans rfl) rfl ?_
    refine WL.pass ((wanted_of rfl rfl (bool_tr rfl hc18)).trans rfl) rfl ?_
    refine WL.pass ((wanted_of rfl rfl (bool_tr rfl hc18)).trans rfl) rfl ?_
    refine WL.pass ((wanted_of rfl rfl (bool_tr rfl hc18)).trans rfl) rfl ?_
    refine WL.pass ((wanted_of rfl rfl (bool_tr rfl hc18)).trans rfl) rfl ?_
    refine WL.pass (wanted_undef rfl rfl rfl) rfl ?_
    refine WL.pass (wanted_undef rfl rfl rfl) rfl ?_
    refine WL.pass (wanted_undef rfl rfl rfl) rfl ?_
    refine WL.pass (wanted_undef rfl rfl rfl) rfl ?_
    refine WL.pass (wanted_undef rfl rfl rfl) rfl ?_
    refine WL.pass (wanted_undef rfl rfl rfl) rfl ?_
    refine WL.pass (wanted_undef rfl rfl rfl) rfl ?_
    refine WL.pass (wanted_undef rfl rfl rfl) rfl ?_
    refine WL.pass (wanted_undef rfl rfl rfl) rfl ?_
    refine WL.pass (wanted_undef rfl rfl rfl) rfl ?_
    refine WL.pass (wanted_undef rfl rfl rfl) rfl ?_
    refine WL.pass (wanted_undef rfl rfl rfl) rfl ?_
    refine WL.pass (wanted_undef rfl rfl rfl) rfl ?_
    refine WL.pass (wanted_undef rfl rfl rfl) rfl ?_
    refine WL.pass (wanted_undef rfl rfl rfl) rfl ?_
    refine WL.pass (wanted_undef rfl rfl rfl) rfl ?_
    refine WL.pass (wanted_undef rfl rfl rfl) rfl ?_
    refine WL.pass (wanted_undef rfl rfl rfl) rfl ?_
    refine WL.pass (wanted_undef rfl rfl rfl) rfl ?_
    refine WL.pass ((wanted_of rfl rfl (bool_tr rfl hc18)).trans rfl) rfl ?_
    refine WL.pickT (v := .bool true) (bool_tr rfl hc18) rfl ?_
    refine WL.assign (v := .bool true) rfl ?_
    refine WL.nil ?_
    exact Jk15 true _ _ rfl ((hs.mask []).pick []) hf
  · refine WL.fieldAddr (m := 1) rfl FA54_1 rfl ?_ (hg := (wanted_of rfl rfl (bool_tr rfl hc18)).trans rfl)
    refine WL.loadF (z := x1.Tag) F_fold_Register_Tag hs 1 rfl 2 rfl rfl TI3 (.inr rfl) rfl rfl (fun v19 hs => ?_) (hg := (wanted_of rfl rfl (bool_tr rfl hc18)).trans rfl)
    obtain rfl := hs.int 0 rfl
    refine WL.fieldAddr (m := 1) rfl FA54_1 rfl ?_ (hg := (wanted_of rfl rfl (bool_tr rfl hc18)).trans rfl)
    refine WL.loadF (z := x5.Tag) F_fold_Register_Tag hs 0 rfl 4 rfl rfl TI3 (.inr rfl) rfl rfl (fun v20 hs => ?_) (hg := (wanted_of rfl rfl (bool_tr rfl hc18)).trans rfl)
    obtain rfl := hs.int 0 rfl
    refine WL.bin (v := .bool (x1.Tag == x5.Tag)) rfl rfl (ib_eql _ _ _) ?_ (hg := (wanted_of rfl rfl (bool_tr rfl hc18)).trans rfl)
    refine WL.move (v := .bool (x1.Tag == x5.Tag)) rfl ?_ (hg := (wanted_of rfl rfl (bool_tr rfl hc18)).trans rfl)
    rcases iteE hf with ⟨hc21, hf⟩ | ⟨hc21, hf⟩
    · refine WL.fieldAddr (m := 2) rfl FA54_2 rfl ?_ (hg := (wanted_of rfl rfl (bool_tr rfl hc21)).trans rfl)
      refine WL.loadF (z := x1.Client) F_fold_Register_Client hs 1 rfl 4 rfl rfl TI3 (.inr rfl) rfl rfl (fun v22 hs => ?_) (hg := (wanted_of rfl rfl (bool_tr rfl hc21)).trans rfl)
      obtain rfl := hs.int 0 rfl
      refine WL.fieldAddr (m := 2) rfl FA54_2 rfl ?_ (hg := (wanted_of rfl rfl (bool_tr rfl hc21)).trans rfl)
      refine WL.loadF (z := x5.Client) F_fold_Register_Client hs 0 rfl 6 rfl rfl TI3 (.inr rfl) rfl rfl (fun v23 hs => ?_) (hg := (wanted_of rfl rfl (bool_tr rfl hc21)).trans rfl)
      obtain rfl := hs.int 0 rfl
      refine WL.bin (v := .bool (decide (x1.Client < x5.Client))) rfl rfl (ib_lss _ _ _) ?_ (hg := (wanted_of rfl rfl (bool_tr rfl hc21)).trans rfl)
      refine WL.move (v := .bool (decide (x1.Client < x5.Client))) rfl ?_ (hg := (wanted_of rfl rfl (bool_tr rfl hc21)).trans rfl)
      rcases iteE hf with ⟨hc24, hf⟩ | ⟨hc24, hf⟩
      · refine WL.pass ((wanted_of rfl rfl (bool_tr rfl hc24)).trans rfl) rfl ?_
        refine WL.pass ((wanted_of rfl rfl (bool_tr rfl hc24)).trans rfl) rfl ?_
        refine WL.pass ((wanted_of rfl rfl (bool_tr rfl hc24)).trans rfl) rfl ?_
        refine WL.pass ((wanted_of rfl rfl (bool_tr rfl hc24)).trans rfl) rfl ?_
        refine WL.pass ((wanted_of rfl rfl (bool_tr rfl hc24)).trans rfl) rfl ?_
        refine WL.pass ((wanted_of rfl rfl (bool_tr rfl hc24)).trans rfl) rfl ?_
        refine WL.pass (wanted_undef rfl rfl rfl) rfl ?_
        refine WL.pass (wanted_undef rfl rfl rfl) rfl ?_
        refine WL.pass (wanted_undef rfl rfl rfl) rfl ?_
        refine WL.pass (wanted_undef rfl rfl rfl) rfl ?_
        refine WL.pass (wanted_undef rfl rfl rfl) rfl ?_
        refine WL.pass ((wanted_of rfl rfl (bool_tr rfl hc24)).trans rfl) rfl ?_
        refine WL.pickT (v := .bool true) (bool_tr rfl hc24) rfl ?_ (hg := (wanted_of rfl rfl (bool_tr rfl hc21)).trans rfl)
        refine WL.pickT (v := .bool true) (bool_tr rfl hc21) rfl ?_ (hg := (wanted_of rfl rfl (bool_tr rfl hc18)).trans rfl)
        refine WL.pickF (v := .bool true) (bool_tr rfl hc18) rfl ?_
        refine WL.assign (v := .bool true) rfl ?_
        refine WL.nil ?_
        exact Jk15 true _ _ rfl ((hs.mask []).pick []) hf
      · refine WL.fieldAddr (m := 2) rfl FA54_2 rfl ?_ (hg := (wanted_of rfl rfl (bool_tr rfl hc24)).trans rfl)
        refine WL.loadF (z := x1.Client) F_fold_Register_Client hs 1 rfl 6 rfl rfl TI3 (.inr rfl) rfl rfl (fun v25 hs => ?_) (hg := (wanted_of rfl rfl (bool_tr rfl hc24)).trans rfl)
        obtain rfl := hs.int 0 rfl
        refine WL.fieldAddr (m := 2) rfl FA54_2 rfl ?_ (hg := (wanted_of rfl rfl (bool_tr rfl hc24)).trans rfl)
        refine WL.loadF (z := x5.Client) F_fold_Register_Client hs 0 rfl 8 rfl rfl TI3 (.inr rfl) rfl rfl (fun v26 hs => ?_) (hg := (wanted_of rfl rfl (bool_tr rfl hc24)).trans rfl)
        obtain rfl := hs.int 0 rfl
        refine WL.bin (v := .bool (x1.Client == x5.Client)) rfl rfl (ib_eql _ _ _) ?_ (hg := (wanted_of rfl rfl (bool_tr rfl hc24)).trans rfl)
        refine WL.move (v := .bool (x1.Client == x5.Client)) rfl ?_ (hg := (wanted_of rfl rfl (bool_tr rfl hc24)).trans rfl)
        rcases iteE hf with ⟨hc27, hf⟩ | ⟨hc27, hf⟩
        · refine WL.fieldAddr (m := 3) rfl FA54_3 rfl ?_ (hg := (wanted_of rfl rfl (bool_tr rfl hc27)).trans rfl)
          refine WL.loadF (z := x1.Seq) F_fold_Register_Seq hs 1 rfl 8 rfl rfl TI3 (.inr rfl) rfl rfl (fun v28 hs => ?_) (hg := (wanted_of rfl rfl (bool_tr rfl hc27)).trans rfl)
          obtain rfl := hs.int 0 rfl
          refine WL.fieldAddr (m := 3) rfl FA54_3 rfl ?_ (hg := (wanted_of rfl rfl (bool_tr rfl hc27)).trans rfl)
          refine WL.loadF (z := x5.Seq) F_fold_Register_Seq hs 0 rfl 10 rfl rfl TI3 (.inr rfl) rfl rfl (fun v29 hs => ?_) (hg := (wanted_of rfl rfl (bool_tr rfl hc27)).trans rfl)
          obtain rfl := hs.int 0 rfl
          refine WL.bin (v := .bool (decide (x1.Seq < x5.Seq))) rfl rfl (ib_lss _ _ _) ?_ (hg := (wanted_of rfl rfl (bool_tr rfl hc27)).trans rfl)
          refine WL.pickT (v := .bool (decide (x1.Seq < x5.Seq))) (bool_tr rfl hc27) rfl ?_ (hg := (wanted_of rfl rfl (bool_tr rfl hc24)).trans rfl)
          refine WL.pickF (v := .bool (decide (x1.Seq < x5.Seq))) (bool_tr rfl hc24) rfl ?_ (hg := (wanted_of rfl rfl (bool_tr rfl hc21)).trans rfl)
          refine WL.pickT (v := .bool (decide (x1.Seq < x5.Seq))) (bool_tr rfl hc21) rfl ?_ (hg := (wanted_of rfl rfl (bool_tr rfl hc18)).trans rfl)
          refine WL.pickF (v := .bool (decide (x1.Seq < x5.Seq))) (bool_tr rfl hc18) rfl ?_
          refine WL.assign (v := .bool (decide (x1.Seq < x5.Seq))) rfl ?_
          refine WL.nil ?_
          exact Jk15 (decide (x1.Seq < x5.Seq)) _ _ rfl ((hs.mask []).pick []) hf
        · refine WL.pass ((wanted_of rfl rfl (bool_tr rfl hc27)).trans rfl) rfl ?_
          refine WL.pass ((wanted_of rfl rfl (bool_tr rfl hc27)).trans rfl) rfl ?_
          refine WL.pass ((wanted_of rfl rfl (bool_tr rfl hc27)).trans rfl) rfl ?_
          refine WL.pass ((wanted_of rfl rfl (bool_tr rfl hc27)).trans rfl) rfl ?_
          refine WL.pass ((wanted_of rfl rfl (bool_tr rfl hc27)).trans rfl) rfl ?_
          refine WL.pickF (v := .bool false) (bool_tr rfl hc27) rfl ?_ (hg := (wanted_of rfl rfl (bool_tr rfl hc24)).trans rfl)
          refine WL.pickF (v := .bool false) (bool_tr rfl hc24) rfl ?_ (hg := (wanted_of rfl rfl (bool_tr rfl hc21)).trans rfl)
          refine WL.pickT (v := .bool false) (bool_tr rfl hc21) rfl ?_ (hg := (wanted_of rfl rfl (bool_tr rfl hc18)).trans rfl)
          refine WL.pickF (v := .bool false) (bool_tr rfl hc18) rfl ?_
          refine WL.assign (v := .bool false) rfl ?_
          refine WL.nil ?_
          exact Jk15 false _ _ rfl ((hs.mask []).pick []) hf
    · refine WL.pass ((wanted_of rfl rfl (bool_tr rfl hc21)).trans rfl) rfl ?_
      refine WL.pass ((wanted_of rfl rfl (bool_tr rfl hc21)).trans rfl) rfl ?_
      refine WL.pass ((wanted_of rfl rfl (bool_tr rfl hc21)).trans rfl) rfl ?_
      refine WL.pass ((wanted_of rfl rfl (bool_tr rfl hc21)).trans rfl) rfl ?_
      refine WL.pass ((wanted_of rfl rfl (bool_tr rfl hc21)).trans rfl) rfl ?_
      refine WL.pass ((wanted_of rfl rfl (bool_tr rfl hc21)).trans rfl) rfl ?_
      refine WL.pass (wanted_undef rfl rfl rfl) rfl ?_
      refine WL.pass (wanted_undef rfl rfl rfl) rfl ?_
      refine WL.pass (wanted_undef rfl rfl rfl) rfl ?_
      refine WL.pass (wanted_undef rfl rfl rfl) rfl ?_
      refine WL.pass (wanted_undef rfl rfl rfl) rfl ?_
      refine WL.pass (wanted_undef rfl rfl rfl) rfl ?_
      refine WL.pass (wanted_undef rfl rfl rfl) rfl ?_
      refine WL.pass (wanted_undef rfl rfl rfl) rfl ?_
      refine WL.pass (wanted_undef rfl rfl rfl) rfl ?_
      refine WL.pass (wanted_undef rfl rfl rfl) rfl ?_
      refine WL.pass (wanted_undef rfl rfl rfl) rfl ?_
      refine WL.pass (wanted_undef rfl rfl rfl) rfl ?_
      refine WL.pass ((wanted_of rfl rfl (bool_tr rfl hc21)).trans rfl) rfl ?_
      refine WL.pickF (v := .bool false) (bool_tr rfl hc21) rfl ?_ (hg := (wanted_of rfl rfl (bool_tr rfl hc18)).trans rfl)
      refine WL.pickF (v := .bool false) (bool_tr rfl hc18) rfl ?_
      refine WL.assign (v := .bool false) rfl ?_
      refine WL.nil ?_
      exact Jk15 false _ _ rfl ((hs.mask []).pick []) hf
/-! elasticstore/elasticstoreref32.Has: function 30 -/
theorem esref32_Has.calls {ok : Nat → Prop} {w0 : World} {x1 : List (List UInt8)} {x4 : List UInt8} {a2 : Option Addr} {c3 : Nat} {r : Bool} (hf : esref32_Has x1 x4 = some r) (i0 : (vl (tSlice tStr) x1 (.slice a2 x1.length c3)).holds ok w0) :
    Calls Try.prog 30 #[.slice a2 x1.length c3, bstr x4] w0 fun e w' => ∃ v, e = .returned v ∧ ∃ y : Unit, v = .bool r ∧ St ok (bz w0) w' [] [] := by
  unfold esref32_Has at hf
  refine calls_of_W (fn := Try.f30) (N := 18) Try.func30 rfl Try.ntmps30 rfl ?_
  have hs : St ok (bz w0) w0 [vl (tSlice tStr) x1 (.slice a2 x1.length c3)] [] := St.init (All.cons i0 All.nil)
  clear i0
  refine W.seqK fun K5 hK5 => ?_
  refine W.region ?_
  refine WL.assign (v := .bool false) rfl ?_
  refine WL.nil ?_
  refine hK5 _ _ ?_
  refine W.seqK fun K6 hK6 => ?_
  have Jk8 : ∀  (ρ : Env) (w : World), St ok (bz w0) w [] [] → esref32_Has.j1 = some r → K6 ρ w := by
    intro  ρ w  hs hf
    refine hK6 _ _ ?_
    unfold esref32_Has.j1 at hf
    refine W.seqK fun K9 hK9 => ?_
    refine W.region ?_
    refine WL.assign (v := .bool false) rfl ?_
    refine WL.nil ?_
    refine hK9 _ _ ?_
    refine W.ret ?_
    have hr := Option.some.inj hf; subst hr
    exact ⟨_, resOk_one rfl rfl, (), rfl, (hs.mask []).pick []⟩
  refine W.seqK fun K10 hK10 => ?_
  refine W.region ?_
  refine WL.assign (v := .int .i64 0) rfl ?_
  refine WL.nil ?_
  refine hK10 _ _ ?_
  refine W.block ?_
  obtain ⟨bs13, hbs13, hfs13⟩ := bindE hf
  refine W.loop hbs13 (fun s ρ w => match s with | x12 => ρ 0 = .slice a2 x1.length c3 ∧ ρ 1 = bstr x4 ∧ ρ 5 = .int .i64 x12 ∧ St ok (bz w0) w [vl (tSlice tStr) x1 (.slice a2 x1.length c3)] []) ⟨rfl, rfl, rfl, (hs.mask []).pick [0]⟩ ?_
  intro x12 ρ w os13 hI hf hbbs13
  obtain ⟨h11_0, h11_1, h11_5, hs⟩ := hI
  unfold esref32_Has.l1 at hf
  refine W.seqK fun K14 hK14 => ?_
  refine W.seqK fun K15 hK15 => ?_
  refine W.region ?_
  refine WL.move (v := .int .i64 x12) h11_5 ?_
  refine WL.move (v := .slice a2 x1.length c3) h11_0 ?_
  refine WL.len (v := .slice a2 x1.length c3) rfl (len_slice UN55) ?_
  refine WL.bin (v := .bool (decide (x12 < (x1.length : Int)))) rfl rfl (ib_lss _ _ _) ?_
  refine WL.nil ?_
  refine hK15 _ _ ?_
  rcases iteE hf with ⟨hc16, hf⟩ | ⟨hc16, hf⟩
  · refine W.cond_true (bool_tr rfl hc16) ?_
    refine W.skip ?_
    refine hK14 _ _ ?_
    refine W.seqK fun K17 hK17 => ?_
    refine W.block ?_
    refine W.seqK fun K18 hK18 => ?_
    refine W.region ?_
    refine WL.move (v := .slice a2 x1.length c3) h11_0 ?_
    refine WL.move (v := .int .i64 x12) h11_5 ?_
    obtain ⟨x19, hxx19, hf⟩ := bindE hf
    refine WL.indexAddr hs 0 rfl UN55 TI9 rfl rfl hxx19 (fun ad20 hs => ?_)
    refine WL.loadP hs 0 rfl TI9 (.inr rfl) rfl (fun v21 hs => ?_)
    obtain rfl := hs.str 0 rfl
    refine WL.move (v := bstr x4) h11_1 ?_
    refine WL.binS (v := .bool (x19 == x4)) rfl rfl (sb_eql _ _) ?_
    refine WL.nil ?_
    refine hK18 _ _ ?_
    rcases iteE hf with ⟨hc22, hf⟩ | ⟨hc22, hf⟩
    · refine W.cond_true (bool_tr rfl hc22) ?_
      refine W.seqK fun K23 hK23 => ?_
      refine W.region ?_
      refine WL.assign (v := .bool true) rfl ?_
      refine WL.nil ?_
      refine hK23 _ _ ?_
      refine W.ret ?_
      have hr := Option.some.inj hf; subst hr
      have hr := hbbs13 _ rfl; subst hr
      have hf := hfs13
      have hr := Option.some.inj hf; subst hr
      exact ⟨_, resOk_one rfl rfl, (), rfl, (hs.mask []).pick []⟩
    · refine W.cond_false (bool_tr rfl hc22) ?_
      refine W.skip ?_
      refine hK17 _ _ ?_
      refine W.region ?_
      refine WL.move (v := .int .i64 x12) h11_5 ?_
      obtain ⟨x24, ex24, hf⟩ := letE hf
      refine WL.bin (v := .int .i64 x24) rfl rfl (ib_as ex24 (ib_add _ _ _)) ?_
      refine WL.assign (v := .int .i64 x24) rfl ?_
      refine WL.nil ?_
      exact ⟨_, (Option.some.inj hf).symm, h11_0, h11_1, rfl, (hs.mask []).pick [2]⟩
  · refine W.cond_false (bool_tr rfl hc16) ?_
    refine W.exit ?_
    have hr := Option.some.inj hf; subst hr
    have hr := hbbs13 _ rfl; subst hr
    have hf := hfs13
    exact Jk8  _ _  ((hs.mask []).pick []) hf
end Go.Proofs.Ytlbcfjblpopcnaa
