import Derived.Test.YtlbcfjblpopcnaaFh
import Derived.Test.YtlbcfjblpopcnaaLz
import Derived.Test.YtlbcfjblpopcnaaFp1
import Derived.Test.YtlbcfjblpopcnaaFp2
import Derived.Test.YtlbcfjblpopcnaaFp5
import Derived.Test.YtlbcfjblpopcnaaFp8
set_option linter.unusedVariables false
set_option linter.unusedSimpArgs false
namespace Go.Proofs.Ytlbcfjblpopcnaa
open Go Go.RowKit Go.Proofs.YtlbcfjblpopcnaaL
set_option maxRecDepth 100000
set_option maxHeartbeats 4000000
/-! elasticstore/elasticstorelaw30.FoldGrows: function 7 -/
theorem eslaw30_FoldGrows.calls {ok : Nat → Prop} {w0 : World} {x1 : List Int} {x4 : Int} {a2 : Option Addr} {c3 : Nat} {r : Bool} (hf : eslaw30_FoldGrows x1 x4 = some r) (i0 : (vl (tSlice (tInt .i64)) x1 (.slice a2 x1.length c3)).holds ok w0) :
    Calls Try.prog 7 #[.slice a2 x1.length c3, .int .i64 x4] w0 fun e w' => ∃ v, e = .returned v ∧ ∃ y : Unit, v = .bool r ∧ St ok (bz w0) w' [] [] := by
  unfold eslaw30_FoldGrows at hf
  refine calls_of_W (fn := Try.f7) (N := 117) Try.func7 rfl Try.ntmps7 rfl ?_
  have hs : St ok (bz w0) w0 [vl (tSlice (tInt .i64)) x1 (.slice a2 x1.length c3)] [] := St.init (All.cons i0 All.nil)
  clear i0
  refine W.seqK fun K5 hK5 => ?_
  refine W.region ?_
  refine WL.assign (v := .bool false) rfl ?_
  refine WL.nil ?_
  refine hK5 _ _ ?_
  refine W.seqK fun K6 hK6 => ?_
  refine W.region ?_
  refine WL.move (v := .slice a2 x1.length c3) rfl ?_
  obtain ⟨x7, hxx7, hf⟩ := bindE hf
  refine WL.call (vs := [.slice a2 x1.length c3]) hs FN19 ⟨rfl, trivial⟩ (fun ok hA => eslaw00_Updates.calls (x1 := x1) hxx7 (hA.get 0 rfl)) ?_
  rintro ⟨a8, n9, c10⟩ w hs
  refine WL.assign (v := .slice a8 n9 c10) rfl ?_
  refine WL.nil ?_
  refine hK6 _ _ ?_
  refine W.seqK fun K11 hK11 => ?_
  refine W.region ?_
  refine WL.move (v := .slice a8 n9 c10) rfl ?_
  refine WL.move (v := .int .i64 x4) rfl ?_
  obtain rfl := hs.ownLen 0 rfl
  have hs := hs.freezeOwn 0 rfl
  obtain ⟨x12, hxx12, hf⟩ := bindE hf
  refine WL.call (vs := [.slice a8 x7.length c10, .int .i64 x4]) hs FN18 ⟨rfl, ⟨rfl, trivial⟩⟩ (fun ok hA => eslaw00_Some.calls (x1 := x7) (x4 := x4) hxx12 (hA.get 0 rfl)) ?_
  rintro ⟨a13, n14, c15⟩ w hs
  obtain rfl := hs.ownLen 0 rfl
  have hs := hs.freezeOwn 0 rfl
  obtain ⟨x16, hxx16, hf⟩ := bindE hf
  refine WL.call (vs := [.slice a13 x12.length c15]) hs FN13 ⟨rfl, trivial⟩ (fun ok hA => fold_Fold.calls (x1 := x12) hxx16 (hA.get 0 rfl)) ?_
  rintro cs17 w hs
  have hl18 := hs.agglen (n := 1) 0 rfl rfl rfl
  refine WL.move (v := .slice a8 x7.length c10) rfl ?_
  obtain ⟨x19, hxx19, hf⟩ := bindE hf
  refine WL.call (vs := [.slice a8 x7.length c10]) hs FN13 ⟨rfl, trivial⟩ (fun ok hA => fold_Fold.calls (x1 := x7) hxx19 (hA.get 2 rfl)) ?_
  rintro cs20 w hs
  have hl21 := hs.agglen (n := 1) 0 rfl rfl rfl
  refine WL.alloc hs ZV29 (fun g22 w hs => ?_)
  refine WL.alloc hs ZV29 (fun g23 w hs => ?_)
  refine WL.storeAll (vs := cs17) hs 1 rfl TI29 rfl rfl rfl hl18 (hs.ones 1 rfl rfl) rfl (fun w hs => ?_)
  refine WL.storeAll (vs := cs20) hs 0 rfl TI29 rfl rfl rfl hl21 (hs.ones 0 rfl rfl) rfl (fun w hs => ?_)
  refine WL.nil ?_
  refine hK11 _ _ ?_
  refine W.seqK fun K24 hK24 => ?_
  have Jk26 : ∀  (ρ : Env) (w : World), St ok (bz w0) w [] [] → eslaw30_FoldGrows.j1 = some r → K24 ρ w := by
    intro  ρ w  hs hf
    refine hK24 _ _ ?_
    unfold eslaw30_FoldGrows.j1 at hf
    refine W.seqK fun K27 hK27 => ?_
    refine W.region ?_
    obtain ⟨x28, hxx28, hf⟩ := bindE hf
    refine WL.call (vs := []) hs FN12 trivial (fun ok hA => eslaw30_awake.calls hxx28) ?_
    rintro _ w hs
    refine WL.assign (v := .bool x28) rfl ?_
    refine WL.nil ?_
    refine hK27 _ _ ?_
    refine W.ret ?_
    have hr := Option.some.inj hf; subst hr
    exact ⟨_, resOk_one rfl rfl, (), rfl, (hs.mask []).pick []⟩
  refine W.seqK fun K29 hK29 => ?_
  refine W.region ?_
  refine WL.assign (v := .int .i64 0) rfl ?_
  refine WL.nil ?_
  refine hK29 _ _ ?_
  refine W.block ?_
  obtain ⟨bs32, hbs32, hfs32⟩ := bindE hf
  refine W.loop hbs32 (fun s ρ w => match s with | x31 => ρ 6 = .pointer (some ⟨g22, 0, none⟩) ∧ ρ 7 = .pointer (some ⟨g23, 0, none⟩) ∧ ρ 8 = .int .i64 x31 ∧ St ok (bz w0) w [vl t_fold_Store x19 (.agg cs20.toArray), vl t_fold_Store x16 (.agg cs17.toArray)] [blk g23 29 cs20, blk g22 29 cs17]) ⟨rfl, rfl, rfl, (hs.mask [true, true]).pick [0, 1]⟩ ?_
  intro x31 ρ w os32 hI hf hbbs32
  obtain ⟨h30_6, h30_7, h30_8, hs⟩ := hI
  unfold eslaw30_FoldGrows.l3 at hf
  refine W.seqK fun K33 hK33 => ?_
  refine W.seqK fun K34 hK34 => ?_
  refine W.region ?_
  refine WL.move (v := .int .i64 x31) h30_8 ?_
  refine WL.fieldAddr (m := 0) h30_6 FA29_0 rfl ?_
  refine WL.loadF (z := x16.Objects) F_fold_Store_Objects hs 1 rfl 1 rfl rfl TI27 (.inr rfl) rfl rfl (fun v35 hs => ?_)
  obtain ⟨a36, c37, rfl⟩ := hs.slice 0 rfl
  refine WL.len (v := .slice a36 (x16.Objects).length c37) rfl (len_slice UN27) ?_
  refine WL.bin (v := .bool (decide (x31 < ((x16.Objects).length : Int)))) rfl rfl (ib_lss _ _ _) ?_
  refine WL.nil ?_
  refine hK34 _ _ ?_
  rcases iteE hf with ⟨hc38, hf⟩ | ⟨hc38, hf⟩
  · refine W.cond_true (bool_tr rfl hc38) ?_
    refine W.skip ?_
    refine hK33 _ _ ?_
    refine W.seqK fun K39 hK39 => ?_
    have Jk41 : ∀  (ρ : Env) (w : World), ρ 6 = .pointer (some ⟨g22, 0, none⟩) → ρ 7 = .pointer (some ⟨g23, 0, none⟩) → ρ 8 = .int .i64 x31 → St ok (bz w0) w [vl t_fold_Store x19 (.agg cs20.toArray), vl t_fold_Store x16 (.agg cs17.toArray)] [blk g23 29 cs20, blk g22 29 cs17] → eslaw30_FoldGrows.j2 x31 = some os32 → K39 ρ w := by
      intro  ρ w h40_6 h40_7 h40_8 hs hf
      refine hK39 _ _ ?_
      unfold eslaw30_FoldGrows.j2 at hf
      refine W.region ?_
      refine WL.move (v := .int .i64 x31) h40_8 ?_
      obtain ⟨x42, ex42, hf⟩ := letE hf
      refine WL.bin (v := .int .i64 x42) rfl rfl (ib_as ex42 (ib_add _ _ _)) ?_
      refine WL.assign (v := .int .i64 x42) rfl ?_
      refine WL.nil ?_
      exact ⟨_, (Option.some.inj hf).symm, h40_6, h40_7, rfl, (hs.mask [true, true]).pick [0, 1]⟩
    refine W.block ?_
    refine W.seqK fun K43 hK43 => ?_
    refine W.region ?_
    refine WL.fieldAddr (m := 0) h30_6 FA29_0 rfl ?_
    refine WL.loadF (z := x16.Objects) F_fold_Store_Objects hs 1 rfl 2 rfl rfl TI27 (.inr rfl) rfl rfl (fun v44 hs => ?_)
    obtain ⟨a45, c46, rfl⟩ := hs.slice 0 rfl
    refine WL.move (v := .int .i64 x31) h30_8 ?_
    obtain ⟨x47, hxx47, hf⟩ := bindE hf
    refine WL.indexAddr hs 0 rfl UN27 TI51 rfl rfl hxx47 (fun ad48 hs => ?_)
    refine WL.loadP hs 0 rfl TI51 (.inl rfl) rfl (fun v49 hs => ?_)
    obtain ⟨cs50, hl51, rfl⟩ := hs.aggv (n := 2) 0 rfl rfl rfl
    refine WL.alloc hs ZV51 (fun g52 w hs => ?_)
    refine WL.storeAll (vs := cs50) hs 0 rfl TI51 rfl rfl rfl hl51 (hs.ones 0 rfl rfl) rfl (fun w hs => ?_)
    refine WL.nil ?_
    refine hK43 _ _ ?_
    refine W.seqK fun K53 hK53 => ?_
    refine W.region ?_
    refine WL.loadAll hs 1 rfl TI29 h30_7 hl21 ?_
    refine WL.fieldAddr (m := 0) rfl FA51_0 rfl ?_
    refine WL.loadF (z := x47.Name) F_fold_Object_Name hs 0 rfl 0 rfl rfl TI9 (.inr rfl) rfl rfl (fun v54 hs => ?_)
    obtain rfl := hs.str 0 rfl
    obtain ⟨x55, hxx55, hf⟩ := bindE hf
    refine WL.call (vs := [.agg cs20.toArray, bstr x47.Name]) hs FN27 ⟨rfl, ⟨rfl, trivial⟩⟩ (fun ok hA => fold_Find.calls (x1 := x19) (x2 := x47.Name) hxx55 (hA.get 5 rfl)) ?_
    rintro cs56 w hs
    have hl57 := hs.agglen (n := 2) 0 rfl rfl rfl
    refine WL.alloc hs ZV51 (fun g58 w hs => ?_)
    refine WL.storeAll (vs := cs56) hs 0 rfl TI51 rfl rfl rfl hl57 (hs.ones 0 rfl rfl) rfl (fun w hs => ?_)
    refine WL.nil ?_
    refine hK53 _ _ ?_
    refine W.seqK fun K59 hK59 => ?_
    refine W.region ?_
    refine WL.assign (v := .int .i64 0) rfl ?_
    refine WL.nil ?_
    refine hK59 _ _ ?_
    refine W.block ?_
    obtain ⟨bs62, hbs62, hfs62⟩ := bindE hf
    refine W.loop hbs62 (fun s ρ w => match s with | x61 => ρ 6 = .pointer (some ⟨g22, 0, none⟩) ∧ ρ 7 = .pointer (some ⟨g23, 0, none⟩) ∧ ρ 8 = .int .i64 x31 ∧ ρ 9 = .pointer (some ⟨g52, 0, none⟩) ∧ ρ 10 = .pointer (some ⟨g58, 0, none⟩) ∧ ρ 11 = .int .i64 x61 ∧ St ok (bz w0) w [vl t_fold_Object x55 (.agg cs56.toArray), vl t_fold_Object x47 (.agg cs50.toArray), vl t_fold_Store x19 (.agg cs20.toArray), vl t_fold_Store x16 (.agg cs17.toArray)] [blk g58 51 cs56, blk g52 51 cs50, blk g23 29 cs20, blk g22 29 cs17]) ⟨h30_6, h30_7, h30_8, rfl, rfl, rfl, (hs.mask [true, true, true, true]).pick [0, 2, 6, 7]⟩ ?_
    intro x61 ρ w os62 hI hf hbbs62
    obtain ⟨h60_6, h60_7, h60_8, h60_9, h60_10, h60_11, hs⟩ := hI
    unfold eslaw30_FoldGrows.l2 at hf
    refine W.seqK fun K63 hK63 => ?_
    refine W.seqK fun K64 hK64 => ?_
    refine W.region ?_
    refine WL.move (v := .int .i64 x61) h60_11 ?_
    refine WL.fieldAddr (m := 1) h60_9 FA51_1 rfl ?_
    refine WL.loadF (z := x47.Fields) F_fold_Object_Fields hs 1 rfl 1 rfl rfl TI49 (.inr rfl) rfl rfl (fun v65 hs => ?_)
    obtain ⟨a66, c67, rfl⟩ := hs.slice 0 rfl
    refine WL.len (v := .slice a66 (x47.Fields).length c67) rfl (len_slice UN49) ?_
    refine WL.bin (v := .bool (decide (x61 < ((x47.Fields).length : Int)))) rfl rfl (ib_lss _ _ _) ?_
    refine WL.nil ?_
    refine hK64 _ _ ?_
    rcases iteE hf with ⟨hc68, hf⟩ | ⟨hc68, hf⟩
    · refine W.cond_true (bool_tr rfl hc68) ?_
      refine W.skip ?_
      refine hK63 _ _ ?_
      refine W.seqK fun K69 hK69 => ?_
      have Jk71 : ∀  (ρ : Env) (w : World), ρ 6 = .pointer (some ⟨g22, 0, none⟩) → ρ 7 = .pointer (some ⟨g23, 0, none⟩) → ρ 8 = .int .i64 x31 → ρ 9 = .pointer (some ⟨g52, 0, none⟩) → ρ 10 = .pointer (some ⟨g58, 0, none⟩) → ρ 11 = .int .i64 x61 → St ok (bz w0) w [vl t_fold_Object x55 (.agg cs56.toArray), vl t_fold_Object x47 (.agg cs50.toArray), vl t_fold_Store x19 (.agg cs20.toArray), vl t_fold_Store x16 (.agg cs17.toArray)] [blk g58 51 cs56, blk g52 51 cs50, blk g23 29 cs20, blk g22 29 cs17] → eslaw30_FoldGrows.j3 x61 = some os62 → K69 ρ w := by
        intro  ρ w h70_6 h70_7 h70_8 h70_9 h70_10 h70_11 hs hf
        refine hK69 _ _ ?_
        unfold eslaw30_FoldGrows.j3 at hf
        refine W.region ?_
        refine WL.move (v := .int .i64 x61) h70_11 ?_
        obtain ⟨x72, ex72, hf⟩ := letE hf
        refine WL.bin (v := .int .i64 x72) rfl rfl (ib_as ex72 (ib_add _ _ _)) ?_
        refine WL.assign (v := .int .i64 x72) rfl ?_
        refine WL.nil ?_
        exact ⟨_, (Option.some.inj hf).symm, h70_6, h70_7, h70_8, h70_9, h70_10, rfl, (hs.mask [true, true, true, true]).pick [0, 1, 2, 3]⟩
      refine W.block ?_
      refine W.seqK fun K73 hK73 => ?_
      obtain ⟨x77, hxx77, hf⟩ := bindE hf
      obtain ⟨x85, hxx85, hf⟩ := bindE hf
      obtain ⟨x89, hxx89, hf⟩ := bindE hf
      refine W.any (by kernel_rfl) 15 2 [true, true, true, true, true, true, true, true, true, true, true, true, true, true, true, false, false] rfl rfl (poAt [pv (.pointer (some ⟨g52, 1, none⟩)), pq (fun y : (Option Addr × Nat) => .slice y.1 (x47.Fields).length y.2) (fun v => [vl (tSlice t_fold_Field) x47.Fields v]) (fun v => []), pv (.int .i64 x61), pq (fun y : Addr => .pointer (some y)) (fun v => [pl t_fold_Field x77 (adOf v)]) (fun v => []), pq (fun y : List Value => .agg y.toArray) (fun v => [vl t_fold_Field x77 v]) (fun v => []), pv (.agg cs56.toArray), pv (.pointer (some ⟨g52, 1, none⟩)), pq (fun y : (Option Addr × Nat) => .slice y.1 (x47.Fields).length y.2) (fun v => [vl (tSlice t_fold_Field) x47.Fields v]) (fun v => []), pv (.int .i64 x61), pq (fun y : Addr => .pointer (some y)) (fun v => [pl t_fold_Field x85 (adOf v)]) (fun v => []), pq (fun y : Addr => .pointer (some y)) (fun v => [pl tStr x85.Name (adOf v)]) (fun v => []), pv (bstr x85.Name), pq (fun y : List Value => .agg y.toArray) (fun v => [vl t_fold_Field x89 v]) (fun v => []), pq (fun y : Nat => .pointer (some ⟨y, 0, none⟩)) (fun v => []) (fun v => [blk (gOf v) 57 ([bstr [], .bool false, .int .i64 0, .int .i64 0, .int .i64 0, .int .i64 0, bstr [], .bool false, .int .i64 0, .int .i64 0, .slice none 0 0, .bool false])]), pq (fun y : Nat => .pointer (some ⟨y, 0, none⟩)) (fun v => []) (fun v => [blk (gOf v) 57 ([bstr [], .bool false, .int .i64 0, .int .i64 0, .int .i64 0, .int .i64 0, bstr [], .bool false, .int .i64 0, .int .i64 0, .slice none 0 0, .bool false])])]) (Λ := [blk g58 51 cs56, blk g52 51 cs50, blk g23 29 cs20, blk g22 29 cs17]) hs (by kernel_rfl) (by kernel_rfl) (by kernel_rfl) ⟨⟨⟨⟨⟨⟨⟨⟨⟨⟨⟨⟨⟨⟨⟨trivial, ?_⟩, ?_⟩, ?_⟩, ?_⟩, ?_⟩, ?_⟩, ?_⟩, ?_⟩, ?_⟩, ?_⟩, ?_⟩, ?_⟩, ?_⟩, ?_⟩, ?_⟩ ?_
      · intro ρ w Γx Λx hs hu hp
        refine WL.fieldAddr (m := 1) ((hu 9 rfl).trans h60_9) FA51_1 rfl ?_
        exact WL.nil ⟨rfl, _, rfl, rfl, hs.cutG 0 0⟩
      · intro ρ w Γx Λx hs hu hp
        have e94 : ρ 46 = .pointer (some ⟨g52, 1, none⟩) := (hp 0 rfl).1
        refine WL.loadF (z := x47.Fields) F_fold_Object_Fields hs (Λx.length + 1) (getApp rfl) (Γx.length + 2) (getApp rfl) rfl TI49 (.inr rfl) e94 rfl (fun v74 hs => ?_)
        obtain ⟨a75, c76, rfl⟩ := hs.slice 0 rfl
        have hs := hs.add (it := vl (tSlice t_fold_Field) x47.Fields (.slice a75 (x47.Fields).length c76)) fun ok hA => hA.get 0 rfl
        exact WL.nil ⟨rfl, _, rfl, ⟨(a75, c76), rfl⟩, hs.cutG 1 1⟩
      · intro ρ w Γx Λx hs hu hp
        refine WL.move (v := .int .i64 x61) ((hu 11 rfl).trans h60_11) ?_
        exact WL.nil ⟨rfl, _, rfl, rfl, hs.cutG 0 0⟩
      · intro ρ w Γx Λx hs hu hp
        obtain ⟨⟨⟨a95, c96⟩, e97r⟩, hm98⟩ := hp 1 rfl
        have e97 : ρ 47 = .slice a95 (x47.Fields).length c96 := e97r
        rw [e97r] at hm98
        have hs := hs.memo1 (it := vl (tSlice t_fold_Field) x47.Fields (.slice a95 (x47.Fields).length c96)) (List.mem_append.2 (.inl (hm98 _ (List.mem_of_getElem? (i := 0) rfl))))
        have e99 : ρ 48 = .int .i64 x61 := (hp 2 rfl).1
        refine WL.indexAddr hs 0 rfl UN49 TI57 e97 e99 hxx77 (fun ad78 hs => ?_)
        have hs := hs.add (it := pl t_fold_Field x77 ad78) fun ok hA => hA.get 0 rfl
        exact WL.nil ⟨rfl, _, rfl, ⟨ad78, rfl⟩, hs.cutG 1 2⟩
      · intro ρ w Γx Λx hs hu hp
        obtain ⟨⟨ad100, e101r⟩, hm102⟩ := hp 3 rfl
        have e101 : ρ 49 = .pointer (some ad100) := e101r
        rw [e101r] at hm102
        have hs := hs.memo1 (it := pl t_fold_Field x77 ad100) (List.mem_append.2 (.inl (hm102 _ (List.mem_of_getElem? (i := 0) rfl))))
        refine WL.loadP hs 0 rfl TI57 (.inl rfl) e101 (fun v79 hs => ?_)
        obtain ⟨cs80, hl81, rfl⟩ := hs.aggv (n := 12) 0 rfl rfl rfl
        have hs := hs.add (it := vl t_fold_Field x77 (.agg cs80.toArray)) fun ok hA => hA.get 0 rfl
        exact WL.nil ⟨rfl, _, rfl, ⟨cs80, rfl⟩, hs.cutG 1 2⟩
      · intro ρ w Γx Λx hs hu hp
        refine WL.loadAll hs (Λx.length + 0) (getApp rfl) TI51 ((hu 10 rfl).trans h60_10) hl57 ?_
        exact WL.nil ⟨rfl, _, rfl, rfl, hs.cutG 0 0⟩
      · intro ρ w Γx Λx hs hu hp
        refine WL.fieldAddr (m := 1) ((hu 9 rfl).trans h60_9) FA51_1 rfl ?_
        exact WL.nil ⟨rfl, _, rfl, rfl, hs.cutG 0 0⟩
      · intro ρ w Γx Λx hs hu hp
        have e103 : ρ 52 = .pointer (some ⟨g52, 1, none⟩) := (hp 6 rfl).1
        refine WL.loadF (z := x47.Fields) F_fold_Object_Fields hs (Λx.length + 1) (getApp rfl) (Γx.length + 2) (getApp rfl) rfl TI49 (.inr rfl) e103 rfl (fun v82 hs => ?_)
        obtain ⟨a83, c84, rfl⟩ := hs.slice 0 rfl
        have hs := hs.add (it := vl (tSlice t_fold_Field) x47.Fields (.slice a83 (x47.Fields).length c84)) fun ok hA => hA.get 0 rfl
        exact WL.nil ⟨rfl, _, rfl, ⟨(a83, c84), rfl⟩, hs.cutG 1 1⟩
      · intro ρ w Γx Λx hs hu hp
        refine WL.move (v := .int .i64 x61) ((hu 11 rfl).trans h60_11) ?_
        exact WL.nil ⟨rfl, _, rfl, rfl, hs.cutG 0 0⟩
      · intro ρ w Γx Λx hs hu hp
        obtain ⟨⟨⟨a104, c105⟩, e106r⟩, hm107⟩ := hp 7 rfl
        have e106 : ρ 53 = .slice a104 (x47.Fields).length c105 := e106r
        rw [e106r] at hm107
        have hs := hs.memo1 (it := vl (tSlice t_fold_Field) x47.Fields (.slice a104 (x47.Fields).length c105)) (List.mem_append.2 (.inl (hm107 _ (List.mem_of_getElem? (i := 0) rfl))))
        have e108 : ρ 54 = .int .i64 x61 := (hp 8 rfl).1
        refine WL.indexAddr hs 0 rfl UN49 TI57 e106 e108 hxx85 (fun ad86 hs => ?_)
        have hs := hs.add (it := pl t_fold_Field x85 ad86) fun ok hA => hA.get 0 rfl
        exact WL.nil ⟨rfl, _, rfl, ⟨ad86, rfl⟩, hs.cutG 1 2⟩
      · intro ρ w Γx Λx hs hu hp
        obtain ⟨⟨ad109, e110r⟩, hm111⟩ := hp 9 rfl
        have e110 : ρ 55 = .pointer (some ad109) := e110r
        rw [e110r] at hm111
        have hs := hs.memo1 (it := pl t_fold_Field x85 ad109) (List.mem_append.2 (.inl (hm111 _ (List.mem_of_getElem? (i := 0) rfl))))
        refine WL.fieldAddrP (z := x85.Name) F_fold_Field_Name hs 0 rfl e110 FA57_0 rfl (fun ad87 hs => ?_)
        have hs := hs.add (it := pl tStr x85.Name ad87) fun ok hA => hA.get 0 rfl
        exact WL.nil ⟨rfl, _, rfl, ⟨ad87, rfl⟩, hs.cutG 1 2⟩
      · intro ρ w Γx Λx hs hu hp
        obtain ⟨⟨ad112, e113r⟩, hm114⟩ := hp 10 rfl
        have e113 : ρ 56 = .pointer (some ad112) := e113r
        rw [e113r] at hm114
        have hs := hs.memo1 (it := pl tStr x85.Name ad112) (List.mem_append.2 (.inl (hm114 _ (List.mem_of_getElem? (i := 0) rfl))))
        refine WL.loadP hs 0 rfl TI9 (.inr rfl) e113 (fun v88 hs => ?_)
        obtain rfl := hs.str 0 rfl
        exact WL.nil ⟨rfl, _, rfl, rfl, hs.cutG 0 2⟩
      · intro ρ w Γx Λx hs hu hp
        have e115 : ρ 51 = .agg cs56.toArray := (hp 5 rfl).1
        have e116 : ρ 57 = bstr x85.Name := (hp 11 rfl).1
        refine WL.call (vs := [.agg cs56.toArray, bstr x85.Name]) hs FN28 ⟨e115, ⟨e116, trivial⟩⟩ (fun ok hA => fold_FieldOf.callc (x1 := x55) (x5 := x85.Name) hxx89 (hA.get (Γx.length + 1) (getApp rfl))) ?_
        rintro cs90 w hs
        have hl91 := hs.agglen (n := 12) 0 rfl rfl rfl
        have hs := hs.add (it := vl t_fold_Field x89 (.agg cs90.toArray)) fun ok hA => hA.get 0 rfl
        exact WL.nil ⟨rfl, _, rfl, ⟨cs90, rfl⟩, hs.cutG 1 1⟩
      · intro ρ w Γx Λx hs hu hp
        refine WL.alloc hs ZV57 (fun g92 w hs => ?_)
        exact WL.nil ⟨rfl, _, rfl, ⟨g92, rfl⟩, hs.cutG 0 0⟩
      · intro ρ w Γx Λx hs hu hp
        refine WL.alloc hs ZV57 (fun g93 w hs => ?_)
        exact WL.nil ⟨rfl, _, rfl, ⟨g93, rfl⟩, hs.cutG 0 0⟩
      · intro ρ w hs hu117 hp
        obtain ⟨⟨⟨⟨⟨⟨⟨⟨⟨⟨⟨⟨⟨⟨⟨_, hp0_⟩, hp1_⟩, hp2_⟩, hp3_⟩, hp4_⟩, hp5_⟩, hp6_⟩, hp7_⟩, hp8_⟩, hp9_⟩, hp10_⟩, hp11_⟩, hp12_⟩, hp13_⟩, hp14_⟩ := hp
        have hs : St ok (bz w0) w [vl t_fold_Field x89 (ρ 58), pl tStr x85.Name (adOf (ρ 56)), pl t_fold_Field x85 (adOf (ρ 55)), vl (tSlice t_fold_Field) x47.Fields (ρ 53), vl t_fold_Field x77 (ρ 50), pl t_fold_Field x77 (adOf (ρ 49)), vl (tSlice t_fold_Field) x47.Fields (ρ 47), vl (tSlice t_fold_Field) x47.Fields (.slice a66 (x47.Fields).length c67), vl t_fold_Object x55 (.agg cs56.toArray), vl t_fold_Object x47 (.agg cs50.toArray), vl t_fold_Store x19 (.agg cs20.toArray), vl t_fold_Store x16 (.agg cs17.toArray)] [blk (gOf ((ρ 13))) 57 ([bstr [], .bool false, .int .i64 0, .int .i64 0, .int .i64 0, .int .i64 0, bstr [], .bool false, .int .i64 0, .int .i64 0, .slice none 0 0, .bool false]), blk (gOf ((ρ 12))) 57 ([bstr [], .bool false, .int .i64 0, .int .i64 0, .int .i64 0, .int .i64 0, bstr [], .bool false, .int .i64 0, .int .i64 0, .slice none 0 0, .bool false]), blk g58 51 cs56, blk g52 51 cs50, blk g23 29 cs20, blk g22 29 cs17] := hs
        obtain ⟨g118, e119⟩ := hp14_
        have e119 : ρ 13 = .pointer (some ⟨g118, 0, none⟩) := e119
        try rw [e119] at hs
        obtain ⟨g120, e121⟩ := hp13_
        have e121 : ρ 12 = .pointer (some ⟨g120, 0, none⟩) := e121
        try rw [e121] at hs
        obtain ⟨cs122, e124⟩ := hp12_
        have e124 : ρ 58 = .agg cs122.toArray := e124
        try rw [e124] at hs
        have e125 : ρ 57 = bstr x85.Name := hp11_
        obtain ⟨ad126, e127⟩ := hp10_
        have e127 : ρ 56 = .pointer (some ad126) := e127
        try rw [e127] at hs
        obtain ⟨ad128, e129⟩ := hp9_
        have e129 : ρ 55 = .pointer (some ad128) := e129
        try rw [e129] at hs
        have e130 : ρ 54 = .int .i64 x61 := hp8_
        obtain ⟨⟨a131, c132⟩, e133⟩ := hp7_
        have e133 : ρ 53 = .slice a131 (x47.Fields).length c132 := e133
        try rw [e133] at hs
        have e134 : ρ 52 = .pointer (some ⟨g52, 1, none⟩) := hp6_
        have e135 : ρ 51 = .agg cs56.toArray := hp5_
        obtain ⟨cs136, e138⟩ := hp4_
        have e138 : ρ 50 = .agg cs136.toArray := e138
        try rw [e138] at hs
        obtain ⟨ad139, e140⟩ := hp3_
        have e140 : ρ 49 = .pointer (some ad139) := e140
        try rw [e140] at hs
        have e141 : ρ 48 = .int .i64 x61 := hp2_
        obtain ⟨⟨a142, c143⟩, e144⟩ := hp1_
        have e144 : ρ 47 = .slice a142 (x47.Fields).length c143 := e144
        try rw [e144] at hs
        have e145 : ρ 46 = .pointer (some ⟨g52, 1, none⟩) := hp0_
        have hl137 := hs.agglen (n := 12) 4 rfl rfl rfl
        have hl123 := hs.agglen (n := 12) 0 rfl rfl rfl
        refine WA.step [15] (by kernel_rfl) (by simp) ⟨?_, trivial⟩
        refine WL.storeAll (vs := cs136) hs 1 rfl TI57 e121 e138 rfl hl137 (hs.ones 4 rfl rfl) rfl (fun w hs => ?_)
        refine WL.nil ⟨rfl, _, rfl, ?_⟩
        refine WA.step [16] (by kernel_rfl) (by simp) ⟨?_, trivial⟩
        refine WL.storeAll (vs := cs122) hs 0 rfl TI57 e119 e124 rfl hl123 (hs.ones 0 rfl rfl) rfl (fun w hs => ?_)
        refine WL.nil ⟨rfl, _, rfl, ?_⟩
        refine WA.done (by kernel_rfl) ?_
        refine hK73 _ _ ?_
        refine W.seqK fun K146 hK146 => ?_
        refine W.seqK fun K147 hK147 => ?_
        have Jk150 : ∀ (x149 : Bool) (ρ : Env) (w : World), ρ 6 = .pointer (some ⟨g22, 0, none⟩) → ρ 7 = .pointer (some ⟨g23, 0, none⟩) → ρ 8 = .int .i64 x31 → ρ 9 = .pointer (some ⟨g52, 0, none⟩) → ρ 10 = .pointer (some ⟨g58, 0, none⟩) → ρ 11 = .int .i64 x61 → ρ 12 = .pointer (some ⟨g120, 0, none⟩) → ρ 13 = .pointer (some ⟨g118, 0, none⟩) → ρ 99 = .bool x149 → St ok (bz w0) w [vl t_fold_Field x89 (.agg cs122.toArray), vl t_fold_Field x77 (.agg cs136.toArray), vl t_fold_Object x55 (.agg cs56.toArray), vl t_fold_Object x47 (.agg cs50.toArray), vl t_fold_Store x19 (.agg cs20.toArray), vl t_fold_Store x16 (.agg cs17.toArray)] [blk g118 57 cs122, blk g120 57 cs136, blk g58 51 cs56, blk g52 51 cs50, blk g23 29 cs20, blk g22 29 cs17] → eslaw30_FoldGrows.j4 x61 x77 x89 x149 = some os62 → K147 ρ w := by
          intro x149 ρ w h148_6 h148_7 h148_8 h148_9 h148_10 h148_11 h148_12 h148_13 h148_99 hs hf
          refine hK147 _ _ ?_
          unfold eslaw30_FoldGrows.j4 at hf
          rcases iteE hf with ⟨hc151, hf⟩ | ⟨hc151, hf⟩
          · refine W.cond_true (bool_tr h148_99 hc151) ?_
            refine W.seqK fun K152 hK152 => ?_
            refine W.region ?_
            refine WL.assign (v := .bool false) rfl ?_
            refine WL.nil ?_
            refine hK152 _ _ ?_
            refine W.ret ?_
            have hr := Option.some.inj hf; subst hr
            have hr := hbbs62 _ rfl; subst hr
            have hf := hfs62
            have hr := Option.some.inj hf; subst hr
            have hr := hbbs32 _ rfl; subst hr
            have hf := hfs32
            have hr := Option.some.inj hf; subst hr
            exact ⟨_, resOk_one rfl rfl, (), rfl, (hs.mask []).pick []⟩
          · refine W.cond_false (bool_tr h148_99 hc151) ?_
            refine W.skip ?_
            refine hK146 _ _ ?_
            refine W.seqK fun K153 hK153 => ?_
            refine W.region ?_
            refine WL.assign (v := .int .i64 0) rfl ?_
            refine WL.nil ?_
            refine hK153 _ _ ?_
            refine W.block ?_
            obtain ⟨bs156, hbs156, hfs156⟩ := bindE hf
            refine W.loop hbs156 (fun s ρ w => match s with | x155 => ρ 6 = .pointer (some ⟨g22, 0, none⟩) ∧ ρ 7 = .pointer (some ⟨g23, 0, none⟩) ∧ ρ 8 = .int .i64 x31 ∧ ρ 9 = .pointer (some ⟨g52, 0, none⟩) ∧ ρ 10 = .pointer (some ⟨g58, 0, none⟩) ∧ ρ 11 = .int .i64 x61 ∧ ρ 12 = .pointer (some ⟨g120, 0, none⟩) ∧ ρ 13 = .pointer (some ⟨g118, 0, none⟩) ∧ ρ 14 = .int .i64 x155 ∧ St ok (bz w0) w [vl t_fold_Field x89 (.agg cs122.toArray), vl t_fold_Field x77 (.agg cs136.toArray), vl t_fold_Object x55 (.agg cs56.toArray), vl t_fold_Object x47 (.agg cs50.toArray), vl t_fold_Store x19 (.agg cs20.toArray), vl t_fold_Store x16 (.agg cs17.toArray)] [blk g118 57 cs122, blk g120 57 cs136, blk g58 51 cs56, blk g52 51 cs50, blk g23 29 cs20, blk g22 29 cs17]) ⟨h148_6, h148_7, h148_8, h148_9, h148_10, h148_11, h148_12, h148_13, rfl, (hs.mask [true, true, true, true, true, true]).pick [0, 1, 2, 3, 4, 5]⟩ ?_
            intro x155 ρ w os156 hI hf hbbs156
            obtain ⟨h154_6, h154_7, h154_8, h154_9, h154_10, h154_11, h154_12, h154_13, h154_14, hs⟩ := hI
            unfold eslaw30_FoldGrows.l1 at hf
            refine W.seqK fun K157 hK157 => ?_
            refine W.seqK fun K158 hK158 => ?_
            refine W.region ?_
            refine WL.move (v := .int .i64 x155) h154_14 ?_
            refine WL.fieldAddr (m := 10) h154_12 FA57_5 rfl ?_
            refine WL.loadF (z := x77.Elems) F_fold_Field_Elems hs 1 rfl 1 rfl rfl TI55 (.inr rfl) rfl rfl (fun v159 hs => ?_)
            obtain ⟨a160, c161, rfl⟩ := hs.slice 0 rfl
            refine WL.len (v := .slice a160 (x77.Elems).length c161) rfl (len_slice UN55) ?_
            refine WL.bin (v := .bool (decide (x155 < ((x77.Elems).length : Int)))) rfl rfl (ib_lss _ _ _) ?_
            refine WL.nil ?_
            refine hK158 _ _ ?_
            rcases iteE hf with ⟨hc162, hf⟩ | ⟨hc162, hf⟩
            · refine W.cond_true (bool_tr rfl hc162) ?_
              refine W.skip ?_
              refine hK157 _ _ ?_
              refine W.seqK fun K163 hK163 => ?_
              refine W.block ?_
              refine W.seqK fun K164 hK164 => ?_
              obtain ⟨x171, hxx171, hf⟩ := bindE hf
              obtain ⟨x174, hxx174, hf⟩ := bindE hf
              refine W.any (by kernel_rfl) 9 0 [true, true, true, true, true, true, true, true, true] rfl rfl (poAt [pv (.pointer (some ⟨g118, 10, none⟩)), pq (fun y : (Option Addr × Nat) => .slice y.1 (x89.Elems).length y.2) (fun v => [vl (tSlice tStr) x89.Elems v]) (fun v => []), pv (.pointer (some ⟨g120, 10, none⟩)), pq (fun y : (Option Addr × Nat) => .slice y.1 (x77.Elems).length y.2) (fun v => [vl (tSlice tStr) x77.Elems v]) (fun v => []), pv (.int .i64 x155), pq (fun y : Addr => .pointer (some y)) (fun v => [pl tStr x171 (adOf v)]) (fun v => []), pv (bstr x171), pv (.bool x174), pv (.bool (!x174))]) (Λ := [blk g118 57 cs122, blk g120 57 cs136, blk g58 51 cs56, blk g52 51 cs50, blk g23 29 cs20, blk g22 29 cs17]) hs (by kernel_rfl) (by kernel_rfl) (by kernel_rfl) ⟨⟨⟨⟨⟨⟨⟨⟨⟨trivial, ?_⟩, ?_⟩, ?_⟩, ?_⟩, ?_⟩, ?_⟩, ?_⟩, ?_⟩, ?_⟩ ?_
              · intro ρ w Γx Λx hs hu hp
                refine WL.fieldAddr (m := 10) ((hu 13 rfl).trans h154_13) FA57_5 rfl ?_
                exact WL.nil ⟨rfl, _, rfl, rfl, hs.cutG 0 0⟩
              · intro ρ w Γx Λx hs hu hp
                have e175 : ρ 107 = .pointer (some ⟨g118, 10, none⟩) := (hp 0 rfl).1
                refine WL.loadF (z := x89.Elems) F_fold_Field_Elems hs (Λx.length + 0) (getApp rfl) (Γx.length + 1) (getApp rfl) rfl TI55 (.inr rfl) e175 rfl (fun v165 hs => ?_)
                obtain ⟨a166, c167, rfl⟩ := hs.slice 0 rfl
                have hs := hs.add (it := vl (tSlice tStr) x89.Elems (.slice a166 (x89.Elems).length c167)) fun ok hA => hA.get 0 rfl
                exact WL.nil ⟨rfl, _, rfl, ⟨(a166, c167), rfl⟩, hs.cutG 1 1⟩
              · intro ρ w Γx Λx hs hu hp
                refine WL.fieldAddr (m := 10) ((hu 12 rfl).trans h154_12) FA57_5 rfl ?_
                exact WL.nil ⟨rfl, _, rfl, rfl, hs.cutG 0 0⟩
              · intro ρ w Γx Λx hs hu hp
                have e176 : ρ 109 = .pointer (some ⟨g120, 10, none⟩) := (hp 2 rfl).1
                refine WL.loadF (z := x77.Elems) F_fold_Field_Elems hs (Λx.length + 1) (getApp rfl) (Γx.length + 2) (getApp rfl) rfl TI55 (.inr rfl) e176 rfl (fun v168 hs => ?_)
                obtain ⟨a169, c170, rfl⟩ := hs.slice 0 rfl
                have hs := hs.add (it := vl (tSlice tStr) x77.Elems (.slice a169 (x77.Elems).length c170)) fun ok hA => hA.get 0 rfl
                exact WL.nil ⟨rfl, _, rfl, ⟨(a169, c170), rfl⟩, hs.cutG 1 1⟩
              · intro ρ w Γx Λx hs hu hp
                refine WL.move (v := .int .i64 x155) ((hu 14 rfl).trans h154_14) ?_
                exact WL.nil ⟨rfl, _, rfl, rfl, hs.cutG 0 0⟩
              · intro ρ w Γx Λx hs hu hp
                obtain ⟨⟨⟨a177, c178⟩, e179r⟩, hm180⟩ := hp 3 rfl
                have e179 : ρ 110 = .slice a177 (x77.Elems).length c178 := e179r
                rw [e179r] at hm180
                have hs := hs.memo1 (it := vl (tSlice tStr) x77.Elems (.slice a177 (x77.Elems).length c178)) (List.mem_append.2 (.inl (hm180 _ (List.mem_of_getElem? (i := 0) rfl))))
                have e181 : ρ 111 = .int .i64 x155 := (hp 4 rfl).1
                refine WL.indexAddr hs 0 rfl UN55 TI9 e179 e181 hxx171 (fun ad172 hs => ?_)
                have hs := hs.add (it := pl tStr x171 ad172) fun ok hA => hA.get 0 rfl
                exact WL.nil ⟨rfl, _, rfl, ⟨ad172, rfl⟩, hs.cutG 1 2⟩
              · intro ρ w Γx Λx hs hu hp
                obtain ⟨⟨ad182, e183r⟩, hm184⟩ := hp 5 rfl
                have e183 : ρ 112 = .pointer (some ad182) := e183r
                rw [e183r] at hm184
                have hs := hs.memo1 (it := pl tStr x171 ad182) (List.mem_append.2 (.inl (hm184 _ (List.mem_of_getElem? (i := 0) rfl))))
                refine WL.loadP hs 0 rfl TI9 (.inr rfl) e183 (fun v173 hs => ?_)
                obtain rfl := hs.str 0 rfl
                exact WL.nil ⟨rfl, _, rfl, rfl, hs.cutG 0 2⟩
              · intro ρ w Γx Λx hs hu hp
                obtain ⟨⟨⟨a185, c186⟩, e187r⟩, hm188⟩ := hp 1 rfl
                have e187 : ρ 108 = .slice a185 (x89.Elems).length c186 := e187r
                rw [e187r] at hm188
                have hs := hs.memo1 (it := vl (tSlice tStr) x89.Elems (.slice a185 (x89.Elems).length c186)) (List.mem_append.2 (.inl (hm188 _ (List.mem_of_getElem? (i := 0) rfl))))
                have e189 : ρ 113 = bstr x171 := (hp 6 rfl).1
                refine WL.call (vs := [.slice a185 (x89.Elems).length c186, bstr x171]) hs FN30 ⟨e187, ⟨e189, trivial⟩⟩ (fun ok hA => esref32_Has.calls (x1 := x89.Elems) (x4 := x171) hxx174 (hA.get 0 rfl)) ?_
                rintro _ w hs
                exact WL.nil ⟨rfl, _, rfl, rfl, hs.cutG 0 1⟩
              · intro ρ w Γx Λx hs hu hp
                have e190 : ρ 114 = .bool x174 := (hp 7 rfl).1
                refine WL.not e190 ?_
                exact WL.nil ⟨rfl, _, rfl, rfl, hs.cutG 0 0⟩
              · intro ρ w hs hu191 hp
                obtain ⟨⟨⟨⟨⟨⟨⟨⟨⟨_, hp0_⟩, hp1_⟩, hp2_⟩, hp3_⟩, hp4_⟩, hp5_⟩, hp6_⟩, hp7_⟩, hp8_⟩ := hp
                have hs : St ok (bz w0) w [pl tStr x171 (adOf (ρ 112)), vl (tSlice tStr) x77.Elems (ρ 110), vl (tSlice tStr) x89.Elems (ρ 108), vl (tSlice tStr) x77.Elems (.slice a160 (x77.Elems).length c161), vl t_fold_Field x89 (.agg cs122.toArray), vl t_fold_Field x77 (.agg cs136.toArray), vl t_fold_Object x55 (.agg cs56.toArray), vl t_fold_Object x47 (.agg cs50.toArray), vl t_fold_Store x19 (.agg cs20.toArray), vl t_fold_Store x16 (.agg cs17.toArray)] [blk g118 57 cs122, blk g120 57 cs136, blk g58 51 cs56, blk g52 51 cs50, blk g23 29 cs20, blk g22 29 cs17] := hs
                have e192 : ρ 115 = .bool (!x174) := hp8_
                have e193 : ρ 114 = .bool x174 := hp7_
                have e194 : ρ 113 = bstr x171 := hp6_
                obtain ⟨ad195, e196⟩ := hp5_
                have e196 : ρ 112 = .pointer (some ad195) := e196
                try rw [e196] at hs
                have e197 : ρ 111 = .int .i64 x155 := hp4_
                obtain ⟨⟨a198, c199⟩, e200⟩ := hp3_
                have e200 : ρ 110 = .slice a198 (x77.Elems).length c199 := e200
                try rw [e200] at hs
                have e201 : ρ 109 = .pointer (some ⟨g120, 10, none⟩) := hp2_
                obtain ⟨⟨a202, c203⟩, e204⟩ := hp1_
                have e204 : ρ 108 = .slice a202 (x89.Elems).length c203 := e204
                try rw [e204] at hs
                have e205 : ρ 107 = .pointer (some ⟨g118, 10, none⟩) := hp0_
                refine WA.done (by kernel_rfl) ?_
                refine hK164 _ _ ?_
                rcases iteE hf with ⟨hc206, hf⟩ | ⟨hc206, hf⟩
                · refine W.cond_true (bool_tr e192 hc206) ?_
                  refine W.seqK fun K207 hK207 => ?_
                  refine W.region ?_
                  refine WL.assign (v := .bool false) rfl ?_
                  refine WL.nil ?_
                  refine hK207 _ _ ?_
                  refine W.ret ?_
                  have hr := Option.some.inj hf; subst hr
                  have hr := hbbs156 _ rfl; subst hr
                  have hf := hfs156
                  have hr := Option.some.inj hf; subst hr
                  have hr := hbbs62 _ rfl; subst hr
                  have hf := hfs62
                  have hr := Option.some.inj hf; subst hr
                  have hr := hbbs32 _ rfl; subst hr
                  have hf := hfs32
                  have hr := Option.some.inj hf; subst hr
                  exact ⟨_, resOk_one rfl rfl, (), rfl, (hs.mask []).pick []⟩
                · refine W.cond_false (bool_tr e192 hc206) ?_
                  refine W.skip ?_
                  refine hK163 _ _ ?_
                  refine W.region ?_
                  refine WL.move (v := .int .i64 x155) ((hu191 14 rfl).trans h154_14) ?_
                  obtain ⟨x208, ex208, hf⟩ := letE hf
                  refine WL.bin (v := .int .i64 x208) rfl rfl (ib_as ex208 (ib_add _ _ _)) ?_
                  refine WL.assign (v := .int .i64 x208) rfl ?_
                  refine WL.nil ?_
                  exact ⟨_, (Option.some.inj hf).symm, ((hu191 6 rfl).trans h154_6), ((hu191 7 rfl).trans h154_7), ((hu191 8 rfl).trans h154_8), ((hu191 9 rfl).trans h154_9), ((hu191 10 rfl).trans h154_10), ((hu191 11 rfl).trans h154_11), ((hu191 12 rfl).trans h154_12), ((hu191 13 rfl).trans h154_13), rfl, (hs.mask [true, true, true, true, true, true]).pick [4, 5, 6, 7, 8, 9]⟩
            · refine W.cond_false (bool_tr rfl hc162) ?_
              refine W.exit ?_
              have hr := Option.some.inj hf; subst hr
              have hr := hbbs156 _ rfl; subst hr
              have hf := hfs156
              exact Jk71  _ _ h154_6 h154_7 h154_8 h154_9 h154_10 h154_11 ((hs.mask [false, false, true, true, true, true]).pick [3, 4, 5, 6]) hf
        refine W.region ?_
        refine WL.fieldAddr (m := 7) e121 FA57_2 rfl ?_
        refine WL.loadF (z := x77.HasMax) F_fold_Field_HasMax hs 1 rfl 4 rfl rfl TI4 (.inr rfl) rfl rfl (fun v210 hs => ?_)
        obtain rfl := hs.bool 0 rfl
        refine WL.move (v := .bool x77.HasMax) rfl ?_
        rcases iteE hf with ⟨hc211, hf⟩ | ⟨hc211, hf⟩
        · refine WL.fieldAddr (m := 7) e119 FA57_2 rfl ?_ (hg := (wanted_of rfl rfl (bool_tr rfl hc211)).trans rfl)
          refine WL.loadF (z := x89.HasMax) F_fold_Field_HasMax hs 0 rfl 1 rfl rfl TI4 (.inr rfl) rfl rfl (fun v212 hs => ?_) (hg := (wanted_of rfl rfl (bool_tr rfl hc211)).trans rfl)
          obtain rfl := hs.bool 0 rfl
          refine WL.not rfl ?_ (hg := (wanted_of rfl rfl (bool_tr rfl hc211)).trans rfl)
          refine WL.move (v := .bool (!x89.HasMax)) rfl ?_ (hg := (wanted_of rfl rfl (bool_tr rfl hc211)).trans rfl)
          rcases iteE hf with ⟨hc213, hf⟩ | ⟨hc213, hf⟩
          · refine WL.pass ((wanted_of rfl rfl (bool_tr rfl hc213)).trans rfl) rfl ?_
            refine WL.pass ((wanted_of rfl rfl (bool_tr rfl hc213)).trans rfl) rfl ?_
            refine WL.pass ((wanted_of rfl rfl (bool_tr rfl hc213)).trans rfl) rfl ?_
            refine WL.pass ((wanted_of rfl rfl (bool_tr rfl hc213)).trans rfl) rfl ?_
            refine WL.pass ((wanted_of rfl rfl (bool_tr rfl hc213)).trans rfl) rfl ?_
            refine WL.pickT (v := .bool true) (bool_tr rfl hc213) rfl ?_ (hg := (wanted_of rfl rfl (bool_tr rfl hc211)).trans rfl)
            refine WL.pickT (v := .bool true) (bool_tr rfl hc211) rfl ?_
            refine WL.move (v := .bool true) rfl ?_
            refine WL.pass ((wanted_of rfl rfl rfl).trans rfl) rfl ?_
            refine WL.pass ((wanted_of rfl rfl rfl).trans rfl) rfl ?_
            refine WL.pass ((wanted_of rfl rfl rfl).trans rfl) rfl ?_
            refine WL.pass (wanted_undef rfl rfl rfl) rfl ?_
            refine WL.pass (wanted_undef rfl rfl rfl) rfl ?_
            refine WL.pass (wanted_undef rfl rfl rfl) rfl ?_
            refine WL.pass ((wanted_of rfl rfl rfl).trans rfl) rfl ?_
            refine WL.pickT (v := .bool true) rfl rfl ?_
            refine WL.move (v := .bool true) rfl ?_
            refine WL.pass ((wanted_of rfl rfl rfl).trans rfl) rfl ?_
            refine WL.pass ((wanted_of rfl rfl rfl).trans rfl) rfl ?_
            refine WL.pass ((wanted_of rfl rfl rfl).trans rfl) rfl ?_
            refine WL.pass ((wanted_of rfl rfl rfl).trans rfl) rfl ?_
            refine WL.pass (wanted_undef rfl rfl rfl) rfl ?_
            refine WL.pass (wanted_undef rfl rfl rfl) rfl ?_
            refine WL.pass (wanted_undef rfl rfl rfl) rfl ?_
            refine WL.pass (wanted_undef rfl rfl rfl) rfl ?_
            refine WL.pass (wanted_undef rfl rfl rfl) rfl ?_
            refine WL.pass (wanted_undef rfl rfl rfl) rfl ?_
            refine WL.pass (wanted_undef rfl rfl rfl) rfl ?_
            refine WL.pass (wanted_undef rfl rfl rfl) rfl ?_
            refine WL.pass (wanted_undef rfl rfl rfl) rfl ?_
            refine WL.pass (wanted_undef rfl rfl rfl) rfl ?_
            refine WL.pass (wanted_undef rfl rfl rfl) rfl ?_
            refine WL.pass ((wanted_of rfl rfl rfl).trans rfl) rfl ?_
            refine WL.pickT (v := .bool true) rfl rfl ?_
            refine WL.nil ?_
            exact Jk150 true _ _ ((hu117 6 rfl).trans h60_6) ((hu117 7 rfl).trans h60_7) ((hu117 8 rfl).trans h60_8) ((hu117 9 rfl).trans h60_9) ((hu117 10 rfl).trans h60_10) ((hu117 11 rfl).trans h60_11) e121 e119 rfl ((hs.mask [true, true, true, true, true, true]).pick [2, 6, 10, 11, 12, 13]) hf
          · refine WL.fieldAddr (m := 8) e119 FA57_3 rfl ?_ (hg := (wanted_of rfl rfl (bool_tr rfl hc213)).trans rfl)
            refine WL.loadF (z := x89.Max) F_fold_Field_Max hs 0 rfl 2 rfl rfl TI2 (.inr rfl) rfl rfl (fun v214 hs => ?_) (hg := (wanted_of rfl rfl (bool_tr rfl hc213)).trans rfl)
            obtain rfl := hs.int 0 rfl
            refine WL.fieldAddr (m := 8) e121 FA57_3 rfl ?_ (hg := (wanted_of rfl rfl (bool_tr rfl hc213)).trans rfl)
            refine WL.loadF (z := x77.Max) F_fold_Field_Max hs 1 rfl 7 rfl rfl TI2 (.inr rfl) rfl rfl (fun v215 hs => ?_) (hg := (wanted_of rfl rfl (bool_tr rfl hc213)).trans rfl)
            obtain rfl := hs.int 0 rfl
            refine WL.bin (v := .bool (decide (x89.Max < x77.Max))) rfl rfl (ib_lss _ _ _) ?_ (hg := (wanted_of rfl rfl (bool_tr rfl hc213)).trans rfl)
            refine WL.pickF (v := .bool (decide (x89.Max < x77.Max))) (bool_tr rfl hc213) rfl ?_ (hg := (wanted_of rfl rfl (bool_tr rfl hc211)).trans rfl)
            refine WL.pickT (v := .bool (decide (x89.Max < x77.Max))) (bool_tr rfl hc211) rfl ?_
            refine WL.move (v := .bool (decide (x89.Max < x77.Max))) rfl ?_
            rcases iteE hf with ⟨hc216, hf⟩ | ⟨hc216, hf⟩
            · refine WL.pass ((wanted_of rfl rfl (bool_tr rfl hc216)).trans rfl) rfl ?_
              refine WL.pass ((wanted_of rfl rfl (bool_tr rfl hc216)).trans rfl) rfl ?_
              refine WL.pass ((wanted_of rfl rfl (bool_tr rfl hc216)).trans rfl) rfl ?_
              refine WL.pass (wanted_undef rfl rfl rfl) rfl ?_
              refine WL.pass (wanted_undef rfl rfl rfl) rfl ?_
              refine WL.pass (wanted_undef rfl rfl rfl) rfl ?_
              refine WL.pass ((wanted_of rfl rfl (bool_tr rfl hc216)).trans rfl) rfl ?_
              refine WL.pickT (v := .bool true) (bool_tr rfl hc216) rfl ?_
              refine WL.move (v := .bool true) rfl ?_
              refine WL.pass ((wanted_of rfl rfl rfl).trans rfl) rfl ?_
              refine WL.pass ((wanted_of rfl rfl rfl).trans rfl) rfl ?_
              refine WL.pass ((wanted_of rfl rfl rfl).trans rfl) rfl ?_
              refine WL.pass ((wanted_of rfl rfl rfl).trans rfl) rfl ?_
              refine WL.pass (wanted_undef rfl rfl rfl) rfl ?_
              refine WL.pass (wanted_undef rfl rfl rfl) rfl ?_
              refine WL.pass (wanted_undef rfl rfl rfl) rfl ?_
              refine WL.pass (wanted_undef rfl rfl rfl) rfl ?_
              refine WL.pass (wanted_undef rfl rfl rfl) rfl ?_
              refine WL.pass (wanted_undef rfl rfl rfl) rfl ?_
              refine WL.pass (wanted_undef rfl rfl rfl) rfl ?_
              refine WL.pass (wanted_undef rfl rfl rfl) rfl ?_
              refine WL.pass (wanted_undef rfl rfl rfl) rfl ?_
              refine WL.pass (wanted_undef rfl rfl rfl) rfl ?_
              refine WL.pass (wanted_undef rfl rfl rfl) rfl ?_
              refine WL.pass ((wanted_of rfl rfl rfl).trans rfl) rfl ?_
              refine WL.pickT (v := .bool true) rfl rfl ?_
              refine WL.nil ?_
              exact Jk150 true _ _ ((hu117 6 rfl).trans h60_6) ((hu117 7 rfl).trans h60_7) ((hu117 8 rfl).trans h60_8) ((hu117 9 rfl).trans h60_9) ((hu117 10 rfl).trans h60_10) ((hu117 11 rfl).trans h60_11) e121 e119 rfl ((hs.mask [true, true, true, true, true, true]).pick [4, 8, 12, 13, 14, 15]) hf
            · refine WL.fieldAddr (m := 11) e121 FA57_6 rfl ?_ (hg := (wanted_of rfl rfl (bool_tr rfl hc216)).trans rfl)
              refine WL.loadF (z := x77.Flag) F_fold_Field_Flag hs 1 rfl 8 rfl rfl TI4 (.inr rfl) rfl rfl (fun v217 hs => ?_) (hg := (wanted_of rfl rfl (bool_tr rfl hc216)).trans rfl)
              obtain rfl := hs.bool 0 rfl
              refine WL.move (v := .bool x77.Flag) rfl ?_ (hg := (wanted_of rfl rfl (bool_tr rfl hc216)).trans rfl)
              rcases iteE hf with ⟨hc218, hf⟩ | ⟨hc218, hf⟩
              · refine WL.fieldAddr (m := 11) e119 FA57_6 rfl ?_ (hg := (wanted_of rfl rfl (bool_tr rfl hc218)).trans rfl)
                refine WL.loadF (z := x89.Flag) F_fold_Field_Flag hs 0 rfl 5 rfl rfl TI4 (.inr rfl) rfl rfl (fun v219 hs => ?_) (hg := (wanted_of rfl rfl (bool_tr rfl hc218)).trans rfl)
                obtain rfl := hs.bool 0 rfl
                refine WL.not rfl ?_ (hg := (wanted_of rfl rfl (bool_tr rfl hc218)).trans rfl)
                refine WL.pickT (v := .bool (!x89.Flag)) (bool_tr rfl hc218) rfl ?_ (hg := (wanted_of rfl rfl (bool_tr rfl hc216)).trans rfl)
                refine WL.pickF (v := .bool (!x89.Flag)) (bool_tr rfl hc216) rfl ?_
                refine WL.move (v := .bool (!x89.Flag)) rfl ?_
                rcases iteE hf with ⟨hc220, hf⟩ | ⟨hc220, hf⟩
                · refine WL.pass ((wanted_of rfl rfl (bool_tr rfl hc220)).trans rfl) rfl ?_
                  refine WL.pass ((wanted_of rfl rfl (bool_tr rfl hc220)).trans rfl) rfl ?_
                  refine WL.pass ((wanted_of rfl rfl (bool_tr rfl hc220)).trans rfl) rfl ?_
                  refine WL.pass ((wanted_of rfl rfl (bool_tr rfl hc220)).trans rfl) rfl ?_
                  refine WL.pass (wanted_undef rfl rfl rfl) rfl ?_
                  refine WL.pass (wanted_undef rfl rfl rfl) rfl ?_
                  refine WL.pass (wanted_undef rfl rfl rfl) rfl ?_
                  refine WL.pass (wanted_undef rfl rfl rfl) rfl ?_
                  refine WL.pass (wanted_undef rfl rfl rfl) rfl ?_
                  refine WL.pass (wanted_undef rfl rfl rfl) rfl ?_
                  refine WL.pass (wanted_undef rfl rfl rfl) rfl ?_
                  refine WL.pass (wanted_undef rfl rfl rfl) rfl ?_
                  refine WL.pass (wanted_undef rfl rfl rfl) rfl ?_
                  refine WL.pass (wanted_undef rfl rfl rfl) rfl ?_
                  refine WL.pass (wanted_undef rfl rfl rfl) rfl ?_
                  refine WL.pass ((wanted_of rfl rfl (bool_tr rfl hc220)).trans rfl) rfl ?_
                  refine WL.pickT (v := .bool true) (bool_tr rfl hc220) rfl ?_
                  refine WL.nil ?_
                  exact Jk150 true _ _ ((hu117 6 rfl).trans h60_6) ((hu117 7 rfl).trans h60_7) ((hu117 8 rfl).trans h60_8) ((hu117 9 rfl).trans h60_9) ((hu117 10 rfl).trans h60_10) ((hu117 11 rfl).trans h60_11) e121 e119 rfl ((hs.mask [true, true, true, true, true, true]).pick [6, 10, 14, 15, 16, 17]) hf
                · refine WL.fieldAddr (m := 1) e121 FA57_1 rfl ?_ (hg := (wanted_of rfl rfl (bool_tr rfl hc220)).trans rfl)
                  refine WL.fieldAddr (m := 1) rfl FA54_0 rfl ?_ (hg := (wanted_of rfl rfl (bool_tr rfl hc220)).trans rfl)
                  refine WL.loadF (z := x77.Register.Set) (F_fold_Field_Register.comp F_fold_Register_Set) hs 1 rfl 10 rfl rfl TI4 (.inr rfl) rfl rfl (fun v221 hs => ?_) (hg := (wanted_of rfl rfl (bool_tr rfl hc220)).trans rfl)
                  obtain rfl := hs.bool 0 rfl
                  refine WL.move (v := .bool x77.Register.Set) rfl ?_ (hg := (wanted_of rfl rfl (bool_tr rfl hc220)).trans rfl)
                  rcases iteE hf with ⟨hc222, hf⟩ | ⟨hc222, hf⟩
                  · refine WL.fieldAddr (m := 1) e119 FA57_1 rfl ?_ (hg := (wanted_of rfl rfl (bool_tr rfl hc222)).trans rfl)
                    refine WL.fieldAddr (m := 1) rfl FA54_0 rfl ?_ (hg := (wanted_of rfl rfl (bool_tr rfl hc222)).trans rfl)
                    refine WL.loadF (z := x89.Register.Set) (F_fold_Field_Register.comp F_fold_Register_Set) hs 0 rfl 7 rfl rfl TI4 (.inr rfl) rfl rfl (fun v223 hs => ?_) (hg := (wanted_of rfl rfl (bool_tr rfl hc222)).trans rfl)
                    obtain rfl := hs.bool 0 rfl
                    refine WL.not rfl ?_ (hg := (wanted_of rfl rfl (bool_tr rfl hc222)).trans rfl)
                    refine WL.move (v := .bool (!x89.Register.Set)) rfl ?_ (hg := (wanted_of rfl rfl (bool_tr rfl hc222)).trans rfl)
                    rcases iteE hf with ⟨hc224, hf⟩ | ⟨hc224, hf⟩
                    · refine WL.pass ((wanted_of rfl rfl (bool_tr rfl hc224)).trans rfl) rfl ?_
                      refine WL.pass ((wanted_of rfl rfl (bool_tr rfl hc224)).trans rfl) rfl ?_
                      refine WL.pass ((wanted_of rfl rfl (bool_tr rfl hc224)).trans rfl) rfl ?_
                      refine WL.pass ((wanted_of rfl rfl (bool_tr rfl hc224)).trans rfl) rfl ?_
                      refine WL.pass ((wanted_of rfl rfl (bool_tr rfl hc224)).trans rfl) rfl ?_
                      refine WL.pickT (v := .bool true) (bool_tr rfl hc224) rfl ?_ (hg := (wanted_of rfl rfl (bool_tr rfl hc222)).trans rfl)
                      refine WL.pickT (v := .bool true) (bool_tr rfl hc222) rfl ?_ (hg := (wanted_of rfl rfl (bool_tr rfl hc220)).trans rfl)
                      refine WL.pickF (v := .bool true) (bool_tr rfl hc220) rfl ?_
                      refine WL.nil ?_
                      exact Jk150 true _ _ ((hu117 6 rfl).trans h60_6) ((hu117 7 rfl).trans h60_7) ((hu117 8 rfl).trans h60_8) ((hu117 9 rfl).trans h60_9) ((hu117 10 rfl).trans h60_10) ((hu117 11 rfl).trans h60_11) e121 e119 rfl ((hs.mask [true, true, true, true, true, true]).pick [8, 12, 16, 17, 18, 19]) hf
                    · refine WL.fieldAddr (m := 1) e119 FA57_1 rfl ?_ (hg := (wanted_of rfl rfl (bool_tr rfl hc224)).trans rfl)
                      refine WL.loadF (z := x89.Register) F_fold_Field_Register hs 0 rfl 8 rfl rfl TI54 (.inl rfl) rfl rfl (fun v225 hs => ?_) (hg := (wanted_of rfl rfl (bool_tr rfl hc224)).trans rfl)
                      obtain ⟨cs226, hl227, rfl⟩ := hs.aggv (n := 6) 0 rfl rfl rfl
                      refine WL.fieldAddr (m := 1) e121 FA57_1 rfl ?_ (hg := (wanted_of rfl rfl (bool_tr rfl hc224)).trans rfl)
                      refine WL.loadF (z := x77.Register) F_fold_Field_Register hs 1 rfl 13 rfl rfl TI54 (.inl rfl) rfl rfl (fun v228 hs => ?_) (hg := (wanted_of rfl rfl (bool_tr rfl hc224)).trans rfl)
                      obtain ⟨cs229, hl230, rfl⟩ := hs.aggv (n := 6) 0 rfl rfl rfl
                      obtain ⟨x231, hxx231, hf⟩ := bindE hf
                      refine WL.call (vs := [.agg cs226.toArray, .agg cs229.toArray]) hs FN29 ⟨rfl, ⟨rfl, trivial⟩⟩ (fun ok hA => eslaw30_earlier.calls (x1 := x89.Register) (x5 := x77.Register) hxx231 (hA.get 1 rfl) (hA.get 0 rfl)) ?_ (hg := (wanted_of rfl rfl (bool_tr rfl hc224)).trans rfl)
                      rintro _ w hs
                      refine WL.pickF (v := .bool x231) (bool_tr rfl hc224) rfl ?_ (hg := (wanted_of rfl rfl (bool_tr rfl hc222)).trans rfl)
                      refine WL.pickT (v := .bool x231) (bool_tr rfl hc222) rfl ?_ (hg := (wanted_of rfl rfl (bool_tr rfl hc220)).trans rfl)
                      refine WL.pickF (v := .bool x231) (bool_tr rfl hc220) rfl ?_
                      refine WL.nil ?_
                      exact Jk150 x231 _ _ ((hu117 6 rfl).trans h60_6) ((hu117 7 rfl).trans h60_7) ((hu117 8 rfl).trans h60_8) ((hu117 9 rfl).trans h60_9) ((hu117 10 rfl).trans h60_10) ((hu117 11 rfl).trans h60_11) e121 e119 rfl ((hs.mask [true, true, true, true, true, true]).pick [10, 14, 18, 19, 20, 21]) hf
                  · refine WL.pass ((wanted_of rfl rfl (bool_tr rfl hc222)).trans rfl) rfl ?_
                    refine WL.pass ((wanted_of rfl rfl (bool_tr rfl hc222)).trans rfl) rfl ?_
                    refine WL.pass ((wanted_of rfl rfl (bool_tr rfl hc222)).trans rfl) rfl ?_
                    refine WL.pass ((wanted_of rfl rfl (bool_tr rfl hc222)).trans rfl) rfl ?_
                    refine WL.pass ((wanted_of rfl rfl (bool_tr rfl hc222)).trans rfl) rfl ?_
                    refine WL.pass (wanted_undef rfl rfl rfl) rfl ?_
                    refine WL.pass (wanted_undef rfl rfl rfl) rfl ?_
                    refine WL.pass (wanted_undef rfl rfl rfl) rfl ?_
                    refine WL.pass (wanted_undef rfl rfl rfl) rfl ?_
                    refine WL.pass (wanted_undef rfl rfl rfl) rfl ?_
                    refine WL.pass ((wanted_of rfl rfl (bool_tr rfl hc222)).trans rfl) rfl ?_
                    refine WL.pickF (v := .bool false) (bool_tr rfl hc222) rfl ?_ (hg := (wanted_of rfl rfl (bool_tr rfl hc220)).trans rfl)
                    refine WL.pickF (v := .bool false) (bool_tr rfl hc220) rfl ?_
                    refine WL.nil ?_
                    exact Jk150 false _ _ ((hu117 6 rfl).trans h60_6) ((hu117 7 rfl).trans h60_7) ((hu117 8 rfl).trans h60_8) ((hu117 9 rfl).trans h60_9) ((hu117 10 rfl).trans h60_10) ((hu117 11 rfl).trans h60_11) e121 e119 rfl ((hs.mask [true, true, true, true, true, true]).pick [7, 11, 15, 16, 17, 18]) hf
              · refine WL.pass ((wanted_of rfl rfl (bool_tr rfl hc218)).trans rfl) rfl ?_
                refine WL.pass ((wanted_of rfl rfl (bool_tr rfl hc218)).trans rfl) rfl ?_
                refine WL.pass ((wanted_of rfl rfl (bool_tr rfl hc218)).trans rfl) rfl ?_
                refine WL.pickF (v := .bool false) (bool_tr rfl hc218) rfl ?_ (hg := (wanted_of rfl rfl (bool_tr rfl hc216)).trans rfl)
                refine WL.pickF (v := .bool false) (bool_tr rfl hc216) rfl ?_
                refine WL.move (v := .bool false) rfl ?_
                refine WL.fieldAddr (m := 1) e121 FA57_1 rfl ?_ (hg := (wanted_of rfl rfl rfl).trans rfl)
                refine WL.fieldAddr (m := 1) rfl FA54_0 rfl ?_ (hg := (wanted_of rfl rfl rfl).trans rfl)
                refine WL.loadF (z := x77.Register.Set) (F_fold_Field_Register.comp F_fold_Register_Set) hs 1 rfl 9 rfl rfl TI4 (.inr rfl) rfl rfl (fun v232 hs => ?_) (hg := (wanted_of rfl rfl rfl).trans rfl)
                obtain rfl := hs.bool 0 rfl
                refine WL.move (v := .bool x77.Register.Set) rfl ?_ (hg := (wanted_of rfl rfl rfl).trans rfl)
                rcases iteE hf with ⟨hc233, hf⟩ | ⟨hc233, hf⟩
                · refine WL.fieldAddr (m := 1) e119 FA57_1 rfl ?_ (hg := (wanted_of rfl rfl (bool_tr rfl hc233)).trans rfl)
                  refine WL.fieldAddr (m := 1) rfl FA54_0 rfl ?_ (hg := (wanted_of rfl rfl (bool_tr rfl hc233)).trans rfl)
                  refine WL.loadF (z := x89.Register.Set) (F_fold_Field_Register.comp F_fold_Register_Set) hs 0 rfl 6 rfl rfl TI4 (.inr rfl) rfl rfl (fun v234 hs => ?_) (hg := (wanted_of rfl rfl (bool_tr rfl hc233)).trans rfl)
                  obtain rfl := hs.bool 0 rfl
                  refine WL.not rfl ?_ (hg := (wanted_of rfl rfl (bool_tr rfl hc233)).trans rfl)
                  refine WL.move (v := .bool (!x89.Register.Set)) rfl ?_ (hg := (wanted_of rfl rfl (bool_tr rfl hc233)).trans rfl)
                  rcases iteE hf with ⟨hc235, hf⟩ | ⟨hc235, hf⟩
                  · refine WL.pass ((wanted_of rfl rfl (bool_tr rfl hc235)).trans rfl) rfl ?_
                    refine WL.pass ((wanted_of rfl rfl (bool_tr rfl hc235)).trans rfl) rfl ?_
                    refine WL.pass ((wanted_of rfl rfl (bool_tr rfl hc235)).trans rfl) rfl ?_
                    refine WL.pass ((wanted_of rfl rfl (bool_tr rfl hc235)).trans rfl) rfl ?_
                    refine WL.pass ((wanted_of rfl rfl (bool_tr rfl hc235)).trans rfl) rfl ?_
                    refine WL.pickT (v := .bool true) (bool_tr rfl hc235) rfl ?_ (hg := (wanted_of rfl rfl (bool_tr rfl hc233)).trans rfl)
                    refine WL.pickT (v := .bool true) (bool_tr rfl hc233) rfl ?_ (hg := (wanted_of rfl rfl rfl).trans rfl)
                    refine WL.pickF (v := .bool true) rfl rfl ?_
                    refine WL.nil ?_
                    exact Jk150 true _ _ ((hu117 6 rfl).trans h60_6) ((hu117 7 rfl).trans h60_7) ((hu117 8 rfl).trans h60_8) ((hu117 9 rfl).trans h60_9) ((hu117 10 rfl).trans h60_10) ((hu117 11 rfl).trans h60_11) e121 e119 rfl ((hs.mask [true, true, true, true, true, true]).pick [7, 11, 15, 16, 17, 18]) hf
                  · refine WL.fieldAddr (m := 1) e119 FA57_1 rfl ?_ (hg := (wanted_of rfl rfl (bool_tr rfl hc235)).trans rfl)
                    refine WL.loadF (z := x89.Register) F_fold_Field_Register hs 0 rfl 7 rfl rfl TI54 (.inl rfl) rfl rfl (fun v236 hs => ?_) (hg := (wanted_of rfl rfl (bool_tr rfl hc235)).trans rfl)
                    obtain ⟨cs237, hl238, rfl⟩ := hs.aggv (n := 6) 0 rfl rfl rfl
                    refine WL.fieldAddr (m := 1) e121 FA57_1 rfl ?_ (hg := (wanted_of rfl rfl (bool_tr rfl hc235)).trans rfl)
                    refine WL.loadF (z := x77.Register) F_fold_Field_Register hs 1 rfl 12 rfl rfl TI54 (.inl rfl) rfl rfl (fun v239 hs => ?_) (hg := (wanted_of rfl rfl (bool_tr rfl hc235)).trans rfl)
                    obtain ⟨cs240, hl241, rfl⟩ := hs.aggv (n := 6) 0 rfl rfl rfl
                    obtain ⟨x242, hxx242, hf⟩ := bindE hf
                    refine WL.call (vs := [.agg cs237.toArray, .agg cs240.toArray]) hs FN29 ⟨rfl, ⟨rfl, trivial⟩⟩ (fun ok hA => eslaw30_earlier.calls (x1 := x89.Register) (x5 := x77.Register) hxx242 (hA.get 1 rfl) (hA.get 0 rfl)) ?_ (hg := (wanted_of rfl rfl (bool_tr rfl hc235)).trans rfl)
                    rintro _ w hs
                    refine WL.pickF (v := .bool x242) (bool_tr rfl hc235) rfl ?_ (hg := (wanted_of rfl rfl (bool_tr rfl hc233)).trans rfl)
                    refine WL.pickT (v := .bool x242) (bool_tr rfl hc233) rfl ?_ (hg := (wanted_of rfl rfl rfl).trans rfl)
                    refine WL.pickF (v := .bool x242) rfl rfl ?_
                    refine WL.nil ?_
                    exact Jk150 x242 _ _ ((hu117 6 rfl).trans h60_6) ((hu117 7 rfl).trans h60_7) ((hu117 8 rfl).trans h60_8) ((hu117 9 rfl).trans h60_9) ((hu117 10 rfl).trans h60_10) ((hu117 11 rfl).trans h60_11) e121 e119 rfl ((hs.mask [true, true, true, true, true, true]).pick [9, 13, 17, 18, 19, 20]) hf
                · refine WL.pass ((wanted_of rfl rfl (bool_tr rfl hc233)).trans rfl) rfl ?_
                  refine WL.pass ((wanted_of rfl rfl (bool_tr rfl hc233)).trans rfl) rfl ?_
                  refine WL.pass ((wanted_of rfl rfl (bool_tr rfl hc233)).trans rfl) rfl ?_
                  refine WL.pass ((wanted_of rfl rfl (bool_tr rfl hc233)).trans rfl) rfl ?_
                  refine WL.pass ((wanted_of rfl rfl (bool_tr rfl hc233)).trans rfl) rfl ?_
                  refine WL.pass (wanted_undef rfl rfl rfl) rfl ?_
                  refine WL.pass (wanted_undef rfl rfl rfl) rfl ?_
                  refine WL.pass (wanted_undef rfl rfl rfl) rfl ?_
                  refine WL.pass (wanted_undef rfl rfl rfl) rfl ?_
                  refine WL.pass (wanted_undef rfl rfl rfl) rfl ?_
                  refine WL.pass ((wanted_of rfl rfl (bool_tr rfl hc233)).trans rfl) rfl ?_
                  refine WL.pickF (v := .bool false) (bool_tr rfl hc233) rfl ?_ (hg := (wanted_of rfl rfl rfl).trans rfl)
                  refine WL.pickF (v := .bool false) rfl rfl ?_
                  refine WL.nil ?_
                  exact Jk150 false _ _ ((hu117 6 rfl).trans h60_6) ((hu117 7 rfl).trans h60_7) ((hu117 8 rfl).trans h60_8) ((hu117 9 rfl).trans h60_9) ((hu117 10 rfl).trans h60_10) ((hu117 11 rfl).trans h60_11) e121 e119 rfl ((hs.mask [true, true, true, true, true, true]).pick [6, 10, 14, 15, 16, 17]) hf
        · refine WL.pass ((wanted_of rfl rfl (bool_tr rfl hc211)).trans rfl) rfl ?_
          refine WL.pass ((wanted_of rfl rfl (bool_tr rfl hc211)).trans rfl) rfl ?_
          refine WL.pass ((wanted_of rfl rfl (bool_tr rfl hc211)).trans rfl) rfl ?_
          refine WL.pass ((wanted_of rfl rfl (bool_tr rfl hc211)).trans rfl) rfl ?_
          refine WL.pass (wanted_undef rfl rfl rfl) rfl ?_
          refine WL.pass (wanted_undef rfl rfl rfl) rfl ?_
          refine WL.pass (wanted_undef rfl rfl rfl) rfl ?_
          refine WL.pass (wanted_undef rfl rfl rfl) rfl ?_
          refine WL.pass (wanted_undef rfl rfl rfl) rfl ?_
          refine WL.pass ((wanted_of rfl rfl (bool_tr rfl hc211)).trans rfl) rfl ?_
          refine WL.pickF (v := .bool false) (bool_tr rfl hc211) rfl ?_
          refine WL.move (v := .bool false) rfl ?_
          refine WL.fieldAddr (m := 11) e121 FA57_6 rfl ?_ (hg := (wanted_of rfl rfl rfl).trans rfl)
          refine WL.loadF (z := x77.Flag) F_fold_Field_Flag hs 1 rfl 5 rfl rfl TI4 (.inr rfl) rfl rfl (fun v243 hs => ?_) (hg := (wanted_of rfl rfl rfl).trans rfl)
          obtain rfl := hs.bool 0 rfl
          refine WL.move (v := .bool x77.Flag) rfl ?_ (hg := (wanted_of rfl rfl rfl).trans rfl)
          rcases iteE hf with ⟨hc244, hf⟩ | ⟨hc244, hf⟩
          · refine WL.fieldAddr (m := 11) e119 FA57_6 rfl ?_ (hg := (wanted_of rfl rfl (bool_tr rfl hc244)).trans rfl)
            refine WL.loadF (z := x89.Flag) F_fold_Field_Flag hs 0 rfl 2 rfl rfl TI4 (.inr rfl) rfl rfl (fun v245 hs => ?_) (hg := (wanted_of rfl rfl (bool_tr rfl hc244)).trans rfl)
            obtain rfl := hs.bool 0 rfl
            refine WL.not rfl ?_ (hg := (wanted_of rfl rfl (bool_tr rfl hc244)).trans rfl)
            refine WL.pickT (v := .bool (!x89.Flag)) (bool_tr rfl hc244) rfl ?_ (hg := (wanted_of rfl rfl rfl).trans rfl)
            refine WL.pickF (v := .bool (!x89.Flag)) rfl rfl ?_
            refine WL.move (v := .bool (!x89.Flag)) rfl ?_
            rcases iteE hf with ⟨hc246, hf⟩ | ⟨hc246, hf⟩
            · refine WL.pass ((wanted_of rfl rfl (bool_tr rfl hc246)).trans rfl) rfl ?_
              refine WL.pass ((wanted_of rfl rfl (bool_tr rfl hc246)).trans rfl) rfl ?_
              refine WL.pass ((wanted_of rfl rfl (bool_tr rfl hc246)).trans rfl) rfl ?_
              refine WL.pass ((wanted_of rfl rfl (bool_tr rfl hc246)).trans rfl) rfl ?_
              refine WL.pass (wanted_undef rfl rfl rfl) rfl ?_
              refine WL.pass (wanted_undef rfl rfl rfl) rfl ?_
              refine WL.pass (wanted_undef rfl rfl rfl) rfl ?_
              refine WL.pass (wanted_undef rfl rfl rfl) rfl ?_
              refine WL.pass (wanted_undef rfl rfl rfl) rfl ?_
              refine WL.pass (wanted_undef rfl rfl rfl) rfl ?_
              refine WL.pass (wanted_undef rfl rfl rfl) rfl ?_
              refine WL.pass (wanted_undef rfl rfl rfl) rfl ?_
              refine WL.pass (wanted_undef rfl rfl rfl) rfl ?_
              refine WL.pass (wanted_undef rfl rfl rfl) rfl ?_
              refine WL.pass (wanted_undef rfl rfl rfl) rfl ?_
              refine WL.pass ((wanted_of rfl rfl (bool_tr rfl hc246)).trans rfl) rfl ?_
              refine WL.pickT (v := .bool true) (bool_tr rfl hc246) rfl ?_
              refine WL.nil ?_
              exact Jk150 true _ _ ((hu117 6 rfl).trans h60_6) ((hu117 7 rfl).trans h60_7) ((hu117 8 rfl).trans h60_8) ((hu117 9 rfl).trans h60_9) ((hu117 10 rfl).trans h60_10) ((hu117 11 rfl).trans h60_11) e121 e119 rfl ((hs.mask [true, true, true, true, true, true]).pick [3, 7, 11, 12, 13, 14]) hf
            · refine WL.fieldAddr (m := 1) e121 FA57_1 rfl ?_ (hg := (wanted_of rfl rfl (bool_tr rfl hc246)).trans rfl)
              refine WL.fieldAddr (m := 1) rfl FA54_0 rfl ?_ (hg := (wanted_of rfl rfl (bool_tr rfl hc246)).trans rfl)
              refine WL.loadF (z := x77.Register.Set) (F_fold_Field_Register.comp F_fold_Register_Set) hs 1 rfl 7 rfl rfl TI4 (.inr rfl) rfl rfl (fun v247 hs => ?_) (hg := (wanted_of rfl rfl (bool_tr rfl hc246)).trans rfl)
              obtain rfl := hs.bool 0 rfl
              refine WL.move (v := .bool x77.Register.Set) rfl ?_ (hg := (wanted_of rfl rfl (bool_tr rfl hc246)).trans rfl)
              rcases iteE hf with ⟨hc248, hf⟩ | ⟨hc248, hf⟩
              · refine WL.fieldAddr (m := 1) e119 FA57_1 rfl ?_ (hg := (wanted_of rfl rfl (bool_tr rfl hc248)).trans rfl)
                refine WL.fieldAddr (m := 1) rfl FA54_0 rfl ?_ (hg := (wanted_of rfl rfl (bool_tr rfl hc248)).trans rfl)
                refine WL.loadF (z := x89.Register.Set) (F_fold_Field_Register.comp F_fold_Register_Set) hs 0 rfl 4 rfl rfl TI4 (.inr rfl) rfl rfl (fun v249 hs => ?_) (hg := (wanted_of rfl rfl (bool_tr rfl hc248)).trans rfl)
                obtain rfl := hs.bool 0 rfl
                refine WL.not rfl ?_ (hg := (wanted_of rfl rfl (bool_tr rfl hc248)).trans rfl)
                refine WL.move (v := .bool (!x89.Register.Set)) rfl ?_ (hg := (wanted_of rfl rfl (bool_tr rfl hc248)).trans rfl)
                rcases iteE hf with ⟨hc250, hf⟩ | ⟨hc250, hf⟩
                · refine WL.pass ((wanted_of rfl rfl (bool_tr rfl hc250)).trans rfl) rfl ?_
                  refine WL.pass ((wanted_of rfl rfl (bool_tr rfl hc250)).trans rfl) rfl ?_
                  refine WL.pass ((wanted_of rfl rfl (bool_tr rfl hc250)).trans rfl) rfl ?_
                  refine WL.pass ((wanted_of rfl rfl (bool_tr rfl hc250)).trans rfl) rfl ?_
                  refine WL.pass ((wanted_of rfl rfl (bool_tr rfl hc250)).trans rfl) rfl ?_
                  refine WL.pickT (v := .bool true) (bool_tr rfl hc250) rfl ?_ (hg := (wanted_of rfl rfl (bool_tr rfl hc248)).trans rfl)
                  refine WL.pickT (v := .bool true) (bool_tr rfl hc248) rfl ?_ (hg := (wanted_of rfl rfl (bool_tr rfl hc246)).trans rfl)
                  refine WL.pickF (v := .bool true) (bool_tr rfl hc246) rfl ?_
                  refine WL.nil ?_
                  exact Jk150 true _ _ ((hu117 6 rfl).trans h60_6) ((hu117 7 rfl).trans h60_7) ((hu117 8 rfl).trans h60_8) ((hu117 9 rfl).trans h60_9) ((hu117 10 rfl).trans h60_10) ((hu117 11 rfl).trans h60_11) e121 e119 rfl ((hs.mask [true, true, true, true, true, true]).pick [5, 9, 13, 14, 15, 16]) hf
                · refine WL.fieldAddr (m := 1) e119 FA57_1 rfl ?_ (hg := (wanted_of rfl rfl (bool_tr rfl hc250)).trans rfl)
                  refine WL.loadF (z := x89.Register) F_fold_Field_Register hs 0 rfl 5 rfl rfl TI54 (.inl rfl) rfl rfl (fun v251 hs => ?_) (hg := (wanted_of rfl rfl (bool_tr rfl hc250)).trans rfl)
                  obtain ⟨cs252, hl253, rfl⟩ := hs.aggv (n := 6) 0 rfl rfl rfl
                  refine WL.fieldAddr (m := 1) e121 FA57_1 rfl ?_ (hg := (wanted_of rfl rfl (bool_tr rfl hc250)).trans rfl)
                  refine WL.loadF (z := x77.Register) F_fold_Field_Register hs 1 rfl 10 rfl rfl TI54 (.inl rfl) rfl rfl (fun v254 hs => ?_) (hg := (wanted_of rfl rfl (bool_tr rfl hc250)).trans rfl)
                  obtain ⟨cs255, hl256, rfl⟩ := hs.aggv (n := 6) 0 rfl rfl rfl
                  obtain ⟨x257, hxx257, hf⟩ := bindE hf
                  refine WL.call (vs := [.agg cs252.toArray, .agg cs255.toArray]) hs FN29 ⟨rfl, ⟨rfl, trivial⟩⟩ (fun ok hA => eslaw30_earlier.calls (x1 := x89.Register) (x5 := x77.Register) hxx257 (hA.get 1 rfl) (hA.get 0 rfl)) ?_ (hg := (wanted_of rfl rfl (bool_tr rfl hc250)).trans rfl)
                  rintro _ w hs
                  refine WL.pickF (v := .bool x257) (bool_tr rfl hc250) rfl ?_ (hg := (wanted_of rfl rfl (bool_tr rfl hc248)).trans rfl)
                  refine WL.pickT (v := .bool x257) (bool_tr rfl hc248) rfl ?_ (hg := (wanted_of rfl rfl (bool_tr rfl hc246)).trans rfl)
                  refine WL.pickF (v := .bool x257) (bool_tr rfl hc246) rfl ?_
                  refine WL.nil ?_
                  exact Jk150 x257 _ _ ((hu117 6 rfl).trans h60_6) ((hu117 7 rfl).trans h60_7) ((hu117 8 rfl).trans h60_8) ((hu117 9 rfl).trans h60_9) ((hu117 10 rfl).trans h60_10) ((hu117 11 rfl).trans h60_11) e121 e119 rfl ((hs.mask [true, true, true, true, true, true]).pick [7, 11, 15, 16, 17, 18]) hf
              · refine WL.pass ((wanted_of rfl rfl (bool_tr rfl hc248)).trans rfl) rfl ?_
                refine WL.pass ((wanted_of rfl rfl (bool_tr rfl hc248)).trans rfl) rfl ?_
                refine WL.pass ((wanted_of rfl rfl (bool_tr rfl hc248)).trans rfl) rfl ?_
                refine WL.pass ((wanted_of rfl rfl (bool_tr rfl hc248)).trans rfl) rfl ?_
                refine WL.pass ((wanted_of rfl rfl (bool_tr rfl hc248)).trans rfl) rfl ?_
                refine WL.pass (wanted_undef rfl rfl rfl) rfl ?_
                refine WL.pass (wanted_undef rfl rfl rfl) rfl ?_
                refine WL.pass (wanted_undef rfl rfl rfl) rfl ?_
                refine WL.pass (wanted_undef rfl rfl rfl) rfl ?_
                refine WL.pass (wanted_undef rfl rfl rfl) rfl ?_
                refine WL.pass ((wanted_of rfl rfl (bool_tr rfl hc248)).trans rfl) rfl ?_
                refine WL.pickF (v := .bool false) (bool_tr rfl hc248) rfl ?_ (hg := (wanted_of rfl rfl (bool_tr rfl hc246)).trans rfl)
                refine WL.pickF (v := .bool false) (bool_tr rfl hc246) rfl ?_
                refine WL.nil ?_
                exact Jk150 false _ _ ((hu117 6 rfl).trans h60_6) ((hu117 7 rfl).trans h60_7) ((hu117 8 rfl).trans h60_8) ((hu117 9 rfl).trans h60_9) ((hu117 10 rfl).trans h60_10) ((hu117 11 rfl).trans h60_11) e121 e119 rfl ((hs.mask [true, true, true, true, true, true]).pick [4, 8, 12, 13, 14, 15]) hf
          · refine WL.pass ((wanted_of rfl rfl (bool_tr rfl hc244)).trans rfl) rfl ?_
            refine WL.pass ((wanted_of rfl rfl (bool_tr rfl hc244)).trans rfl) rfl ?_
            refine WL.pass ((wanted_of rfl rfl (bool_tr rfl hc244)).trans rfl) rfl ?_
            refine WL.pickF (v := .bool false) (bool_tr rfl hc244) rfl ?_ (hg := (wanted_of rfl rfl rfl).trans rfl)
            refine WL.pickF (v := .bool false) rfl rfl ?_
            refine WL.move (v := .bool false) rfl ?_
            refine WL.fieldAddr (m := 1) e121 FA57_1 rfl ?_ (hg := (wanted_of rfl rfl rfl).trans rfl)
            refine WL.fieldAddr (m := 1) rfl FA54_0 rfl ?_ (hg := (wanted_of rfl rfl rfl).trans rfl)
            refine WL.loadF (z := x77.Register.Set) (F_fold_Field_Register.comp F_fold_Register_Set) hs 1 rfl 6 rfl rfl TI4 (.inr rfl) rfl rfl (fun v258 hs => ?_) (hg := (wanted_of rfl rfl rfl).trans rfl)
            obtain rfl := hs.bool 0 rfl
            refine WL.move (v := .bool x77.Register.Set) rfl ?_ (hg := (wanted_of rfl rfl rfl).trans rfl)
            rcases iteE hf with ⟨hc259, hf⟩ | ⟨hc259, hf⟩
            · refine WL.fieldAddr (m := 1) e119 FA57_1 rfl ?_ (hg := (wanted_of rfl rfl (bool_tr rfl hc259)).trans rfl)
              refine WL.fieldAddr (m := 1) rfl FA54_0 rfl ?_ (hg := (wanted_of rfl rfl (bool_tr rfl hc259)).trans rfl)
              refine WL.loadF (z := x89.Register.Set) (F_fold_Field_Register.comp F_fold_Register_Set) hs 0 rfl 3 rfl rfl TI4 (.inr rfl) rfl rfl (fun v260 hs => ?_) (hg := (wanted_of rfl rfl (bool_tr rfl hc259)).trans rfl)
              obtain rfl := hs.bool 0 rfl
              refine WL.not rfl ?_ (hg := (wanted_of rfl rfl (bool_tr rfl hc259)).trans rfl)
              refine WL.move (v := .bool (!x89.Register.Set)) rfl ?_ (hg := (wanted_of rfl rfl (bool_tr rfl hc259)).trans rfl)
              rcases iteE hf with ⟨hc261, hf⟩ | ⟨hc261, hf⟩
              · refine WL.pass ((wanted_of rfl rfl (bool_tr rfl hc261)).trans rfl) rfl ?_
                refine WL.pass ((wanted_of rfl rfl (bool_tr rfl hc261)).trans rfl) rfl ?_
                refine WL.pass ((wanted_of rfl rfl (bool_tr rfl hc261)).trans rfl) rfl ?_
                refine WL.pass ((wanted_of rfl rfl (bool_tr rfl hc261)).trans rfl) rfl ?_
                refine WL.pass ((wanted_of rfl rfl (bool_tr rfl hc261)).trans rfl) rfl ?_
                refine WL.pickT (v := .bool true) (bool_tr rfl hc261) rfl ?_ (hg := (wanted_of rfl rfl (bool_tr rfl hc259)).trans rfl)
                refine WL.pickT (v := .bool true) (bool_tr rfl hc259) rfl ?_ (hg := (wanted_of rfl rfl rfl).trans rfl)
                refine WL.pickF (v := .bool true) rfl rfl ?_
                refine WL.nil ?_
                exact Jk150 true _ _ ((hu117 6 rfl).trans h60_6) ((hu117 7 rfl).trans h60_7) ((hu117 8 rfl).trans h60_8) ((hu117 9 rfl).trans h60_9) ((hu117 10 rfl).trans h60_10) ((hu117 11 rfl).trans h60_11) e121 e119 rfl ((hs.mask [true, true, true, true, true, true]).pick [4, 8, 12, 13, 14, 15]) hf
              · refine WL.fieldAddr (m := 1) e119 FA57_1 rfl ?_ (hg := (wanted_of rfl rfl (bool_tr rfl hc261)).trans rfl)
                refine WL.loadF (z := x89.Register) F_fold_Field_Register hs 0 rfl 4 rfl rfl TI54 (.inl rfl) rfl rfl (fun v262 hs => ?_) (hg := (wanted_of rfl rfl (bool_tr rfl hc261)).trans rfl)
                obtain ⟨cs263, hl264, rfl⟩ := hs.aggv (n := 6) 0 rfl rfl rfl
                refine WL.fieldAddr (m := 1) e121 FA57_1 rfl ?_ (hg := (wanted_of rfl rfl (bool_tr rfl hc261)).trans rfl)
                refine WL.loadF (z := x77.Register) F_fold_Field_Register hs 1 rfl 9 rfl rfl TI54 (.inl rfl) rfl rfl (fun v265 hs => ?_) (hg := (wanted_of rfl rfl (bool_tr rfl hc261)).trans rfl)
                obtain ⟨cs266, hl267, rfl⟩ := hs.aggv (n := 6) 0 rfl rfl rfl
                obtain ⟨x268, hxx268, hf⟩ := bindE hf
                refine WL.call (vs := [.agg cs263.toArray, .agg cs266.toArray]) hs FN29 ⟨rfl, ⟨rfl, trivial⟩⟩ (fun ok hA => eslaw30_earlier.calls (x1 := x89.Register) (x5 := x77.Register) hxx268 (hA.get 1 rfl) (hA.get 0 rfl)) ?_ (hg := (wanted_of rfl rfl (bool_tr rfl hc261)).trans rfl)
                rintro _ w hs
                refine WL.pickF (v := .bool x268) (bool_tr rfl hc261) rfl ?_ (hg := (wanted_of rfl rfl (bool_tr rfl hc259)).trans rfl)
                refine WL.pickT (v := .bool x268) (bool_tr rfl hc259) rfl ?_ (hg := (wanted_of rfl rfl rfl).trans rfl)
                refine WL.pickF (v := .bool x268) rfl rfl ?_
                refine WL.nil ?_
                exact Jk150 x268 _ _ ((hu117 6 rfl).trans h60_6) ((hu117 7 rfl).trans h60_7) ((hu117 8 rfl).trans h60_8) ((hu117 9 rfl).trans h60_9) ((hu117 10 rfl).trans h60_10) ((hu117 11 rfl).trans h60_11) e121 e119 rfl ((hs.mask [true, true, true, true, true, true]).pick [6, 10, 14, 15, 16, 17]) hf
            · refine WL.pass ((wanted_of rfl rfl (bool_tr rfl hc259)).trans rfl) rfl ?_
              refine WL.pass ((wanted_of rfl rfl (bool_tr rfl hc259)).trans rfl) rfl ?_
              refine WL.pass ((wanted_of rfl rfl (bool_tr rfl hc259)).trans rfl) rfl ?_
              refine WL.pass ((wanted_of rfl rfl (bool_tr rfl hc259)).trans rfl) rfl ?_
              refine WL.pass ((wanted_of rfl rfl (bool_tr rfl hc259)).trans rfl) rfl ?_
              refine WL.pass (wanted_undef rfl rfl rfl) rfl ?_
              refine WL.pass (wanted_undef rfl rfl rfl) rfl ?_
              refine WL.pass (wanted_undef rfl rfl rfl) rfl ?_
              refine WL.pass (wanted_undef rfl rfl rfl) rfl ?_
              refine WL.pass (wanted_undef rfl rfl rfl) rfl ?_
              refine WL.pass ((wanted_of rfl rfl (bool_tr rfl hc259)).trans rfl) rfl ?_
              refine WL.pickF (v := .bool false) (bool_tr rfl hc259) rfl ?_ (hg := (wanted_of rfl rfl rfl).trans rfl)
              refine WL.pickF (v := .bool false) rfl rfl ?_
              refine WL.nil ?_
              exact Jk150 false _ _ ((hu117 6 rfl).trans h60_6) ((hu117 7 rfl).trans h60_7) ((hu117 8 rfl).trans h60_8) ((hu117 9 rfl).trans h60_9) ((hu117 10 rfl).trans h60_10) ((hu117 11 rfl).trans h60_11) e121 e119 rfl ((hs.mask [true, true, true, true, true, true]).pick [3, 7, 11, 12, 13, 14]) hf
    · refine W.cond_false (bool_tr rfl hc68) ?_
      refine W.exit ?_
      have hr := Option.some.inj hf; subst hr
      have hr := hbbs62 _ rfl; subst hr
      have hf := hfs62
      exact Jk41  _ _ h60_6 h60_7 h60_8 ((hs.mask [false, false, true, true]).pick [3, 4]) hf
  · refine W.cond_false (bool_tr rfl hc38) ?_
    refine W.exit ?_
    have hr := Option.some.inj hf; subst hr
    have hr := hbbs32 _ rfl; subst hr
    have hf := hfs32
    exact Jk26  _ _  ((hs.mask []).pick []) hf
end Go.Proofs.Ytlbcfjblpopcnaa
