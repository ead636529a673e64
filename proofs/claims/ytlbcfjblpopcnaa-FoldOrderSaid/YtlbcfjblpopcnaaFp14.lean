import Derived.Test.YtlbcfjblpopcnaaFh
import Derived.Test.YtlbcfjblpopcnaaLz
import Derived.Test.YtlbcfjblpopcnaaFp1
import Derived.Test.YtlbcfjblpopcnaaFp3
import Derived.Test.YtlbcfjblpopcnaaFp4
import Derived.Test.YtlbcfjblpopcnaaFp5
import Derived.Test.YtlbcfjblpopcnaaFp12
import Derived.Test.YtlbcfjblpopcnaaFp13
set_option linter.unusedVariables false
set_option linter.unusedSimpArgs false
namespace Go.Proofs.Ytlbcfjblpopcnaa
open Go Go.RowKit Go.Proofs.YtlbcfjblpopcnaaL
set_option maxRecDepth 100000
set_option maxHeartbeats 4000000
/-! elasticstore/elasticstorelaw30.FoldOrder: function 6 -/
theorem eslaw30_FoldOrder.calls {ok : Nat → Prop} {w0 : World} {x1 : List Int} {x4 : List Int} {a2 : Option Addr} {c3 : Nat} {a5 : Option Addr} {c6 : Nat} {r : Bool} (hf : eslaw30_FoldOrder x1 x4 = some r) (i0 : (vl (tSlice (tInt .i64)) x1 (.slice a2 x1.length c3)).holds ok w0) (i1 : (vl (tSlice (tInt .i64)) x4 (.slice a5 x4.length c6)).holds ok w0) :
    Calls Try.prog 6 #[.slice a2 x1.length c3, .slice a5 x4.length c6] w0 fun e w' => ∃ v, e = .returned v ∧ ∃ y : Unit, v = .bool r ∧ St ok (bz w0) w' [] [] := by
  unfold eslaw30_FoldOrder at hf
  refine calls_of_W (fn := Try.f6) (N := 64) Try.func6 rfl Try.ntmps6 rfl ?_
  have hs : St ok (bz w0) w0 [vl (tSlice (tInt .i64)) x1 (.slice a2 x1.length c3), vl (tSlice (tInt .i64)) x4 (.slice a5 x4.length c6)] [] := St.init (All.cons i0 (All.cons i1 All.nil))
  clear i0 i1
  refine W.seqK fun K7 hK7 => ?_
  refine W.region ?_
  refine WL.assign (v := .bool false) rfl ?_
  refine WL.nil ?_
  refine hK7 _ _ ?_
  refine W.seqK fun K8 hK8 => ?_
  refine W.region ?_
  refine WL.move (v := .slice a2 x1.length c3) rfl ?_
  obtain ⟨x9, hxx9, hf⟩ := bindE hf
  refine WL.call (vs := [.slice a2 x1.length c3]) hs FN19 ⟨rfl, trivial⟩ (fun ok hA => eslaw00_Updates.calls (x1 := x1) hxx9 (hA.get 0 rfl)) ?_
  rintro ⟨a10, n11, c12⟩ w hs
  refine WL.assign (v := .slice a10 n11 c12) rfl ?_
  refine WL.nil ?_
  refine hK8 _ _ ?_
  refine W.seqK fun K13 hK13 => ?_
  refine W.region ?_
  refine WL.buildSlice0 hs UN22 TI41 (fun a14 w hs => ?_)
  refine WL.move (v := .slice a10 n11 c12) rfl ?_
  have hs := hs.ownEmpty t_api_Update 41 a14
  obtain rfl := hs.ownLen 1 rfl
  have hs := hs.freezeOwn 1 rfl
  obtain ⟨x15, hxx15, hf⟩ := bindE hf
  obtain ⟨hbx15, hex15⟩ := appE hxx15
  refine WL.appendS (zs := x15) hs 0 rfl 0 rfl UN22 UN23 EI41 rfl rfl hbx15 (by omega) hex15 (fun v16 w hs => ?_)
  obtain ⟨a17, n19, c18, rfl⟩ := hs.ownv3 0 rfl
  refine WL.assign (v := .slice a17 n19 c18) rfl ?_
  refine WL.nil ?_
  refine hK13 _ _ ?_
  refine W.seqK fun K20 hK20 => ?_
  refine W.region ?_
  refine WL.build (vs := []) (cs := [.slice none 0 0]) trivial (bld PL29 rfl) ?_
  refine WL.alloc hs ZV29 (fun g21 w hs => ?_)
  refine WL.storeAll (vs := [.slice none 0 0]) hs 0 rfl TI29 rfl rfl rfl rfl (ones_of rfl) rfl (fun w hs => ?_)
  refine WL.nil ?_
  refine hK20 _ _ ?_
  refine W.seqK fun K22 hK22 => ?_
  have Jk27 : ∀ (x24 : List fold_Object) (a25 : Option Addr) (c26 : Nat) (ρ : Env) (w : World), ρ 5 = .slice a10 x9.length c12 → ρ 7 = .pointer (some ⟨g21, 0, none⟩) → St ok (bz w0) w [vl (tSlice t_api_Update) x9 (.slice a10 x9.length c12), vl (tSlice t_fold_Object) x24 (.slice a25 x24.length c26)] [blk g21 29 [.slice a25 x24.length c26]] → eslaw30_FoldOrder.j2 x9 x24 = some r → K22 ρ w := by
    intro x24 a25 c26 ρ w h23_5 h23_7 hs hf
    refine hK22 _ _ ?_
    unfold eslaw30_FoldOrder.j2 at hf
    refine W.seqK fun K28 hK28 => ?_
    refine W.region ?_
    refine WL.move (v := .slice a10 x9.length c12) h23_5 ?_
    obtain ⟨x29, hxx29, hf⟩ := bindE hf
    refine WL.call (vs := [.slice a10 x9.length c12]) hs FN13 ⟨rfl, trivial⟩ (fun ok hA => fold_Fold.calls (x1 := x9) hxx29 (hA.get 0 rfl)) ?_
    rintro cs30 w hs
    have hl31 := hs.agglen (n := 1) 0 rfl rfl rfl
    refine WL.alloc hs ZV29 (fun g32 w hs => ?_)
    refine WL.storeAll (vs := cs30) hs 0 rfl TI29 rfl rfl rfl hl31 (hs.ones 0 rfl rfl) rfl (fun w hs => ?_)
    refine WL.nil ?_
    refine hK28 _ _ ?_
    refine W.seqK fun K33 hK33 => ?_
    have Jk36 : ∀ (x35 : Bool) (ρ : Env) (w : World), ρ 4 = .bool x35 → St ok (bz w0) w [] [] → eslaw30_FoldOrder.j1 x35 = some r → K33 ρ w := by
      intro x35 ρ w h34_4 hs hf
      refine hK33 _ _ ?_
      unfold eslaw30_FoldOrder.j1 at hf
      refine W.ret ?_
      have hr := Option.some.inj hf; subst hr
      exact ⟨_, resOk_one rfl h34_4, (), rfl, (hs.mask []).pick []⟩
    obtain ⟨x37, hxx37, hf⟩ := bindE hf
    rcases iteE hf with ⟨hc38, hf⟩ | ⟨hc38, hf⟩
    · obtain ⟨x39, hxx39, hf⟩ := bindE hf
      rcases iteE hf with ⟨hc40, hf⟩ | ⟨hc40, hf⟩
      · obtain ⟨x41, hxx41, hf⟩ := bindE hf
        obtain ⟨x42, hxx42, hf⟩ := bindE hf
        rcases iteE hf with ⟨hc43, hf⟩ | ⟨hc43, hf⟩
        · obtain ⟨x44, hxx44, hf⟩ := bindE hf
          refine W.any (by kernel_rfl) 18 1 [true, true, true, true, true, true, true, true, true, true, true, true, true, true, true, true, true, true, false] rfl rfl (poAt [pv (.agg ([.slice a25 x24.length c26] : List Value).toArray), pv (.agg cs30.toArray), pv (.bool x37), pv (.bool x37), pv (.agg ([.slice a25 x24.length c26] : List Value).toArray), pv (.agg cs30.toArray), pv (.bool x39), pv (.bool x39), pv (.bool x39), pv (.agg ([.slice a25 x24.length c26] : List Value).toArray), pv (.int .u64 x41), pv (.agg cs30.toArray), pv (.int .u64 x42), pv (.bool (x41 == x42)), pv (.bool (x41 == x42)), pv (.bool (x41 == x42)), pv (.bool x44), pv (.bool x44)]) (Λ := [blk g32 29 cs30, blk g21 29 [.slice a25 x24.length c26]]) hs (by kernel_rfl) (by kernel_rfl) (by kernel_rfl) ⟨⟨⟨⟨⟨⟨⟨⟨⟨⟨⟨⟨⟨⟨⟨⟨⟨⟨trivial, ?_⟩, ?_⟩, ?_⟩, ?_⟩, ?_⟩, ?_⟩, ?_⟩, ?_⟩, ?_⟩, ?_⟩, ?_⟩, ?_⟩, ?_⟩, ?_⟩, ?_⟩, ?_⟩, ?_⟩, ?_⟩ ?_
          · intro ρ w Γx Λx hs hu hp
            refine WL.loadN (vs := [.slice a25 x24.length c26]) hs (Λx.length + 1) (getApp rfl) TI29 ((hu 7 rfl).trans h23_7) rfl rfl ?_
            exact WL.nil ⟨rfl, _, rfl, rfl, hs.cutG 0 0⟩
          · intro ρ w Γx Λx hs hu hp
            refine WL.loadAll hs (Λx.length + 0) (getApp rfl) TI29 (hu 10 rfl) hl31 ?_
            exact WL.nil ⟨rfl, _, rfl, rfl, hs.cutG 0 0⟩
          · intro ρ w Γx Λx hs hu hp
            have e45 : ρ 46 = .agg ([.slice a25 x24.length c26] : List Value).toArray := (hp 0 rfl).1
            have e46 : ρ 47 = .agg cs30.toArray := (hp 1 rfl).1
            have hs := hs.add (it := vl t_fold_Store (⟨x24⟩ : fold_Store) (.agg [.slice a25 x24.length c26].toArray)) fun ok hA => V_agg ((R_one (hA.get (Γx.length + 2) (getApp rfl)))) rfl
            refine WL.call (vs := [.agg ([.slice a25 x24.length c26] : List Value).toArray, .agg cs30.toArray]) hs FN26 ⟨e45, ⟨e46, trivial⟩⟩ (fun ok hA => fold_Equal.calls (x1 := (⟨x24⟩ : fold_Store)) (x5 := x29) hxx37 (hA.get 0 rfl) (hA.get (Γx.length + 0 + 1) (getApp1 rfl))) ?_
            rintro _ w hs
            exact WL.nil ⟨rfl, _, rfl, rfl, hs.cutG 0 1⟩
          · intro ρ w Γx Λx hs hu hp
            have e47 : ρ 48 = .bool x37 := (hp 2 rfl).1
            refine WL.move (v := .bool x37) e47 ?_
            exact WL.nil ⟨rfl, _, rfl, rfl, hs.cutG 0 0⟩
          · intro ρ w Γx Λx hs hu hp
            have e48 : ρ 49 = .bool x37 := (hp 3 rfl).1
            refine WL.loadN (vs := [.slice a25 x24.length c26]) hs (Λx.length + 1) (getApp rfl) TI29 ((hu 7 rfl).trans h23_7) rfl rfl ?_ (hg := (wanted_of rfl rfl (bool_tr e48 hc38)).trans rfl)
            exact WL.nil ⟨rfl, _, rfl, rfl, hs.cutG 0 0⟩
          · intro ρ w Γx Λx hs hu hp
            have e49 : ρ 49 = .bool x37 := (hp 3 rfl).1
            refine WL.loadAll hs (Λx.length + 0) (getApp rfl) TI29 (hu 10 rfl) hl31 ?_ (hg := (wanted_of rfl rfl (bool_tr e49 hc38)).trans rfl)
            exact WL.nil ⟨rfl, _, rfl, rfl, hs.cutG 0 0⟩
          · intro ρ w Γx Λx hs hu hp
            have e50 : ρ 50 = .agg ([.slice a25 x24.length c26] : List Value).toArray := (hp 4 rfl).1
            have e51 : ρ 51 = .agg cs30.toArray := (hp 5 rfl).1
            have e52 : ρ 49 = .bool x37 := (hp 3 rfl).1
            have hs := hs.add (it := vl t_fold_Store (⟨x24⟩ : fold_Store) (.agg [.slice a25 x24.length c26].toArray)) fun ok hA => V_agg ((R_one (hA.get (Γx.length + 2) (getApp rfl)))) rfl
            refine WL.call (vs := [.agg ([.slice a25 x24.length c26] : List Value).toArray, .agg cs30.toArray]) hs FN14 ⟨e50, ⟨e51, trivial⟩⟩ (fun ok hA => esref32_Equal.calls (x1 := (⟨x24⟩ : fold_Store)) (x5 := x29) hxx39 (hA.get 0 rfl) (hA.get (Γx.length + 0 + 1) (getApp1 rfl))) ?_ (hg := (wanted_of rfl rfl (bool_tr e52 hc38)).trans rfl)
            rintro _ w hs
            exact WL.nil ⟨rfl, _, rfl, rfl, hs.cutG 0 1⟩
          · intro ρ w Γx Λx hs hu hp
            have e53 : ρ 49 = .bool x37 := (hp 3 rfl).1
            have e54 : ρ 52 = .bool x39 := (hp 6 rfl).1
            refine WL.pickT (v := .bool x39) (bool_tr e53 hc38) e54 ?_
            exact WL.nil ⟨rfl, _, rfl, rfl, hs.cutG 0 0⟩
          · intro ρ w Γx Λx hs hu hp
            have e55 : ρ 53 = .bool x39 := (hp 7 rfl).1
            refine WL.move (v := .bool x39) e55 ?_
            exact WL.nil ⟨rfl, _, rfl, rfl, hs.cutG 0 0⟩
          · intro ρ w Γx Λx hs hu hp
            have e56 : ρ 54 = .bool x39 := (hp 8 rfl).1
            refine WL.loadN (vs := [.slice a25 x24.length c26]) hs (Λx.length + 1) (getApp rfl) TI29 ((hu 7 rfl).trans h23_7) rfl rfl ?_ (hg := (wanted_of rfl rfl (bool_tr e56 hc40)).trans rfl)
            exact WL.nil ⟨rfl, _, rfl, rfl, hs.cutG 0 0⟩
          · intro ρ w Γx Λx hs hu hp
            have e57 : ρ 55 = .agg ([.slice a25 x24.length c26] : List Value).toArray := (hp 9 rfl).1
            have e58 : ρ 54 = .bool x39 := (hp 8 rfl).1
            have hs := hs.add (it := vl t_fold_Store (⟨x24⟩ : fold_Store) (.agg [.slice a25 x24.length c26].toArray)) fun ok hA => V_agg ((R_one (hA.get (Γx.length + 2) (getApp rfl)))) rfl
            refine WL.call (vs := [.agg ([.slice a25 x24.length c26] : List Value).toArray]) hs FN16 ⟨e57, trivial⟩ (fun ok hA => fold_Hash.calls (x1 := (⟨x24⟩ : fold_Store)) hxx41 (hA.get 0 rfl)) ?_ (hg := (wanted_of rfl rfl (bool_tr e58 hc40)).trans rfl)
            rintro _ w hs
            exact WL.nil ⟨rfl, _, rfl, rfl, hs.cutG 0 1⟩
          · intro ρ w Γx Λx hs hu hp
            have e59 : ρ 54 = .bool x39 := (hp 8 rfl).1
            refine WL.loadAll hs (Λx.length + 0) (getApp rfl) TI29 (hu 10 rfl) hl31 ?_ (hg := (wanted_of rfl rfl (bool_tr e59 hc40)).trans rfl)
            exact WL.nil ⟨rfl, _, rfl, rfl, hs.cutG 0 0⟩
          · intro ρ w Γx Λx hs hu hp
            have e60 : ρ 57 = .agg cs30.toArray := (hp 11 rfl).1
            have e61 : ρ 54 = .bool x39 := (hp 8 rfl).1
            refine WL.call (vs := [.agg cs30.toArray]) hs FN16 ⟨e60, trivial⟩ (fun ok hA => fold_Hash.calls (x1 := x29) hxx42 (hA.get (Γx.length + 0) (getApp rfl))) ?_ (hg := (wanted_of rfl rfl (bool_tr e61 hc40)).trans rfl)
            rintro _ w hs
            exact WL.nil ⟨rfl, _, rfl, rfl, hs.cutG 0 0⟩
          · intro ρ w Γx Λx hs hu hp
            have e62 : ρ 56 = .int .u64 x41 := (hp 10 rfl).1
            have e63 : ρ 58 = .int .u64 x42 := (hp 12 rfl).1
            have e64 : ρ 54 = .bool x39 := (hp 8 rfl).1
            refine WL.bin (v := .bool (x41 == x42)) e62 e63 (ib_eql _ _ _) ?_ (hg := (wanted_of rfl rfl (bool_tr e64 hc40)).trans rfl)
            exact WL.nil ⟨rfl, _, rfl, rfl, hs.cutG 0 0⟩
          · intro ρ w Γx Λx hs hu hp
            have e65 : ρ 54 = .bool x39 := (hp 8 rfl).1
            have e66 : ρ 59 = .bool (x41 == x42) := (hp 13 rfl).1
            refine WL.pickT (v := .bool (x41 == x42)) (bool_tr e65 hc40) e66 ?_
            exact WL.nil ⟨rfl, _, rfl, rfl, hs.cutG 0 0⟩
          · intro ρ w Γx Λx hs hu hp
            have e67 : ρ 60 = .bool (x41 == x42) := (hp 14 rfl).1
            refine WL.move (v := .bool (x41 == x42)) e67 ?_
            exact WL.nil ⟨rfl, _, rfl, rfl, hs.cutG 0 0⟩
          · intro ρ w Γx Λx hs hu hp
            have e68 : ρ 61 = .bool (x41 == x42) := (hp 15 rfl).1
            refine WL.call (vs := []) hs FN12 trivial (fun ok hA => eslaw30_awake.calls hxx44) ?_ (hg := (wanted_of rfl rfl (bool_tr e68 hc43)).trans rfl)
            rintro _ w hs
            exact WL.nil ⟨rfl, _, rfl, rfl, hs.cutG 0 0⟩
          · intro ρ w Γx Λx hs hu hp
            have e69 : ρ 61 = .bool (x41 == x42) := (hp 15 rfl).1
            have e70 : ρ 62 = .bool x44 := (hp 16 rfl).1
            refine WL.pickT (v := .bool x44) (bool_tr e69 hc43) e70 ?_
            exact WL.nil ⟨rfl, _, rfl, rfl, hs.cutG 0 0⟩
          · intro ρ w hs hu71 hp
            obtain ⟨⟨⟨⟨⟨⟨⟨⟨⟨⟨⟨⟨⟨⟨⟨⟨⟨⟨_, hp0_⟩, hp1_⟩, hp2_⟩, hp3_⟩, hp4_⟩, hp5_⟩, hp6_⟩, hp7_⟩, hp8_⟩, hp9_⟩, hp10_⟩, hp11_⟩, hp12_⟩, hp13_⟩, hp14_⟩, hp15_⟩, hp16_⟩, hp17_⟩ := hp
            have hs : St ok (bz w0) w [vl t_fold_Store x29 (.agg cs30.toArray), vl (tSlice t_api_Update) x9 (.slice a10 x9.length c12), vl (tSlice t_fold_Object) x24 (.slice a25 x24.length c26)] [blk g32 29 cs30, blk g21 29 [.slice a25 x24.length c26]] := hs
            have e72 : ρ 63 = .bool x44 := hp17_
            have e73 : ρ 62 = .bool x44 := hp16_
            have e74 : ρ 61 = .bool (x41 == x42) := hp15_
            have e75 : ρ 60 = .bool (x41 == x42) := hp14_
            have e76 : ρ 59 = .bool (x41 == x42) := hp13_
            have e77 : ρ 58 = .int .u64 x42 := hp12_
            have e78 : ρ 57 = .agg cs30.toArray := hp11_
            have e79 : ρ 56 = .int .u64 x41 := hp10_
            have e80 : ρ 55 = .agg ([.slice a25 x24.length c26] : List Value).toArray := hp9_
            have e81 : ρ 54 = .bool x39 := hp8_
            have e82 : ρ 53 = .bool x39 := hp7_
            have e83 : ρ 52 = .bool x39 := hp6_
            have e84 : ρ 51 = .agg cs30.toArray := hp5_
            have e85 : ρ 50 = .agg ([.slice a25 x24.length c26] : List Value).toArray := hp4_
            have e86 : ρ 49 = .bool x37 := hp3_
            have e87 : ρ 48 = .bool x37 := hp2_
            have e88 : ρ 47 = .agg cs30.toArray := hp1_
            have e89 : ρ 46 = .agg ([.slice a25 x24.length c26] : List Value).toArray := hp0_
            refine WA.step [18] (by kernel_rfl) (by simp) ⟨?_, trivial⟩
            refine WL.assign (v := .bool x44) e72 ?_
            refine WL.nil ⟨rfl, _, rfl, ?_⟩
            refine WA.done (by kernel_rfl) ?_
            exact Jk36 x44 _ _ rfl ((hs.mask []).pick []) hf
        · refine W.any (by kernel_rfl) 18 1 [true, true, true, true, true, true, true, true, true, true, true, true, true, true, true, true, true, true, false] rfl rfl (poAt [pv (.agg ([.slice a25 x24.length c26] : List Value).toArray), pv (.agg cs30.toArray), pv (.bool x37), pv (.bool x37), pv (.agg ([.slice a25 x24.length c26] : List Value).toArray), pv (.agg cs30.toArray), pv (.bool x39), pv (.bool x39), pv (.bool x39), pv (.agg ([.slice a25 x24.length c26] : List Value).toArray), pv (.int .u64 x41), pv (.agg cs30.toArray), pv (.int .u64 x42), pv (.bool (x41 == x42)), pv (.bool (x41 == x42)), pv (.bool (x41 == x42)), pv (undef), pv (.bool false)]) (Λ := [blk g32 29 cs30, blk g21 29 [.slice a25 x24.length c26]]) hs (by kernel_rfl) (by kernel_rfl) (by kernel_rfl) ⟨⟨⟨⟨⟨⟨⟨⟨⟨⟨⟨⟨⟨⟨⟨⟨⟨⟨trivial, ?_⟩, ?_⟩, ?_⟩, ?_⟩, ?_⟩, ?_⟩, ?_⟩, ?_⟩, ?_⟩, ?_⟩, ?_⟩, ?_⟩, ?_⟩, ?_⟩, ?_⟩, ?_⟩, ?_⟩, ?_⟩ ?_
          · intro ρ w Γx Λx hs hu hp
            refine WL.loadN (vs := [.slice a25 x24.length c26]) hs (Λx.length + 1) (getApp rfl) TI29 ((hu 7 rfl).trans h23_7) rfl rfl ?_
            exact WL.nil ⟨rfl, _, rfl, rfl, hs.cutG 0 0⟩
          · intro ρ w Γx Λx hs hu hp
            refine WL.loadAll hs (Λx.length + 0) (getApp rfl) TI29 (hu 10 rfl) hl31 ?_
            exact WL.nil ⟨rfl, _, rfl, rfl, hs.cutG 0 0⟩
          · intro ρ w Γx Λx hs hu hp
            have e90 : ρ 46 = .agg ([.slice a25 x24.length c26] : List Value).toArray := (hp 0 rfl).1
            have e91 : ρ 47 = .agg cs30.toArray := (hp 1 rfl).1
            have hs := hs.add (it := vl t_fold_Store (⟨x24⟩ : fold_Store) (.agg [.slice a25 x24.length c26].toArray)) fun ok hA => V_agg ((R_one (hA.get (Γx.length + 2) (getApp rfl)))) rfl
            refine WL.call (vs := [.agg ([.slice a25 x24.length c26] : List Value).toArray, .agg cs30.toArray]) hs FN26 ⟨e90, ⟨e91, trivial⟩⟩ (fun ok hA => fold_Equal.calls (x1 := (⟨x24⟩ : fold_Store)) (x5 := x29) hxx37 (hA.get 0 rfl) (hA.get (Γx.length + 0 + 1) (getApp1 rfl))) ?_
            rintro _ w hs
            exact WL.nil ⟨rfl, _, rfl, rfl, hs.cutG 0 1⟩
          · intro ρ w Γx Λx hs hu hp
            have e92 : ρ 48 = .bool x37 := (hp 2 rfl).1
            refine WL.move (v := .bool x37) e92 ?_
            exact WL.nil ⟨rfl, _, rfl, rfl, hs.cutG 0 0⟩
          · intro ρ w Γx Λx hs hu hp
            have e93 : ρ 49 = .bool x37 := (hp 3 rfl).1
            refine WL.loadN (vs := [.slice a25 x24.length c26]) hs (Λx.length + 1) (getApp rfl) TI29 ((hu 7 rfl).trans h23_7) rfl rfl ?_ (hg := (wanted_of rfl rfl (bool_tr e93 hc38)).trans rfl)
            exact WL.nil ⟨rfl, _, rfl, rfl, hs.cutG 0 0⟩
          · intro ρ w Γx Λx hs hu hp
            have e94 : ρ 49 = .bool x37 := (hp 3 rfl).1
            refine WL.loadAll hs (Λx.length + 0) (getApp rfl) TI29 (hu 10 rfl) hl31 ?_ (hg := (wanted_of rfl rfl (bool_tr e94 hc38)).trans rfl)
            exact WL.nil ⟨rfl, _, rfl, rfl, hs.cutG 0 0⟩
          · intro ρ w Γx Λx hs hu hp
            have e95 : ρ 50 = .agg ([.slice a25 x24.length c26] : List Value).toArray := (hp 4 rfl).1
            have e96 : ρ 51 = .agg cs30.toArray := (hp 5 rfl).1
            have e97 : ρ 49 = .bool x37 := (hp 3 rfl).1
            have hs := hs.add (it := vl t_fold_Store (⟨x24⟩ : fold_Store) (.agg [.slice a25 x24.length c26].toArray)) fun ok hA => V_agg ((R_one (hA.get (Γx.length + 2) (getApp rfl)))) rfl
            refine WL.call (vs := [.agg ([.slice a25 x24.length c26] : List Value).toArray, .agg cs30.toArray]) hs FN14 ⟨e95, ⟨e96, trivial⟩⟩ (fun ok hA => esref32_Equal.calls (x1 := (⟨x24⟩ : fold_Store)) (x5 := x29) hxx39 (hA.get 0 rfl) (hA.get (Γx.length + 0 + 1) (getApp1 rfl))) ?_ (hg := (wanted_of rfl rfl (bool_tr e97 hc38)).trans rfl)
            rintro _ w hs
            exact WL.nil ⟨rfl, _, rfl, rfl, hs.cutG 0 1⟩
          · intro ρ w Γx Λx hs hu hp
            have e98 : ρ 49 = .bool x37 := (hp 3 rfl).1
            have e99 : ρ 52 = .bool x39 := (hp 6 rfl).1
            refine WL.pickT (v := .bool x39) (bool_tr e98 hc38) e99 ?_
            exact WL.nil ⟨rfl, _, rfl, rfl, hs.cutG 0 0⟩
          · intro ρ w Γx Λx hs hu hp
            have e100 : ρ 53 = .bool x39 := (hp 7 rfl).1
            refine WL.move (v := .bool x39) e100 ?_
            exact WL.nil ⟨rfl, _, rfl, rfl, hs.cutG 0 0⟩
          · intro ρ w Γx Λx hs hu hp
            have e101 : ρ 54 = .bool x39 := (hp 8 rfl).1
            refine WL.loadN (vs := [.slice a25 x24.length c26]) hs (Λx.length + 1) (getApp rfl) TI29 ((hu 7 rfl).trans h23_7) rfl rfl ?_ (hg := (wanted_of rfl rfl (bool_tr e101 hc40)).trans rfl)
            exact WL.nil ⟨rfl, _, rfl, rfl, hs.cutG 0 0⟩
          · intro ρ w Γx Λx hs hu hp
            have e102 : ρ 55 = .agg ([.slice a25 x24.length c26] : List Value).toArray := (hp 9 rfl).1
            have e103 : ρ 54 = .bool x39 := (hp 8 rfl).1
            have hs := hs.add (it := vl t_fold_Store (⟨x24⟩ : fold_Store) (.agg [.slice a25 x24.length c26].toArray)) fun ok hA => V_agg ((R_one (hA.get (Γx.length + 2) (getApp rfl)))) rfl
            refine WL.call (vs := [.agg ([.slice a25 x24.length c26] : List Value).toArray]) hs FN16 ⟨e102, trivial⟩ (fun ok hA => fold_Hash.calls (x1 := (⟨x24⟩ : fold_Store)) hxx41 (hA.get 0 rfl)) ?_ (hg := (wanted_of rfl rfl (bool_tr e103 hc40)).trans rfl)
            rintro _ w hs
            exact WL.nil ⟨rfl, _, rfl, rfl, hs.cutG 0 1⟩
          · intro ρ w Γx Λx hs hu hp
            have e104 : ρ 54 = .bool x39 := (hp 8 rfl).1
            refine WL.loadAll hs (Λx.length + 0) (getApp rfl) TI29 (hu 10 rfl) hl31 ?_ (hg := (wanted_of rfl rfl (bool_tr e104 hc40)).trans rfl)
            exact WL.nil ⟨rfl, _, rfl, rfl, hs.cutG 0 0⟩
          · intro ρ w Γx Λx hs hu hp
            have e105 : ρ 57 = .agg cs30.toArray := (hp 11 rfl).1
            have e106 : ρ 54 = .bool x39 := (hp 8 rfl).1
            refine WL.call (vs := [.agg cs30.toArray]) hs FN16 ⟨e105, trivial⟩ (fun ok hA => fold_Hash.calls (x1 := x29) hxx42 (hA.get (Γx.length + 0) (getApp rfl))) ?_ (hg := (wanted_of rfl rfl (bool_tr e106 hc40)).trans rfl)
            rintro _ w hs
            exact WL.nil ⟨rfl, _, rfl, rfl, hs.cutG 0 0⟩
          · intro ρ w Γx Λx hs hu hp
            have e107 : ρ 56 = .int .u64 x41 := (hp 10 rfl).1
            have e108 : ρ 58 = .int .u64 x42 := (hp 12 rfl).1
            have e109 : ρ 54 = .bool x39 := (hp 8 rfl).1
            refine WL.bin (v := .bool (x41 == x42)) e107 e108 (ib_eql _ _ _) ?_ (hg := (wanted_of rfl rfl (bool_tr e109 hc40)).trans rfl)
            exact WL.nil ⟨rfl, _, rfl, rfl, hs.cutG 0 0⟩
          · intro ρ w Γx Λx hs hu hp
            have e110 : ρ 54 = .bool x39 := (hp 8 rfl).1
            have e111 : ρ 59 = .bool (x41 == x42) := (hp 13 rfl).1
            refine WL.pickT (v := .bool (x41 == x42)) (bool_tr e110 hc40) e111 ?_
            exact WL.nil ⟨rfl, _, rfl, rfl, hs.cutG 0 0⟩
          · intro ρ w Γx Λx hs hu hp
            have e112 : ρ 60 = .bool (x41 == x42) := (hp 14 rfl).1
            refine WL.move (v := .bool (x41 == x42)) e112 ?_
            exact WL.nil ⟨rfl, _, rfl, rfl, hs.cutG 0 0⟩
          · intro ρ w Γx Λx hs hu hp
            have e113 : ρ 61 = .bool (x41 == x42) := (hp 15 rfl).1
            refine WL.pass ((wanted_of rfl rfl (bool_tr e113 hc43)).trans rfl) rfl ?_
            exact WL.nil ⟨rfl, _, rfl, rfl, hs.cutG 0 0⟩
          · intro ρ w Γx Λx hs hu hp
            have e114 : ρ 61 = .bool (x41 == x42) := (hp 15 rfl).1
            have e115 : ρ 62 = undef := (hp 16 rfl).1
            refine WL.pickF (v := .bool false) (bool_tr e114 hc43) rfl ?_
            exact WL.nil ⟨rfl, _, rfl, rfl, hs.cutG 0 0⟩
          · intro ρ w hs hu116 hp
            obtain ⟨⟨⟨⟨⟨⟨⟨⟨⟨⟨⟨⟨⟨⟨⟨⟨⟨⟨_, hp0_⟩, hp1_⟩, hp2_⟩, hp3_⟩, hp4_⟩, hp5_⟩, hp6_⟩, hp7_⟩, hp8_⟩, hp9_⟩, hp10_⟩, hp11_⟩, hp12_⟩, hp13_⟩, hp14_⟩, hp15_⟩, hp16_⟩, hp17_⟩ := hp
            have hs : St ok (bz w0) w [vl t_fold_Store x29 (.agg cs30.toArray), vl (tSlice t_api_Update) x9 (.slice a10 x9.length c12), vl (tSlice t_fold_Object) x24 (.slice a25 x24.length c26)] [blk g32 29 cs30, blk g21 29 [.slice a25 x24.length c26]] := hs
            have e117 : ρ 63 = .bool false := hp17_
            have e118 : ρ 62 = undef := hp16_
            have e119 : ρ 61 = .bool (x41 == x42) := hp15_
            have e120 : ρ 60 = .bool (x41 == x42) := hp14_
            have e121 : ρ 59 = .bool (x41 == x42) := hp13_
            have e122 : ρ 58 = .int .u64 x42 := hp12_
            have e123 : ρ 57 = .agg cs30.toArray := hp11_
            have e124 : ρ 56 = .int .u64 x41 := hp10_
            have e125 : ρ 55 = .agg ([.slice a25 x24.length c26] : List Value).toArray := hp9_
            have e126 : ρ 54 = .bool x39 := hp8_
            have e127 : ρ 53 = .bool x39 := hp7_
            have e128 : ρ 52 = .bool x39 := hp6_
            have e129 : ρ 51 = .agg cs30.toArray := hp5_
            have e130 : ρ 50 = .agg ([.slice a25 x24.length c26] : List Value).toArray := hp4_
            have e131 : ρ 49 = .bool x37 := hp3_
            have e132 : ρ 48 = .bool x37 := hp2_
            have e133 : ρ 47 = .agg cs30.toArray := hp1_
            have e134 : ρ 46 = .agg ([.slice a25 x24.length c26] : List Value).toArray := hp0_
            refine WA.step [18] (by kernel_rfl) (by simp) ⟨?_, trivial⟩
            refine WL.assign (v := .bool false) e117 ?_
            refine WL.nil ⟨rfl, _, rfl, ?_⟩
            refine WA.done (by kernel_rfl) ?_
            exact Jk36 false _ _ rfl ((hs.mask []).pick []) hf
      · refine W.any (by kernel_rfl) 18 1 [true, true, true, true, true, true, true, true, true, true, true, true, true, true, true, true, true, true, false] rfl rfl (poAt [pv (.agg ([.slice a25 x24.length c26] : List Value).toArray), pv (.agg cs30.toArray), pv (.bool x37), pv (.bool x37), pv (.agg ([.slice a25 x24.length c26] : List Value).toArray), pv (.agg cs30.toArray), pv (.bool x39), pv (.bool x39), pv (.bool x39), pv (undef), pv (undef), pv (undef), pv (undef), pv (undef), pv (.bool false), pv (.bool false), pv (undef), pv (.bool false)]) (Λ := [blk g32 29 cs30, blk g21 29 [.slice a25 x24.length c26]]) hs (by kernel_rfl) (by kernel_rfl) (by kernel_rfl) ⟨⟨⟨⟨⟨⟨⟨⟨⟨⟨⟨⟨⟨⟨⟨⟨⟨⟨trivial, ?_⟩, ?_⟩, ?_⟩, ?_⟩, ?_⟩, ?_⟩, ?_⟩, ?_⟩, ?_⟩, ?_⟩, ?_⟩, ?_⟩, ?_⟩, ?_⟩, ?_⟩, ?_⟩, ?_⟩, ?_⟩ ?_
        · intro ρ w Γx Λx hs hu hp
          refine WL.loadN (vs := [.slice a25 x24.length c26]) hs (Λx.length + 1) (getApp rfl) TI29 ((hu 7 rfl).trans h23_7) rfl rfl ?_
          exact WL.nil ⟨rfl, _, rfl, rfl, hs.cutG 0 0⟩
        · intro ρ w Γx Λx hs hu hp
          refine WL.loadAll hs (Λx.length + 0) (getApp rfl) TI29 (hu 10 rfl) hl31 ?_
          exact WL.nil ⟨rfl, _, rfl, rfl, hs.cutG 0 0⟩
        · intro ρ w Γx Λx hs hu hp
          have e135 : ρ 46 = .agg ([.slice a25 x24.length c26] : List Value).toArray := (hp 0 rfl).1
          have e136 : ρ 47 = .agg cs30.toArray := (hp 1 rfl).1
          have hs := hs.add (it := vl t_fold_Store (⟨x24⟩ : fold_Store) (.agg [.slice a25 x24.length c26].toArray)) fun ok hA => V_agg ((R_one (hA.get (Γx.length + 2) (getApp rfl)))) rfl
          refine WL.call (vs := [.agg ([.slice a25 x24.length c26] : List Value).toArray, .agg cs30.toArray]) hs FN26 ⟨e135, ⟨e136, trivial⟩⟩ (fun ok hA => fold_Equal.calls (x1 := (⟨x24⟩ : fold_Store)) (x5 := x29) hxx37 (hA.get 0 rfl) (hA.get (Γx.length + 0 + 1) (getApp1 rfl))) ?_
          rintro _ w hs
          exact WL.nil ⟨rfl, _, rfl, rfl, hs.cutG 0 1⟩
        · intro ρ w Γx Λx hs hu hp
          have e137 : ρ 48 = .bool x37 := (hp 2 rfl).1
          refine WL.move (v := .bool x37) e137 ?_
          exact WL.nil ⟨rfl, _, rfl, rfl, hs.cutG 0 0⟩
        · intro ρ w Γx Λx hs hu hp
          have e138 : ρ 49 = .bool x37 := (hp 3 rfl).1
          refine WL.loadN (vs := [.slice a25 x24.length c26]) hs (Λx.length + 1) (getApp rfl) TI29 ((hu 7 rfl).trans h23_7) rfl rfl ?_ (hg := (wanted_of rfl rfl (bool_tr e138 hc38)).trans rfl)
          exact WL.nil ⟨rfl, _, rfl, rfl, hs.cutG 0 0⟩
        · intro ρ w Γx Λx hs hu hp
          have e139 : ρ 49 = .bool x37 := (hp 3 rfl).1
          refine WL.loadAll hs (Λx.length + 0) (getApp rfl) TI29 (hu 10 rfl) hl31 ?_ (hg := (wanted_of rfl rfl (bool_tr e139 hc38)).trans rfl)
          exact WL.nil ⟨rfl, _, rfl, rfl, hs.cutG 0 0⟩
        · intro ρ w Γx Λx hs hu hp
          have e140 : ρ 50 = .agg ([.slice a25 x24.length c26] : List Value).toArray := (hp 4 rfl).1
          have e141 : ρ 51 = .agg cs30.toArray := (hp 5 rfl).1
          have e142 : ρ 49 = .bool x37 := (hp 3 rfl).1
          have hs := hs.add (it := vl t_fold_Store (⟨x24⟩ : fold_Store) (.agg [.slice a25 x24.length c26].toArray)) fun ok hA => V_agg ((R_one (hA.get (Γx.length + 2) (getApp rfl)))) rfl
          refine WL.call (vs := [.agg ([.slice a25 x24.length c26] : List Value).toArray, .agg cs30.toArray]) hs FN14 ⟨e140, ⟨e141, trivial⟩⟩ (fun ok hA => esref32_Equal.calls (x1 := (⟨x24⟩ : fold_Store)) (x5 := x29) hxx39 (hA.get 0 rfl) (hA.get (Γx.length + 0 + 1) (getApp1 rfl))) ?_ (hg := (wanted_of rfl rfl (bool_tr e142 hc38)).trans rfl)
          rintro _ w hs
          exact WL.nil ⟨rfl, _, rfl, rfl, hs.cutG 0 1⟩
        · intro ρ w Γx Λx hs hu hp
          have e143 : ρ 49 = .bool x37 := (hp 3 rfl).1
          have e144 : ρ 52 = .bool x39 := (hp 6 rfl).1
          refine WL.pickT (v := .bool x39) (bool_tr e143 hc38) e144 ?_
          exact WL.nil ⟨rfl, _, rfl, rfl, hs.cutG 0 0⟩
        · intro ρ w Γx Λx hs hu hp
          have e145 : ρ 53 = .bool x39 := (hp 7 rfl).1
          refine WL.move (v := .bool x39) e145 ?_
          exact WL.nil ⟨rfl, _, rfl, rfl, hs.cutG 0 0⟩
        · intro ρ w Γx Λx hs hu hp
          have e146 : ρ 54 = .bool x39 := (hp 8 rfl).1
          refine WL.pass ((wanted_of rfl rfl (bool_tr e146 hc40)).trans rfl) rfl ?_
          exact WL.nil ⟨rfl, _, rfl, rfl, hs.cutG 0 0⟩
        · intro ρ w Γx Λx hs hu hp
          have e147 : ρ 55 = undef := (hp 9 rfl).1
          have e148 : ρ 54 = .bool x39 := (hp 8 rfl).1
          refine WL.pass ((wanted_of rfl rfl (bool_tr e148 hc40)).trans rfl) rfl ?_
          exact WL.nil ⟨rfl, _, rfl, rfl, hs.cutG 0 0⟩
        · intro ρ w Γx Λx hs hu hp
          have e149 : ρ 54 = .bool x39 := (hp 8 rfl).1
          refine WL.pass ((wanted_of rfl rfl (bool_tr e149 hc40)).trans rfl) rfl ?_
          exact WL.nil ⟨rfl, _, rfl, rfl, hs.cutG 0 0⟩
        · intro ρ w Γx Λx hs hu hp
          have e150 : ρ 57 = undef := (hp 11 rfl).1
          have e151 : ρ 54 = .bool x39 := (hp 8 rfl).1
          refine WL.pass ((wanted_of rfl rfl (bool_tr e151 hc40)).trans rfl) rfl ?_
          exact WL.nil ⟨rfl, _, rfl, rfl, hs.cutG 0 0⟩
        · intro ρ w Γx Λx hs hu hp
          have e152 : ρ 56 = undef := (hp 10 rfl).1
          have e153 : ρ 58 = undef := (hp 12 rfl).1
          have e154 : ρ 54 = .bool x39 := (hp 8 rfl).1
          refine WL.pass ((wanted_of rfl rfl (bool_tr e154 hc40)).trans rfl) rfl ?_
          exact WL.nil ⟨rfl, _, rfl, rfl, hs.cutG 0 0⟩
        · intro ρ w Γx Λx hs hu hp
          have e155 : ρ 54 = .bool x39 := (hp 8 rfl).1
          have e156 : ρ 59 = undef := (hp 13 rfl).1
          refine WL.pickF (v := .bool false) (bool_tr e155 hc40) rfl ?_
          exact WL.nil ⟨rfl, _, rfl, rfl, hs.cutG 0 0⟩
        · intro ρ w Γx Λx hs hu hp
          have e157 : ρ 60 = .bool false := (hp 14 rfl).1
          refine WL.move (v := .bool false) e157 ?_
          exact WL.nil ⟨rfl, _, rfl, rfl, hs.cutG 0 0⟩
        · intro ρ w Γx Λx hs hu hp
          have e158 : ρ 61 = .bool false := (hp 15 rfl).1
          refine WL.pass ((wanted_of rfl rfl e158).trans rfl) rfl ?_
          exact WL.nil ⟨rfl, _, rfl, rfl, hs.cutG 0 0⟩
        · intro ρ w Γx Λx hs hu hp
          have e159 : ρ 61 = .bool false := (hp 15 rfl).1
          have e160 : ρ 62 = undef := (hp 16 rfl).1
          refine WL.pickF (v := .bool false) e159 rfl ?_
          exact WL.nil ⟨rfl, _, rfl, rfl, hs.cutG 0 0⟩
        · intro ρ w hs hu161 hp
          obtain ⟨⟨⟨⟨⟨⟨⟨⟨⟨⟨⟨⟨⟨⟨⟨⟨⟨⟨_, hp0_⟩, hp1_⟩, hp2_⟩, hp3_⟩, hp4_⟩, hp5_⟩, hp6_⟩, hp7_⟩, hp8_⟩, hp9_⟩, hp10_⟩, hp11_⟩, hp12_⟩, hp13_⟩, hp14_⟩, hp15_⟩, hp16_⟩, hp17_⟩ := hp
          have hs : St ok (bz w0) w [vl t_fold_Store x29 (.agg cs30.toArray), vl (tSlice t_api_Update) x9 (.slice a10 x9.length c12), vl (tSlice t_fold_Object) x24 (.slice a25 x24.length c26)] [blk g32 29 cs30, blk g21 29 [.slice a25 x24.length c26]] := hs
          have e162 : ρ 63 = .bool false := hp17_
          have e163 : ρ 62 = undef := hp16_
          have e164 : ρ 61 = .bool false := hp15_
          have e165 : ρ 60 = .bool false := hp14_
          have e166 : ρ 59 = undef := hp13_
          have e167 : ρ 58 = undef := hp12_
          have e168 : ρ 57 = undef := hp11_
          have e169 : ρ 56 = undef := hp10_
          have e170 : ρ 55 = undef := hp9_
          have e171 : ρ 54 = .bool x39 := hp8_
          have e172 : ρ 53 = .bool x39 := hp7_
          have e173 : ρ 52 = .bool x39 := hp6_
          have e174 : ρ 51 = .agg cs30.toArray := hp5_
          have e175 : ρ 50 = .agg ([.slice a25 x24.length c26] : List Value).toArray := hp4_
          have e176 : ρ 49 = .bool x37 := hp3_
          have e177 : ρ 48 = .bool x37 := hp2_
          have e178 : ρ 47 = .agg cs30.toArray := hp1_
          have e179 : ρ 46 = .agg ([.slice a25 x24.length c26] : List Value).toArray := hp0_
          refine WA.step [18] (by kernel_rfl) (by simp) ⟨?_, trivial⟩
          refine WL.assign (v := .bool false) e162 ?_
          refine WL.nil ⟨rfl, _, rfl, ?_⟩
          refine WA.done (by kernel_rfl) ?_
          exact Jk36 false _ _ rfl ((hs.mask []).pick []) hf
    · refine W.any (by kernel_rfl) 18 1 [true, true, true, true, true, true, true, true, true, true, true, true, true, true, true, true, true, true, false] rfl rfl (poAt [pv (.agg ([.slice a25 x24.length c26] : List Value).toArray), pv (.agg cs30.toArray), pv (.bool x37), pv (.bool x37), pv (undef), pv (undef), pv (undef), pv (.bool false), pv (.bool false), pv (undef), pv (undef), pv (undef), pv (undef), pv (undef), pv (.bool false), pv (.bool false), pv (undef), pv (.bool false)]) (Λ := [blk g32 29 cs30, blk g21 29 [.slice a25 x24.length c26]]) hs (by kernel_rfl) (by kernel_rfl) (by kernel_rfl) ⟨⟨⟨⟨⟨⟨⟨⟨⟨⟨⟨⟨⟨⟨⟨⟨⟨⟨trivial, ?_⟩, ?_⟩, ?_⟩, ?_⟩, ?_⟩, ?_⟩, ?_⟩, ?_⟩, ?_⟩, ?_⟩, ?_⟩, ?_⟩, ?_⟩, ?_⟩, ?_⟩, ?_⟩, ?_⟩, ?_⟩ ?_
      · intro ρ w Γx Λx hs hu hp
        refine WL.loadN (vs := [.slice a25 x24.length c26]) hs (Λx.length + 1) (getApp rfl) TI29 ((hu 7 rfl).trans h23_7) rfl rfl ?_
        exact WL.nil ⟨rfl, _, rfl, rfl, hs.cutG 0 0⟩
      · intro ρ w Γx Λx hs hu hp
        refine WL.loadAll hs (Λx.length + 0) (getApp rfl) TI29 (hu 10 rfl) hl31 ?_
        exact WL.nil ⟨rfl, _, rfl, rfl, hs.cutG 0 0⟩
      · intro ρ w Γx Λx hs hu hp
        have e180 : ρ 46 = .agg ([.slice a25 x24.length c26] : List Value).toArray := (hp 0 rfl).1
        have e181 : ρ 47 = .agg cs30.toArray := (hp 1 rfl).1
        have hs := hs.add (it := vl t_fold_Store (⟨x24⟩ : fold_Store) (.agg [.slice a25 x24.length c26].toArray)) fun ok hA => V_agg ((R_one (hA.get (Γx.length + 2) (getApp rfl)))) rfl
        refine WL.call (vs := [.agg ([.slice a25 x24.length c26] : List Value).toArray, .agg cs30.toArray]) hs FN26 ⟨e180, ⟨e181, trivial⟩⟩ (fun ok hA => fold_Equal.calls (x1 := (⟨x24⟩ : fold_Store)) (x5 := x29) hxx37 (hA.get 0 rfl) (hA.get (Γx.length + 0 + 1) (getApp1 rfl))) ?_
        rintro _ w hs
        exact WL.nil ⟨rfl, _, rfl, rfl, hs.cutG 0 1⟩
      · intro ρ w Γx Λx hs hu hp
        have e182 : ρ 48 = .bool x37 := (hp 2 rfl).1
        refine WL.move (v := .bool x37) e182 ?_
        exact WL.nil ⟨rfl, _, rfl, rfl, hs.cutG 0 0⟩
      · intro ρ w Γx Λx hs hu hp
        have e183 : ρ 49 = .bool x37 := (hp 3 rfl).1
        refine WL.pass ((wanted_of rfl rfl (bool_tr e183 hc38)).trans rfl) rfl ?_
        exact WL.nil ⟨rfl, _, rfl, rfl, hs.cutG 0 0⟩
      · intro ρ w Γx Λx hs hu hp
        have e184 : ρ 49 = .bool x37 := (hp 3 rfl).1
        refine WL.pass ((wanted_of rfl rfl (bool_tr e184 hc38)).trans rfl) rfl ?_
        exact WL.nil ⟨rfl, _, rfl, rfl, hs.cutG 0 0⟩
      · intro ρ w Γx Λx hs hu hp
        have e185 : ρ 50 = undef := (hp 4 rfl).1
        have e186 : ρ 51 = undef := (hp 5 rfl).1
        have e187 : ρ 49 = .bool x37 := (hp 3 rfl).1
        refine WL.pass ((wanted_of rfl rfl (bool_tr e187 hc38)).trans rfl) rfl ?_
        exact WL.nil ⟨rfl, _, rfl, rfl, hs.cutG 0 0⟩
      · intro ρ w Γx Λx hs hu hp
        have e188 : ρ 49 = .bool x37 := (hp 3 rfl).1
        have e189 : ρ 52 = undef := (hp 6 rfl).1
        refine WL.pickF (v := .bool false) (bool_tr e188 hc38) rfl ?_
        exact WL.nil ⟨rfl, _, rfl, rfl, hs.cutG 0 0⟩
      · intro ρ w Γx Λx hs hu hp
        have e190 : ρ 53 = .bool false := (hp 7 rfl).1
        refine WL.move (v := .bool false) e190 ?_
        exact WL.nil ⟨rfl, _, rfl, rfl, hs.cutG 0 0⟩
      · intro ρ w Γx Λx hs hu hp
        have e191 : ρ 54 = .bool false := (hp 8 rfl).1
        refine WL.pass ((wanted_of rfl rfl e191).trans rfl) rfl ?_
        exact WL.nil ⟨rfl, _, rfl, rfl, hs.cutG 0 0⟩
      · intro ρ w Γx Λx hs hu hp
        have e192 : ρ 55 = undef := (hp 9 rfl).1
        have e193 : ρ 54 = .bool false := (hp 8 rfl).1
        refine WL.pass ((wanted_of rfl rfl e193).trans rfl) rfl ?_
        exact WL.nil ⟨rfl, _, rfl, rfl, hs.cutG 0 0⟩
      · intro ρ w Γx Λx hs hu hp
        have e194 : ρ 54 = .bool false := (hp 8 rfl).1
        refine WL.pass ((wanted_of rfl rfl e194).trans rfl) rfl ?_
        exact WL.nil ⟨rfl, _, rfl, rfl, hs.cutG 0 0⟩
      · intro ρ w Γx Λx hs hu hp
        have e195 : ρ 57 = undef := (hp 11 rfl).1
        have e196 : ρ 54 = .bool false := (hp 8 rfl).1
        refine WL.pass ((wanted_of rfl rfl e196).trans rfl) rfl ?_
        exact WL.nil ⟨rfl, _, rfl, rfl, hs.cutG 0 0⟩
      · intro ρ w Γx Λx hs hu hp
        have e197 : ρ 56 = undef := (hp 10 rfl).1
        have e198 : ρ 58 = undef := (hp 12 rfl).1
        have e199 : ρ 54 = .bool false := (hp 8 rfl).1
        refine WL.pass ((wanted_of rfl rfl e199).trans rfl) rfl ?_
        exact WL.nil ⟨rfl, _, rfl, rfl, hs.cutG 0 0⟩
      · intro ρ w Γx Λx hs hu hp
        have e200 : ρ 54 = .bool false := (hp 8 rfl).1
        have e201 : ρ 59 = undef := (hp 13 rfl).1
        refine WL.pickF (v := .bool false) e200 rfl ?_
        exact WL.nil ⟨rfl, _, rfl, rfl, hs.cutG 0 0⟩
      · intro ρ w Γx Λx hs hu hp
        have e202 : ρ 60 = .bool false := (hp 14 rfl).1
        refine WL.move (v := .bool false) e202 ?_
        exact WL.nil ⟨rfl, _, rfl, rfl, hs.cutG 0 0⟩
      · intro ρ w Γx Λx hs hu hp
        have e203 : ρ 61 = .bool false := (hp 15 rfl).1
        refine WL.pass ((wanted_of rfl rfl e203).trans rfl) rfl ?_
        exact WL.nil ⟨rfl, _, rfl, rfl, hs.cutG 0 0⟩
      · intro ρ w Γx Λx hs hu hp
        have e204 : ρ 61 = .bool false := (hp 15 rfl).1
        have e205 : ρ 62 = undef := (hp 16 rfl).1
        refine WL.pickF (v := .bool false) e204 rfl ?_
        exact WL.nil ⟨rfl, _, rfl, rfl, hs.cutG 0 0⟩
      · intro ρ w hs hu206 hp
        obtain ⟨⟨⟨⟨⟨⟨⟨⟨⟨⟨⟨⟨⟨⟨⟨⟨⟨⟨_, hp0_⟩, hp1_⟩, hp2_⟩, hp3_⟩, hp4_⟩, hp5_⟩, hp6_⟩, hp7_⟩, hp8_⟩, hp9_⟩, hp10_⟩, hp11_⟩, hp12_⟩, hp13_⟩, hp14_⟩, hp15_⟩, hp16_⟩, hp17_⟩ := hp
        have hs : St ok (bz w0) w [vl t_fold_Store x29 (.agg cs30.toArray), vl (tSlice t_api_Update) x9 (.slice a10 x9.length c12), vl (tSlice t_fold_Object) x24 (.slice a25 x24.length c26)] [blk g32 29 cs30, blk g21 29 [.slice a25 x24.length c26]] := hs
        have e207 : ρ 63 = .bool false := hp17_
        have e208 : ρ 62 = undef := hp16_
        have e209 : ρ 61 = .bool false := hp15_
        have e210 : ρ 60 = .bool false := hp14_
        have e211 : ρ 59 = undef := hp13_
        have e212 : ρ 58 = undef := hp12_
        have e213 : ρ 57 = undef := hp11_
        have e214 : ρ 56 = undef := hp10_
        have e215 : ρ 55 = undef := hp9_
        have e216 : ρ 54 = .bool false := hp8_
        have e217 : ρ 53 = .bool false := hp7_
        have e218 : ρ 52 = undef := hp6_
        have e219 : ρ 51 = undef := hp5_
        have e220 : ρ 50 = undef := hp4_
        have e221 : ρ 49 = .bool x37 := hp3_
        have e222 : ρ 48 = .bool x37 := hp2_
        have e223 : ρ 47 = .agg cs30.toArray := hp1_
        have e224 : ρ 46 = .agg ([.slice a25 x24.length c26] : List Value).toArray := hp0_
        refine WA.step [18] (by kernel_rfl) (by simp) ⟨?_, trivial⟩
        refine WL.assign (v := .bool false) e207 ?_
        refine WL.nil ⟨rfl, _, rfl, ?_⟩
        refine WA.done (by kernel_rfl) ?_
        exact Jk36 false _ _ rfl ((hs.mask []).pick []) hf
  refine W.seqK fun K225 hK225 => ?_
  refine W.region ?_
  refine WL.assign (v := .int .i64 0) rfl ?_
  refine WL.nil ?_
  refine hK225 _ _ ?_
  refine W.block ?_
  obtain ⟨bs234, hbs234, hfs234⟩ := bindE hf
  obtain rfl := hs.ownLen 1 rfl
  have hs := hs.freezeOwn 1 rfl
  have hs := hs.add (it := vl (tSlice t_fold_Object) [] (.slice none 0 0)) fun ok hA => V_nil
  refine W.loop hbs234 (fun s ρ w => match s with | (x227, x230, x231) => ∃ (a228 : Option Addr), ∃ (c229 : Nat), ∃ (a232 : Option Addr), ∃ (c233 : Nat), ρ 1 = .slice a5 x4.length c6 ∧ ρ 5 = .slice a10 x9.length c12 ∧ ρ 6 = .slice a228 x227.length c229 ∧ ρ 7 = .pointer (some ⟨g21, 0, none⟩) ∧ ρ 8 = .int .i64 x230 ∧ St ok (bz w0) w [vl (tSlice (tInt .i64)) x4 (.slice a5 x4.length c6), vl (tSlice t_api_Update) x9 (.slice a10 x9.length c12), vl (tSlice t_api_Update) x227 (.slice a228 x227.length c229), vl (tSlice t_fold_Object) x231 (.slice a232 x231.length c233)] [blk g21 29 [.slice a232 x231.length c233]]) ⟨a17, c18, none, 0, rfl, rfl, rfl, rfl, rfl, (hs.mask [true]).pick [4, 2, 1, 0]⟩ ?_
  intro s ρ w os234 hI hf hbbs234
  obtain ⟨x227, x230, x231⟩ := s
  obtain ⟨a228, c229, a232, c233, h226_1, h226_5, h226_6, h226_7, h226_8, hs⟩ := hI
  unfold eslaw30_FoldOrder.l1 at hf
  refine W.seqK fun K235 hK235 => ?_
  refine W.seqK fun K236 hK236 => ?_
  refine W.region ?_
  refine WL.move (v := .slice a228 x227.length c229) h226_6 ?_
  refine WL.len (v := .slice a228 x227.length c229) rfl (len_slice UN22) ?_
  refine WL.bin (v := .bool (decide (0 < (x227.length : Int)))) rfl rfl (ib_gtr _ _ _) ?_
  refine WL.nil ?_
  refine hK236 _ _ ?_
  rcases iteE hf with ⟨hc237, hf⟩ | ⟨hc237, hf⟩
  · refine W.cond_true (bool_tr rfl hc237) ?_
    refine W.skip ?_
    refine hK235 _ _ ?_
    refine W.seqK fun K238 hK238 => ?_
    refine W.block ?_
    refine W.seqK fun K239 hK239 => ?_
    refine W.region ?_
    refine WL.move (v := .slice a5 x4.length c6) h226_1 ?_
    refine WL.move (v := .int .i64 x230) h226_8 ?_
    obtain ⟨x240, hxx240, hf⟩ := bindE hf
    refine WL.call (vs := [.slice a5 x4.length c6, .int .i64 x230]) hs FN25 ⟨rfl, ⟨rfl, trivial⟩⟩ (fun ok hA => eslaw00_At.calls (x1 := x4) (x4 := x230) hxx240 (hA.get 0 rfl)) ?_
    rintro _ w hs
    refine WL.move (v := .slice a228 x227.length c229) h226_6 ?_
    refine WL.len (v := .slice a228 x227.length c229) rfl (len_slice UN22) ?_
    obtain ⟨x241, hxx241, hf⟩ := bindE hf
    refine WL.call (vs := [.int .i64 x240, .int .i64 (x227.length : Int)]) hs FN24 ⟨rfl, ⟨rfl, trivial⟩⟩ (fun ok hA => eslaw00_Index.calls (x1 := x240) (x2 := (x227.length : Int)) hxx241) ?_
    rintro _ w hs
    refine WL.assign (v := .int .i64 x241) rfl ?_
    refine WL.nil ?_
    refine hK239 _ _ ?_
    refine W.seqK fun K242 hK242 => ?_
    obtain ⟨x243, hxx243, hf⟩ := bindE hf
    obtain ⟨x248, hxx248, hf⟩ := bindE hf
    refine W.any (by kernel_rfl) 6 1 [true, true, true, true, true, true, false] rfl rfl (poAt [pv (.agg ([.slice a232 x231.length c233] : List Value).toArray), pv (.slice a228 x227.length c229), pv (.int .i64 x241), pq (fun y : Addr => .pointer (some y)) (fun v => [pl t_api_Update x243 (adOf v)]) (fun v => []), pq (fun y : List Value => .agg y.toArray) (fun v => [vl t_api_Update x243 v]) (fun v => []), pq (fun y : List Value => .agg y.toArray) (fun v => [vl t_fold_Store x248 v]) (fun v => [])]) (Λ := [blk g21 29 [.slice a232 x231.length c233]]) hs (by kernel_rfl) (by kernel_rfl) (by kernel_rfl) ⟨⟨⟨⟨⟨⟨trivial, ?_⟩, ?_⟩, ?_⟩, ?_⟩, ?_⟩, ?_⟩ ?_
    · intro ρ w Γx Λx hs hu hp
      refine WL.loadN (vs := [.slice a232 x231.length c233]) hs (Λx.length + 0) (getApp rfl) TI29 ((hu 7 rfl).trans h226_7) rfl rfl ?_
      exact WL.nil ⟨rfl, _, rfl, rfl, hs.cutG 0 0⟩
    · intro ρ w Γx Λx hs hu hp
      refine WL.move (v := .slice a228 x227.length c229) ((hu 6 rfl).trans h226_6) ?_
      exact WL.nil ⟨rfl, _, rfl, rfl, hs.cutG 0 0⟩
    · intro ρ w Γx Λx hs hu hp
      refine WL.move (v := .int .i64 x241) (hu 9 rfl) ?_
      exact WL.nil ⟨rfl, _, rfl, rfl, hs.cutG 0 0⟩
    · intro ρ w Γx Λx hs hu hp
      have e251 : ρ 29 = .slice a228 x227.length c229 := (hp 1 rfl).1
      have e252 : ρ 30 = .int .i64 x241 := (hp 2 rfl).1
      refine WL.indexAddr hs (Γx.length + 2) (getApp rfl) UN22 TI41 e251 e252 hxx243 (fun ad244 hs => ?_)
      have hs := hs.add (it := pl t_api_Update x243 ad244) fun ok hA => hA.get 0 rfl
      exact WL.nil ⟨rfl, _, rfl, ⟨ad244, rfl⟩, hs.cutG 1 1⟩
    · intro ρ w Γx Λx hs hu hp
      obtain ⟨⟨ad253, e254r⟩, hm255⟩ := hp 3 rfl
      have e254 : ρ 31 = .pointer (some ad253) := e254r
      rw [e254r] at hm255
      have hs := hs.memo1 (it := pl t_api_Update x243 ad253) (List.mem_append.2 (.inl (hm255 _ (List.mem_of_getElem? (i := 0) rfl))))
      refine WL.loadP hs 0 rfl TI41 (.inl rfl) e254 (fun v245 hs => ?_)
      obtain ⟨cs246, hl247, rfl⟩ := hs.aggv (n := 4) 0 rfl rfl rfl
      have hs := hs.add (it := vl t_api_Update x243 (.agg cs246.toArray)) fun ok hA => hA.get 0 rfl
      exact WL.nil ⟨rfl, _, rfl, ⟨cs246, rfl⟩, hs.cutG 1 2⟩
    · intro ρ w Γx Λx hs hu hp
      have e256 : ρ 28 = .agg ([.slice a232 x231.length c233] : List Value).toArray := (hp 0 rfl).1
      obtain ⟨⟨cs257, e259r⟩, hm260⟩ := hp 4 rfl
      have e259 : ρ 32 = .agg cs257.toArray := e259r
      rw [e259r] at hm260
      have hs := hs.memo1 (it := vl t_api_Update x243 (.agg cs257.toArray)) (List.mem_append.2 (.inl (hm260 _ (List.mem_of_getElem? (i := 0) rfl))))
      have hl258 := hs.agglen (n := 4) 0 rfl rfl rfl
      have hs := hs.add (it := vl t_fold_Store (⟨x231⟩ : fold_Store) (.agg [.slice a232 x231.length c233].toArray)) fun ok hA => V_agg ((R_one (hA.get (Γx.length + 3 + 1) (getApp1 rfl)))) rfl
      refine WL.call (vs := [.agg ([.slice a232 x231.length c233] : List Value).toArray, .agg cs257.toArray]) hs FN22 ⟨e256, ⟨e259, trivial⟩⟩ (fun ok hA => fold_Apply.calls (x1 := (⟨x231⟩ : fold_Store)) (x2 := x243) hxx248 (hA.get 0 rfl) (hA.get 1 rfl)) ?_
      rintro cs249 w hs
      have hl250 := hs.agglen (n := 1) 0 rfl rfl rfl
      have hs := hs.add (it := vl t_fold_Store x248 (.agg cs249.toArray)) fun ok hA => hA.get 0 rfl
      exact WL.nil ⟨rfl, _, rfl, ⟨cs249, rfl⟩, hs.cutG 1 3⟩
    · intro ρ w hs hu261 hp
      obtain ⟨⟨⟨⟨⟨⟨_, hp0_⟩, hp1_⟩, hp2_⟩, hp3_⟩, hp4_⟩, hp5_⟩ := hp
      have hs : St ok (bz w0) w [vl t_fold_Store x248 (ρ 33), vl t_api_Update x243 (ρ 32), pl t_api_Update x243 (adOf (ρ 31)), vl (tSlice (tInt .i64)) x4 (.slice a5 x4.length c6), vl (tSlice t_api_Update) x9 (.slice a10 x9.length c12), vl (tSlice t_api_Update) x227 (.slice a228 x227.length c229), vl (tSlice t_fold_Object) x231 (.slice a232 x231.length c233)] [blk g21 29 [.slice a232 x231.length c233]] := hs
      obtain ⟨cs262, e264⟩ := hp5_
      have e264 : ρ 33 = .agg cs262.toArray := e264
      try rw [e264] at hs
      obtain ⟨cs265, e267⟩ := hp4_
      have e267 : ρ 32 = .agg cs265.toArray := e267
      try rw [e267] at hs
      obtain ⟨ad268, e269⟩ := hp3_
      have e269 : ρ 31 = .pointer (some ad268) := e269
      try rw [e269] at hs
      have e270 : ρ 30 = .int .i64 x241 := hp2_
      have e271 : ρ 29 = .slice a228 x227.length c229 := hp1_
      have e272 : ρ 28 = .agg ([.slice a232 x231.length c233] : List Value).toArray := hp0_
      have hl266 := hs.agglen (n := 4) 1 rfl rfl rfl
      have hl263 := hs.agglen (n := 1) 0 rfl rfl rfl
      refine WA.step [6] (by kernel_rfl) (by simp) ⟨?_, trivial⟩
      refine WL.storeAll (vs := cs262) hs 0 rfl TI29 ((hu261 7 rfl).trans h226_7) e264 rfl hl263 (hs.ones 0 rfl rfl) rfl (fun w hs => ?_)
      refine WL.nil ⟨rfl, _, rfl, ?_⟩
      refine WA.done (by kernel_rfl) ?_
      refine hK242 _ _ ?_
      obtain ⟨x274, hxx274, hf⟩ := bindE hf
      obtain ⟨x277, hxx277, hf⟩ := bindE hf
      obtain ⟨hbx277, hex277⟩ := appE hxx277
      obtain ⟨x282, ex282, hf⟩ := letE hf
      obtain ⟨x283, hxx283, hf⟩ := bindE hf
      refine W.any (by kernel_rfl) 9 2 [true, true, true, true, true, true, true, true, true, false, false] rfl rfl (poAt [pq (fun y : Option Addr => .slice y 0 0) (fun v => []) (fun v => []), pv (.slice a228 x227.length c229), pv (.int .i64 x241), pq (fun y : (Option Addr × Nat) => .slice y.1 x274.length y.2) (fun v => [vl (tSlice t_api_Update) x274 v]) (fun v => []), pq (fun y : (Option Addr × Nat × Nat) => .slice y.1 y.2.1 y.2.2) (fun v => []) (fun v => [own t_api_Update 41 v x277]), pv (.slice a228 x227.length c229), pv (.int .i64 x241), pv (.int .i64 x282), pq (fun y : (Option Addr × Nat) => .slice y.1 x283.length y.2) (fun v => [vl (tSlice t_api_Update) x283 v]) (fun v => [])]) (Λ := [blk g21 29 cs262]) hs (by kernel_rfl) (by kernel_rfl) (by kernel_rfl) ⟨⟨⟨⟨⟨⟨⟨⟨⟨trivial, ?_⟩, ?_⟩, ?_⟩, ?_⟩, ?_⟩, ?_⟩, ?_⟩, ?_⟩, ?_⟩ ?_
      · intro ρ w Γx Λx hs hu hp
        refine WL.buildSlice0 hs UN22 TI41 (fun a273 w hs => ?_)
        exact WL.nil ⟨rfl, _, rfl, ⟨a273, rfl⟩, hs.cutG 0 0⟩
      · intro ρ w Γx Λx hs hu hp
        refine WL.move (v := .slice a228 x227.length c229) ((hu 6 rfl).trans ((hu261 6 rfl).trans h226_6)) ?_
        exact WL.nil ⟨rfl, _, rfl, rfl, hs.cutG 0 0⟩
      · intro ρ w Γx Λx hs hu hp
        refine WL.move (v := .int .i64 x241) ((hu 9 rfl).trans (hu261 9 rfl)) ?_
        exact WL.nil ⟨rfl, _, rfl, rfl, hs.cutG 0 0⟩
      · intro ρ w Γx Λx hs hu hp
        have e286 : ρ 35 = .slice a228 x227.length c229 := (hp 1 rfl).1
        have e287 : ρ 36 = .int .i64 x241 := (hp 2 rfl).1
        refine WL.slice_h hs (Γx.length + 5) (getApp rfl) UN22 TI41 e286 e287 hxx274 (fun a275 c276 hs => ?_)
        have hs := hs.add (it := vl (tSlice t_api_Update) x274 (.slice a275 x274.length c276)) fun ok hA => hA.get 0 rfl
        exact WL.nil ⟨rfl, _, rfl, ⟨(a275, c276), rfl⟩, hs.cutG 1 1⟩
      · intro ρ w Γx Λx hs hu hp
        obtain ⟨⟨a288, e289r⟩, hm290⟩ := hp 0 rfl
        have e289 : ρ 34 = .slice a288 0 0 := e289r
        obtain ⟨⟨⟨a291, c292⟩, e293r⟩, hm294⟩ := hp 3 rfl
        have e293 : ρ 37 = .slice a291 x274.length c292 := e293r
        rw [e293r] at hm294
        have hs := hs.memo1 (it := vl (tSlice t_api_Update) x274 (.slice a291 x274.length c292)) (List.mem_append.2 (.inl (hm294 _ (List.mem_of_getElem? (i := 0) rfl))))
        have hs := hs.ownEmpty t_api_Update 41 a288
        refine WL.appendS (zs := x277) hs 0 rfl 0 rfl UN22 UN22 EI41 e289 e293 hbx277 (by omega) hex277 (fun v278 w hs => ?_)
        obtain ⟨a279, n281, c280, rfl⟩ := hs.ownv3 0 rfl
        exact WL.nil ⟨rfl, _, rfl, ⟨(a279, n281, c280), rfl⟩, hs.cutG 0 1⟩
      · intro ρ w Γx Λx hs hu hp
        refine WL.move (v := .slice a228 x227.length c229) ((hu 6 rfl).trans ((hu261 6 rfl).trans h226_6)) ?_
        exact WL.nil ⟨rfl, _, rfl, rfl, hs.cutG 0 0⟩
      · intro ρ w Γx Λx hs hu hp
        refine WL.move (v := .int .i64 x241) ((hu 9 rfl).trans (hu261 9 rfl)) ?_
        exact WL.nil ⟨rfl, _, rfl, rfl, hs.cutG 0 0⟩
      · intro ρ w Γx Λx hs hu hp
        have e295 : ρ 40 = .int .i64 x241 := (hp 6 rfl).1
        refine WL.bin (v := .int .i64 x282) e295 rfl (ib_as ex282 (ib_add _ _ _)) ?_
        exact WL.nil ⟨rfl, _, rfl, rfl, hs.cutG 0 0⟩
      · intro ρ w Γx Λx hs hu hp
        have e296 : ρ 39 = .slice a228 x227.length c229 := (hp 5 rfl).1
        have e297 : ρ 41 = .int .i64 x282 := (hp 7 rfl).1
        refine WL.slice_l hs (Γx.length + 5) (getApp rfl) UN22 TI41 e296 e297 hxx283 (fun a284 c285 hs => ?_)
        have hs := hs.add (it := vl (tSlice t_api_Update) x283 (.slice a284 x283.length c285)) fun ok hA => hA.get 0 rfl
        exact WL.nil ⟨rfl, _, rfl, ⟨(a284, c285), rfl⟩, hs.cutG 1 1⟩
      · intro ρ w hs hu298 hp
        obtain ⟨⟨⟨⟨⟨⟨⟨⟨⟨_, hp0_⟩, hp1_⟩, hp2_⟩, hp3_⟩, hp4_⟩, hp5_⟩, hp6_⟩, hp7_⟩, hp8_⟩ := hp
        have hs : St ok (bz w0) w [vl (tSlice t_api_Update) x283 (ρ 42), vl (tSlice t_api_Update) x274 (ρ 37), vl t_fold_Store x248 (.agg cs262.toArray), vl t_api_Update x243 (.agg cs265.toArray), pl t_api_Update x243 ad268, vl (tSlice (tInt .i64)) x4 (.slice a5 x4.length c6), vl (tSlice t_api_Update) x9 (.slice a10 x9.length c12), vl (tSlice t_api_Update) x227 (.slice a228 x227.length c229), vl (tSlice t_fold_Object) x231 (.slice a232 x231.length c233)] [own t_api_Update 41 ((ρ 38)) x277, blk g21 29 cs262] := hs
        obtain ⟨⟨a299, c300⟩, e301⟩ := hp8_
        have e301 : ρ 42 = .slice a299 x283.length c300 := e301
        try rw [e301] at hs
        have e302 : ρ 41 = .int .i64 x282 := hp7_
        have e303 : ρ 40 = .int .i64 x241 := hp6_
        have e304 : ρ 39 = .slice a228 x227.length c229 := hp5_
        obtain ⟨⟨a305, n307, c306⟩, e308⟩ := hp4_
        have e308 : ρ 38 = .slice a305 n307 c306 := e308
        try rw [e308] at hs
        obtain ⟨⟨a309, c310⟩, e311⟩ := hp3_
        have e311 : ρ 37 = .slice a309 x274.length c310 := e311
        try rw [e311] at hs
        have e312 : ρ 36 = .int .i64 x241 := hp2_
        have e313 : ρ 35 = .slice a228 x227.length c229 := hp1_
        obtain ⟨a314, e315⟩ := hp0_
        have e315 : ρ 34 = .slice a314 0 0 := e315
        try rw [e315] at hs
        refine WA.step [9] (by kernel_rfl) (by simp) ⟨?_, trivial⟩
        obtain ⟨x316, hxx316, hf⟩ := bindE hf
        obtain ⟨hbx316, hex316⟩ := appE hxx316
        refine WL.appendS (zs := x316) hs 0 rfl 0 rfl UN22 UN22 EI41 e308 e301 hbx316 (by omega) hex316 (fun v317 w hs => ?_)
        obtain ⟨a318, n320, c319, rfl⟩ := hs.ownv3 0 rfl
        refine WL.nil ⟨rfl, _, rfl, ?_⟩
        refine WA.step [10] (by kernel_rfl) (by simp) ⟨?_, trivial⟩
        refine WL.assign (v := .slice a318 n320 c319) rfl ?_
        refine WL.nil ⟨rfl, _, rfl, ?_⟩
        refine WA.done (by kernel_rfl) ?_
        refine hK238 _ _ ?_
        refine W.region ?_
        refine WL.move (v := .int .i64 x230) ((hu298 8 rfl).trans ((hu261 8 rfl).trans h226_8)) ?_
        obtain ⟨x321, ex321, hf⟩ := letE hf
        refine WL.bin (v := .int .i64 x321) rfl rfl (ib_as ex321 (ib_add _ _ _)) ?_
        refine WL.assign (v := .int .i64 x321) rfl ?_
        refine WL.nil ?_
        obtain rfl := hs.ownLen 0 rfl
        have hs := hs.freezeOwn 0 rfl
        obtain ⟨a324, c325, rfl⟩ := open_fold_Store hs 3 rfl
        have hs := hs.add (it := vl (tSlice t_fold_Object) x248.Objects (.slice a324 (x248.Objects).length c325)) fun ok hA => V_fld F_fold_Store_Objects (hA.get 3 rfl) rfl rfl rfl
        exact ⟨_, (Option.some.inj hf).symm, a318, c319, a324, c325, ((hu298 1 rfl).trans ((hu261 1 rfl).trans h226_1)), ((hu298 5 rfl).trans ((hu261 5 rfl).trans h226_5)), rfl, ((hu298 7 rfl).trans ((hu261 7 rfl).trans h226_7)), rfl, (hs.mask [true]).pick [7, 8, 1, 0]⟩
  · refine W.cond_false (bool_tr rfl hc237) ?_
    refine W.exit ?_
    have hr := Option.some.inj hf; subst hr
    have hr := hbbs234 _ rfl; subst hr
    have hf := hfs234
    exact Jk27 x231 a232 c233 _ _ h226_5 h226_7 ((hs.mask [true]).pick [1, 3]) hf
end Go.Proofs.Ytlbcfjblpopcnaa
