/- What the row leans on, as few texts. -/
import Derived.Test.YtlbcfjblpopcnaaQFU2
import Derived.Test.YtlbcfjblpopcnaaQFU3
import Derived.Test.YtlbcfjblpopcnaaQFU0
set_option linter.unusedVariables false
set_option linter.unusedSimpArgs false
namespace Go.Proofs.Ytlbcfjblpopcnaa
open Go Go.RowKit Go.Proofs.YtlbcfjblpopcnaaL
set_option maxRecDepth 100000
set_option maxHeartbeats 4000000
theorem eslaw30_awake.calls {ok : Nat → Prop} {w0 : World}   {r : Bool} (hf : eslaw30_awake = some r)  :
    Calls Try.prog 12 #[] w0 fun e w' => ∃ v, e = .returned v ∧ ∃ y : Unit, v = .bool r ∧ St ok (bz w0) w' [] [] := by
  unfold eslaw30_awake at hf
  refine calls_of_W (fn := Try.f12) (N := 54) Try.func12 rfl Try.ntmps12 rfl ?_
  have hs : St ok (bz w0) w0 [] [] := St.init All.nil
  refine W.seqK fun K1 hK1 => ?_
  refine W.region ?_
  refine WL.assign (v := .bool false) rfl ?_
  refine WL.nil ?_
  refine hK1 _ _ ?_
  refine W.seqK fun K2 hK2 => ?_
  refine W.region ?_
  refine WL.build (vs := [(0, .int .i64 3), (1, bstr ([120] : List UInt8)), (2, bstr ([99] : List UInt8)), (3, .int .i64 2)]) (cs := [.int .i64 3, bstr ([120] : List UInt8), bstr ([99] : List UInt8), .int .i64 2, bstr []]) ⟨⟨rfl, rfl⟩, ⟨⟨rfl, rfl⟩, ⟨⟨rfl, rfl⟩, ⟨⟨rfl, rfl⟩, trivial⟩⟩⟩⟩ (bld PL67 rfl) ?_
  refine WL.buildSlice (n := 1) (vs := [(0, .agg ([.int .i64 3, bstr ([120] : List UInt8), bstr ([99] : List UInt8), .int .i64 2, bstr []] : List Value).toArray)]) (cs := [.int .i64 3, bstr ([120] : List UInt8), bstr ([99] : List UInt8), .int .i64 2, bstr []]) hs ⟨⟨rfl, rfl⟩, trivial⟩ (bls PS39 (by decide) rfl) (fun g3 w hs => ?_)
  refine WL.build (vs := [(0, .int .i64 101), (1, .int .i64 1), (3, .slice (some ⟨g3, 0, none⟩) ([(⟨3, ([120] : List UInt8), ([99] : List UInt8), 2, []⟩ : api_Effect)]).length 1)]) (cs := [.int .i64 101, .int .i64 1, .int .i64 0, .slice (some ⟨g3, 0, none⟩) ([(⟨3, ([120] : List UInt8), ([99] : List UInt8), 2, []⟩ : api_Effect)]).length 1]) ⟨⟨rfl, rfl⟩, ⟨⟨rfl, rfl⟩, ⟨⟨rfl, rfl⟩, trivial⟩⟩⟩ (bld PL41 rfl) ?_
  refine WL.alloc hs ZV41 (fun g4 w hs => ?_)
  refine WL.storeAll (vs := [.int .i64 101, .int .i64 1, .int .i64 0, .slice (some ⟨g3, 0, none⟩) ([(⟨3, ([120] : List UInt8), ([99] : List UInt8), 2, []⟩ : api_Effect)]).length 1]) hs 0 rfl TI41 rfl rfl rfl rfl (ones_of rfl) rfl (fun w hs => ?_)
  refine WL.nil ?_
  refine hK2 _ _ ?_
  refine W.seqK fun K5 hK5 => ?_
  refine W.region ?_
  refine WL.build (vs := [(0, .int .i64 3), (1, bstr ([120] : List UInt8)), (2, bstr ([99] : List UInt8)), (3, .int .i64 3)]) (cs := [.int .i64 3, bstr ([120] : List UInt8), bstr ([99] : List UInt8), .int .i64 3, bstr []]) ⟨⟨rfl, rfl⟩, ⟨⟨rfl, rfl⟩, ⟨⟨rfl, rfl⟩, ⟨⟨rfl, rfl⟩, trivial⟩⟩⟩⟩ (bld PL67 rfl) ?_
  refine WL.build (vs := [(0, .int .i64 4), (1, bstr ([97] : List UInt8)), (2, bstr ([115] : List UInt8)), (4, bstr ([113] : List UInt8))]) (cs := [.int .i64 4, bstr ([97] : List UInt8), bstr ([115] : List UInt8), .int .i64 0, bstr ([113] : List UInt8)]) ⟨⟨rfl, rfl⟩, ⟨⟨rfl, rfl⟩, ⟨⟨rfl, rfl⟩, ⟨⟨rfl, rfl⟩, trivial⟩⟩⟩⟩ (bld PL67 rfl) ?_
  refine WL.buildSlice (n := 2) (vs := [(0, .agg ([.int .i64 3, bstr ([120] : List UInt8), bstr ([99] : List UInt8), .int .i64 3, bstr []] : List Value).toArray), (1, .agg ([.int .i64 4, bstr ([97] : List UInt8), bstr ([115] : List UInt8), .int .i64 0, bstr ([113] : List UInt8)] : List Value).toArray)]) (cs := [.int .i64 3, bstr ([120] : List UInt8), bstr ([99] : List UInt8), .int .i64 3, bstr [], .int .i64 4, bstr ([97] : List UInt8), bstr ([115] : List UInt8), .int .i64 0, bstr ([113] : List UInt8)]) hs ⟨⟨rfl, rfl⟩, ⟨⟨rfl, rfl⟩, trivial⟩⟩ (bls PS39 (by decide) rfl) (fun g6 w hs => ?_)
  refine WL.build (vs := [(0, .int .i64 102), (1, .int .i64 1), (3, .slice (some ⟨g6, 0, none⟩) ([(⟨3, ([120] : List UInt8), ([99] : List UInt8), 3, []⟩ : api_Effect), (⟨4, ([97] : List UInt8), ([115] : List UInt8), 0, ([113] : List UInt8)⟩ : api_Effect)]).length 2)]) (cs := [.int .i64 102, .int .i64 1, .int .i64 0, .slice (some ⟨g6, 0, none⟩) ([(⟨3, ([120] : List UInt8), ([99] : List UInt8), 3, []⟩ : api_Effect), (⟨4, ([97] : List UInt8), ([115] : List UInt8), 0, ([113] : List UInt8)⟩ : api_Effect)]).length 2]) ⟨⟨rfl, rfl⟩, ⟨⟨rfl, rfl⟩, ⟨⟨rfl, rfl⟩, trivial⟩⟩⟩ (bld PL41 rfl) ?_
  refine WL.alloc hs ZV41 (fun g7 w hs => ?_)
  refine WL.storeAll (vs := [.int .i64 102, .int .i64 1, .int .i64 0, .slice (some ⟨g6, 0, none⟩) ([(⟨3, ([120] : List UInt8), ([99] : List UInt8), 3, []⟩ : api_Effect), (⟨4, ([97] : List UInt8), ([115] : List UInt8), 0, ([113] : List UInt8)⟩ : api_Effect)]).length 2]) hs 0 rfl TI41 rfl rfl rfl rfl (ones_of rfl) rfl (fun w hs => ?_)
  refine WL.nil ?_
  refine hK5 _ _ ?_
  refine W.seqK fun K8 hK8 => ?_
  have hs := hs.ownLit (A := t_api_Effect) (xs := [(⟨3, ([120] : List UInt8), ([99] : List UInt8), 3, []⟩ : api_Effect), (⟨4, ([97] : List UInt8), ([115] : List UInt8), 0, ([113] : List UInt8)⟩ : api_Effect)]) 1 rfl (fun ok hA => (Cells.app (Cells.one (T := t_api_Effect) (show t_api_Effect.R ok _ (⟨3, ([120] : List UInt8), ([99] : List UInt8), 3, []⟩ : api_Effect) _ from ⟨[.int .i64 3], ([bstr ([120] : List UInt8), bstr ([99] : List UInt8), .int .i64 3, bstr []]), rfl, rfl, ⟨([bstr ([120] : List UInt8)]), ([bstr ([99] : List UInt8), .int .i64 3, bstr []]), rfl, rfl, ⟨([bstr ([99] : List UInt8)]), ([.int .i64 3, bstr []]), rfl, rfl, ⟨[.int .i64 3], ([bstr []]), rfl, rfl, rfl⟩⟩⟩⟩)) (Cells.one (T := t_api_Effect) (show t_api_Effect.R ok _ (⟨4, ([97] : List UInt8), ([115] : List UInt8), 0, ([113] : List UInt8)⟩ : api_Effect) _ from ⟨[.int .i64 4], ([bstr ([97] : List UInt8), bstr ([115] : List UInt8), .int .i64 0, bstr ([113] : List UInt8)]), rfl, rfl, ⟨([bstr ([97] : List UInt8)]), ([bstr ([115] : List UInt8), .int .i64 0, bstr ([113] : List UInt8)]), rfl, rfl, ⟨([bstr ([115] : List UInt8)]), ([.int .i64 0, bstr ([113] : List UInt8)]), rfl, rfl, ⟨[.int .i64 0], ([bstr ([113] : List UInt8)]), rfl, rfl, rfl⟩⟩⟩⟩)))) (Nat.le_of_ble_eq_true rfl)
  have hs := hs.freezeOwn 1 rfl
  have hs := hs.ownLit (A := t_api_Effect) (xs := [(⟨3, ([120] : List UInt8), ([99] : List UInt8), 2, []⟩ : api_Effect)]) 2 rfl (fun ok hA => (Cells.one (T := t_api_Effect) (show t_api_Effect.R ok _ (⟨3, ([120] : List UInt8), ([99] : List UInt8), 2, []⟩ : api_Effect) _ from ⟨[.int .i64 3], ([bstr ([120] : List UInt8), bstr ([99] : List UInt8), .int .i64 2, bstr []]), rfl, rfl, ⟨([bstr ([120] : List UInt8)]), ([bstr ([99] : List UInt8), .int .i64 2, bstr []]), rfl, rfl, ⟨([bstr ([99] : List UInt8)]), ([.int .i64 2, bstr []]), rfl, rfl, ⟨[.int .i64 2], ([bstr []]), rfl, rfl, rfl⟩⟩⟩⟩))) (Nat.le_of_ble_eq_true rfl)
  have hs := hs.freezeOwn 2 rfl
  obtain ⟨x9, hxx9, hf⟩ := bindE hf
  obtain ⟨x12, hxx12, hf⟩ := bindE hf
  refine W.any (by kernel_rfl) 6 1 [true, true, true, true, true, true, false] rfl rfl (poAt [pv (.agg ([.slice none 0 0] : List Value).toArray), pv (.agg ([.int .i64 102, .int .i64 1, .int .i64 0, .slice (some ⟨g6, 0, none⟩) ([(⟨3, ([120] : List UInt8), ([99] : List UInt8), 3, []⟩ : api_Effect), (⟨4, ([97] : List UInt8), ([115] : List UInt8), 0, ([113] : List UInt8)⟩ : api_Effect)]).length 2] : List Value).toArray), pq (fun y : List Value => .agg y.toArray) (fun v => [vl t_fold_Store x9 v]) (fun v => []), pv (.agg ([.int .i64 101, .int .i64 1, .int .i64 0, .slice (some ⟨g3, 0, none⟩) ([(⟨3, ([120] : List UInt8), ([99] : List UInt8), 2, []⟩ : api_Effect)]).length 1] : List Value).toArray), pq (fun y : List Value => .agg y.toArray) (fun v => [vl t_fold_Store x12 v]) (fun v => []), pq (fun y : Nat => .pointer (some ⟨y, 0, none⟩)) (fun v => []) (fun v => [blk (gOf v) 29 [.slice none 0 0]])]) (Λ := [blk g7 41 ([.int .i64 102, .int .i64 1, .int .i64 0, .slice (some ⟨g6, 0, none⟩) ([(⟨3, ([120] : List UInt8), ([99] : List UInt8), 3, []⟩ : api_Effect), (⟨4, ([97] : List UInt8), ([115] : List UInt8), 0, ([113] : List UInt8)⟩ : api_Effect)]).length 2]), blk g4 41 ([.int .i64 101, .int .i64 1, .int .i64 0, .slice (some ⟨g3, 0, none⟩) ([(⟨3, ([120] : List UInt8), ([99] : List UInt8), 2, []⟩ : api_Effect)]).length 1])]) hs (by kernel_rfl) (by kernel_rfl) (by kernel_rfl) ⟨⟨⟨⟨⟨⟨trivial, ?_⟩, ?_⟩, ?_⟩, ?_⟩, ?_⟩, ?_⟩ ?_
  {
  intro ρ w Γx Λx hs hu hp
  refine WL.build (vs := []) (cs := [.slice none 0 0]) trivial (bld PL29 rfl) ?_
  exact WL.nil ⟨rfl, _, rfl, rfl, hs.cutG 0 0⟩ }
  {
  intro ρ w Γx Λx hs hu hp
  refine WL.loadN (vs := [.int .i64 102, .int .i64 1, .int .i64 0, .slice (some ⟨g6, 0, none⟩) ([(⟨3, ([120] : List UInt8), ([99] : List UInt8), 3, []⟩ : api_Effect), (⟨4, ([97] : List UInt8), ([115] : List UInt8), 0, ([113] : List UInt8)⟩ : api_Effect)]).length 2]) hs (Λx.length + 0) (getApp rfl) TI41 (hu 2 rfl) rfl rfl ?_
  exact WL.nil ⟨rfl, _, rfl, rfl, hs.cutG 0 0⟩ }
  {
  intro ρ w Γx Λx hs hu hp
  have e16 : ρ 11 = .agg ([.slice none 0 0] : List Value).toArray := (hp 0 rfl).1
  have e17 : ρ 12 = .agg ([.int .i64 102, .int .i64 1, .int .i64 0, .slice (some ⟨g6, 0, none⟩) ([(⟨3, ([120] : List UInt8), ([99] : List UInt8), 3, []⟩ : api_Effect), (⟨4, ([97] : List UInt8), ([115] : List UInt8), 0, ([113] : List UInt8)⟩ : api_Effect)]).length 2] : List Value).toArray := (hp 1 rfl).1
  have hs := hs.add (it := vl t_fold_Store (⟨[]⟩ : fold_Store) (.agg [.slice none 0 0].toArray)) fun ok hA => V_agg (show t_fold_Store.R ok _ _ _ from (show (tSlice t_fold_Object).R ok _ [] _ from R_nil)) rfl
  have hs := hs.add (it := vl t_api_Update (⟨102, 1, 0, [(⟨3, ([120] : List UInt8), ([99] : List UInt8), 3, []⟩ : api_Effect), (⟨4, ([97] : List UInt8), ([115] : List UInt8), 0, ([113] : List UInt8)⟩ : api_Effect)]⟩ : api_Update) (.agg ([.int .i64 102, .int .i64 1, .int .i64 0, .slice (some ⟨g6, 0, none⟩) ([(⟨3, ([120] : List UInt8), ([99] : List UInt8), 3, []⟩ : api_Effect), (⟨4, ([97] : List UInt8), ([115] : List UInt8), 0, ([113] : List UInt8)⟩ : api_Effect)]).length 2]).toArray)) fun ok hA => V_agg (show t_api_Update.R ok _ _ _ from ⟨[.int .i64 102], ([.int .i64 1, .int .i64 0, .slice (some ⟨g6, 0, none⟩) ([(⟨3, ([120] : List UInt8), ([99] : List UInt8), 3, []⟩ : api_Effect), (⟨4, ([97] : List UInt8), ([115] : List UInt8), 0, ([113] : List UInt8)⟩ : api_Effect)]).length 2]), rfl, rfl, ⟨[.int .i64 1], ([.int .i64 0, .slice (some ⟨g6, 0, none⟩) ([(⟨3, ([120] : List UInt8), ([99] : List UInt8), 3, []⟩ : api_Effect), (⟨4, ([97] : List UInt8), ([115] : List UInt8), 0, ([113] : List UInt8)⟩ : api_Effect)]).length 2]), rfl, rfl, ⟨[.int .i64 0], ([.slice (some ⟨g6, 0, none⟩) ([(⟨3, ([120] : List UInt8), ([99] : List UInt8), 3, []⟩ : api_Effect), (⟨4, ([97] : List UInt8), ([115] : List UInt8), 0, ([113] : List UInt8)⟩ : api_Effect)]).length 2]), rfl, rfl, (R_one (hA.get (Γx.length + 1 + 1) (getApp1 rfl)))⟩⟩⟩) rfl
  refine WL.call (vs := [.agg ([.slice none 0 0] : List Value).toArray, .agg ([.int .i64 102, .int .i64 1, .int .i64 0, .slice (some ⟨g6, 0, none⟩) ([(⟨3, ([120] : List UInt8), ([99] : List UInt8), 3, []⟩ : api_Effect), (⟨4, ([97] : List UInt8), ([115] : List UInt8), 0, ([113] : List UInt8)⟩ : api_Effect)]).length 2] : List Value).toArray]) hs FN22 ⟨e16, ⟨e17, trivial⟩⟩ (fun ok hA => fold_Apply.calls (x1 := (⟨[]⟩ : fold_Store)) (x2 := (⟨102, 1, 0, [(⟨3, ([120] : List UInt8), ([99] : List UInt8), 3, []⟩ : api_Effect), (⟨4, ([97] : List UInt8), ([115] : List UInt8), 0, ([113] : List UInt8)⟩ : api_Effect)]⟩ : api_Update)) hxx9 (hA.get 1 rfl) (hA.get 0 rfl)) ?_
  rintro cs10 w hs
  have hl11 := hs.agglen (n := 1) 0 rfl rfl rfl
  have hs := hs.add (it := vl t_fold_Store x9 (.agg cs10.toArray)) fun ok hA => hA.get 0 rfl
  exact WL.nil ⟨rfl, _, rfl, ⟨cs10, rfl⟩, hs.cutG 1 3⟩ }
  {
  intro ρ w Γx Λx hs hu hp
  refine WL.loadN (vs := [.int .i64 101, .int .i64 1, .int .i64 0, .slice (some ⟨g3, 0, none⟩) ([(⟨3, ([120] : List UInt8), ([99] : List UInt8), 2, []⟩ : api_Effect)]).length 1]) hs (Λx.length + 1) (getApp rfl) TI41 (hu 1 rfl) rfl rfl ?_
  exact WL.nil ⟨rfl, _, rfl, rfl, hs.cutG 0 0⟩ }
  {
  intro ρ w Γx Λx hs hu hp
  obtain ⟨⟨cs18, e20r⟩, hm21⟩ := hp 2 rfl
  have e20 : ρ 13 = .agg cs18.toArray := e20r
  rw [e20r] at hm21
  have hs := hs.memo1 (it := vl t_fold_Store x9 (.agg cs18.toArray)) (List.mem_append.2 (.inl (hm21 _ (List.mem_of_getElem? (i := 0) rfl))))
  have hl19 := hs.agglen (n := 1) 0 rfl rfl rfl
  have e22 : ρ 14 = .agg ([.int .i64 101, .int .i64 1, .int .i64 0, .slice (some ⟨g3, 0, none⟩) ([(⟨3, ([120] : List UInt8), ([99] : List UInt8), 2, []⟩ : api_Effect)]).length 1] : List Value).toArray := (hp 3 rfl).1
  have hs := hs.add (it := vl t_api_Update (⟨101, 1, 0, [(⟨3, ([120] : List UInt8), ([99] : List UInt8), 2, []⟩ : api_Effect)]⟩ : api_Update) (.agg ([.int .i64 101, .int .i64 1, .int .i64 0, .slice (some ⟨g3, 0, none⟩) ([(⟨3, ([120] : List UInt8), ([99] : List UInt8), 2, []⟩ : api_Effect)]).length 1]).toArray)) fun ok hA => V_agg (show t_api_Update.R ok _ _ _ from ⟨[.int .i64 101], ([.int .i64 1, .int .i64 0, .slice (some ⟨g3, 0, none⟩) ([(⟨3, ([120] : List UInt8), ([99] : List UInt8), 2, []⟩ : api_Effect)]).length 1]), rfl, rfl, ⟨[.int .i64 1], ([.int .i64 0, .slice (some ⟨g3, 0, none⟩) ([(⟨3, ([120] : List UInt8), ([99] : List UInt8), 2, []⟩ : api_Effect)]).length 1]), rfl, rfl, ⟨[.int .i64 0], ([.slice (some ⟨g3, 0, none⟩) ([(⟨3, ([120] : List UInt8), ([99] : List UInt8), 2, []⟩ : api_Effect)]).length 1]), rfl, rfl, (R_one (hA.get (Γx.length + 0 + 1) (getApp1 rfl)))⟩⟩⟩) rfl
  refine WL.call (vs := [.agg cs18.toArray, .agg ([.int .i64 101, .int .i64 1, .int .i64 0, .slice (some ⟨g3, 0, none⟩) ([(⟨3, ([120] : List UInt8), ([99] : List UInt8), 2, []⟩ : api_Effect)]).length 1] : List Value).toArray]) hs FN22 ⟨e20, ⟨e22, trivial⟩⟩ (fun ok hA => fold_Apply.calls (x1 := x9) (x2 := (⟨101, 1, 0, [(⟨3, ([120] : List UInt8), ([99] : List UInt8), 2, []⟩ : api_Effect)]⟩ : api_Update)) hxx12 (hA.get 1 rfl) (hA.get 0 rfl)) ?_
  rintro cs13 w hs
  have hl14 := hs.agglen (n := 1) 0 rfl rfl rfl
  have hs := hs.add (it := vl t_fold_Store x12 (.agg cs13.toArray)) fun ok hA => hA.get 0 rfl
  exact WL.nil ⟨rfl, _, rfl, ⟨cs13, rfl⟩, hs.cutG 1 3⟩ }
  {
  intro ρ w Γx Λx hs hu hp
  refine WL.alloc hs ZV29 (fun g15 w hs => ?_)
  exact WL.nil ⟨rfl, _, rfl, ⟨g15, rfl⟩, hs.cutG 0 0⟩ }
  {
  intro ρ w hs hu23 hp
  obtain ⟨⟨⟨⟨⟨⟨_, hp0_⟩, hp1_⟩, hp2_⟩, hp3_⟩, hp4_⟩, hp5_⟩ := hp
  have hs : St ok (bz w0) w [vl t_fold_Store x12 (ρ 15), vl t_fold_Store x9 (ρ 13), vl (tSlice t_api_Effect) ([(⟨3, ([120] : List UInt8), ([99] : List UInt8), 2, []⟩ : api_Effect)]) (.slice (some ⟨g3, 0, none⟩) ([(⟨3, ([120] : List UInt8), ([99] : List UInt8), 2, []⟩ : api_Effect)]).length 1), vl (tSlice t_api_Effect) ([(⟨3, ([120] : List UInt8), ([99] : List UInt8), 3, []⟩ : api_Effect), (⟨4, ([97] : List UInt8), ([115] : List UInt8), 0, ([113] : List UInt8)⟩ : api_Effect)]) (.slice (some ⟨g6, 0, none⟩) ([(⟨3, ([120] : List UInt8), ([99] : List UInt8), 3, []⟩ : api_Effect), (⟨4, ([97] : List UInt8), ([115] : List UInt8), 0, ([113] : List UInt8)⟩ : api_Effect)]).length 2)] [blk (gOf ((ρ 3))) 29 [.slice none 0 0], blk g7 41 ([.int .i64 102, .int .i64 1, .int .i64 0, .slice (some ⟨g6, 0, none⟩) ([(⟨3, ([120] : List UInt8), ([99] : List UInt8), 3, []⟩ : api_Effect), (⟨4, ([97] : List UInt8), ([115] : List UInt8), 0, ([113] : List UInt8)⟩ : api_Effect)]).length 2]), blk g4 41 ([.int .i64 101, .int .i64 1, .int .i64 0, .slice (some ⟨g3, 0, none⟩) ([(⟨3, ([120] : List UInt8), ([99] : List UInt8), 2, []⟩ : api_Effect)]).length 1])] := hs
  obtain ⟨g24, e25⟩ := hp5_
  have e25 : ρ 3 = .pointer (some ⟨g24, 0, none⟩) := e25
  try rw [e25] at hs
  obtain ⟨cs26, e28⟩ := hp4_
  have e28 : ρ 15 = .agg cs26.toArray := e28
  try rw [e28] at hs
  have e29 : ρ 14 = .agg ([.int .i64 101, .int .i64 1, .int .i64 0, .slice (some ⟨g3, 0, none⟩) ([(⟨3, ([120] : List UInt8), ([99] : List UInt8), 2, []⟩ : api_Effect)]).length 1] : List Value).toArray := hp3_
  obtain ⟨cs30, e32⟩ := hp2_
  have e32 : ρ 13 = .agg cs30.toArray := e32
  try rw [e32] at hs
  have e33 : ρ 12 = .agg ([.int .i64 102, .int .i64 1, .int .i64 0, .slice (some ⟨g6, 0, none⟩) ([(⟨3, ([120] : List UInt8), ([99] : List UInt8), 3, []⟩ : api_Effect), (⟨4, ([97] : List UInt8), ([115] : List UInt8), 0, ([113] : List UInt8)⟩ : api_Effect)]).length 2] : List Value).toArray := hp1_
  have e34 : ρ 11 = .agg ([.slice none 0 0] : List Value).toArray := hp0_
  have hl31 := hs.agglen (n := 1) 1 rfl rfl rfl
  have hl27 := hs.agglen (n := 1) 0 rfl rfl rfl
  refine WA.step [6] (by kernel_rfl) (by simp) ⟨?_, trivial⟩
  refine WL.storeAll (vs := cs26) hs 0 rfl TI29 e25 e28 rfl hl27 (hs.ones 0 rfl rfl) rfl (fun w hs => ?_)
  refine WL.nil ⟨rfl, _, rfl, ?_⟩
  refine WA.done (by kernel_rfl) ?_
  refine hK8 _ _ ?_
  refine W.seqK fun K35 hK35 => ?_
  have Jk38 : ∀ (x37 : Bool) (ρ : Env) (w : World), ρ 0 = .bool x37 → St ok (bz w0) w [] [] → eslaw30_awake.j1 x37 = some r → K35 ρ w := by
    intro x37 ρ w h36_0 hs hf
    refine hK35 _ _ ?_
    unfold eslaw30_awake.j1 at hf
    refine W.ret ?_
    have hr := Option.some.inj hf; subst hr
    exact ⟨_, resOk_one rfl h36_0, (), rfl, (hs.mask []).pick []⟩
  rcases iteE hf with ⟨hc42, hf⟩ | ⟨hc42, hf⟩
  {
  obtain ⟨x46, hxx46, hf⟩ := bindE hf
  rcases iteE hf with ⟨hc50, hf⟩ | ⟨hc50, hf⟩
  {
  obtain ⟨x51, hxx51, hf⟩ := bindE hf
  obtain ⟨x54, hxx54, hf⟩ := bindE hf
  rcases iteE hf with ⟨hc58, hf⟩ | ⟨hc58, hf⟩
  {
  obtain ⟨x61, hxx61, hf⟩ := bindE hf
  obtain ⟨x64, hxx64, hf⟩ := bindE hf
  rcases iteE hf with ⟨hc65, hf⟩ | ⟨hc65, hf⟩
  {
  obtain ⟨x66, hxx66, hf⟩ := bindE hf
  rcases iteE hf with ⟨hc67, hf⟩ | ⟨hc67, hf⟩
  {
  obtain ⟨x68, hxx68, hf⟩ := bindE hf
  refine W.any (by kernel_rfl) 38 1 [true, true, true, true, true, true, true, true, true, true, true, true, true, true, true, true, true, true, true, true, true, true, true, true, true, true, true, true, true, true, true, true, true, true, true, true, true, true, false] rfl rfl (poAt [pv (.pointer (some ⟨g24, 0, none⟩)), pq (fun y : (Option Addr × Nat) => .slice y.1 (x12.Objects).length y.2) (fun v => [vl (tSlice t_fold_Object) x12.Objects v]) (fun v => []), pv (.int .i64 ((x12.Objects).length : Int)), pv (.bool (((x12.Objects).length : Int) == 2)), pv (.bool (((x12.Objects).length : Int) == 2)), pv (.pointer (some ⟨g24, 0, none⟩)), pq (fun y : (Option Addr × Nat) => .slice y.1 (x12.Objects).length y.2) (fun v => [vl (tSlice t_fold_Object) x12.Objects v]) (fun v => []), pq (fun y : Addr => .pointer (some y)) (fun v => [pl t_fold_Object x46 (adOf v)]) (fun v => []), pq (fun y : Addr => .pointer (some y)) (fun v => [pl tStr x46.Name (adOf v)]) (fun v => []), pv (bstr x46.Name), pv (.bool (x46.Name == ([97] : List UInt8))), pv (.bool (x46.Name == ([97] : List UInt8))), pv (.bool (x46.Name == ([97] : List UInt8))), pv (.agg cs26.toArray), pq (fun y : List Value => .agg y.toArray) (fun v => [vl t_fold_Object x51 v]) (fun v => []), pq (fun y : List Value => .agg y.toArray) (fun v => [vl t_fold_Field x54 v]) (fun v => []), pv (.int .i64 x54.Sum), pv (.bool (x54.Sum == 5)), pv (.bool (x54.Sum == 5)), pv (.bool (x54.Sum == 5)), pv (.agg cs26.toArray), pv (.agg ([.int .i64 101, .int .i64 1, .int .i64 0, .slice (some ⟨g3, 0, none⟩) ([(⟨3, ([120] : List UInt8), ([99] : List UInt8), 2, []⟩ : api_Effect)]).length 1] : List Value).toArray), pv (.agg ([.int .i64 102, .int .i64 1, .int .i64 0, .slice (some ⟨g6, 0, none⟩) ([(⟨3, ([120] : List UInt8), ([99] : List UInt8), 3, []⟩ : api_Effect), (⟨4, ([97] : List UInt8), ([115] : List UInt8), 0, ([113] : List UInt8)⟩ : api_Effect)]).length 2] : List Value).toArray), pq (fun y : (Option Addr × Nat) => .slice y.1 ([(⟨101, 1, 0, [(⟨3, ([120] : List UInt8), ([99] : List UInt8), 2, []⟩ : api_Effect)]⟩ : api_Update), (⟨102, 1, 0, [(⟨3, ([120] : List UInt8), ([99] : List UInt8), 3, []⟩ : api_Effect), (⟨4, ([97] : List UInt8), ([115] : List UInt8), 0, ([113] : List UInt8)⟩ : api_Effect)]⟩ : api_Update)]).length y.2) (fun v => [vl (tSlice t_api_Update) ([(⟨101, 1, 0, [(⟨3, ([120] : List UInt8), ([99] : List UInt8), 2, []⟩ : api_Effect)]⟩ : api_Update), (⟨102, 1, 0, [(⟨3, ([120] : List UInt8), ([99] : List UInt8), 3, []⟩ : api_Effect), (⟨4, ([97] : List UInt8), ([115] : List UInt8), 0, ([113] : List UInt8)⟩ : api_Effect)]⟩ : api_Update)]) v]) (fun v => []), pq (fun y : List Value => .agg y.toArray) (fun v => [vl t_fold_Store x61 v]) (fun v => []), pv (.bool x64), pv (.bool x64), pv (.bool x64), pv (.agg cs26.toArray), pv (.agg ([.slice none 0 0] : List Value).toArray), pv (.bool x66), pv (.bool (!x66)), pv (.bool (!x66)), pv (.bool (!x66)), pv (.agg ([.slice none 0 0] : List Value).toArray), pv (.int .u64 x68), pv (.bool (x68 == 14695981039346656037)), pv (.bool (x68 == 14695981039346656037))]) (Λ := [blk g24 29 cs26, blk g7 41 ([.int .i64 102, .int .i64 1, .int .i64 0, .slice (some ⟨g6, 0, none⟩) ([(⟨3, ([120] : List UInt8), ([99] : List UInt8), 3, []⟩ : api_Effect), (⟨4, ([97] : List UInt8), ([115] : List UInt8), 0, ([113] : List UInt8)⟩ : api_Effect)]).length 2]), blk g4 41 ([.int .i64 101, .int .i64 1, .int .i64 0, .slice (some ⟨g3, 0, none⟩) ([(⟨3, ([120] : List UInt8), ([99] : List UInt8), 2, []⟩ : api_Effect)]).length 1])]) hs (by kernel_rfl) (by kernel_rfl) (by kernel_rfl) ⟨⟨⟨⟨⟨⟨⟨⟨⟨⟨⟨⟨⟨⟨⟨⟨⟨⟨⟨⟨⟨⟨⟨⟨⟨⟨⟨⟨⟨⟨⟨⟨⟨⟨⟨⟨⟨⟨trivial, ?_⟩, ?_⟩, ?_⟩, ?_⟩, ?_⟩, ?_⟩, ?_⟩, ?_⟩, ?_⟩, ?_⟩, ?_⟩, ?_⟩, ?_⟩, ?_⟩, ?_⟩, ?_⟩, ?_⟩, ?_⟩, ?_⟩, ?_⟩, ?_⟩, ?_⟩, ?_⟩, ?_⟩, ?_⟩, ?_⟩, ?_⟩, ?_⟩, ?_⟩, ?_⟩, ?_⟩, ?_⟩, ?_⟩, ?_⟩, ?_⟩, ?_⟩, ?_⟩, ?_⟩ ?_
  {
  intro ρ w Γx Λx hs hu hp
  refine WL.fieldAddr (m := 0) ((hu 3 rfl).trans e25) FA29_0 rfl ?_
  exact WL.nil ⟨rfl, _, rfl, rfl, hs.cutG 0 0⟩ }
  {
  intro ρ w Γx Λx hs hu hp
  have e69 : ρ 16 = .pointer (some ⟨g24, 0, none⟩) := (hp 0 rfl).1
  refine WL.loadF (z := x12.Objects) F_fold_Store_Objects hs (Λx.length + 0) (getApp rfl) (Γx.length + 0) (getApp rfl) rfl TI27 (.inr rfl) e69 rfl (fun v39 hs => ?_)
  obtain ⟨a40, c41, rfl⟩ := hs.slice 0 rfl
  have hs := hs.add (it := vl (tSlice t_fold_Object) x12.Objects (.slice a40 (x12.Objects).length c41)) fun ok hA => hA.get 0 rfl
  exact WL.nil ⟨rfl, _, rfl, ⟨(a40, c41), rfl⟩, hs.cutG 1 1⟩ }
  {
  intro ρ w Γx Λx hs hu hp
  obtain ⟨⟨⟨a70, c71⟩, e72r⟩, hm73⟩ := hp 1 rfl
  have e72 : ρ 17 = .slice a70 (x12.Objects).length c71 := e72r
  rw [e72r] at hm73
  have hs := hs.memo1 (it := vl (tSlice t_fold_Object) x12.Objects (.slice a70 (x12.Objects).length c71)) (List.mem_append.2 (.inl (hm73 _ (List.mem_of_getElem? (i := 0) rfl))))
  refine WL.len (v := .slice a70 (x12.Objects).length c71) e72 (len_slice UN27) ?_
  exact WL.nil ⟨rfl, _, rfl, rfl, hs.cutG 0 1⟩ }
  {
  intro ρ w Γx Λx hs hu hp
  have e74 : ρ 18 = .int .i64 ((x12.Objects).length : Int) := (hp 2 rfl).1
  refine WL.bin (v := .bool (((x12.Objects).length : Int) == 2)) e74 rfl (ib_eql _ _ _) ?_
  exact WL.nil ⟨rfl, _, rfl, rfl, hs.cutG 0 0⟩ }
  {
  intro ρ w Γx Λx hs hu hp
  have e75 : ρ 19 = .bool (((x12.Objects).length : Int) == 2) := (hp 3 rfl).1
  refine WL.move (v := .bool (((x12.Objects).length : Int) == 2)) e75 ?_
  exact WL.nil ⟨rfl, _, rfl, rfl, hs.cutG 0 0⟩ }
  {
  intro ρ w Γx Λx hs hu hp
  have e76 : ρ 20 = .bool (((x12.Objects).length : Int) == 2) := (hp 4 rfl).1
  refine WL.fieldAddr (m := 0) ((hu 3 rfl).trans e25) FA29_0 rfl ?_ (hg := (wanted_of rfl rfl (bool_tr e76 hc42)).trans rfl)
  exact WL.nil ⟨rfl, _, rfl, rfl, hs.cutG 0 0⟩ }
  {
  intro ρ w Γx Λx hs hu hp
  have e77 : ρ 21 = .pointer (some ⟨g24, 0, none⟩) := (hp 5 rfl).1
  have e78 : ρ 20 = .bool (((x12.Objects).length : Int) == 2) := (hp 4 rfl).1
  refine WL.loadF (z := x12.Objects) F_fold_Store_Objects hs (Λx.length + 0) (getApp rfl) (Γx.length + 0) (getApp rfl) rfl TI27 (.inr rfl) e77 rfl (fun v43 hs => ?_) (hg := (wanted_of rfl rfl (bool_tr e78 hc42)).trans rfl)
  obtain ⟨a44, c45, rfl⟩ := hs.slice 0 rfl
  have hs := hs.add (it := vl (tSlice t_fold_Object) x12.Objects (.slice a44 (x12.Objects).length c45)) fun ok hA => hA.get 0 rfl
  exact WL.nil ⟨rfl, _, rfl, ⟨(a44, c45), rfl⟩, hs.cutG 1 1⟩ }
  {
  intro ρ w Γx Λx hs hu hp
  obtain ⟨⟨⟨a79, c80⟩, e81r⟩, hm82⟩ := hp 6 rfl
  have e81 : ρ 22 = .slice a79 (x12.Objects).length c80 := e81r
  rw [e81r] at hm82
  have hs := hs.memo1 (it := vl (tSlice t_fold_Object) x12.Objects (.slice a79 (x12.Objects).length c80)) (List.mem_append.2 (.inl (hm82 _ (List.mem_of_getElem? (i := 0) rfl))))
  have e83 : ρ 20 = .bool (((x12.Objects).length : Int) == 2) := (hp 4 rfl).1
  refine WL.indexAddr hs 0 rfl UN27 TI51 e81 rfl hxx46 (fun ad47 hs => ?_) (hg := (wanted_of rfl rfl (bool_tr e83 hc42)).trans rfl)
  have hs := hs.add (it := pl t_fold_Object x46 ad47) fun ok hA => hA.get 0 rfl
  exact WL.nil ⟨rfl, _, rfl, ⟨ad47, rfl⟩, hs.cutG 1 2⟩ }
  {
  intro ρ w Γx Λx hs hu hp
  obtain ⟨⟨ad84, e85r⟩, hm86⟩ := hp 7 rfl
  have e85 : ρ 23 = .pointer (some ad84) := e85r
  rw [e85r] at hm86
  have hs := hs.memo1 (it := pl t_fold_Object x46 ad84) (List.mem_append.2 (.inl (hm86 _ (List.mem_of_getElem? (i := 0) rfl))))
  have e87 : ρ 20 = .bool (((x12.Objects).length : Int) == 2) := (hp 4 rfl).1
  refine WL.fieldAddrP (z := x46.Name) F_fold_Object_Name hs 0 rfl e85 FA51_0 rfl (fun ad48 hs => ?_) (hg := (wanted_of rfl rfl (bool_tr e87 hc42)).trans rfl)
  have hs := hs.add (it := pl tStr x46.Name ad48) fun ok hA => hA.get 0 rfl
  exact WL.nil ⟨rfl, _, rfl, ⟨ad48, rfl⟩, hs.cutG 1 2⟩ }
  {
  intro ρ w Γx Λx hs hu hp
  obtain ⟨⟨ad88, e89r⟩, hm90⟩ := hp 8 rfl
  have e89 : ρ 24 = .pointer (some ad88) := e89r
  rw [e89r] at hm90
  have hs := hs.memo1 (it := pl tStr x46.Name ad88) (List.mem_append.2 (.inl (hm90 _ (List.mem_of_getElem? (i := 0) rfl))))
  have e91 : ρ 20 = .bool (((x12.Objects).length : Int) == 2) := (hp 4 rfl).1
  refine WL.loadP hs 0 rfl TI9 (.inr rfl) e89 (fun v49 hs => ?_) (hg := (wanted_of rfl rfl (bool_tr e91 hc42)).trans rfl)
  obtain rfl := hs.str 0 rfl
  exact WL.nil ⟨rfl, _, rfl, rfl, hs.cutG 0 2⟩ }
  {
  intro ρ w Γx Λx hs hu hp
  have e92 : ρ 25 = bstr x46.Name := (hp 9 rfl).1
  have e93 : ρ 20 = .bool (((x12.Objects).length : Int) == 2) := (hp 4 rfl).1
  refine WL.binS (v := .bool (x46.Name == ([97] : List UInt8))) e92 rfl (sb_eql _ _) ?_ (hg := (wanted_of rfl rfl (bool_tr e93 hc42)).trans rfl)
  exact WL.nil ⟨rfl, _, rfl, rfl, hs.cutG 0 0⟩ }
  {
  intro ρ w Γx Λx hs hu hp
  have e94 : ρ 20 = .bool (((x12.Objects).length : Int) == 2) := (hp 4 rfl).1
  have e95 : ρ 26 = .bool (x46.Name == ([97] : List UInt8)) := (hp 10 rfl).1
  refine WL.pickT (v := .bool (x46.Name == ([97] : List UInt8))) (bool_tr e94 hc42) e95 ?_
  exact WL.nil ⟨rfl, _, rfl, rfl, hs.cutG 0 0⟩ }
  {
  intro ρ w Γx Λx hs hu hp
  have e96 : ρ 27 = .bool (x46.Name == ([97] : List UInt8)) := (hp 11 rfl).1
  refine WL.move (v := .bool (x46.Name == ([97] : List UInt8))) e96 ?_
  exact WL.nil ⟨rfl, _, rfl, rfl, hs.cutG 0 0⟩ }
  {
  intro ρ w Γx Λx hs hu hp
  have e97 : ρ 28 = .bool (x46.Name == ([97] : List UInt8)) := (hp 12 rfl).1
  refine WL.loadAll hs (Λx.length + 0) (getApp rfl) TI29 ((hu 3 rfl).trans e25) hl27 ?_ (hg := (wanted_of rfl rfl (bool_tr e97 hc50)).trans rfl)
  exact WL.nil ⟨rfl, _, rfl, rfl, hs.cutG 0 0⟩ }
  {
  intro ρ w Γx Λx hs hu hp
  have e98 : ρ 29 = .agg cs26.toArray := (hp 13 rfl).1
  have e99 : ρ 28 = .bool (x46.Name == ([97] : List UInt8)) := (hp 12 rfl).1
  refine WL.call (vs := [.agg cs26.toArray, bstr ([120] : List UInt8)]) hs FN27 ⟨e98, ⟨rfl, trivial⟩⟩ (fun ok hA => fold_Find.calls (x1 := x12) (x2 := ([120] : List UInt8)) hxx51 (hA.get (Γx.length + 0) (getApp rfl))) ?_ (hg := (wanted_of rfl rfl (bool_tr e99 hc50)).trans rfl)
  rintro cs52 w hs
  have hl53 := hs.agglen (n := 2) 0 rfl rfl rfl
  have hs := hs.add (it := vl t_fold_Object x51 (.agg cs52.toArray)) fun ok hA => hA.get 0 rfl
  exact WL.nil ⟨rfl, _, rfl, ⟨cs52, rfl⟩, hs.cutG 1 1⟩ }
  {
  intro ρ w Γx Λx hs hu hp
  obtain ⟨⟨cs100, e102r⟩, hm103⟩ := hp 14 rfl
  have e102 : ρ 30 = .agg cs100.toArray := e102r
  rw [e102r] at hm103
  have hs := hs.memo1 (it := vl t_fold_Object x51 (.agg cs100.toArray)) (List.mem_append.2 (.inl (hm103 _ (List.mem_of_getElem? (i := 0) rfl))))
  have hl101 := hs.agglen (n := 2) 0 rfl rfl rfl
  have e104 : ρ 28 = .bool (x46.Name == ([97] : List UInt8)) := (hp 12 rfl).1
  refine WL.call (vs := [.agg cs100.toArray, bstr ([99] : List UInt8)]) hs FN28 ⟨e102, ⟨rfl, trivial⟩⟩ (fun ok hA => fold_FieldOf.callc (x1 := x51) (x5 := ([99] : List UInt8)) hxx54 (hA.get 0 rfl)) ?_ (hg := (wanted_of rfl rfl (bool_tr e104 hc50)).trans rfl)
  rintro cs55 w hs
  have hl56 := hs.agglen (n := 12) 0 rfl rfl rfl
  have hs := hs.add (it := vl t_fold_Field x54 (.agg cs55.toArray)) fun ok hA => hA.get 0 rfl
  exact WL.nil ⟨rfl, _, rfl, ⟨cs55, rfl⟩, hs.cutG 1 2⟩ }
  {
  intro ρ w Γx Λx hs hu hp
  obtain ⟨⟨cs105, e107r⟩, hm108⟩ := hp 15 rfl
  have e107 : ρ 31 = .agg cs105.toArray := e107r
  rw [e107r] at hm108
  have hs := hs.memo1 (it := vl t_fold_Field x54 (.agg cs105.toArray)) (List.mem_append.2 (.inl (hm108 _ (List.mem_of_getElem? (i := 0) rfl))))
  have hl106 := hs.agglen (n := 12) 0 rfl rfl rfl
  have e109 : ρ 28 = .bool (x46.Name == ([97] : List UInt8)) := (hp 12 rfl).1
  refine WL.fieldV (z := x54.Sum) (l := cs105) F_fold_Field_Sum hs 0 rfl rfl e107 FV57_4 TI2 (.inr rfl) rfl (fun v57 hs => ?_) (hg := (wanted_of rfl rfl (bool_tr e109 hc50)).trans rfl)
  obtain rfl := hs.int 0 rfl
  exact WL.nil ⟨rfl, _, rfl, rfl, hs.cutG 0 2⟩ }
  {
  intro ρ w Γx Λx hs hu hp
  have e110 : ρ 32 = .int .i64 x54.Sum := (hp 16 rfl).1
  have e111 : ρ 28 = .bool (x46.Name == ([97] : List UInt8)) := (hp 12 rfl).1
  refine WL.bin (v := .bool (x54.Sum == 5)) e110 rfl (ib_eql _ _ _) ?_ (hg := (wanted_of rfl rfl (bool_tr e111 hc50)).trans rfl)
  exact WL.nil ⟨rfl, _, rfl, rfl, hs.cutG 0 0⟩ }
  {
  intro ρ w Γx Λx hs hu hp
  have e112 : ρ 28 = .bool (x46.Name == ([97] : List UInt8)) := (hp 12 rfl).1
  have e113 : ρ 33 = .bool (x54.Sum == 5) := (hp 17 rfl).1
  refine WL.pickT (v := .bool (x54.Sum == 5)) (bool_tr e112 hc50) e113 ?_
  exact WL.nil ⟨rfl, _, rfl, rfl, hs.cutG 0 0⟩ }
  {
  intro ρ w Γx Λx hs hu hp
  have e114 : ρ 34 = .bool (x54.Sum == 5) := (hp 18 rfl).1
  refine WL.move (v := .bool (x54.Sum == 5)) e114 ?_
  exact WL.nil ⟨rfl, _, rfl, rfl, hs.cutG 0 0⟩ }
  {
  intro ρ w Γx Λx hs hu hp
  have e115 : ρ 35 = .bool (x54.Sum == 5) := (hp 19 rfl).1
  refine WL.loadAll hs (Λx.length + 0) (getApp rfl) TI29 ((hu 3 rfl).trans e25) hl27 ?_ (hg := (wanted_of rfl rfl (bool_tr e115 hc58)).trans rfl)
  exact WL.nil ⟨rfl, _, rfl, rfl, hs.cutG 0 0⟩ }
  {
  intro ρ w Γx Λx hs hu hp
  have e116 : ρ 35 = .bool (x54.Sum == 5) := (hp 19 rfl).1
  refine WL.loadN (vs := [.int .i64 101, .int .i64 1, .int .i64 0, .slice (some ⟨g3, 0, none⟩) ([(⟨3, ([120] : List UInt8), ([99] : List UInt8), 2, []⟩ : api_Effect)]).length 1]) hs (Λx.length + 2) (getApp rfl) TI41 ((hu 1 rfl).trans (hu23 1 rfl)) rfl rfl ?_ (hg := (wanted_of rfl rfl (bool_tr e116 hc58)).trans rfl)
  exact WL.nil ⟨rfl, _, rfl, rfl, hs.cutG 0 0⟩ }
  {
  intro ρ w Γx Λx hs hu hp
  have e117 : ρ 35 = .bool (x54.Sum == 5) := (hp 19 rfl).1
  refine WL.loadN (vs := [.int .i64 102, .int .i64 1, .int .i64 0, .slice (some ⟨g6, 0, none⟩) ([(⟨3, ([120] : List UInt8), ([99] : List UInt8), 3, []⟩ : api_Effect), (⟨4, ([97] : List UInt8), ([115] : List UInt8), 0, ([113] : List UInt8)⟩ : api_Effect)]).length 2]) hs (Λx.length + 1) (getApp rfl) TI41 ((hu 2 rfl).trans (hu23 2 rfl)) rfl rfl ?_ (hg := (wanted_of rfl rfl (bool_tr e117 hc58)).trans rfl)
  exact WL.nil ⟨rfl, _, rfl, rfl, hs.cutG 0 0⟩ }
  {
  intro ρ w Γx Λx hs hu hp
  have e118 : ρ 37 = .agg ([.int .i64 101, .int .i64 1, .int .i64 0, .slice (some ⟨g3, 0, none⟩) ([(⟨3, ([120] : List UInt8), ([99] : List UInt8), 2, []⟩ : api_Effect)]).length 1] : List Value).toArray := (hp 21 rfl).1
  have e119 : ρ 38 = .agg ([.int .i64 102, .int .i64 1, .int .i64 0, .slice (some ⟨g6, 0, none⟩) ([(⟨3, ([120] : List UInt8), ([99] : List UInt8), 3, []⟩ : api_Effect), (⟨4, ([97] : List UInt8), ([115] : List UInt8), 0, ([113] : List UInt8)⟩ : api_Effect)]).length 2] : List Value).toArray := (hp 22 rfl).1
  have e120 : ρ 35 = .bool (x54.Sum == 5) := (hp 19 rfl).1
  refine WL.buildSliceB (ys := [(⟨101, 1, 0, [(⟨3, ([120] : List UInt8), ([99] : List UInt8), 2, []⟩ : api_Effect)]⟩ : api_Update), (⟨102, 1, 0, [(⟨3, ([120] : List UInt8), ([99] : List UInt8), 3, []⟩ : api_Effect), (⟨4, ([97] : List UInt8), ([115] : List UInt8), 0, ([113] : List UInt8)⟩ : api_Effect)]⟩ : api_Update)]) (n := 2) (vs := [(0, .agg ([.int .i64 101, .int .i64 1, .int .i64 0, .slice (some ⟨g3, 0, none⟩) ([(⟨3, ([120] : List UInt8), ([99] : List UInt8), 2, []⟩ : api_Effect)]).length 1] : List Value).toArray), (1, .agg ([.int .i64 102, .int .i64 1, .int .i64 0, .slice (some ⟨g6, 0, none⟩) ([(⟨3, ([120] : List UInt8), ([99] : List UInt8), 3, []⟩ : api_Effect), (⟨4, ([97] : List UInt8), ([115] : List UInt8), 0, ([113] : List UInt8)⟩ : api_Effect)]).length 2] : List Value).toArray)]) (cs := [.int .i64 101, .int .i64 1, .int .i64 0, .slice (some ⟨g3, 0, none⟩) ([(⟨3, ([120] : List UInt8), ([99] : List UInt8), 2, []⟩ : api_Effect)]).length 1, .int .i64 102, .int .i64 1, .int .i64 0, .slice (some ⟨g6, 0, none⟩) ([(⟨3, ([120] : List UInt8), ([99] : List UInt8), 3, []⟩ : api_Effect), (⟨4, ([97] : List UInt8), ([115] : List UInt8), 0, ([113] : List UInt8)⟩ : api_Effect)]).length 2]) hs ⟨⟨rfl, e118⟩, ⟨⟨rfl, e119⟩, trivial⟩⟩ (bls PS23 (by decide) rfl) (fun ok hA => (Cells.app (Cells.one (T := t_api_Update) (show t_api_Update.R ok _ (⟨101, 1, 0, [(⟨3, ([120] : List UInt8), ([99] : List UInt8), 2, []⟩ : api_Effect)]⟩ : api_Update) _ from ⟨[.int .i64 101], ([.int .i64 1, .int .i64 0, .slice (some ⟨g3, 0, none⟩) ([(⟨3, ([120] : List UInt8), ([99] : List UInt8), 2, []⟩ : api_Effect)]).length 1]), rfl, rfl, ⟨[.int .i64 1], ([.int .i64 0, .slice (some ⟨g3, 0, none⟩) ([(⟨3, ([120] : List UInt8), ([99] : List UInt8), 2, []⟩ : api_Effect)]).length 1]), rfl, rfl, ⟨[.int .i64 0], ([.slice (some ⟨g3, 0, none⟩) ([(⟨3, ([120] : List UInt8), ([99] : List UInt8), 2, []⟩ : api_Effect)]).length 1]), rfl, rfl, (R_one (hA.get (Γx.length + 2) (getApp rfl)))⟩⟩⟩)) (Cells.one (T := t_api_Update) (show t_api_Update.R ok _ (⟨102, 1, 0, [(⟨3, ([120] : List UInt8), ([99] : List UInt8), 3, []⟩ : api_Effect), (⟨4, ([97] : List UInt8), ([115] : List UInt8), 0, ([113] : List UInt8)⟩ : api_Effect)]⟩ : api_Update) _ from ⟨[.int .i64 102], ([.int .i64 1, .int .i64 0, .slice (some ⟨g6, 0, none⟩) ([(⟨3, ([120] : List UInt8), ([99] : List UInt8), 3, []⟩ : api_Effect), (⟨4, ([97] : List UInt8), ([115] : List UInt8), 0, ([113] : List UInt8)⟩ : api_Effect)]).length 2]), rfl, rfl, ⟨[.int .i64 1], ([.int .i64 0, .slice (some ⟨g6, 0, none⟩) ([(⟨3, ([120] : List UInt8), ([99] : List UInt8), 3, []⟩ : api_Effect), (⟨4, ([97] : List UInt8), ([115] : List UInt8), 0, ([113] : List UInt8)⟩ : api_Effect)]).length 2]), rfl, rfl, ⟨[.int .i64 0], ([.slice (some ⟨g6, 0, none⟩) ([(⟨3, ([120] : List UInt8), ([99] : List UInt8), 3, []⟩ : api_Effect), (⟨4, ([97] : List UInt8), ([115] : List UInt8), 0, ([113] : List UInt8)⟩ : api_Effect)]).length 2]), rfl, rfl, (R_one (hA.get (Γx.length + 3) (getApp rfl)))⟩⟩⟩)))) rfl (by decide) (fun a60 w hBl hs => ?_) (hg := (wanted_of rfl rfl (bool_tr e120 hc58)).trans rfl)
  have hs := hs.add (it := vl (tSlice t_api_Update) ([(⟨101, 1, 0, [(⟨3, ([120] : List UInt8), ([99] : List UInt8), 2, []⟩ : api_Effect)]⟩ : api_Update), (⟨102, 1, 0, [(⟨3, ([120] : List UInt8), ([99] : List UInt8), 3, []⟩ : api_Effect), (⟨4, ([97] : List UInt8), ([115] : List UInt8), 0, ([113] : List UInt8)⟩ : api_Effect)]⟩ : api_Update)]) (.slice a60 ([(⟨101, 1, 0, [(⟨3, ([120] : List UInt8), ([99] : List UInt8), 2, []⟩ : api_Effect)]⟩ : api_Update), (⟨102, 1, 0, [(⟨3, ([120] : List UInt8), ([99] : List UInt8), 3, []⟩ : api_Effect), (⟨4, ([97] : List UInt8), ([115] : List UInt8), 0, ([113] : List UInt8)⟩ : api_Effect)]⟩ : api_Update)]).length 2)) fun ok hA => hA.get 0 rfl
  exact WL.nil ⟨rfl, _, rfl, ⟨(a60, 2), rfl⟩, hs.cutG 1 1⟩ }
  {
  intro ρ w Γx Λx hs hu hp
  obtain ⟨⟨⟨a121, c122⟩, e123r⟩, hm124⟩ := hp 23 rfl
  have e123 : ρ 39 = .slice a121 ([(⟨101, 1, 0, [(⟨3, ([120] : List UInt8), ([99] : List UInt8), 2, []⟩ : api_Effect)]⟩ : api_Update), (⟨102, 1, 0, [(⟨3, ([120] : List UInt8), ([99] : List UInt8), 3, []⟩ : api_Effect), (⟨4, ([97] : List UInt8), ([115] : List UInt8), 0, ([113] : List UInt8)⟩ : api_Effect)]⟩ : api_Update)]).length c122 := e123r
  rw [e123r] at hm124
  have hs := hs.memo1 (it := vl (tSlice t_api_Update) ([(⟨101, 1, 0, [(⟨3, ([120] : List UInt8), ([99] : List UInt8), 2, []⟩ : api_Effect)]⟩ : api_Update), (⟨102, 1, 0, [(⟨3, ([120] : List UInt8), ([99] : List UInt8), 3, []⟩ : api_Effect), (⟨4, ([97] : List UInt8), ([115] : List UInt8), 0, ([113] : List UInt8)⟩ : api_Effect)]⟩ : api_Update)]) (.slice a121 ([(⟨101, 1, 0, [(⟨3, ([120] : List UInt8), ([99] : List UInt8), 2, []⟩ : api_Effect)]⟩ : api_Update), (⟨102, 1, 0, [(⟨3, ([120] : List UInt8), ([99] : List UInt8), 3, []⟩ : api_Effect), (⟨4, ([97] : List UInt8), ([115] : List UInt8), 0, ([113] : List UInt8)⟩ : api_Effect)]⟩ : api_Update)]).length c122)) (List.mem_append.2 (.inl (hm124 _ (List.mem_of_getElem? (i := 0) rfl))))
  have e125 : ρ 35 = .bool (x54.Sum == 5) := (hp 19 rfl).1
  refine WL.call (vs := [.slice a121 ([(⟨101, 1, 0, [(⟨3, ([120] : List UInt8), ([99] : List UInt8), 2, []⟩ : api_Effect)]⟩ : api_Update), (⟨102, 1, 0, [(⟨3, ([120] : List UInt8), ([99] : List UInt8), 3, []⟩ : api_Effect), (⟨4, ([97] : List UInt8), ([115] : List UInt8), 0, ([113] : List UInt8)⟩ : api_Effect)]⟩ : api_Update)]).length c122]) hs FN13 ⟨e123, trivial⟩ (fun ok hA => fold_Fold.calls (x1 := ([(⟨101, 1, 0, [(⟨3, ([120] : List UInt8), ([99] : List UInt8), 2, []⟩ : api_Effect)]⟩ : api_Update), (⟨102, 1, 0, [(⟨3, ([120] : List UInt8), ([99] : List UInt8), 3, []⟩ : api_Effect), (⟨4, ([97] : List UInt8), ([115] : List UInt8), 0, ([113] : List UInt8)⟩ : api_Effect)]⟩ : api_Update)])) hxx61 (hA.get 0 rfl)) ?_ (hg := (wanted_of rfl rfl (bool_tr e125 hc58)).trans rfl)
  rintro cs62 w hs
  have hl63 := hs.agglen (n := 1) 0 rfl rfl rfl
  have hs := hs.add (it := vl t_fold_Store x61 (.agg cs62.toArray)) fun ok hA => hA.get 0 rfl
  exact WL.nil ⟨rfl, _, rfl, ⟨cs62, rfl⟩, hs.cutG 1 2⟩ }
  {
  intro ρ w Γx Λx hs hu hp
  have e126 : ρ 36 = .agg cs26.toArray := (hp 20 rfl).1
  obtain ⟨⟨cs127, e129r⟩, hm130⟩ := hp 24 rfl
  have e129 : ρ 40 = .agg cs127.toArray := e129r
  rw [e129r] at hm130
  have hs := hs.memo1 (it := vl t_fold_Store x61 (.agg cs127.toArray)) (List.mem_append.2 (.inl (hm130 _ (List.mem_of_getElem? (i := 0) rfl))))
  have hl128 := hs.agglen (n := 1) 0 rfl rfl rfl
  have e131 : ρ 35 = .bool (x54.Sum == 5) := (hp 19 rfl).1
  refine WL.call (vs := [.agg cs26.toArray, .agg cs127.toArray]) hs FN26 ⟨e126, ⟨e129, trivial⟩⟩ (fun ok hA => fold_Equal.calls (x1 := x12) (x5 := x61) hxx64 (hA.get (Γx.length + 0 + 1) (getApp1 rfl)) (hA.get 0 rfl)) ?_ (hg := (wanted_of rfl rfl (bool_tr e131 hc58)).trans rfl)
  rintro _ w hs
  exact WL.nil ⟨rfl, _, rfl, rfl, hs.cutG 0 1⟩ }
  {
  intro ρ w Γx Λx hs hu hp
  have e132 : ρ 35 = .bool (x54.Sum == 5) := (hp 19 rfl).1
  have e133 : ρ 41 = .bool x64 := (hp 25 rfl).1
  refine WL.pickT (v := .bool x64) (bool_tr e132 hc58) e133 ?_
  exact WL.nil ⟨rfl, _, rfl, rfl, hs.cutG 0 0⟩ }
  {
  intro ρ w Γx Λx hs hu hp
  have e134 : ρ 42 = .bool x64 := (hp 26 rfl).1
  refine WL.move (v := .bool x64) e134 ?_
  exact WL.nil ⟨rfl, _, rfl, rfl, hs.cutG 0 0⟩ }
  {
  intro ρ w Γx Λx hs hu hp
  have e135 : ρ 43 = .bool x64 := (hp 27 rfl).1
  refine WL.loadAll hs (Λx.length + 0) (getApp rfl) TI29 ((hu 3 rfl).trans e25) hl27 ?_ (hg := (wanted_of rfl rfl (bool_tr e135 hc65)).trans rfl)
  exact WL.nil ⟨rfl, _, rfl, rfl, hs.cutG 0 0⟩ }
  {
  intro ρ w Γx Λx hs hu hp
  have e136 : ρ 43 = .bool x64 := (hp 27 rfl).1
  refine WL.build (vs := []) (cs := [.slice none 0 0]) trivial (bld PL29 rfl) ?_ (hg := (wanted_of rfl rfl (bool_tr e136 hc65)).trans rfl)
  exact WL.nil ⟨rfl, _, rfl, rfl, hs.cutG 0 0⟩ }
  {
  intro ρ w Γx Λx hs hu hp
  have e137 : ρ 44 = .agg cs26.toArray := (hp 28 rfl).1
  have e138 : ρ 45 = .agg ([.slice none 0 0] : List Value).toArray := (hp 29 rfl).1
  have e139 : ρ 43 = .bool x64 := (hp 27 rfl).1
  have hs := hs.add (it := vl t_fold_Store (⟨[]⟩ : fold_Store) (.agg [.slice none 0 0].toArray)) fun ok hA => V_agg (show t_fold_Store.R ok _ _ _ from (show (tSlice t_fold_Object).R ok _ [] _ from R_nil)) rfl
  refine WL.call (vs := [.agg cs26.toArray, .agg ([.slice none 0 0] : List Value).toArray]) hs FN26 ⟨e137, ⟨e138, trivial⟩⟩ (fun ok hA => fold_Equal.calls (x1 := x12) (x5 := (⟨[]⟩ : fold_Store)) hxx66 (hA.get (Γx.length + 0 + 1) (getApp1 rfl)) (hA.get 0 rfl)) ?_ (hg := (wanted_of rfl rfl (bool_tr e139 hc65)).trans rfl)
  rintro _ w hs
  exact WL.nil ⟨rfl, _, rfl, rfl, hs.cutG 0 1⟩ }
  {
  intro ρ w Γx Λx hs hu hp
  have e140 : ρ 46 = .bool x66 := (hp 30 rfl).1
  have e141 : ρ 43 = .bool x64 := (hp 27 rfl).1
  refine WL.not e140 ?_ (hg := (wanted_of rfl rfl (bool_tr e141 hc65)).trans rfl)
  exact WL.nil ⟨rfl, _, rfl, rfl, hs.cutG 0 0⟩ }
  {
  intro ρ w Γx Λx hs hu hp
  have e142 : ρ 43 = .bool x64 := (hp 27 rfl).1
  have e143 : ρ 47 = .bool (!x66) := (hp 31 rfl).1
  refine WL.pickT (v := .bool (!x66)) (bool_tr e142 hc65) e143 ?_
  exact WL.nil ⟨rfl, _, rfl, rfl, hs.cutG 0 0⟩ }
  {
  intro ρ w Γx Λx hs hu hp
  have e144 : ρ 48 = .bool (!x66) := (hp 32 rfl).1
  refine WL.move (v := .bool (!x66)) e144 ?_
  exact WL.nil ⟨rfl, _, rfl, rfl, hs.cutG 0 0⟩ }
  {
  intro ρ w Γx Λx hs hu hp
  have e145 : ρ 49 = .bool (!x66) := (hp 33 rfl).1
  refine WL.build (vs := []) (cs := [.slice none 0 0]) trivial (bld PL29 rfl) ?_ (hg := (wanted_of rfl rfl (bool_tr e145 hc67)).trans rfl)
  exact WL.nil ⟨rfl, _, rfl, rfl, hs.cutG 0 0⟩ }
  {
  intro ρ w Γx Λx hs hu hp
  have e146 : ρ 50 = .agg ([.slice none 0 0] : List Value).toArray := (hp 34 rfl).1
  have e147 : ρ 49 = .bool (!x66) := (hp 33 rfl).1
  have hs := hs.add (it := vl t_fold_Store (⟨[]⟩ : fold_Store) (.agg [.slice none 0 0].toArray)) fun ok hA => V_agg (show t_fold_Store.R ok _ _ _ from (show (tSlice t_fold_Object).R ok _ [] _ from R_nil)) rfl
  refine WL.call (vs := [.agg ([.slice none 0 0] : List Value).toArray]) hs FN16 ⟨e146, trivial⟩ (fun ok hA => fold_Hash.calls (x1 := (⟨[]⟩ : fold_Store)) hxx68 (hA.get 0 rfl)) ?_ (hg := (wanted_of rfl rfl (bool_tr e147 hc67)).trans rfl)
  rintro _ w hs
  exact WL.nil ⟨rfl, _, rfl, rfl, hs.cutG 0 1⟩ }
  {
  intro ρ w Γx Λx hs hu hp
  have e148 : ρ 51 = .int .u64 x68 := (hp 35 rfl).1
  have e149 : ρ 49 = .bool (!x66) := (hp 33 rfl).1
  refine WL.bin (v := .bool (x68 == 14695981039346656037)) e148 rfl (ib_eql _ _ _) ?_ (hg := (wanted_of rfl rfl (bool_tr e149 hc67)).trans rfl)
  exact WL.nil ⟨rfl, _, rfl, rfl, hs.cutG 0 0⟩ }
  {
  intro ρ w Γx Λx hs hu hp
  have e150 : ρ 49 = .bool (!x66) := (hp 33 rfl).1
  have e151 : ρ 52 = .bool (x68 == 14695981039346656037) := (hp 36 rfl).1
  refine WL.pickT (v := .bool (x68 == 14695981039346656037)) (bool_tr e150 hc67) e151 ?_
  exact WL.nil ⟨rfl, _, rfl, rfl, hs.cutG 0 0⟩ }
  {
  intro ρ w hs hu152 hp
  obtain ⟨⟨⟨⟨⟨⟨⟨⟨⟨⟨⟨⟨⟨⟨⟨⟨⟨⟨⟨⟨⟨⟨⟨⟨⟨⟨⟨⟨⟨⟨⟨⟨⟨⟨⟨⟨⟨⟨_, hp0_⟩, hp1_⟩, hp2_⟩, hp3_⟩, hp4_⟩, hp5_⟩, hp6_⟩, hp7_⟩, hp8_⟩, hp9_⟩, hp10_⟩, hp11_⟩, hp12_⟩, hp13_⟩, hp14_⟩, hp15_⟩, hp16_⟩, hp17_⟩, hp18_⟩, hp19_⟩, hp20_⟩, hp21_⟩, hp22_⟩, hp23_⟩, hp24_⟩, hp25_⟩, hp26_⟩, hp27_⟩, hp28_⟩, hp29_⟩, hp30_⟩, hp31_⟩, hp32_⟩, hp33_⟩, hp34_⟩, hp35_⟩, hp36_⟩, hp37_⟩ := hp
  have hs : St ok (bz w0) w [vl t_fold_Store x61 (ρ 40), vl (tSlice t_api_Update) ([(⟨101, 1, 0, [(⟨3, ([120] : List UInt8), ([99] : List UInt8), 2, []⟩ : api_Effect)]⟩ : api_Update), (⟨102, 1, 0, [(⟨3, ([120] : List UInt8), ([99] : List UInt8), 3, []⟩ : api_Effect), (⟨4, ([97] : List UInt8), ([115] : List UInt8), 0, ([113] : List UInt8)⟩ : api_Effect)]⟩ : api_Update)]) (ρ 39), vl t_fold_Field x54 (ρ 31), vl t_fold_Object x51 (ρ 30), pl tStr x46.Name (adOf (ρ 24)), pl t_fold_Object x46 (adOf (ρ 23)), vl (tSlice t_fold_Object) x12.Objects (ρ 22), vl (tSlice t_fold_Object) x12.Objects (ρ 17), vl t_fold_Store x12 (.agg cs26.toArray), vl t_fold_Store x9 (.agg cs30.toArray), vl (tSlice t_api_Effect) ([(⟨3, ([120] : List UInt8), ([99] : List UInt8), 2, []⟩ : api_Effect)]) (.slice (some ⟨g3, 0, none⟩) ([(⟨3, ([120] : List UInt8), ([99] : List UInt8), 2, []⟩ : api_Effect)]).length 1), vl (tSlice t_api_Effect) ([(⟨3, ([120] : List UInt8), ([99] : List UInt8), 3, []⟩ : api_Effect), (⟨4, ([97] : List UInt8), ([115] : List UInt8), 0, ([113] : List UInt8)⟩ : api_Effect)]) (.slice (some ⟨g6, 0, none⟩) ([(⟨3, ([120] : List UInt8), ([99] : List UInt8), 3, []⟩ : api_Effect), (⟨4, ([97] : List UInt8), ([115] : List UInt8), 0, ([113] : List UInt8)⟩ : api_Effect)]).length 2)] [blk g24 29 cs26, blk g7 41 ([.int .i64 102, .int .i64 1, .int .i64 0, .slice (some ⟨g6, 0, none⟩) ([(⟨3, ([120] : List UInt8), ([99] : List UInt8), 3, []⟩ : api_Effect), (⟨4, ([97] : List UInt8), ([115] : List UInt8), 0, ([113] : List UInt8)⟩ : api_Effect)]).length 2]), blk g4 41 ([.int .i64 101, .int .i64 1, .int .i64 0, .slice (some ⟨g3, 0, none⟩) ([(⟨3, ([120] : List UInt8), ([99] : List UInt8), 2, []⟩ : api_Effect)]).length 1])] := hs
  have e153 : ρ 53 = .bool (x68 == 14695981039346656037) := hp37_
  have e154 : ρ 52 = .bool (x68 == 14695981039346656037) := hp36_
  have e155 : ρ 51 = .int .u64 x68 := hp35_
  have e156 : ρ 50 = .agg ([.slice none 0 0] : List Value).toArray := hp34_
  have e157 : ρ 49 = .bool (!x66) := hp33_
  have e158 : ρ 48 = .bool (!x66) := hp32_
  have e159 : ρ 47 = .bool (!x66) := hp31_
  have e160 : ρ 46 = .bool x66 := hp30_
  have e161 : ρ 45 = .agg ([.slice none 0 0] : List Value).toArray := hp29_
  have e162 : ρ 44 = .agg cs26.toArray := hp28_
  have e163 : ρ 43 = .bool x64 := hp27_
  have e164 : ρ 42 = .bool x64 := hp26_
  have e165 : ρ 41 = .bool x64 := hp25_
  obtain ⟨cs166, e168⟩ := hp24_
  have e168 : ρ 40 = .agg cs166.toArray := e168
  try rw [e168] at hs
  obtain ⟨⟨a169, c170⟩, e171⟩ := hp23_
  have e171 : ρ 39 = .slice a169 ([(⟨101, 1, 0, [(⟨3, ([120] : List UInt8), ([99] : List UInt8), 2, []⟩ : api_Effect)]⟩ : api_Update), (⟨102, 1, 0, [(⟨3, ([120] : List UInt8), ([99] : List UInt8), 3, []⟩ : api_Effect), (⟨4, ([97] : List UInt8), ([115] : List UInt8), 0, ([113] : List UInt8)⟩ : api_Effect)]⟩ : api_Update)]).length c170 := e171
  try rw [e171] at hs
  have e172 : ρ 38 = .agg ([.int .i64 102, .int .i64 1, .int .i64 0, .slice (some ⟨g6, 0, none⟩) ([(⟨3, ([120] : List UInt8), ([99] : List UInt8), 3, []⟩ : api_Effect), (⟨4, ([97] : List UInt8), ([115] : List UInt8), 0, ([113] : List UInt8)⟩ : api_Effect)]).length 2] : List Value).toArray := hp22_
  have e173 : ρ 37 = .agg ([.int .i64 101, .int .i64 1, .int .i64 0, .slice (some ⟨g3, 0, none⟩) ([(⟨3, ([120] : List UInt8), ([99] : List UInt8), 2, []⟩ : api_Effect)]).length 1] : List Value).toArray := hp21_
  have e174 : ρ 36 = .agg cs26.toArray := hp20_
  have e175 : ρ 35 = .bool (x54.Sum == 5) := hp19_
  have e176 : ρ 34 = .bool (x54.Sum == 5) := hp18_
  have e177 : ρ 33 = .bool (x54.Sum == 5) := hp17_
  have e178 : ρ 32 = .int .i64 x54.Sum := hp16_
  obtain ⟨cs179, e181⟩ := hp15_
  have e181 : ρ 31 = .agg cs179.toArray := e181
  try rw [e181] at hs
  obtain ⟨cs182, e184⟩ := hp14_
  have e184 : ρ 30 = .agg cs182.toArray := e184
  try rw [e184] at hs
  have e185 : ρ 29 = .agg cs26.toArray := hp13_
  have e186 : ρ 28 = .bool (x46.Name == ([97] : List UInt8)) := hp12_
  have e187 : ρ 27 = .bool (x46.Name == ([97] : List UInt8)) := hp11_
  have e188 : ρ 26 = .bool (x46.Name == ([97] : List UInt8)) := hp10_
  have e189 : ρ 25 = bstr x46.Name := hp9_
  obtain ⟨ad190, e191⟩ := hp8_
  have e191 : ρ 24 = .pointer (some ad190) := e191
  try rw [e191] at hs
  obtain ⟨ad192, e193⟩ := hp7_
  have e193 : ρ 23 = .pointer (some ad192) := e193
  try rw [e193] at hs
  obtain ⟨⟨a194, c195⟩, e196⟩ := hp6_
  have e196 : ρ 22 = .slice a194 (x12.Objects).length c195 := e196
  try rw [e196] at hs
  have e197 : ρ 21 = .pointer (some ⟨g24, 0, none⟩) := hp5_
  have e198 : ρ 20 = .bool (((x12.Objects).length : Int) == 2) := hp4_
  have e199 : ρ 19 = .bool (((x12.Objects).length : Int) == 2) := hp3_
  have e200 : ρ 18 = .int .i64 ((x12.Objects).length : Int) := hp2_
  obtain ⟨⟨a201, c202⟩, e203⟩ := hp1_
  have e203 : ρ 17 = .slice a201 (x12.Objects).length c202 := e203
  try rw [e203] at hs
  have e204 : ρ 16 = .pointer (some ⟨g24, 0, none⟩) := hp0_
  have hl183 := hs.agglen (n := 2) 3 rfl rfl rfl
  have hl180 := hs.agglen (n := 12) 2 rfl rfl rfl
  have hl167 := hs.agglen (n := 1) 0 rfl rfl rfl
  refine WA.step [38] (by kernel_rfl) (by simp) ⟨?_, trivial⟩
  refine WL.assign (v := .bool (x68 == 14695981039346656037)) e153 ?_
  refine WL.nil ⟨rfl, _, rfl, ?_⟩
  refine WA.done (by kernel_rfl) ?_
  exact Jk38 (x68 == 14695981039346656037) _ _ rfl ((hs.mask []).pick []) hf } }
  {
  refine W.any (by kernel_rfl) 38 1 [true, true, true, true, true, true, true, true, true, true, true, true, true, true, true, true, true, true, true, true, true, true, true, true, true, true, true, true, true, true, true, true, true, true, true, true, true, true, false] rfl rfl (poAt [pv (.pointer (some ⟨g24, 0, none⟩)), pq (fun y : (Option Addr × Nat) => .slice y.1 (x12.Objects).length y.2) (fun v => [vl (tSlice t_fold_Object) x12.Objects v]) (fun v => []), pv (.int .i64 ((x12.Objects).length : Int)), pv (.bool (((x12.Objects).length : Int) == 2)), pv (.bool (((x12.Objects).length : Int) == 2)), pv (.pointer (some ⟨g24, 0, none⟩)), pq (fun y : (Option Addr × Nat) => .slice y.1 (x12.Objects).length y.2) (fun v => [vl (tSlice t_fold_Object) x12.Objects v]) (fun v => []), pq (fun y : Addr => .pointer (some y)) (fun v => [pl t_fold_Object x46 (adOf v)]) (fun v => []), pq (fun y : Addr => .pointer (some y)) (fun v => [pl tStr x46.Name (adOf v)]) (fun v => []), pv (bstr x46.Name), pv (.bool (x46.Name == ([97] : List UInt8))), pv (.bool (x46.Name == ([97] : List UInt8))), pv (.bool (x46.Name == ([97] : List UInt8))), pv (.agg cs26.toArray), pq (fun y : List Value => .agg y.toArray) (fun v => [vl t_fold_Object x51 v]) (fun v => []), pq (fun y : List Value => .agg y.toArray) (fun v => [vl t_fold_Field x54 v]) (fun v => []), pv (.int .i64 x54.Sum), pv (.bool (x54.Sum == 5)), pv (.bool (x54.Sum == 5)), pv (.bool (x54.Sum == 5)), pv (.agg cs26.toArray), pv (.agg ([.int .i64 101, .int .i64 1, .int .i64 0, .slice (some ⟨g3, 0, none⟩) ([(⟨3, ([120] : List UInt8), ([99] : List UInt8), 2, []⟩ : api_Effect)]).length 1] : List Value).toArray), pv (.agg ([.int .i64 102, .int .i64 1, .int .i64 0, .slice (some ⟨g6, 0, none⟩) ([(⟨3, ([120] : List UInt8), ([99] : List UInt8), 3, []⟩ : api_Effect), (⟨4, ([97] : List UInt8), ([115] : List UInt8), 0, ([113] : List UInt8)⟩ : api_Effect)]).length 2] : List Value).toArray), pq (fun y : (Option Addr × Nat) => .slice y.1 ([(⟨101, 1, 0, [(⟨3, ([120] : List UInt8), ([99] : List UInt8), 2, []⟩ : api_Effect)]⟩ : api_Update), (⟨102, 1, 0, [(⟨3, ([120] : List UInt8), ([99] : List UInt8), 3, []⟩ : api_Effect), (⟨4, ([97] : List UInt8), ([115] : List UInt8), 0, ([113] : List UInt8)⟩ : api_Effect)]⟩ : api_Update)]).length y.2) (fun v => [vl (tSlice t_api_Update) ([(⟨101, 1, 0, [(⟨3, ([120] : List UInt8), ([99] : List UInt8), 2, []⟩ : api_Effect)]⟩ : api_Update), (⟨102, 1, 0, [(⟨3, ([120] : List UInt8), ([99] : List UInt8), 3, []⟩ : api_Effect), (⟨4, ([97] : List UInt8), ([115] : List UInt8), 0, ([113] : List UInt8)⟩ : api_Effect)]⟩ : api_Update)]) v]) (fun v => []), pq (fun y : List Value => .agg y.toArray) (fun v => [vl t_fold_Store x61 v]) (fun v => []), pv (.bool x64), pv (.bool x64), pv (.bool x64), pv (.agg cs26.toArray), pv (.agg ([.slice none 0 0] : List Value).toArray), pv (.bool x66), pv (.bool (!x66)), pv (.bool (!x66)), pv (.bool (!x66)), pv (undef), pv (undef), pv (undef), pv (.bool false)]) (Λ := [blk g24 29 cs26, blk g7 41 ([.int .i64 102, .int .i64 1, .int .i64 0, .slice (some ⟨g6, 0, none⟩) ([(⟨3, ([120] : List UInt8), ([99] : List UInt8), 3, []⟩ : api_Effect), (⟨4, ([97] : List UInt8), ([115] : List UInt8), 0, ([113] : List UInt8)⟩ : api_Effect)]).length 2]), blk g4 41 ([.int .i64 101, .int .i64 1, .int .i64 0, .slice (some ⟨g3, 0, none⟩) ([(⟨3, ([120] : List UInt8), ([99] : List UInt8), 2, []⟩ : api_Effect)]).length 1])]) hs (by kernel_rfl) (by kernel_rfl) (by kernel_rfl) ⟨⟨⟨⟨⟨⟨⟨⟨⟨⟨⟨⟨⟨⟨⟨⟨⟨⟨⟨⟨⟨⟨⟨⟨⟨⟨⟨⟨⟨⟨⟨⟨⟨⟨⟨⟨⟨⟨trivial, ?_⟩, ?_⟩, ?_⟩, ?_⟩, ?_⟩, ?_⟩, ?_⟩, ?_⟩, ?_⟩, ?_⟩, ?_⟩, ?_⟩, ?_⟩, ?_⟩, ?_⟩, ?_⟩, ?_⟩, ?_⟩, ?_⟩, ?_⟩, ?_⟩, ?_⟩, ?_⟩, ?_⟩, ?_⟩, ?_⟩, ?_⟩, ?_⟩, ?_⟩, ?_⟩, ?_⟩, ?_⟩, ?_⟩, ?_⟩, ?_⟩, ?_⟩, ?_⟩, ?_⟩ ?_
  {
  intro ρ w Γx Λx hs hu hp
  refine WL.fieldAddr (m := 0) ((hu 3 rfl).trans e25) FA29_0 rfl ?_
  exact WL.nil ⟨rfl, _, rfl, rfl, hs.cutG 0 0⟩ }
  {
  intro ρ w Γx Λx hs hu hp
  have e205 : ρ 16 = .pointer (some ⟨g24, 0, none⟩) := (hp 0 rfl).1
  refine WL.loadF (z := x12.Objects) F_fold_Store_Objects hs (Λx.length + 0) (getApp rfl) (Γx.length + 0) (getApp rfl) rfl TI27 (.inr rfl) e205 rfl (fun v39 hs => ?_)
  obtain ⟨a40, c41, rfl⟩ := hs.slice 0 rfl
  have hs := hs.add (it := vl (tSlice t_fold_Object) x12.Objects (.slice a40 (x12.Objects).length c41)) fun ok hA => hA.get 0 rfl
  exact WL.nil ⟨rfl, _, rfl, ⟨(a40, c41), rfl⟩, hs.cutG 1 1⟩ }
  {
  intro ρ w Γx Λx hs hu hp
  obtain ⟨⟨⟨a206, c207⟩, e208r⟩, hm209⟩ := hp 1 rfl
  have e208 : ρ 17 = .slice a206 (x12.Objects).length c207 := e208r
  rw [e208r] at hm209
  have hs := hs.memo1 (it := vl (tSlice t_fold_Object) x12.Objects (.slice a206 (x12.Objects).length c207)) (List.mem_append.2 (.inl (hm209 _ (List.mem_of_getElem? (i := 0) rfl))))
  refine WL.len (v := .slice a206 (x12.Objects).length c207) e208 (len_slice UN27) ?_
  exact WL.nil ⟨rfl, _, rfl, rfl, hs.cutG 0 1⟩ }
  {
  intro ρ w Γx Λx hs hu hp
  have e210 : ρ 18 = .int .i64 ((x12.Objects).length : Int) := (hp 2 rfl).1
  refine WL.bin (v := .bool (((x12.Objects).length : Int) == 2)) e210 rfl (ib_eql _ _ _) ?_
  exact WL.nil ⟨rfl, _, rfl, rfl, hs.cutG 0 0⟩ }
  {
  intro ρ w Γx Λx hs hu hp
  have e211 : ρ 19 = .bool (((x12.Objects).length : Int) == 2) := (hp 3 rfl).1
  refine WL.move (v := .bool (((x12.Objects).length : Int) == 2)) e211 ?_
  exact WL.nil ⟨rfl, _, rfl, rfl, hs.cutG 0 0⟩ }
  {
  intro ρ w Γx Λx hs hu hp
  have e212 : ρ 20 = .bool (((x12.Objects).length : Int) == 2) := (hp 4 rfl).1
  refine WL.fieldAddr (m := 0) ((hu 3 rfl).trans e25) FA29_0 rfl ?_ (hg := (wanted_of rfl rfl (bool_tr e212 hc42)).trans rfl)
  exact WL.nil ⟨rfl, _, rfl, rfl, hs.cutG 0 0⟩ }
  {
  intro ρ w Γx Λx hs hu hp
  have e213 : ρ 21 = .pointer (some ⟨g24, 0, none⟩) := (hp 5 rfl).1
  have e214 : ρ 20 = .bool (((x12.Objects).length : Int) == 2) := (hp 4 rfl).1
  refine WL.loadF (z := x12.Objects) F_fold_Store_Objects hs (Λx.length + 0) (getApp rfl) (Γx.length + 0) (getApp rfl) rfl TI27 (.inr rfl) e213 rfl (fun v43 hs => ?_) (hg := (wanted_of rfl rfl (bool_tr e214 hc42)).trans rfl)
  obtain ⟨a44, c45, rfl⟩ := hs.slice 0 rfl
  have hs := hs.add (it := vl (tSlice t_fold_Object) x12.Objects (.slice a44 (x12.Objects).length c45)) fun ok hA => hA.get 0 rfl
  exact WL.nil ⟨rfl, _, rfl, ⟨(a44, c45), rfl⟩, hs.cutG 1 1⟩ }
  {
  intro ρ w Γx Λx hs hu hp
  obtain ⟨⟨⟨a215, c216⟩, e217r⟩, hm218⟩ := hp 6 rfl
  have e217 : ρ 22 = .slice a215 (x12.Objects).length c216 := e217r
  rw [e217r] at hm218
  have hs := hs.memo1 (it := vl (tSlice t_fold_Object) x12.Objects (.slice a215 (x12.Objects).length c216)) (List.mem_append.2 (.inl (hm218 _ (List.mem_of_getElem? (i := 0) rfl))))
  have e219 : ρ 20 = .bool (((x12.Objects).length : Int) == 2) := (hp 4 rfl).1
  refine WL.indexAddr hs 0 rfl UN27 TI51 e217 rfl hxx46 (fun ad47 hs => ?_) (hg := (wanted_of rfl rfl (bool_tr e219 hc42)).trans rfl)
  have hs := hs.add (it := pl t_fold_Object x46 ad47) fun ok hA => hA.get 0 rfl
  exact WL.nil ⟨rfl, _, rfl, ⟨ad47, rfl⟩, hs.cutG 1 2⟩ }
  {
  intro ρ w Γx Λx hs hu hp
  obtain ⟨⟨ad220, e221r⟩, hm222⟩ := hp 7 rfl
  have e221 : ρ 23 = .pointer (some ad220) := e221r
  rw [e221r] at hm222
  have hs := hs.memo1 (it := pl t_fold_Object x46 ad220) (List.mem_append.2 (.inl (hm222 _ (List.mem_of_getElem? (i := 0) rfl))))
  have e223 : ρ 20 = .bool (((x12.Objects).length : Int) == 2) := (hp 4 rfl).1
  refine WL.fieldAddrP (z := x46.Name) F_fold_Object_Name hs 0 rfl e221 FA51_0 rfl (fun ad48 hs => ?_) (hg := (wanted_of rfl rfl (bool_tr e223 hc42)).trans rfl)
  have hs := hs.add (it := pl tStr x46.Name ad48) fun ok hA => hA.get 0 rfl
  exact WL.nil ⟨rfl, _, rfl, ⟨ad48, rfl⟩, hs.cutG 1 2⟩ }
  {
  intro ρ w Γx Λx hs hu hp
  obtain ⟨⟨ad224, e225r⟩, hm226⟩ := hp 8 rfl
  have e225 : ρ 24 = .pointer (some ad224) := e225r
  rw [e225r] at hm226
  have hs := hs.memo1 (it := pl tStr x46.Name ad224) (List.mem_append.2 (.inl (hm226 _ (List.mem_of_getElem? (i := 0) rfl))))
  have e227 : ρ 20 = .bool (((x12.Objects).length : Int) == 2) := (hp 4 rfl).1
  refine WL.loadP hs 0 rfl TI9 (.inr rfl) e225 (fun v49 hs => ?_) (hg := (wanted_of rfl rfl (bool_tr e227 hc42)).trans rfl)
  obtain rfl := hs.str 0 rfl
  exact WL.nil ⟨rfl, _, rfl, rfl, hs.cutG 0 2⟩ }
  {
  intro ρ w Γx Λx hs hu hp
  have e228 : ρ 25 = bstr x46.Name := (hp 9 rfl).1
  have e229 : ρ 20 = .bool (((x12.Objects).length : Int) == 2) := (hp 4 rfl).1
  refine WL.binS (v := .bool (x46.Name == ([97] : List UInt8))) e228 rfl (sb_eql _ _) ?_ (hg := (wanted_of rfl rfl (bool_tr e229 hc42)).trans rfl)
  exact WL.nil ⟨rfl, _, rfl, rfl, hs.cutG 0 0⟩ }
  {
  intro ρ w Γx Λx hs hu hp
  have e230 : ρ 20 = .bool (((x12.Objects).length : Int) == 2) := (hp 4 rfl).1
  have e231 : ρ 26 = .bool (x46.Name == ([97] : List UInt8)) := (hp 10 rfl).1
  refine WL.pickT (v := .bool (x46.Name == ([97] : List UInt8))) (bool_tr e230 hc42) e231 ?_
  exact WL.nil ⟨rfl, _, rfl, rfl, hs.cutG 0 0⟩ }
  {
  intro ρ w Γx Λx hs hu hp
  have e232 : ρ 27 = .bool (x46.Name == ([97] : List UInt8)) := (hp 11 rfl).1
  refine WL.move (v := .bool (x46.Name == ([97] : List UInt8))) e232 ?_
  exact WL.nil ⟨rfl, _, rfl, rfl, hs.cutG 0 0⟩ }
  {
  intro ρ w Γx Λx hs hu hp
  have e233 : ρ 28 = .bool (x46.Name == ([97] : List UInt8)) := (hp 12 rfl).1
  refine WL.loadAll hs (Λx.length + 0) (getApp rfl) TI29 ((hu 3 rfl).trans e25) hl27 ?_ (hg := (wanted_of rfl rfl (bool_tr e233 hc50)).trans rfl)
  exact WL.nil ⟨rfl, _, rfl, rfl, hs.cutG 0 0⟩ }
  {
  intro ρ w Γx Λx hs hu hp
  have e234 : ρ 29 = .agg cs26.toArray := (hp 13 rfl).1
  have e235 : ρ 28 = .bool (x46.Name == ([97] : List UInt8)) := (hp 12 rfl).1
  refine WL.call (vs := [.agg cs26.toArray, bstr ([120] : List UInt8)]) hs FN27 ⟨e234, ⟨rfl, trivial⟩⟩ (fun ok hA => fold_Find.calls (x1 := x12) (x2 := ([120] : List UInt8)) hxx51 (hA.get (Γx.length + 0) (getApp rfl))) ?_ (hg := (wanted_of rfl rfl (bool_tr e235 hc50)).trans rfl)
  rintro cs52 w hs
  have hl53 := hs.agglen (n := 2) 0 rfl rfl rfl
  have hs := hs.add (it := vl t_fold_Object x51 (.agg cs52.toArray)) fun ok hA => hA.get 0 rfl
  exact WL.nil ⟨rfl, _, rfl, ⟨cs52, rfl⟩, hs.cutG 1 1⟩ }
  {
  intro ρ w Γx Λx hs hu hp
  obtain ⟨⟨cs236, e238r⟩, hm239⟩ := hp 14 rfl
  have e238 : ρ 30 = .agg cs236.toArray := e238r
  rw [e238r] at hm239
  have hs := hs.memo1 (it := vl t_fold_Object x51 (.agg cs236.toArray)) (List.mem_append.2 (.inl (hm239 _ (List.mem_of_getElem? (i := 0) rfl))))
  have hl237 := hs.agglen (n := 2) 0 rfl rfl rfl
  have e240 : ρ 28 = .bool (x46.Name == ([97] : List UInt8)) := (hp 12 rfl).1
  refine WL.call (vs := [.agg cs236.toArray, bstr ([99] : List UInt8)]) hs FN28 ⟨e238, ⟨rfl, trivial⟩⟩ (fun ok hA => fold_FieldOf.callc (x1 := x51) (x5 := ([99] : List UInt8)) hxx54 (hA.get 0 rfl)) ?_ (hg := (wanted_of rfl rfl (bool_tr e240 hc50)).trans rfl)
  rintro cs55 w hs
  have hl56 := hs.agglen (n := 12) 0 rfl rfl rfl
  have hs := hs.add (it := vl t_fold_Field x54 (.agg cs55.toArray)) fun ok hA => hA.get 0 rfl
  exact WL.nil ⟨rfl, _, rfl, ⟨cs55, rfl⟩, hs.cutG 1 2⟩ }
  {
  intro ρ w Γx Λx hs hu hp
  obtain ⟨⟨cs241, e243r⟩, hm244⟩ := hp 15 rfl
  have e243 : ρ 31 = .agg cs241.toArray := e243r
  rw [e243r] at hm244
  have hs := hs.memo1 (it := vl t_fold_Field x54 (.agg cs241.toArray)) (List.mem_append.2 (.inl (hm244 _ (List.mem_of_getElem? (i := 0) rfl))))
  have hl242 := hs.agglen (n := 12) 0 rfl rfl rfl
  have e245 : ρ 28 = .bool (x46.Name == ([97] : List UInt8)) := (hp 12 rfl).1
  refine WL.fieldV (z := x54.Sum) (l := cs241) F_fold_Field_Sum hs 0 rfl rfl e243 FV57_4 TI2 (.inr rfl) rfl (fun v57 hs => ?_) (hg := (wanted_of rfl rfl (bool_tr e245 hc50)).trans rfl)
  obtain rfl := hs.int 0 rfl
  exact WL.nil ⟨rfl, _, rfl, rfl, hs.cutG 0 2⟩ }
  {
  intro ρ w Γx Λx hs hu hp
  have e246 : ρ 32 = .int .i64 x54.Sum := (hp 16 rfl).1
  have e247 : ρ 28 = .bool (x46.Name == ([97] : List UInt8)) := (hp 12 rfl).1
  refine WL.bin (v := .bool (x54.Sum == 5)) e246 rfl (ib_eql _ _ _) ?_ (hg := (wanted_of rfl rfl (bool_tr e247 hc50)).trans rfl)
  exact WL.nil ⟨rfl, _, rfl, rfl, hs.cutG 0 0⟩ }
  {
  intro ρ w Γx Λx hs hu hp
  have e248 : ρ 28 = .bool (x46.Name == ([97] : List UInt8)) := (hp 12 rfl).1
  have e249 : ρ 33 = .bool (x54.Sum == 5) := (hp 17 rfl).1
  refine WL.pickT (v := .bool (x54.Sum == 5)) (bool_tr e248 hc50) e249 ?_
  exact WL.nil ⟨rfl, _, rfl, rfl, hs.cutG 0 0⟩ }
  {
  intro ρ w Γx Λx hs hu hp
  have e250 : ρ 34 = .bool (x54.Sum == 5) := (hp 18 rfl).1
  refine WL.move (v := .bool (x54.Sum == 5)) e250 ?_
  exact WL.nil ⟨rfl, _, rfl, rfl, hs.cutG 0 0⟩ }
  {
  intro ρ w Γx Λx hs hu hp
  have e251 : ρ 35 = .bool (x54.Sum == 5) := (hp 19 rfl).1
  refine WL.loadAll hs (Λx.length + 0) (getApp rfl) TI29 ((hu 3 rfl).trans e25) hl27 ?_ (hg := (wanted_of rfl rfl (bool_tr e251 hc58)).trans rfl)
  exact WL.nil ⟨rfl, _, rfl, rfl, hs.cutG 0 0⟩ }
  {
  intro ρ w Γx Λx hs hu hp
  have e252 : ρ 35 = .bool (x54.Sum == 5) := (hp 19 rfl).1
  refine WL.loadN (vs := [.int .i64 101, .int .i64 1, .int .i64 0, .slice (some ⟨g3, 0, none⟩) ([(⟨3, ([120] : List UInt8), ([99] : List UInt8), 2, []⟩ : api_Effect)]).length 1]) hs (Λx.length + 2) (getApp rfl) TI41 ((hu 1 rfl).trans (hu23 1 rfl)) rfl rfl ?_ (hg := (wanted_of rfl rfl (bool_tr e252 hc58)).trans rfl)
  exact WL.nil ⟨rfl, _, rfl, rfl, hs.cutG 0 0⟩ }
  {
  intro ρ w Γx Λx hs hu hp
  have e253 : ρ 35 = .bool (x54.Sum == 5) := (hp 19 rfl).1
  refine WL.loadN (vs := [.int .i64 102, .int .i64 1, .int .i64 0, .slice (some ⟨g6, 0, none⟩) ([(⟨3, ([120] : List UInt8), ([99] : List UInt8), 3, []⟩ : api_Effect), (⟨4, ([97] : List UInt8), ([115] : List UInt8), 0, ([113] : List UInt8)⟩ : api_Effect)]).length 2]) hs (Λx.length + 1) (getApp rfl) TI41 ((hu 2 rfl).trans (hu23 2 rfl)) rfl rfl ?_ (hg := (wanted_of rfl rfl (bool_tr e253 hc58)).trans rfl)
  exact WL.nil ⟨rfl, _, rfl, rfl, hs.cutG 0 0⟩ }
  {
  intro ρ w Γx Λx hs hu hp
  have e254 : ρ 37 = .agg ([.int .i64 101, .int .i64 1, .int .i64 0, .slice (some ⟨g3, 0, none⟩) ([(⟨3, ([120] : List UInt8), ([99] : List UInt8), 2, []⟩ : api_Effect)]).length 1] : List Value).toArray := (hp 21 rfl).1
  have e255 : ρ 38 = .agg ([.int .i64 102, .int .i64 1, .int .i64 0, .slice (some ⟨g6, 0, none⟩) ([(⟨3, ([120] : List UInt8), ([99] : List UInt8), 3, []⟩ : api_Effect), (⟨4, ([97] : List UInt8), ([115] : List UInt8), 0, ([113] : List UInt8)⟩ : api_Effect)]).length 2] : List Value).toArray := (hp 22 rfl).1
  have e256 : ρ 35 = .bool (x54.Sum == 5) := (hp 19 rfl).1
  refine WL.buildSliceB (ys := [(⟨101, 1, 0, [(⟨3, ([120] : List UInt8), ([99] : List UInt8), 2, []⟩ : api_Effect)]⟩ : api_Update), (⟨102, 1, 0, [(⟨3, ([120] : List UInt8), ([99] : List UInt8), 3, []⟩ : api_Effect), (⟨4, ([97] : List UInt8), ([115] : List UInt8), 0, ([113] : List UInt8)⟩ : api_Effect)]⟩ : api_Update)]) (n := 2) (vs := [(0, .agg ([.int .i64 101, .int .i64 1, .int .i64 0, .slice (some ⟨g3, 0, none⟩) ([(⟨3, ([120] : List UInt8), ([99] : List UInt8), 2, []⟩ : api_Effect)]).length 1] : List Value).toArray), (1, .agg ([.int .i64 102, .int .i64 1, .int .i64 0, .slice (some ⟨g6, 0, none⟩) ([(⟨3, ([120] : List UInt8), ([99] : List UInt8), 3, []⟩ : api_Effect), (⟨4, ([97] : List UInt8), ([115] : List UInt8), 0, ([113] : List UInt8)⟩ : api_Effect)]).length 2] : List Value).toArray)]) (cs := [.int .i64 101, .int .i64 1, .int .i64 0, .slice (some ⟨g3, 0, none⟩) ([(⟨3, ([120] : List UInt8), ([99] : List UInt8), 2, []⟩ : api_Effect)]).length 1, .int .i64 102, .int .i64 1, .int .i64 0, .slice (some ⟨g6, 0, none⟩) ([(⟨3, ([120] : List UInt8), ([99] : List UInt8), 3, []⟩ : api_Effect), (⟨4, ([97] : List UInt8), ([115] : List UInt8), 0, ([113] : List UInt8)⟩ : api_Effect)]).length 2]) hs ⟨⟨rfl, e254⟩, ⟨⟨rfl, e255⟩, trivial⟩⟩ (bls PS23 (by decide) rfl) (fun ok hA => (Cells.app (Cells.one (T := t_api_Update) (show t_api_Update.R ok _ (⟨101, 1, 0, [(⟨3, ([120] : List UInt8), ([99] : List UInt8), 2, []⟩ : api_Effect)]⟩ : api_Update) _ from ⟨[.int .i64 101], ([.int .i64 1, .int .i64 0, .slice (some ⟨g3, 0, none⟩) ([(⟨3, ([120] : List UInt8), ([99] : List UInt8), 2, []⟩ : api_Effect)]).length 1]), rfl, rfl, ⟨[.int .i64 1], ([.int .i64 0, .slice (some ⟨g3, 0, none⟩) ([(⟨3, ([120] : List UInt8), ([99] : List UInt8), 2, []⟩ : api_Effect)]).length 1]), rfl, rfl, ⟨[.int .i64 0], ([.slice (some ⟨g3, 0, none⟩) ([(⟨3, ([120] : List UInt8), ([99] : List UInt8), 2, []⟩ : api_Effect)]).length 1]), rfl, rfl, (R_one (hA.get (Γx.length + 2) (getApp rfl)))⟩⟩⟩)) (Cells.one (T := t_api_Update) (show t_api_Update.R ok _ (⟨102, 1, 0, [(⟨3, ([120] : List UInt8), ([99] : List UInt8), 3, []⟩ : api_Effect), (⟨4, ([97] : List UInt8), ([115] : List UInt8), 0, ([113] : List UInt8)⟩ : api_Effect)]⟩ : api_Update) _ from ⟨[.int .i64 102], ([.int .i64 1, .int .i64 0, .slice (some ⟨g6, 0, none⟩) ([(⟨3, ([120] : List UInt8), ([99] : List UInt8), 3, []⟩ : api_Effect), (⟨4, ([97] : List UInt8), ([115] : List UInt8), 0, ([113] : List UInt8)⟩ : api_Effect)]).length 2]), rfl, rfl, ⟨[.int .i64 1], ([.int .i64 0, .slice (some ⟨g6, 0, none⟩) ([(⟨3, ([120] : List UInt8), ([99] : List UInt8), 3, []⟩ : api_Effect), (⟨4, ([97] : List UInt8), ([115] : List UInt8), 0, ([113] : List UInt8)⟩ : api_Effect)]).length 2]), rfl, rfl, ⟨[.int .i64 0], ([.slice (some ⟨g6, 0, none⟩) ([(⟨3, ([120] : List UInt8), ([99] : List UInt8), 3, []⟩ : api_Effect), (⟨4, ([97] : List UInt8), ([115] : List UInt8), 0, ([113] : List UInt8)⟩ : api_Effect)]).length 2]), rfl, rfl, (R_one (hA.get (Γx.length + 3) (getApp rfl)))⟩⟩⟩)))) rfl (by decide) (fun a60 w hBl hs => ?_) (hg := (wanted_of rfl rfl (bool_tr e256 hc58)).trans rfl)
  have hs := hs.add (it := vl (tSlice t_api_Update) ([(⟨101, 1, 0, [(⟨3, ([120] : List UInt8), ([99] : List UInt8), 2, []⟩ : api_Effect)]⟩ : api_Update), (⟨102, 1, 0, [(⟨3, ([120] : List UInt8), ([99] : List UInt8), 3, []⟩ : api_Effect), (⟨4, ([97] : List UInt8), ([115] : List UInt8), 0, ([113] : List UInt8)⟩ : api_Effect)]⟩ : api_Update)]) (.slice a60 ([(⟨101, 1, 0, [(⟨3, ([120] : List UInt8), ([99] : List UInt8), 2, []⟩ : api_Effect)]⟩ : api_Update), (⟨102, 1, 0, [(⟨3, ([120] : List UInt8), ([99] : List UInt8), 3, []⟩ : api_Effect), (⟨4, ([97] : List UInt8), ([115] : List UInt8), 0, ([113] : List UInt8)⟩ : api_Effect)]⟩ : api_Update)]).length 2)) fun ok hA => hA.get 0 rfl
  exact WL.nil ⟨rfl, _, rfl, ⟨(a60, 2), rfl⟩, hs.cutG 1 1⟩ }
  {
  intro ρ w Γx Λx hs hu hp
  obtain ⟨⟨⟨a257, c258⟩, e259r⟩, hm260⟩ := hp 23 rfl
  have e259 : ρ 39 = .slice a257 ([(⟨101, 1, 0, [(⟨3, ([120] : List UInt8), ([99] : List UInt8), 2, []⟩ : api_Effect)]⟩ : api_Update), (⟨102, 1, 0, [(⟨3, ([120] : List UInt8), ([99] : List UInt8), 3, []⟩ : api_Effect), (⟨4, ([97] : List UInt8), ([115] : List UInt8), 0, ([113] : List UInt8)⟩ : api_Effect)]⟩ : api_Update)]).length c258 := e259r
  rw [e259r] at hm260
  have hs := hs.memo1 (it := vl (tSlice t_api_Update) ([(⟨101, 1, 0, [(⟨3, ([120] : List UInt8), ([99] : List UInt8), 2, []⟩ : api_Effect)]⟩ : api_Update), (⟨102, 1, 0, [(⟨3, ([120] : List UInt8), ([99] : List UInt8), 3, []⟩ : api_Effect), (⟨4, ([97] : List UInt8), ([115] : List UInt8), 0, ([113] : List UInt8)⟩ : api_Effect)]⟩ : api_Update)]) (.slice a257 ([(⟨101, 1, 0, [(⟨3, ([120] : List UInt8), ([99] : List UInt8), 2, []⟩ : api_Effect)]⟩ : api_Update), (⟨102, 1, 0, [(⟨3, ([120] : List UInt8), ([99] : List UInt8), 3, []⟩ : api_Effect), (⟨4, ([97] : List UInt8), ([115] : List UInt8), 0, ([113] : List UInt8)⟩ : api_Effect)]⟩ : api_Update)]).length c258)) (List.mem_append.2 (.inl (hm260 _ (List.mem_of_getElem? (i := 0) rfl))))
  have e261 : ρ 35 = .bool (x54.Sum == 5) := (hp 19 rfl).1
  refine WL.call (vs := [.slice a257 ([(⟨101, 1, 0, [(⟨3, ([120] : List UInt8), ([99] : List UInt8), 2, []⟩ : api_Effect)]⟩ : api_Update), (⟨102, 1, 0, [(⟨3, ([120] : List UInt8), ([99] : List UInt8), 3, []⟩ : api_Effect), (⟨4, ([97] : List UInt8), ([115] : List UInt8), 0, ([113] : List UInt8)⟩ : api_Effect)]⟩ : api_Update)]).length c258]) hs FN13 ⟨e259, trivial⟩ (fun ok hA => fold_Fold.calls (x1 := ([(⟨101, 1, 0, [(⟨3, ([120] : List UInt8), ([99] : List UInt8), 2, []⟩ : api_Effect)]⟩ : api_Update), (⟨102, 1, 0, [(⟨3, ([120] : List UInt8), ([99] : List UInt8), 3, []⟩ : api_Effect), (⟨4, ([97] : List UInt8), ([115] : List UInt8), 0, ([113] : List UInt8)⟩ : api_Effect)]⟩ : api_Update)])) hxx61 (hA.get 0 rfl)) ?_ (hg := (wanted_of rfl rfl (bool_tr e261 hc58)).trans rfl)
  rintro cs62 w hs
  have hl63 := hs.agglen (n := 1) 0 rfl rfl rfl
  have hs := hs.add (it := vl t_fold_Store x61 (.agg cs62.toArray)) fun ok hA => hA.get 0 rfl
  exact WL.nil ⟨rfl, _, rfl, ⟨cs62, rfl⟩, hs.cutG 1 2⟩ }
  {
  intro ρ w Γx Λx hs hu hp
  have e262 : ρ 36 = .agg cs26.toArray := (hp 20 rfl).1
  obtain ⟨⟨cs263, e265r⟩, hm266⟩ := hp 24 rfl
  have e265 : ρ 40 = .agg cs263.toArray := e265r
  rw [e265r] at hm266
  have hs := hs.memo1 (it := vl t_fold_Store x61 (.agg cs263.toArray)) (List.mem_append.2 (.inl (hm266 _ (List.mem_of_getElem? (i := 0) rfl))))
  have hl264 := hs.agglen (n := 1) 0 rfl rfl rfl
  have e267 : ρ 35 = .bool (x54.Sum == 5) := (hp 19 rfl).1
  refine WL.call (vs := [.agg cs26.toArray, .agg cs263.toArray]) hs FN26 ⟨e262, ⟨e265, trivial⟩⟩ (fun ok hA => fold_Equal.calls (x1 := x12) (x5 := x61) hxx64 (hA.get (Γx.length + 0 + 1) (getApp1 rfl)) (hA.get 0 rfl)) ?_ (hg := (wanted_of rfl rfl (bool_tr e267 hc58)).trans rfl)
  rintro _ w hs
  exact WL.nil ⟨rfl, _, rfl, rfl, hs.cutG 0 1⟩ }
  {
  intro ρ w Γx Λx hs hu hp
  have e268 : ρ 35 = .bool (x54.Sum == 5) := (hp 19 rfl).1
  have e269 : ρ 41 = .bool x64 := (hp 25 rfl).1
  refine WL.pickT (v := .bool x64) (bool_tr e268 hc58) e269 ?_
  exact WL.nil ⟨rfl, _, rfl, rfl, hs.cutG 0 0⟩ }
  {
  intro ρ w Γx Λx hs hu hp
  have e270 : ρ 42 = .bool x64 := (hp 26 rfl).1
  refine WL.move (v := .bool x64) e270 ?_
  exact WL.nil ⟨rfl, _, rfl, rfl, hs.cutG 0 0⟩ }
  {
  intro ρ w Γx Λx hs hu hp
  have e271 : ρ 43 = .bool x64 := (hp 27 rfl).1
  refine WL.loadAll hs (Λx.length + 0) (getApp rfl) TI29 ((hu 3 rfl).trans e25) hl27 ?_ (hg := (wanted_of rfl rfl (bool_tr e271 hc65)).trans rfl)
  exact WL.nil ⟨rfl, _, rfl, rfl, hs.cutG 0 0⟩ }
  {
  intro ρ w Γx Λx hs hu hp
  have e272 : ρ 43 = .bool x64 := (hp 27 rfl).1
  refine WL.build (vs := []) (cs := [.slice none 0 0]) trivial (bld PL29 rfl) ?_ (hg := (wanted_of rfl rfl (bool_tr e272 hc65)).trans rfl)
  exact WL.nil ⟨rfl, _, rfl, rfl, hs.cutG 0 0⟩ }
  {
  intro ρ w Γx Λx hs hu hp
  have e273 : ρ 44 = .agg cs26.toArray := (hp 28 rfl).1
  have e274 : ρ 45 = .agg ([.slice none 0 0] : List Value).toArray := (hp 29 rfl).1
  have e275 : ρ 43 = .bool x64 := (hp 27 rfl).1
  have hs := hs.add (it := vl t_fold_Store (⟨[]⟩ : fold_Store) (.agg [.slice none 0 0].toArray)) fun ok hA => V_agg (show t_fold_Store.R ok _ _ _ from (show (tSlice t_fold_Object).R ok _ [] _ from R_nil)) rfl
  refine WL.call (vs := [.agg cs26.toArray, .agg ([.slice none 0 0] : List Value).toArray]) hs FN26 ⟨e273, ⟨e274, trivial⟩⟩ (fun ok hA => fold_Equal.calls (x1 := x12) (x5 := (⟨[]⟩ : fold_Store)) hxx66 (hA.get (Γx.length + 0 + 1) (getApp1 rfl)) (hA.get 0 rfl)) ?_ (hg := (wanted_of rfl rfl (bool_tr e275 hc65)).trans rfl)
  rintro _ w hs
  exact WL.nil ⟨rfl, _, rfl, rfl, hs.cutG 0 1⟩ }
  {
  intro ρ w Γx Λx hs hu hp
  have e276 : ρ 46 = .bool x66 := (hp 30 rfl).1
  have e277 : ρ 43 = .bool x64 := (hp 27 rfl).1
  refine WL.not e276 ?_ (hg := (wanted_of rfl rfl (bool_tr e277 hc65)).trans rfl)
  exact WL.nil ⟨rfl, _, rfl, rfl, hs.cutG 0 0⟩ }
  {
  intro ρ w Γx Λx hs hu hp
  have e278 : ρ 43 = .bool x64 := (hp 27 rfl).1
  have e279 : ρ 47 = .bool (!x66) := (hp 31 rfl).1
  refine WL.pickT (v := .bool (!x66)) (bool_tr e278 hc65) e279 ?_
  exact WL.nil ⟨rfl, _, rfl, rfl, hs.cutG 0 0⟩ }
  {
  intro ρ w Γx Λx hs hu hp
  have e280 : ρ 48 = .bool (!x66) := (hp 32 rfl).1
  refine WL.move (v := .bool (!x66)) e280 ?_
  exact WL.nil ⟨rfl, _, rfl, rfl, hs.cutG 0 0⟩ }
  {
  intro ρ w Γx Λx hs hu hp
  have e281 : ρ 49 = .bool (!x66) := (hp 33 rfl).1
  refine WL.pass ((wanted_of rfl rfl (bool_tr e281 hc67)).trans rfl) rfl ?_
  exact WL.nil ⟨rfl, _, rfl, rfl, hs.cutG 0 0⟩ }
  {
  intro ρ w Γx Λx hs hu hp
  have e282 : ρ 50 = undef := (hp 34 rfl).1
  have e283 : ρ 49 = .bool (!x66) := (hp 33 rfl).1
  refine WL.pass ((wanted_of rfl rfl (bool_tr e283 hc67)).trans rfl) rfl ?_
  exact WL.nil ⟨rfl, _, rfl, rfl, hs.cutG 0 0⟩ }
  {
  intro ρ w Γx Λx hs hu hp
  have e284 : ρ 51 = undef := (hp 35 rfl).1
  have e285 : ρ 49 = .bool (!x66) := (hp 33 rfl).1
  refine WL.pass ((wanted_of rfl rfl (bool_tr e285 hc67)).trans rfl) rfl ?_
  exact WL.nil ⟨rfl, _, rfl, rfl, hs.cutG 0 0⟩ }
  {
  intro ρ w Γx Λx hs hu hp
  have e286 : ρ 49 = .bool (!x66) := (hp 33 rfl).1
  have e287 : ρ 52 = undef := (hp 36 rfl).1
  refine WL.pickF (v := .bool false) (bool_tr e286 hc67) rfl ?_
  exact WL.nil ⟨rfl, _, rfl, rfl, hs.cutG 0 0⟩ }
  {
  intro ρ w hs hu288 hp
  obtain ⟨⟨⟨⟨⟨⟨⟨⟨⟨⟨⟨⟨⟨⟨⟨⟨⟨⟨⟨⟨⟨⟨⟨⟨⟨⟨⟨⟨⟨⟨⟨⟨⟨⟨⟨⟨⟨⟨_, hp0_⟩, hp1_⟩, hp2_⟩, hp3_⟩, hp4_⟩, hp5_⟩, hp6_⟩, hp7_⟩, hp8_⟩, hp9_⟩, hp10_⟩, hp11_⟩, hp12_⟩, hp13_⟩, hp14_⟩, hp15_⟩, hp16_⟩, hp17_⟩, hp18_⟩, hp19_⟩, hp20_⟩, hp21_⟩, hp22_⟩, hp23_⟩, hp24_⟩, hp25_⟩, hp26_⟩, hp27_⟩, hp28_⟩, hp29_⟩, hp30_⟩, hp31_⟩, hp32_⟩, hp33_⟩, hp34_⟩, hp35_⟩, hp36_⟩, hp37_⟩ := hp
  have hs : St ok (bz w0) w [vl t_fold_Store x61 (ρ 40), vl (tSlice t_api_Update) ([(⟨101, 1, 0, [(⟨3, ([120] : List UInt8), ([99] : List UInt8), 2, []⟩ : api_Effect)]⟩ : api_Update), (⟨102, 1, 0, [(⟨3, ([120] : List UInt8), ([99] : List UInt8), 3, []⟩ : api_Effect), (⟨4, ([97] : List UInt8), ([115] : List UInt8), 0, ([113] : List UInt8)⟩ : api_Effect)]⟩ : api_Update)]) (ρ 39), vl t_fold_Field x54 (ρ 31), vl t_fold_Object x51 (ρ 30), pl tStr x46.Name (adOf (ρ 24)), pl t_fold_Object x46 (adOf (ρ 23)), vl (tSlice t_fold_Object) x12.Objects (ρ 22), vl (tSlice t_fold_Object) x12.Objects (ρ 17), vl t_fold_Store x12 (.agg cs26.toArray), vl t_fold_Store x9 (.agg cs30.toArray), vl (tSlice t_api_Effect) ([(⟨3, ([120] : List UInt8), ([99] : List UInt8), 2, []⟩ : api_Effect)]) (.slice (some ⟨g3, 0, none⟩) ([(⟨3, ([120] : List UInt8), ([99] : List UInt8), 2, []⟩ : api_Effect)]).length 1), vl (tSlice t_api_Effect) ([(⟨3, ([120] : List UInt8), ([99] : List UInt8), 3, []⟩ : api_Effect), (⟨4, ([97] : List UInt8), ([115] : List UInt8), 0, ([113] : List UInt8)⟩ : api_Effect)]) (.slice (some ⟨g6, 0, none⟩) ([(⟨3, ([120] : List UInt8), ([99] : List UInt8), 3, []⟩ : api_Effect), (⟨4, ([97] : List UInt8), ([115] : List UInt8), 0, ([113] : List UInt8)⟩ : api_Effect)]).length 2)] [blk g24 29 cs26, blk g7 41 ([.int .i64 102, .int .i64 1, .int .i64 0, .slice (some ⟨g6, 0, none⟩) ([(⟨3, ([120] : List UInt8), ([99] : List UInt8), 3, []⟩ : api_Effect), (⟨4, ([97] : List UInt8), ([115] : List UInt8), 0, ([113] : List UInt8)⟩ : api_Effect)]).length 2]), blk g4 41 ([.int .i64 101, .int .i64 1, .int .i64 0, .slice (some ⟨g3, 0, none⟩) ([(⟨3, ([120] : List UInt8), ([99] : List UInt8), 2, []⟩ : api_Effect)]).length 1])] := hs
  have e289 : ρ 53 = .bool false := hp37_
  have e290 : ρ 52 = undef := hp36_
  have e291 : ρ 51 = undef := hp35_
  have e292 : ρ 50 = undef := hp34_
  have e293 : ρ 49 = .bool (!x66) := hp33_
  have e294 : ρ 48 = .bool (!x66) := hp32_
  have e295 : ρ 47 = .bool (!x66) := hp31_
  have e296 : ρ 46 = .bool x66 := hp30_
  have e297 : ρ 45 = .agg ([.slice none 0 0] : List Value).toArray := hp29_
  have e298 : ρ 44 = .agg cs26.toArray := hp28_
  have e299 : ρ 43 = .bool x64 := hp27_
  have e300 : ρ 42 = .bool x64 := hp26_
  have e301 : ρ 41 = .bool x64 := hp25_
  obtain ⟨cs302, e304⟩ := hp24_
  have e304 : ρ 40 = .agg cs302.toArray := e304
  try rw [e304] at hs
  obtain ⟨⟨a305, c306⟩, e307⟩ := hp23_
  have e307 : ρ 39 = .slice a305 ([(⟨101, 1, 0, [(⟨3, ([120] : List UInt8), ([99] : List UInt8), 2, []⟩ : api_Effect)]⟩ : api_Update), (⟨102, 1, 0, [(⟨3, ([120] : List UInt8), ([99] : List UInt8), 3, []⟩ : api_Effect), (⟨4, ([97] : List UInt8), ([115] : List UInt8), 0, ([113] : List UInt8)⟩ : api_Effect)]⟩ : api_Update)]).length c306 := e307
  try rw [e307] at hs
  have e308 : ρ 38 = .agg ([.int .i64 102, .int .i64 1, .int .i64 0, .slice (some ⟨g6, 0, none⟩) ([(⟨3, ([120] : List UInt8), ([99] : List UInt8), 3, []⟩ : api_Effect), (⟨4, ([97] : List UInt8), ([115] : List UInt8), 0, ([113] : List UInt8)⟩ : api_Effect)]).length 2] : List Value).toArray := hp22_
  have e309 : ρ 37 = .agg ([.int .i64 101, .int .i64 1, .int .i64 0, .slice (some ⟨g3, 0, none⟩) ([(⟨3, ([120] : List UInt8), ([99] : List UInt8), 2, []⟩ : api_Effect)]).length 1] : List Value).toArray := hp21_
  have e310 : ρ 36 = .agg cs26.toArray := hp20_
  have e311 : ρ 35 = .bool (x54.Sum == 5) := hp19_
  have e312 : ρ 34 = .bool (x54.Sum == 5) := hp18_
  have e313 : ρ 33 = .bool (x54.Sum == 5) := hp17_
  have e314 : ρ 32 = .int .i64 x54.Sum := hp16_
  obtain ⟨cs315, e317⟩ := hp15_
  have e317 : ρ 31 = .agg cs315.toArray := e317
  try rw [e317] at hs
  obtain ⟨cs318, e320⟩ := hp14_
  have e320 : ρ 30 = .agg cs318.toArray := e320
  try rw [e320] at hs
  have e321 : ρ 29 = .agg cs26.toArray := hp13_
  have e322 : ρ 28 = .bool (x46.Name == ([97] : List UInt8)) := hp12_
  have e323 : ρ 27 = .bool (x46.Name == ([97] : List UInt8)) := hp11_
  have e324 : ρ 26 = .bool (x46.Name == ([97] : List UInt8)) := hp10_
  have e325 : ρ 25 = bstr x46.Name := hp9_
  obtain ⟨ad326, e327⟩ := hp8_
  have e327 : ρ 24 = .pointer (some ad326) := e327
  try rw [e327] at hs
  obtain ⟨ad328, e329⟩ := hp7_
  have e329 : ρ 23 = .pointer (some ad328) := e329
  try rw [e329] at hs
  obtain ⟨⟨a330, c331⟩, e332⟩ := hp6_
  have e332 : ρ 22 = .slice a330 (x12.Objects).length c331 := e332
  try rw [e332] at hs
  have e333 : ρ 21 = .pointer (some ⟨g24, 0, none⟩) := hp5_
  have e334 : ρ 20 = .bool (((x12.Objects).length : Int) == 2) := hp4_
  have e335 : ρ 19 = .bool (((x12.Objects).length : Int) == 2) := hp3_
  have e336 : ρ 18 = .int .i64 ((x12.Objects).length : Int) := hp2_
  obtain ⟨⟨a337, c338⟩, e339⟩ := hp1_
  have e339 : ρ 17 = .slice a337 (x12.Objects).length c338 := e339
  try rw [e339] at hs
  have e340 : ρ 16 = .pointer (some ⟨g24, 0, none⟩) := hp0_
  have hl319 := hs.agglen (n := 2) 3 rfl rfl rfl
  have hl316 := hs.agglen (n := 12) 2 rfl rfl rfl
  have hl303 := hs.agglen (n := 1) 0 rfl rfl rfl
  refine WA.step [38] (by kernel_rfl) (by simp) ⟨?_, trivial⟩
  refine WL.assign (v := .bool false) e289 ?_
  refine WL.nil ⟨rfl, _, rfl, ?_⟩
  refine WA.done (by kernel_rfl) ?_
  exact Jk38 false _ _ rfl ((hs.mask []).pick []) hf } } }
  {
  refine W.any (by kernel_rfl) 38 1 [true, true, true, true, true, true, true, true, true, true, true, true, true, true, true, true, true, true, true, true, true, true, true, true, true, true, true, true, true, true, true, true, true, true, true, true, true, true, false] rfl rfl (poAt [pv (.pointer (some ⟨g24, 0, none⟩)), pq (fun y : (Option Addr × Nat) => .slice y.1 (x12.Objects).length y.2) (fun v => [vl (tSlice t_fold_Object) x12.Objects v]) (fun v => []), pv (.int .i64 ((x12.Objects).length : Int)), pv (.bool (((x12.Objects).length : Int) == 2)), pv (.bool (((x12.Objects).length : Int) == 2)), pv (.pointer (some ⟨g24, 0, none⟩)), pq (fun y : (Option Addr × Nat) => .slice y.1 (x12.Objects).length y.2) (fun v => [vl (tSlice t_fold_Object) x12.Objects v]) (fun v => []), pq (fun y : Addr => .pointer (some y)) (fun v => [pl t_fold_Object x46 (adOf v)]) (fun v => []), pq (fun y : Addr => .pointer (some y)) (fun v => [pl tStr x46.Name (adOf v)]) (fun v => []), pv (bstr x46.Name), pv (.bool (x46.Name == ([97] : List UInt8))), pv (.bool (x46.Name == ([97] : List UInt8))), pv (.bool (x46.Name == ([97] : List UInt8))), pv (.agg cs26.toArray), pq (fun y : List Value => .agg y.toArray) (fun v => [vl t_fold_Object x51 v]) (fun v => []), pq (fun y : List Value => .agg y.toArray) (fun v => [vl t_fold_Field x54 v]) (fun v => []), pv (.int .i64 x54.Sum), pv (.bool (x54.Sum == 5)), pv (.bool (x54.Sum == 5)), pv (.bool (x54.Sum == 5)), pv (.agg cs26.toArray), pv (.agg ([.int .i64 101, .int .i64 1, .int .i64 0, .slice (some ⟨g3, 0, none⟩) ([(⟨3, ([120] : List UInt8), ([99] : List UInt8), 2, []⟩ : api_Effect)]).length 1] : List Value).toArray), pv (.agg ([.int .i64 102, .int .i64 1, .int .i64 0, .slice (some ⟨g6, 0, none⟩) ([(⟨3, ([120] : List UInt8), ([99] : List UInt8), 3, []⟩ : api_Effect), (⟨4, ([97] : List UInt8), ([115] : List UInt8), 0, ([113] : List UInt8)⟩ : api_Effect)]).length 2] : List Value).toArray), pq (fun y : (Option Addr × Nat) => .slice y.1 ([(⟨101, 1, 0, [(⟨3, ([120] : List UInt8), ([99] : List UInt8), 2, []⟩ : api_Effect)]⟩ : api_Update), (⟨102, 1, 0, [(⟨3, ([120] : List UInt8), ([99] : List UInt8), 3, []⟩ : api_Effect), (⟨4, ([97] : List UInt8), ([115] : List UInt8), 0, ([113] : List UInt8)⟩ : api_Effect)]⟩ : api_Update)]).length y.2) (fun v => [vl (tSlice t_api_Update) ([(⟨101, 1, 0, [(⟨3, ([120] : List UInt8), ([99] : List UInt8), 2, []⟩ : api_Effect)]⟩ : api_Update), (⟨102, 1, 0, [(⟨3, ([120] : List UInt8), ([99] : List UInt8), 3, []⟩ : api_Effect), (⟨4, ([97] : List UInt8), ([115] : List UInt8), 0, ([113] : List UInt8)⟩ : api_Effect)]⟩ : api_Update)]) v]) (fun v => []), pq (fun y : List Value => .agg y.toArray) (fun v => [vl t_fold_Store x61 v]) (fun v => []), pv (.bool x64), pv (.bool x64), pv (.bool x64), pv (undef), pv (undef), pv (undef), pv (undef), pv (.bool false), pv (.bool false), pv (undef), pv (undef), pv (undef), pv (.bool false)]) (Λ := [blk g24 29 cs26, blk g7 41 ([.int .i64 102, .int .i64 1, .int .i64 0, .slice (some ⟨g6, 0, none⟩) ([(⟨3, ([120] : List UInt8), ([99] : List UInt8), 3, []⟩ : api_Effect), (⟨4, ([97] : List UInt8), ([115] : List UInt8), 0, ([113] : List UInt8)⟩ : api_Effect)]).length 2]), blk g4 41 ([.int .i64 101, .int .i64 1, .int .i64 0, .slice (some ⟨g3, 0, none⟩) ([(⟨3, ([120] : List UInt8), ([99] : List UInt8), 2, []⟩ : api_Effect)]).length 1])]) hs (by kernel_rfl) (by kernel_rfl) (by kernel_rfl) ⟨⟨⟨⟨⟨⟨⟨⟨⟨⟨⟨⟨⟨⟨⟨⟨⟨⟨⟨⟨⟨⟨⟨⟨⟨⟨⟨⟨⟨⟨⟨⟨⟨⟨⟨⟨⟨⟨trivial, ?_⟩, ?_⟩, ?_⟩, ?_⟩, ?_⟩, ?_⟩, ?_⟩, ?_⟩, ?_⟩, ?_⟩, ?_⟩, ?_⟩, ?_⟩, ?_⟩, ?_⟩, ?_⟩, ?_⟩, ?_⟩, ?_⟩, ?_⟩, ?_⟩, ?_⟩, ?_⟩, ?_⟩, ?_⟩, ?_⟩, ?_⟩, ?_⟩, ?_⟩, ?_⟩, ?_⟩, ?_⟩, ?_⟩, ?_⟩, ?_⟩, ?_⟩, ?_⟩, ?_⟩ ?_
  {
  intro ρ w Γx Λx hs hu hp
  refine WL.fieldAddr (m := 0) ((hu 3 rfl).trans e25) FA29_0 rfl ?_
  exact WL.nil ⟨rfl, _, rfl, rfl, hs.cutG 0 0⟩ }
  {
  intro ρ w Γx Λx hs hu hp
  have e341 : ρ 16 = .pointer (some ⟨g24, 0, none⟩) := (hp 0 rfl).1
  refine WL.loadF (z := x12.Objects) F_fold_Store_Objects hs (Λx.length + 0) (getApp rfl) (Γx.length + 0) (getApp rfl) rfl TI27 (.inr rfl) e341 rfl (fun v39 hs => ?_)
  obtain ⟨a40, c41, rfl⟩ := hs.slice 0 rfl
  have hs := hs.add (it := vl (tSlice t_fold_Object) x12.Objects (.slice a40 (x12.Objects).length c41)) fun ok hA => hA.get 0 rfl
  exact WL.nil ⟨rfl, _, rfl, ⟨(a40, c41), rfl⟩, hs.cutG 1 1⟩ }
  {
  intro ρ w Γx Λx hs hu hp
  obtain ⟨⟨⟨a342, c343⟩, e344r⟩, hm345⟩ := hp 1 rfl
  have e344 : ρ 17 = .slice a342 (x12.Objects).length c343 := e344r
  rw [e344r] at hm345
  have hs := hs.memo1 (it := vl (tSlice t_fold_Object) x12.Objects (.slice a342 (x12.Objects).length c343)) (List.mem_append.2 (.inl (hm345 _ (List.mem_of_getElem? (i := 0) rfl))))
  refine WL.len (v := .slice a342 (x12.Objects).length c343) e344 (len_slice UN27) ?_
  exact WL.nil ⟨rfl, _, rfl, rfl, hs.cutG 0 1⟩ }
  {
  intro ρ w Γx Λx hs hu hp
  have e346 : ρ 18 = .int .i64 ((x12.Objects).length : Int) := (hp 2 rfl).1
  refine WL.bin (v := .bool (((x12.Objects).length : Int) == 2)) e346 rfl (ib_eql _ _ _) ?_
  exact WL.nil ⟨rfl, _, rfl, rfl, hs.cutG 0 0⟩ }
  {
  intro ρ w Γx Λx hs hu hp
  have e347 : ρ 19 = .bool (((x12.Objects).length : Int) == 2) := (hp 3 rfl).1
  refine WL.move (v := .bool (((x12.Objects).length : Int) == 2)) e347 ?_
  exact WL.nil ⟨rfl, _, rfl, rfl, hs.cutG 0 0⟩ }
  {
  intro ρ w Γx Λx hs hu hp
  have e348 : ρ 20 = .bool (((x12.Objects).length : Int) == 2) := (hp 4 rfl).1
  refine WL.fieldAddr (m := 0) ((hu 3 rfl).trans e25) FA29_0 rfl ?_ (hg := (wanted_of rfl rfl (bool_tr e348 hc42)).trans rfl)
  exact WL.nil ⟨rfl, _, rfl, rfl, hs.cutG 0 0⟩ }
  {
  intro ρ w Γx Λx hs hu hp
  have e349 : ρ 21 = .pointer (some ⟨g24, 0, none⟩) := (hp 5 rfl).1
  have e350 : ρ 20 = .bool (((x12.Objects).length : Int) == 2) := (hp 4 rfl).1
  refine WL.loadF (z := x12.Objects) F_fold_Store_Objects hs (Λx.length + 0) (getApp rfl) (Γx.length + 0) (getApp rfl) rfl TI27 (.inr rfl) e349 rfl (fun v43 hs => ?_) (hg := (wanted_of rfl rfl (bool_tr e350 hc42)).trans rfl)
  obtain ⟨a44, c45, rfl⟩ := hs.slice 0 rfl
  have hs := hs.add (it := vl (tSlice t_fold_Object) x12.Objects (.slice a44 (x12.Objects).length c45)) fun ok hA => hA.get 0 rfl
  exact WL.nil ⟨rfl, _, rfl, ⟨(a44, c45), rfl⟩, hs.cutG 1 1⟩ }
  {
  intro ρ w Γx Λx hs hu hp
  obtain ⟨⟨⟨a351, c352⟩, e353r⟩, hm354⟩ := hp 6 rfl
  have e353 : ρ 22 = .slice a351 (x12.Objects).length c352 := e353r
  rw [e353r] at hm354
  have hs := hs.memo1 (it := vl (tSlice t_fold_Object) x12.Objects (.slice a351 (x12.Objects).length c352)) (List.mem_append.2 (.inl (hm354 _ (List.mem_of_getElem? (i := 0) rfl))))
  have e355 : ρ 20 = .bool (((x12.Objects).length : Int) == 2) := (hp 4 rfl).1
  refine WL.indexAddr hs 0 rfl UN27 TI51 e353 rfl hxx46 (fun ad47 hs => ?_) (hg := (wanted_of rfl rfl (bool_tr e355 hc42)).trans rfl)
  have hs := hs.add (it := pl t_fold_Object x46 ad47) fun ok hA => hA.get 0 rfl
  exact WL.nil ⟨rfl, _, rfl, ⟨ad47, rfl⟩, hs.cutG 1 2⟩ }
  {
  intro ρ w Γx Λx hs hu hp
  obtain ⟨⟨ad356, e357r⟩, hm358⟩ := hp 7 rfl
  have e357 : ρ 23 = .pointer (some ad356) := e357r
  rw [e357r] at hm358
  have hs := hs.memo1 (it := pl t_fold_Object x46 ad356) (List.mem_append.2 (.inl (hm358 _ (List.mem_of_getElem? (i := 0) rfl))))
  have e359 : ρ 20 = .bool (((x12.Objects).length : Int) == 2) := (hp 4 rfl).1
  refine WL.fieldAddrP (z := x46.Name) F_fold_Object_Name hs 0 rfl e357 FA51_0 rfl (fun ad48 hs => ?_) (hg := (wanted_of rfl rfl (bool_tr e359 hc42)).trans rfl)
  have hs := hs.add (it := pl tStr x46.Name ad48) fun ok hA => hA.get 0 rfl
  exact WL.nil ⟨rfl, _, rfl, ⟨ad48, rfl⟩, hs.cutG 1 2⟩ }
  {
  intro ρ w Γx Λx hs hu hp
  obtain ⟨⟨ad360, e361r⟩, hm362⟩ := hp 8 rfl
  have e361 : ρ 24 = .pointer (some ad360) := e361r
  rw [e361r] at hm362
  have hs := hs.memo1 (it := pl tStr x46.Name ad360) (List.mem_append.2 (.inl (hm362 _ (List.mem_of_getElem? (i := 0) rfl))))
  have e363 : ρ 20 = .bool (((x12.Objects).length : Int) == 2) := (hp 4 rfl).1
  refine WL.loadP hs 0 rfl TI9 (.inr rfl) e361 (fun v49 hs => ?_) (hg := (wanted_of rfl rfl (bool_tr e363 hc42)).trans rfl)
  obtain rfl := hs.str 0 rfl
  exact WL.nil ⟨rfl, _, rfl, rfl, hs.cutG 0 2⟩ }
  {
  intro ρ w Γx Λx hs hu hp
  have e364 : ρ 25 = bstr x46.Name := (hp 9 rfl).1
  have e365 : ρ 20 = .bool (((x12.Objects).length : Int) == 2) := (hp 4 rfl).1
  refine WL.binS (v := .bool (x46.Name == ([97] : List UInt8))) e364 rfl (sb_eql _ _) ?_ (hg := (wanted_of rfl rfl (bool_tr e365 hc42)).trans rfl)
  exact WL.nil ⟨rfl, _, rfl, rfl, hs.cutG 0 0⟩ }
  {
  intro ρ w Γx Λx hs hu hp
  have e366 : ρ 20 = .bool (((x12.Objects).length : Int) == 2) := (hp 4 rfl).1
  have e367 : ρ 26 = .bool (x46.Name == ([97] : List UInt8)) := (hp 10 rfl).1
  refine WL.pickT (v := .bool (x46.Name == ([97] : List UInt8))) (bool_tr e366 hc42) e367 ?_
  exact WL.nil ⟨rfl, _, rfl, rfl, hs.cutG 0 0⟩ }
  {
  intro ρ w Γx Λx hs hu hp
  have e368 : ρ 27 = .bool (x46.Name == ([97] : List UInt8)) := (hp 11 rfl).1
  refine WL.move (v := .bool (x46.Name == ([97] : List UInt8))) e368 ?_
  exact WL.nil ⟨rfl, _, rfl, rfl, hs.cutG 0 0⟩ }
  {
  intro ρ w Γx Λx hs hu hp
  have e369 : ρ 28 = .bool (x46.Name == ([97] : List UInt8)) := (hp 12 rfl).1
  refine WL.loadAll hs (Λx.length + 0) (getApp rfl) TI29 ((hu 3 rfl).trans e25) hl27 ?_ (hg := (wanted_of rfl rfl (bool_tr e369 hc50)).trans rfl)
  exact WL.nil ⟨rfl, _, rfl, rfl, hs.cutG 0 0⟩ }
  {
  intro ρ w Γx Λx hs hu hp
  have e370 : ρ 29 = .agg cs26.toArray := (hp 13 rfl).1
  have e371 : ρ 28 = .bool (x46.Name == ([97] : List UInt8)) := (hp 12 rfl).1
  refine WL.call (vs := [.agg cs26.toArray, bstr ([120] : List UInt8)]) hs FN27 ⟨e370, ⟨rfl, trivial⟩⟩ (fun ok hA => fold_Find.calls (x1 := x12) (x2 := ([120] : List UInt8)) hxx51 (hA.get (Γx.length + 0) (getApp rfl))) ?_ (hg := (wanted_of rfl rfl (bool_tr e371 hc50)).trans rfl)
  rintro cs52 w hs
  have hl53 := hs.agglen (n := 2) 0 rfl rfl rfl
  have hs := hs.add (it := vl t_fold_Object x51 (.agg cs52.toArray)) fun ok hA => hA.get 0 rfl
  exact WL.nil ⟨rfl, _, rfl, ⟨cs52, rfl⟩, hs.cutG 1 1⟩ }
  {
  intro ρ w Γx Λx hs hu hp
  obtain ⟨⟨cs372, e374r⟩, hm375⟩ := hp 14 rfl
  have e374 : ρ 30 = .agg cs372.toArray := e374r
  rw [e374r] at hm375
  have hs := hs.memo1 (it := vl t_fold_Object x51 (.agg cs372.toArray)) (List.mem_append.2 (.inl (hm375 _ (List.mem_of_getElem? (i := 0) rfl))))
  have hl373 := hs.agglen (n := 2) 0 rfl rfl rfl
  have e376 : ρ 28 = .bool (x46.Name == ([97] : List UInt8)) := (hp 12 rfl).1
  refine WL.call (vs := [.agg cs372.toArray, bstr ([99] : List UInt8)]) hs FN28 ⟨e374, ⟨rfl, trivial⟩⟩ (fun ok hA => fold_FieldOf.callc (x1 := x51) (x5 := ([99] : List UInt8)) hxx54 (hA.get 0 rfl)) ?_ (hg := (wanted_of rfl rfl (bool_tr e376 hc50)).trans rfl)
  rintro cs55 w hs
  have hl56 := hs.agglen (n := 12) 0 rfl rfl rfl
  have hs := hs.add (it := vl t_fold_Field x54 (.agg cs55.toArray)) fun ok hA => hA.get 0 rfl
  exact WL.nil ⟨rfl, _, rfl, ⟨cs55, rfl⟩, hs.cutG 1 2⟩ }
  {
  intro ρ w Γx Λx hs hu hp
  obtain ⟨⟨cs377, e379r⟩, hm380⟩ := hp 15 rfl
  have e379 : ρ 31 = .agg cs377.toArray := e379r
  rw [e379r] at hm380
  have hs := hs.memo1 (it := vl t_fold_Field x54 (.agg cs377.toArray)) (List.mem_append.2 (.inl (hm380 _ (List.mem_of_getElem? (i := 0) rfl))))
  have hl378 := hs.agglen (n := 12) 0 rfl rfl rfl
  have e381 : ρ 28 = .bool (x46.Name == ([97] : List UInt8)) := (hp 12 rfl).1
  refine WL.fieldV (z := x54.Sum) (l := cs377) F_fold_Field_Sum hs 0 rfl rfl e379 FV57_4 TI2 (.inr rfl) rfl (fun v57 hs => ?_) (hg := (wanted_of rfl rfl (bool_tr e381 hc50)).trans rfl)
  obtain rfl := hs.int 0 rfl
  exact WL.nil ⟨rfl, _, rfl, rfl, hs.cutG 0 2⟩ }
  {
  intro ρ w Γx Λx hs hu hp
  have e382 : ρ 32 = .int .i64 x54.Sum := (hp 16 rfl).1
  have e383 : ρ 28 = .bool (x46.Name == ([97] : List UInt8)) := (hp 12 rfl).1
  refine WL.bin (v := .bool (x54.Sum == 5)) e382 rfl (ib_eql _ _ _) ?_ (hg := (wanted_of rfl rfl (bool_tr e383 hc50)).trans rfl)
  exact WL.nil ⟨rfl, _, rfl, rfl, hs.cutG 0 0⟩ }
  {
  intro ρ w Γx Λx hs hu hp
  have e384 : ρ 28 = .bool (x46.Name == ([97] : List UInt8)) := (hp 12 rfl).1
  have e385 : ρ 33 = .bool (x54.Sum == 5) := (hp 17 rfl).1
  refine WL.pickT (v := .bool (x54.Sum == 5)) (bool_tr e384 hc50) e385 ?_
  exact WL.nil ⟨rfl, _, rfl, rfl, hs.cutG 0 0⟩ }
  {
  intro ρ w Γx Λx hs hu hp
  have e386 : ρ 34 = .bool (x54.Sum == 5) := (hp 18 rfl).1
  refine WL.move (v := .bool (x54.Sum == 5)) e386 ?_
  exact WL.nil ⟨rfl, _, rfl, rfl, hs.cutG 0 0⟩ }
  {
  intro ρ w Γx Λx hs hu hp
  have e387 : ρ 35 = .bool (x54.Sum == 5) := (hp 19 rfl).1
  refine WL.loadAll hs (Λx.length + 0) (getApp rfl) TI29 ((hu 3 rfl).trans e25) hl27 ?_ (hg := (wanted_of rfl rfl (bool_tr e387 hc58)).trans rfl)
  exact WL.nil ⟨rfl, _, rfl, rfl, hs.cutG 0 0⟩ }
  {
  intro ρ w Γx Λx hs hu hp
  have e388 : ρ 35 = .bool (x54.Sum == 5) := (hp 19 rfl).1
  refine WL.loadN (vs := [.int .i64 101, .int .i64 1, .int .i64 0, .slice (some ⟨g3, 0, none⟩) ([(⟨3, ([120] : List UInt8), ([99] : List UInt8), 2, []⟩ : api_Effect)]).length 1]) hs (Λx.length + 2) (getApp rfl) TI41 ((hu 1 rfl).trans (hu23 1 rfl)) rfl rfl ?_ (hg := (wanted_of rfl rfl (bool_tr e388 hc58)).trans rfl)
  exact WL.nil ⟨rfl, _, rfl, rfl, hs.cutG 0 0⟩ }
  {
  intro ρ w Γx Λx hs hu hp
  have e389 : ρ 35 = .bool (x54.Sum == 5) := (hp 19 rfl).1
  refine WL.loadN (vs := [.int .i64 102, .int .i64 1, .int .i64 0, .slice (some ⟨g6, 0, none⟩) ([(⟨3, ([120] : List UInt8), ([99] : List UInt8), 3, []⟩ : api_Effect), (⟨4, ([97] : List UInt8), ([115] : List UInt8), 0, ([113] : List UInt8)⟩ : api_Effect)]).length 2]) hs (Λx.length + 1) (getApp rfl) TI41 ((hu 2 rfl).trans (hu23 2 rfl)) rfl rfl ?_ (hg := (wanted_of rfl rfl (bool_tr e389 hc58)).trans rfl)
  exact WL.nil ⟨rfl, _, rfl, rfl, hs.cutG 0 0⟩ }
  {
  intro ρ w Γx Λx hs hu hp
  have e390 : ρ 37 = .agg ([.int .i64 101, .int .i64 1, .int .i64 0, .slice (some ⟨g3, 0, none⟩) ([(⟨3, ([120] : List UInt8), ([99] : List UInt8), 2, []⟩ : api_Effect)]).length 1] : List Value).toArray := (hp 21 rfl).1
  have e391 : ρ 38 = .agg ([.int .i64 102, .int .i64 1, .int .i64 0, .slice (some ⟨g6, 0, none⟩) ([(⟨3, ([120] : List UInt8), ([99] : List UInt8), 3, []⟩ : api_Effect), (⟨4, ([97] : List UInt8), ([115] : List UInt8), 0, ([113] : List UInt8)⟩ : api_Effect)]).length 2] : List Value).toArray := (hp 22 rfl).1
  have e392 : ρ 35 = .bool (x54.Sum == 5) := (hp 19 rfl).1
  refine WL.buildSliceB (ys := [(⟨101, 1, 0, [(⟨3, ([120] : List UInt8), ([99] : List UInt8), 2, []⟩ : api_Effect)]⟩ : api_Update), (⟨102, 1, 0, [(⟨3, ([120] : List UInt8), ([99] : List UInt8), 3, []⟩ : api_Effect), (⟨4, ([97] : List UInt8), ([115] : List UInt8), 0, ([113] : List UInt8)⟩ : api_Effect)]⟩ : api_Update)]) (n := 2) (vs := [(0, .agg ([.int .i64 101, .int .i64 1, .int .i64 0, .slice (some ⟨g3, 0, none⟩) ([(⟨3, ([120] : List UInt8), ([99] : List UInt8), 2, []⟩ : api_Effect)]).length 1] : List Value).toArray), (1, .agg ([.int .i64 102, .int .i64 1, .int .i64 0, .slice (some ⟨g6, 0, none⟩) ([(⟨3, ([120] : List UInt8), ([99] : List UInt8), 3, []⟩ : api_Effect), (⟨4, ([97] : List UInt8), ([115] : List UInt8), 0, ([113] : List UInt8)⟩ : api_Effect)]).length 2] : List Value).toArray)]) (cs := [.int .i64 101, .int .i64 1, .int .i64 0, .slice (some ⟨g3, 0, none⟩) ([(⟨3, ([120] : List UInt8), ([99] : List UInt8), 2, []⟩ : api_Effect)]).length 1, .int .i64 102, .int .i64 1, .int .i64 0, .slice (some ⟨g6, 0, none⟩) ([(⟨3, ([120] : List UInt8), ([99] : List UInt8), 3, []⟩ : api_Effect), (⟨4, ([97] : List UInt8), ([115] : List UInt8), 0, ([113] : List UInt8)⟩ : api_Effect)]).length 2]) hs ⟨⟨rfl, e390⟩, ⟨⟨rfl, e391⟩, trivial⟩⟩ (bls PS23 (by decide) rfl) (fun ok hA => (Cells.app (Cells.one (T := t_api_Update) (show t_api_Update.R ok _ (⟨101, 1, 0, [(⟨3, ([120] : List UInt8), ([99] : List UInt8), 2, []⟩ : api_Effect)]⟩ : api_Update) _ from ⟨[.int .i64 101], ([.int .i64 1, .int .i64 0, .slice (some ⟨g3, 0, none⟩) ([(⟨3, ([120] : List UInt8), ([99] : List UInt8), 2, []⟩ : api_Effect)]).length 1]), rfl, rfl, ⟨[.int .i64 1], ([.int .i64 0, .slice (some ⟨g3, 0, none⟩) ([(⟨3, ([120] : List UInt8), ([99] : List UInt8), 2, []⟩ : api_Effect)]).length 1]), rfl, rfl, ⟨[.int .i64 0], ([.slice (some ⟨g3, 0, none⟩) ([(⟨3, ([120] : List UInt8), ([99] : List UInt8), 2, []⟩ : api_Effect)]).length 1]), rfl, rfl, (R_one (hA.get (Γx.length + 2) (getApp rfl)))⟩⟩⟩)) (Cells.one (T := t_api_Update) (show t_api_Update.R ok _ (⟨102, 1, 0, [(⟨3, ([120] : List UInt8), ([99] : List UInt8), 3, []⟩ : api_Effect), (⟨4, ([97] : List UInt8), ([115] : List UInt8), 0, ([113] : List UInt8)⟩ : api_Effect)]⟩ : api_Update) _ from ⟨[.int .i64 102], ([.int .i64 1, .int .i64 0, .slice (some ⟨g6, 0, none⟩) ([(⟨3, ([120] : List UInt8), ([99] : List UInt8), 3, []⟩ : api_Effect), (⟨4, ([97] : List UInt8), ([115] : List UInt8), 0, ([113] : List UInt8)⟩ : api_Effect)]).length 2]), rfl, rfl, ⟨[.int .i64 1], ([.int .i64 0, .slice (some ⟨g6, 0, none⟩) ([(⟨3, ([120] : List UInt8), ([99] : List UInt8), 3, []⟩ : api_Effect), (⟨4, ([97] : List UInt8), ([115] : List UInt8), 0, ([113] : List UInt8)⟩ : api_Effect)]).length 2]), rfl, rfl, ⟨[.int .i64 0], ([.slice (some ⟨g6, 0, none⟩) ([(⟨3, ([120] : List UInt8), ([99] : List UInt8), 3, []⟩ : api_Effect), (⟨4, ([97] : List UInt8), ([115] : List UInt8), 0, ([113] : List UInt8)⟩ : api_Effect)]).length 2]), rfl, rfl, (R_one (hA.get (Γx.length + 3) (getApp rfl)))⟩⟩⟩)))) rfl (by decide) (fun a60 w hBl hs => ?_) (hg := (wanted_of rfl rfl (bool_tr e392 hc58)).trans rfl)
  have hs := hs.add (it := vl (tSlice t_api_Update) ([(⟨101, 1, 0, [(⟨3, ([120] : List UInt8), ([99] : List UInt8), 2, []⟩ : api_Effect)]⟩ : api_Update), (⟨102, 1, 0, [(⟨3, ([120] : List UInt8), ([99] : List UInt8), 3, []⟩ : api_Effect), (⟨4, ([97] : List UInt8), ([115] : List UInt8), 0, ([113] : List UInt8)⟩ : api_Effect)]⟩ : api_Update)]) (.slice a60 ([(⟨101, 1, 0, [(⟨3, ([120] : List UInt8), ([99] : List UInt8), 2, []⟩ : api_Effect)]⟩ : api_Update), (⟨102, 1, 0, [(⟨3, ([120] : List UInt8), ([99] : List UInt8), 3, []⟩ : api_Effect), (⟨4, ([97] : List UInt8), ([115] : List UInt8), 0, ([113] : List UInt8)⟩ : api_Effect)]⟩ : api_Update)]).length 2)) fun ok hA => hA.get 0 rfl
  exact WL.nil ⟨rfl, _, rfl, ⟨(a60, 2), rfl⟩, hs.cutG 1 1⟩ }
  {
  intro ρ w Γx Λx hs hu hp
  obtain ⟨⟨⟨a393, c394⟩, e395r⟩, hm396⟩ := hp 23 rfl
  have e395 : ρ 39 = .slice a393 ([(⟨101, 1, 0, [(⟨3, ([120] : List UInt8), ([99] : List UInt8), 2, []⟩ : api_Effect)]⟩ : api_Update), (⟨102, 1, 0, [(⟨3, ([120] : List UInt8), ([99] : List UInt8), 3, []⟩ : api_Effect), (⟨4, ([97] : List UInt8), ([115] : List UInt8), 0, ([113] : List UInt8)⟩ : api_Effect)]⟩ : api_Update)]).length c394 := e395r
  rw [e395r] at hm396
  have hs := hs.memo1 (it := vl (tSlice t_api_Update) ([(⟨101, 1, 0, [(⟨3, ([120] : List UInt8), ([99] : List UInt8), 2, []⟩ : api_Effect)]⟩ : api_Update), (⟨102, 1, 0, [(⟨3, ([120] : List UInt8), ([99] : List UInt8), 3, []⟩ : api_Effect), (⟨4, ([97] : List UInt8), ([115] : List UInt8), 0, ([113] : List UInt8)⟩ : api_Effect)]⟩ : api_Update)]) (.slice a393 ([(⟨101, 1, 0, [(⟨3, ([120] : List UInt8), ([99] : List UInt8), 2, []⟩ : api_Effect)]⟩ : api_Update), (⟨102, 1, 0, [(⟨3, ([120] : List UInt8), ([99] : List UInt8), 3, []⟩ : api_Effect), (⟨4, ([97] : List UInt8), ([115] : List UInt8), 0, ([113] : List UInt8)⟩ : api_Effect)]⟩ : api_Update)]).length c394)) (List.mem_append.2 (.inl (hm396 _ (List.mem_of_getElem? (i := 0) rfl))))
  have e397 : ρ 35 = .bool (x54.Sum == 5) := (hp 19 rfl).1
  refine WL.call (vs := [.slice a393 ([(⟨101, 1, 0, [(⟨3, ([120] : List UInt8), ([99] : List UInt8), 2, []⟩ : api_Effect)]⟩ : api_Update), (⟨102, 1, 0, [(⟨3, ([120] : List UInt8), ([99] : List UInt8), 3, []⟩ : api_Effect), (⟨4, ([97] : List UInt8), ([115] : List UInt8), 0, ([113] : List UInt8)⟩ : api_Effect)]⟩ : api_Update)]).length c394]) hs FN13 ⟨e395, trivial⟩ (fun ok hA => fold_Fold.calls (x1 := ([(⟨101, 1, 0, [(⟨3, ([120] : List UInt8), ([99] : List UInt8), 2, []⟩ : api_Effect)]⟩ : api_Update), (⟨102, 1, 0, [(⟨3, ([120] : List UInt8), ([99] : List UInt8), 3, []⟩ : api_Effect), (⟨4, ([97] : List UInt8), ([115] : List UInt8), 0, ([113] : List UInt8)⟩ : api_Effect)]⟩ : api_Update)])) hxx61 (hA.get 0 rfl)) ?_ (hg := (wanted_of rfl rfl (bool_tr e397 hc58)).trans rfl)
  rintro cs62 w hs
  have hl63 := hs.agglen (n := 1) 0 rfl rfl rfl
  have hs := hs.add (it := vl t_fold_Store x61 (.agg cs62.toArray)) fun ok hA => hA.get 0 rfl
  exact WL.nil ⟨rfl, _, rfl, ⟨cs62, rfl⟩, hs.cutG 1 2⟩ }
  {
  intro ρ w Γx Λx hs hu hp
  have e398 : ρ 36 = .agg cs26.toArray := (hp 20 rfl).1
  obtain ⟨⟨cs399, e401r⟩, hm402⟩ := hp 24 rfl
  have e401 : ρ 40 = .agg cs399.toArray := e401r
  rw [e401r] at hm402
  have hs := hs.memo1 (it := vl t_fold_Store x61 (.agg cs399.toArray)) (List.mem_append.2 (.inl (hm402 _ (List.mem_of_getElem? (i := 0) rfl))))
  have hl400 := hs.agglen (n := 1) 0 rfl rfl rfl
  have e403 : ρ 35 = .bool (x54.Sum == 5) := (hp 19 rfl).1
  refine WL.call (vs := [.agg cs26.toArray, .agg cs399.toArray]) hs FN26 ⟨e398, ⟨e401, trivial⟩⟩ (fun ok hA => fold_Equal.calls (x1 := x12) (x5 := x61) hxx64 (hA.get (Γx.length + 0 + 1) (getApp1 rfl)) (hA.get 0 rfl)) ?_ (hg := (wanted_of rfl rfl (bool_tr e403 hc58)).trans rfl)
  rintro _ w hs
  exact WL.nil ⟨rfl, _, rfl, rfl, hs.cutG 0 1⟩ }
  {
  intro ρ w Γx Λx hs hu hp
  have e404 : ρ 35 = .bool (x54.Sum == 5) := (hp 19 rfl).1
  have e405 : ρ 41 = .bool x64 := (hp 25 rfl).1
  refine WL.pickT (v := .bool x64) (bool_tr e404 hc58) e405 ?_
  exact WL.nil ⟨rfl, _, rfl, rfl, hs.cutG 0 0⟩ }
  {
  intro ρ w Γx Λx hs hu hp
  have e406 : ρ 42 = .bool x64 := (hp 26 rfl).1
  refine WL.move (v := .bool x64) e406 ?_
  exact WL.nil ⟨rfl, _, rfl, rfl, hs.cutG 0 0⟩ }
  {
  intro ρ w Γx Λx hs hu hp
  have e407 : ρ 43 = .bool x64 := (hp 27 rfl).1
  refine WL.pass ((wanted_of rfl rfl (bool_tr e407 hc65)).trans rfl) rfl ?_
  exact WL.nil ⟨rfl, _, rfl, rfl, hs.cutG 0 0⟩ }
  {
  intro ρ w Γx Λx hs hu hp
  have e408 : ρ 43 = .bool x64 := (hp 27 rfl).1
  refine WL.pass ((wanted_of rfl rfl (bool_tr e408 hc65)).trans rfl) rfl ?_
  exact WL.nil ⟨rfl, _, rfl, rfl, hs.cutG 0 0⟩ }
  {
  intro ρ w Γx Λx hs hu hp
  have e409 : ρ 44 = undef := (hp 28 rfl).1
  have e410 : ρ 45 = undef := (hp 29 rfl).1
  have e411 : ρ 43 = .bool x64 := (hp 27 rfl).1
  refine WL.pass ((wanted_of rfl rfl (bool_tr e411 hc65)).trans rfl) rfl ?_
  exact WL.nil ⟨rfl, _, rfl, rfl, hs.cutG 0 0⟩ }
  {
  intro ρ w Γx Λx hs hu hp
  have e412 : ρ 46 = undef := (hp 30 rfl).1
  have e413 : ρ 43 = .bool x64 := (hp 27 rfl).1
  refine WL.pass ((wanted_of rfl rfl (bool_tr e413 hc65)).trans rfl) rfl ?_
  exact WL.nil ⟨rfl, _, rfl, rfl, hs.cutG 0 0⟩ }
  {
  intro ρ w Γx Λx hs hu hp
  have e414 : ρ 43 = .bool x64 := (hp 27 rfl).1
  have e415 : ρ 47 = undef := (hp 31 rfl).1
  refine WL.pickF (v := .bool false) (bool_tr e414 hc65) rfl ?_
  exact WL.nil ⟨rfl, _, rfl, rfl, hs.cutG 0 0⟩ }
  {
  intro ρ w Γx Λx hs hu hp
  have e416 : ρ 48 = .bool false := (hp 32 rfl).1
  refine WL.move (v := .bool false) e416 ?_
  exact WL.nil ⟨rfl, _, rfl, rfl, hs.cutG 0 0⟩ }
  {
  intro ρ w Γx Λx hs hu hp
  have e417 : ρ 49 = .bool false := (hp 33 rfl).1
  refine WL.pass ((wanted_of rfl rfl e417).trans rfl) rfl ?_
  exact WL.nil ⟨rfl, _, rfl, rfl, hs.cutG 0 0⟩ }
  {
  intro ρ w Γx Λx hs hu hp
  have e418 : ρ 50 = undef := (hp 34 rfl).1
  have e419 : ρ 49 = .bool false := (hp 33 rfl).1
  refine WL.pass ((wanted_of rfl rfl e419).trans rfl) rfl ?_
  exact WL.nil ⟨rfl, _, rfl, rfl, hs.cutG 0 0⟩ }
  {
  intro ρ w Γx Λx hs hu hp
  have e420 : ρ 51 = undef := (hp 35 rfl).1
  have e421 : ρ 49 = .bool false := (hp 33 rfl).1
  refine WL.pass ((wanted_of rfl rfl e421).trans rfl) rfl ?_
  exact WL.nil ⟨rfl, _, rfl, rfl, hs.cutG 0 0⟩ }
  {
  intro ρ w Γx Λx hs hu hp
  have e422 : ρ 49 = .bool false := (hp 33 rfl).1
  have e423 : ρ 52 = undef := (hp 36 rfl).1
  refine WL.pickF (v := .bool false) e422 rfl ?_
  exact WL.nil ⟨rfl, _, rfl, rfl, hs.cutG 0 0⟩ }
  {
  intro ρ w hs hu424 hp
  obtain ⟨⟨⟨⟨⟨⟨⟨⟨⟨⟨⟨⟨⟨⟨⟨⟨⟨⟨⟨⟨⟨⟨⟨⟨⟨⟨⟨⟨⟨⟨⟨⟨⟨⟨⟨⟨⟨⟨_, hp0_⟩, hp1_⟩, hp2_⟩, hp3_⟩, hp4_⟩, hp5_⟩, hp6_⟩, hp7_⟩, hp8_⟩, hp9_⟩, hp10_⟩, hp11_⟩, hp12_⟩, hp13_⟩, hp14_⟩, hp15_⟩, hp16_⟩, hp17_⟩, hp18_⟩, hp19_⟩, hp20_⟩, hp21_⟩, hp22_⟩, hp23_⟩, hp24_⟩, hp25_⟩, hp26_⟩, hp27_⟩, hp28_⟩, hp29_⟩, hp30_⟩, hp31_⟩, hp32_⟩, hp33_⟩, hp34_⟩, hp35_⟩, hp36_⟩, hp37_⟩ := hp
  have hs : St ok (bz w0) w [vl t_fold_Store x61 (ρ 40), vl (tSlice t_api_Update) ([(⟨101, 1, 0, [(⟨3, ([120] : List UInt8), ([99] : List UInt8), 2, []⟩ : api_Effect)]⟩ : api_Update), (⟨102, 1, 0, [(⟨3, ([120] : List UInt8), ([99] : List UInt8), 3, []⟩ : api_Effect), (⟨4, ([97] : List UInt8), ([115] : List UInt8), 0, ([113] : List UInt8)⟩ : api_Effect)]⟩ : api_Update)]) (ρ 39), vl t_fold_Field x54 (ρ 31), vl t_fold_Object x51 (ρ 30), pl tStr x46.Name (adOf (ρ 24)), pl t_fold_Object x46 (adOf (ρ 23)), vl (tSlice t_fold_Object) x12.Objects (ρ 22), vl (tSlice t_fold_Object) x12.Objects (ρ 17), vl t_fold_Store x12 (.agg cs26.toArray), vl t_fold_Store x9 (.agg cs30.toArray), vl (tSlice t_api_Effect) ([(⟨3, ([120] : List UInt8), ([99] : List UInt8), 2, []⟩ : api_Effect)]) (.slice (some ⟨g3, 0, none⟩) ([(⟨3, ([120] : List UInt8), ([99] : List UInt8), 2, []⟩ : api_Effect)]).length 1), vl (tSlice t_api_Effect) ([(⟨3, ([120] : List UInt8), ([99] : List UInt8), 3, []⟩ : api_Effect), (⟨4, ([97] : List UInt8), ([115] : List UInt8), 0, ([113] : List UInt8)⟩ : api_Effect)]) (.slice (some ⟨g6, 0, none⟩) ([(⟨3, ([120] : List UInt8), ([99] : List UInt8), 3, []⟩ : api_Effect), (⟨4, ([97] : List UInt8), ([115] : List UInt8), 0, ([113] : List UInt8)⟩ : api_Effect)]).length 2)] [blk g24 29 cs26, blk g7 41 ([.int .i64 102, .int .i64 1, .int .i64 0, .slice (some ⟨g6, 0, none⟩) ([(⟨3, ([120] : List UInt8), ([99] : List UInt8), 3, []⟩ : api_Effect), (⟨4, ([97] : List UInt8), ([115] : List UInt8), 0, ([113] : List UInt8)⟩ : api_Effect)]).length 2]), blk g4 41 ([.int .i64 101, .int .i64 1, .int .i64 0, .slice (some ⟨g3, 0, none⟩) ([(⟨3, ([120] : List UInt8), ([99] : List UInt8), 2, []⟩ : api_Effect)]).length 1])] := hs
  have e425 : ρ 53 = .bool false := hp37_
  have e426 : ρ 52 = undef := hp36_
  have e427 : ρ 51 = undef := hp35_
  have e428 : ρ 50 = undef := hp34_
  have e429 : ρ 49 = .bool false := hp33_
  have e430 : ρ 48 = .bool false := hp32_
  have e431 : ρ 47 = undef := hp31_
  have e432 : ρ 46 = undef := hp30_
  have e433 : ρ 45 = undef := hp29_
  have e434 : ρ 44 = undef := hp28_
  have e435 : ρ 43 = .bool x64 := hp27_
  have e436 : ρ 42 = .bool x64 := hp26_
  have e437 : ρ 41 = .bool x64 := hp25_
  obtain ⟨cs438, e440⟩ := hp24_
  have e440 : ρ 40 = .agg cs438.toArray := e440
  try rw [e440] at hs
  obtain ⟨⟨a441, c442⟩, e443⟩ := hp23_
  have e443 : ρ 39 = .slice a441 ([(⟨101, 1, 0, [(⟨3, ([120] : List UInt8), ([99] : List UInt8), 2, []⟩ : api_Effect)]⟩ : api_Update), (⟨102, 1, 0, [(⟨3, ([120] : List UInt8), ([99] : List UInt8), 3, []⟩ : api_Effect), (⟨4, ([97] : List UInt8), ([115] : List UInt8), 0, ([113] : List UInt8)⟩ : api_Effect)]⟩ : api_Update)]).length c442 := e443
  try rw [e443] at hs
  have e444 : ρ 38 = .agg ([.int .i64 102, .int .i64 1, .int .i64 0, .slice (some ⟨g6, 0, none⟩) ([(⟨3, ([120] : List UInt8), ([99] : List UInt8), 3, []⟩ : api_Effect), (⟨4, ([97] : List UInt8), ([115] : List UInt8), 0, ([113] : List UInt8)⟩ : api_Effect)]).length 2] : List Value).toArray := hp22_
  have e445 : ρ 37 = .agg ([.int .i64 101, .int .i64 1, .int .i64 0, .slice (some ⟨g3, 0, none⟩) ([(⟨3, ([120] : List UInt8), ([99] : List UInt8), 2, []⟩ : api_Effect)]).length 1] : List Value).toArray := hp21_
  have e446 : ρ 36 = .agg cs26.toArray := hp20_
  have e447 : ρ 35 = .bool (x54.Sum == 5) := hp19_
  have e448 : ρ 34 = .bool (x54.Sum == 5) := hp18_
  have e449 : ρ 33 = .bool (x54.Sum == 5) := hp17_
  have e450 : ρ 32 = .int .i64 x54.Sum := hp16_
  obtain ⟨cs451, e453⟩ := hp15_
  have e453 : ρ 31 = .agg cs451.toArray := e453
  try rw [e453] at hs
  obtain ⟨cs454, e456⟩ := hp14_
  have e456 : ρ 30 = .agg cs454.toArray := e456
  try rw [e456] at hs
  have e457 : ρ 29 = .agg cs26.toArray := hp13_
  have e458 : ρ 28 = .bool (x46.Name == ([97] : List UInt8)) := hp12_
  have e459 : ρ 27 = .bool (x46.Name == ([97] : List UInt8)) := hp11_
  have e460 : ρ 26 = .bool (x46.Name == ([97] : List UInt8)) := hp10_
  have e461 : ρ 25 = bstr x46.Name := hp9_
  obtain ⟨ad462, e463⟩ := hp8_
  have e463 : ρ 24 = .pointer (some ad462) := e463
  try rw [e463] at hs
  obtain ⟨ad464, e465⟩ := hp7_
  have e465 : ρ 23 = .pointer (some ad464) := e465
  try rw [e465] at hs
  obtain ⟨⟨a466, c467⟩, e468⟩ := hp6_
  have e468 : ρ 22 = .slice a466 (x12.Objects).length c467 := e468
  try rw [e468] at hs
  have e469 : ρ 21 = .pointer (some ⟨g24, 0, none⟩) := hp5_
  have e470 : ρ 20 = .bool (((x12.Objects).length : Int) == 2) := hp4_
  have e471 : ρ 19 = .bool (((x12.Objects).length : Int) == 2) := hp3_
  have e472 : ρ 18 = .int .i64 ((x12.Objects).length : Int) := hp2_
  obtain ⟨⟨a473, c474⟩, e475⟩ := hp1_
  have e475 : ρ 17 = .slice a473 (x12.Objects).length c474 := e475
  try rw [e475] at hs
  have e476 : ρ 16 = .pointer (some ⟨g24, 0, none⟩) := hp0_
  have hl455 := hs.agglen (n := 2) 3 rfl rfl rfl
  have hl452 := hs.agglen (n := 12) 2 rfl rfl rfl
  have hl439 := hs.agglen (n := 1) 0 rfl rfl rfl
  refine WA.step [38] (by kernel_rfl) (by simp) ⟨?_, trivial⟩
  refine WL.assign (v := .bool false) e425 ?_
  refine WL.nil ⟨rfl, _, rfl, ?_⟩
  refine WA.done (by kernel_rfl) ?_
  exact Jk38 false _ _ rfl ((hs.mask []).pick []) hf } } }
  {
  refine W.any (by kernel_rfl) 38 1 [true, true, true, true, true, true, true, true, true, true, true, true, true, true, true, true, true, true, true, true, true, true, true, true, true, true, true, true, true, true, true, true, true, true, true, true, true, true, false] rfl rfl (poAt [pv (.pointer (some ⟨g24, 0, none⟩)), pq (fun y : (Option Addr × Nat) => .slice y.1 (x12.Objects).length y.2) (fun v => [vl (tSlice t_fold_Object) x12.Objects v]) (fun v => []), pv (.int .i64 ((x12.Objects).length : Int)), pv (.bool (((x12.Objects).length : Int) == 2)), pv (.bool (((x12.Objects).length : Int) == 2)), pv (.pointer (some ⟨g24, 0, none⟩)), pq (fun y : (Option Addr × Nat) => .slice y.1 (x12.Objects).length y.2) (fun v => [vl (tSlice t_fold_Object) x12.Objects v]) (fun v => []), pq (fun y : Addr => .pointer (some y)) (fun v => [pl t_fold_Object x46 (adOf v)]) (fun v => []), pq (fun y : Addr => .pointer (some y)) (fun v => [pl tStr x46.Name (adOf v)]) (fun v => []), pv (bstr x46.Name), pv (.bool (x46.Name == ([97] : List UInt8))), pv (.bool (x46.Name == ([97] : List UInt8))), pv (.bool (x46.Name == ([97] : List UInt8))), pv (.agg cs26.toArray), pq (fun y : List Value => .agg y.toArray) (fun v => [vl t_fold_Object x51 v]) (fun v => []), pq (fun y : List Value => .agg y.toArray) (fun v => [vl t_fold_Field x54 v]) (fun v => []), pv (.int .i64 x54.Sum), pv (.bool (x54.Sum == 5)), pv (.bool (x54.Sum == 5)), pv (.bool (x54.Sum == 5)), pv (undef), pv (undef), pv (undef), pv (undef), pv (undef), pv (undef), pv (.bool false), pv (.bool false), pv (undef), pv (undef), pv (undef), pv (undef), pv (.bool false), pv (.bool false), pv (undef), pv (undef), pv (undef), pv (.bool false)]) (Λ := [blk g24 29 cs26, blk g7 41 ([.int .i64 102, .int .i64 1, .int .i64 0, .slice (some ⟨g6, 0, none⟩) ([(⟨3, ([120] : List UInt8), ([99] : List UInt8), 3, []⟩ : api_Effect), (⟨4, ([97] : List UInt8), ([115] : List UInt8), 0, ([113] : List UInt8)⟩ : api_Effect)]).length 2]), blk g4 41 ([.int .i64 101, .int .i64 1, .int .i64 0, .slice (some ⟨g3, 0, none⟩) ([(⟨3, ([120] : List UInt8), ([99] : List UInt8), 2, []⟩ : api_Effect)]).length 1])]) hs (by kernel_rfl) (by kernel_rfl) (by kernel_rfl) ⟨⟨⟨⟨⟨⟨⟨⟨⟨⟨⟨⟨⟨⟨⟨⟨⟨⟨⟨⟨⟨⟨⟨⟨⟨⟨⟨⟨⟨⟨⟨⟨⟨⟨⟨⟨⟨⟨trivial, ?_⟩, ?_⟩, ?_⟩, ?_⟩, ?_⟩, ?_⟩, ?_⟩, ?_⟩, ?_⟩, ?_⟩, ?_⟩, ?_⟩, ?_⟩, ?_⟩, ?_⟩, ?_⟩, ?_⟩, ?_⟩, ?_⟩, ?_⟩, ?_⟩, ?_⟩, ?_⟩, ?_⟩, ?_⟩, ?_⟩, ?_⟩, ?_⟩, ?_⟩, ?_⟩, ?_⟩, ?_⟩, ?_⟩, ?_⟩, ?_⟩, ?_⟩, ?_⟩, ?_⟩ ?_
  {
  intro ρ w Γx Λx hs hu hp
  refine WL.fieldAddr (m := 0) ((hu 3 rfl).trans e25) FA29_0 rfl ?_
  exact WL.nil ⟨rfl, _, rfl, rfl, hs.cutG 0 0⟩ }
  {
  intro ρ w Γx Λx hs hu hp
  have e477 : ρ 16 = .pointer (some ⟨g24, 0, none⟩) := (hp 0 rfl).1
  refine WL.loadF (z := x12.Objects) F_fold_Store_Objects hs (Λx.length + 0) (getApp rfl) (Γx.length + 0) (getApp rfl) rfl TI27 (.inr rfl) e477 rfl (fun v39 hs => ?_)
  obtain ⟨a40, c41, rfl⟩ := hs.slice 0 rfl
  have hs := hs.add (it := vl (tSlice t_fold_Object) x12.Objects (.slice a40 (x12.Objects).length c41)) fun ok hA => hA.get 0 rfl
  exact WL.nil ⟨rfl, _, rfl, ⟨(a40, c41), rfl⟩, hs.cutG 1 1⟩ }
  {
  intro ρ w Γx Λx hs hu hp
  obtain ⟨⟨⟨a478, c479⟩, e480r⟩, hm481⟩ := hp 1 rfl
  have e480 : ρ 17 = .slice a478 (x12.Objects).length c479 := e480r
  rw [e480r] at hm481
  have hs := hs.memo1 (it := vl (tSlice t_fold_Object) x12.Objects (.slice a478 (x12.Objects).length c479)) (List.mem_append.2 (.inl (hm481 _ (List.mem_of_getElem? (i := 0) rfl))))
  refine WL.len (v := .slice a478 (x12.Objects).length c479) e480 (len_slice UN27) ?_
  exact WL.nil ⟨rfl, _, rfl, rfl, hs.cutG 0 1⟩ }
  {
  intro ρ w Γx Λx hs hu hp
  have e482 : ρ 18 = .int .i64 ((x12.Objects).length : Int) := (hp 2 rfl).1
  refine WL.bin (v := .bool (((x12.Objects).length : Int) == 2)) e482 rfl (ib_eql _ _ _) ?_
  exact WL.nil ⟨rfl, _, rfl, rfl, hs.cutG 0 0⟩ }
  {
  intro ρ w Γx Λx hs hu hp
  have e483 : ρ 19 = .bool (((x12.Objects).length : Int) == 2) := (hp 3 rfl).1
  refine WL.move (v := .bool (((x12.Objects).length : Int) == 2)) e483 ?_
  exact WL.nil ⟨rfl, _, rfl, rfl, hs.cutG 0 0⟩ }
  {
  intro ρ w Γx Λx hs hu hp
  have e484 : ρ 20 = .bool (((x12.Objects).length : Int) == 2) := (hp 4 rfl).1
  refine WL.fieldAddr (m := 0) ((hu 3 rfl).trans e25) FA29_0 rfl ?_ (hg := (wanted_of rfl rfl (bool_tr e484 hc42)).trans rfl)
  exact WL.nil ⟨rfl, _, rfl, rfl, hs.cutG 0 0⟩ }
  {
  intro ρ w Γx Λx hs hu hp
  have e485 : ρ 21 = .pointer (some ⟨g24, 0, none⟩) := (hp 5 rfl).1
  have e486 : ρ 20 = .bool (((x12.Objects).length : Int) == 2) := (hp 4 rfl).1
  refine WL.loadF (z := x12.Objects) F_fold_Store_Objects hs (Λx.length + 0) (getApp rfl) (Γx.length + 0) (getApp rfl) rfl TI27 (.inr rfl) e485 rfl (fun v43 hs => ?_) (hg := (wanted_of rfl rfl (bool_tr e486 hc42)).trans rfl)
  obtain ⟨a44, c45, rfl⟩ := hs.slice 0 rfl
  have hs := hs.add (it := vl (tSlice t_fold_Object) x12.Objects (.slice a44 (x12.Objects).length c45)) fun ok hA => hA.get 0 rfl
  exact WL.nil ⟨rfl, _, rfl, ⟨(a44, c45), rfl⟩, hs.cutG 1 1⟩ }
  {
  intro ρ w Γx Λx hs hu hp
  obtain ⟨⟨⟨a487, c488⟩, e489r⟩, hm490⟩ := hp 6 rfl
  have e489 : ρ 22 = .slice a487 (x12.Objects).length c488 := e489r
  rw [e489r] at hm490
  have hs := hs.memo1 (it := vl (tSlice t_fold_Object) x12.Objects (.slice a487 (x12.Objects).length c488)) (List.mem_append.2 (.inl (hm490 _ (List.mem_of_getElem? (i := 0) rfl))))
  have e491 : ρ 20 = .bool (((x12.Objects).length : Int) == 2) := (hp 4 rfl).1
  refine WL.indexAddr hs 0 rfl UN27 TI51 e489 rfl hxx46 (fun ad47 hs => ?_) (hg := (wanted_of rfl rfl (bool_tr e491 hc42)).trans rfl)
  have hs := hs.add (it := pl t_fold_Object x46 ad47) fun ok hA => hA.get 0 rfl
  exact WL.nil ⟨rfl, _, rfl, ⟨ad47, rfl⟩, hs.cutG 1 2⟩ }
  {
  intro ρ w Γx Λx hs hu hp
  obtain ⟨⟨ad492, e493r⟩, hm494⟩ := hp 7 rfl
  have e493 : ρ 23 = .pointer (some ad492) := e493r
  rw [e493r] at hm494
  have hs := hs.memo1 (it := pl t_fold_Object x46 ad492) (List.mem_append.2 (.inl (hm494 _ (List.mem_of_getElem? (i := 0) rfl))))
  have e495 : ρ 20 = .bool (((x12.Objects).length : Int) == 2) := (hp 4 rfl).1
  refine WL.fieldAddrP (z := x46.Name) F_fold_Object_Name hs 0 rfl e493 FA51_0 rfl (fun ad48 hs => ?_) (hg := (wanted_of rfl rfl (bool_tr e495 hc42)).trans rfl)
  have hs := hs.add (it := pl tStr x46.Name ad48) fun ok hA => hA.get 0 rfl
  exact WL.nil ⟨rfl, _, rfl, ⟨ad48, rfl⟩, hs.cutG 1 2⟩ }
  {
  intro ρ w Γx Λx hs hu hp
  obtain ⟨⟨ad496, e497r⟩, hm498⟩ := hp 8 rfl
  have e497 : ρ 24 = .pointer (some ad496) := e497r
  rw [e497r] at hm498
  have hs := hs.memo1 (it := pl tStr x46.Name ad496) (List.mem_append.2 (.inl (hm498 _ (List.mem_of_getElem? (i := 0) rfl))))
  have e499 : ρ 20 = .bool (((x12.Objects).length : Int) == 2) := (hp 4 rfl).1
  refine WL.loadP hs 0 rfl TI9 (.inr rfl) e497 (fun v49 hs => ?_) (hg := (wanted_of rfl rfl (bool_tr e499 hc42)).trans rfl)
  obtain rfl := hs.str 0 rfl
  exact WL.nil ⟨rfl, _, rfl, rfl, hs.cutG 0 2⟩ }
  {
  intro ρ w Γx Λx hs hu hp
  have e500 : ρ 25 = bstr x46.Name := (hp 9 rfl).1
  have e501 : ρ 20 = .bool (((x12.Objects).length : Int) == 2) := (hp 4 rfl).1
  refine WL.binS (v := .bool (x46.Name == ([97] : List UInt8))) e500 rfl (sb_eql _ _) ?_ (hg := (wanted_of rfl rfl (bool_tr e501 hc42)).trans rfl)
  exact WL.nil ⟨rfl, _, rfl, rfl, hs.cutG 0 0⟩ }
  {
  intro ρ w Γx Λx hs hu hp
  have e502 : ρ 20 = .bool (((x12.Objects).length : Int) == 2) := (hp 4 rfl).1
  have e503 : ρ 26 = .bool (x46.Name == ([97] : List UInt8)) := (hp 10 rfl).1
  refine WL.pickT (v := .bool (x46.Name == ([97] : List UInt8))) (bool_tr e502 hc42) e503 ?_
  exact WL.nil ⟨rfl, _, rfl, rfl, hs.cutG 0 0⟩ }
  {
  intro ρ w Γx Λx hs hu hp
  have e504 : ρ 27 = .bool (x46.Name == ([97] : List UInt8)) := (hp 11 rfl).1
  refine WL.move (v := .bool (x46.Name == ([97] : List UInt8))) e504 ?_
  exact WL.nil ⟨rfl, _, rfl, rfl, hs.cutG 0 0⟩ }
  {
  intro ρ w Γx Λx hs hu hp
  have e505 : ρ 28 = .bool (x46.Name == ([97] : List UInt8)) := (hp 12 rfl).1
  refine WL.loadAll hs (Λx.length + 0) (getApp rfl) TI29 ((hu 3 rfl).trans e25) hl27 ?_ (hg := (wanted_of rfl rfl (bool_tr e505 hc50)).trans rfl)
  exact WL.nil ⟨rfl, _, rfl, rfl, hs.cutG 0 0⟩ }
  {
  intro ρ w Γx Λx hs hu hp
  have e506 : ρ 29 = .agg cs26.toArray := (hp 13 rfl).1
  have e507 : ρ 28 = .bool (x46.Name == ([97] : List UInt8)) := (hp 12 rfl).1
  refine WL.call (vs := [.agg cs26.toArray, bstr ([120] : List UInt8)]) hs FN27 ⟨e506, ⟨rfl, trivial⟩⟩ (fun ok hA => fold_Find.calls (x1 := x12) (x2 := ([120] : List UInt8)) hxx51 (hA.get (Γx.length + 0) (getApp rfl))) ?_ (hg := (wanted_of rfl rfl (bool_tr e507 hc50)).trans rfl)
  rintro cs52 w hs
  have hl53 := hs.agglen (n := 2) 0 rfl rfl rfl
  have hs := hs.add (it := vl t_fold_Object x51 (.agg cs52.toArray)) fun ok hA => hA.get 0 rfl
  exact WL.nil ⟨rfl, _, rfl, ⟨cs52, rfl⟩, hs.cutG 1 1⟩ }
  {
  intro ρ w Γx Λx hs hu hp
  obtain ⟨⟨cs508, e510r⟩, hm511⟩ := hp 14 rfl
  have e510 : ρ 30 = .agg cs508.toArray := e510r
  rw [e510r] at hm511
  have hs := hs.memo1 (it := vl t_fold_Object x51 (.agg cs508.toArray)) (List.mem_append.2 (.inl (hm511 _ (List.mem_of_getElem? (i := 0) rfl))))
  have hl509 := hs.agglen (n := 2) 0 rfl rfl rfl
  have e512 : ρ 28 = .bool (x46.Name == ([97] : List UInt8)) := (hp 12 rfl).1
  refine WL.call (vs := [.agg cs508.toArray, bstr ([99] : List UInt8)]) hs FN28 ⟨e510, ⟨rfl, trivial⟩⟩ (fun ok hA => fold_FieldOf.callc (x1 := x51) (x5 := ([99] : List UInt8)) hxx54 (hA.get 0 rfl)) ?_ (hg := (wanted_of rfl rfl (bool_tr e512 hc50)).trans rfl)
  rintro cs55 w hs
  have hl56 := hs.agglen (n := 12) 0 rfl rfl rfl
  have hs := hs.add (it := vl t_fold_Field x54 (.agg cs55.toArray)) fun ok hA => hA.get 0 rfl
  exact WL.nil ⟨rfl, _, rfl, ⟨cs55, rfl⟩, hs.cutG 1 2⟩ }
  {
  intro ρ w Γx Λx hs hu hp
  obtain ⟨⟨cs513, e515r⟩, hm516⟩ := hp 15 rfl
  have e515 : ρ 31 = .agg cs513.toArray := e515r
  rw [e515r] at hm516
  have hs := hs.memo1 (it := vl t_fold_Field x54 (.agg cs513.toArray)) (List.mem_append.2 (.inl (hm516 _ (List.mem_of_getElem? (i := 0) rfl))))
  have hl514 := hs.agglen (n := 12) 0 rfl rfl rfl
  have e517 : ρ 28 = .bool (x46.Name == ([97] : List UInt8)) := (hp 12 rfl).1
  refine WL.fieldV (z := x54.Sum) (l := cs513) F_fold_Field_Sum hs 0 rfl rfl e515 FV57_4 TI2 (.inr rfl) rfl (fun v57 hs => ?_) (hg := (wanted_of rfl rfl (bool_tr e517 hc50)).trans rfl)
  obtain rfl := hs.int 0 rfl
  exact WL.nil ⟨rfl, _, rfl, rfl, hs.cutG 0 2⟩ }
  {
  intro ρ w Γx Λx hs hu hp
  have e518 : ρ 32 = .int .i64 x54.Sum := (hp 16 rfl).1
  have e519 : ρ 28 = .bool (x46.Name == ([97] : List UInt8)) := (hp 12 rfl).1
  refine WL.bin (v := .bool (x54.Sum == 5)) e518 rfl (ib_eql _ _ _) ?_ (hg := (wanted_of rfl rfl (bool_tr e519 hc50)).trans rfl)
  exact WL.nil ⟨rfl, _, rfl, rfl, hs.cutG 0 0⟩ }
  {
  intro ρ w Γx Λx hs hu hp
  have e520 : ρ 28 = .bool (x46.Name == ([97] : List UInt8)) := (hp 12 rfl).1
  have e521 : ρ 33 = .bool (x54.Sum == 5) := (hp 17 rfl).1
  refine WL.pickT (v := .bool (x54.Sum == 5)) (bool_tr e520 hc50) e521 ?_
  exact WL.nil ⟨rfl, _, rfl, rfl, hs.cutG 0 0⟩ }
  {
  intro ρ w Γx Λx hs hu hp
  have e522 : ρ 34 = .bool (x54.Sum == 5) := (hp 18 rfl).1
  refine WL.move (v := .bool (x54.Sum == 5)) e522 ?_
  exact WL.nil ⟨rfl, _, rfl, rfl, hs.cutG 0 0⟩ }
  {
  intro ρ w Γx Λx hs hu hp
  have e523 : ρ 35 = .bool (x54.Sum == 5) := (hp 19 rfl).1
  refine WL.pass ((wanted_of rfl rfl (bool_tr e523 hc58)).trans rfl) rfl ?_
  exact WL.nil ⟨rfl, _, rfl, rfl, hs.cutG 0 0⟩ }
  {
  intro ρ w Γx Λx hs hu hp
  have e524 : ρ 35 = .bool (x54.Sum == 5) := (hp 19 rfl).1
  refine WL.pass ((wanted_of rfl rfl (bool_tr e524 hc58)).trans rfl) rfl ?_
  exact WL.nil ⟨rfl, _, rfl, rfl, hs.cutG 0 0⟩ }
  {
  intro ρ w Γx Λx hs hu hp
  have e525 : ρ 35 = .bool (x54.Sum == 5) := (hp 19 rfl).1
  refine WL.pass ((wanted_of rfl rfl (bool_tr e525 hc58)).trans rfl) rfl ?_
  exact WL.nil ⟨rfl, _, rfl, rfl, hs.cutG 0 0⟩ }
  {
  intro ρ w Γx Λx hs hu hp
  have e526 : ρ 37 = undef := (hp 21 rfl).1
  have e527 : ρ 38 = undef := (hp 22 rfl).1
  have e528 : ρ 35 = .bool (x54.Sum == 5) := (hp 19 rfl).1
  refine WL.pass ((wanted_of rfl rfl (bool_tr e528 hc58)).trans rfl) rfl ?_
  exact WL.nil ⟨rfl, _, rfl, rfl, hs.cutG 0 0⟩ }
  {
  intro ρ w Γx Λx hs hu hp
  have e529 : ρ 39 = undef := (hp 23 rfl).1
  have e530 : ρ 35 = .bool (x54.Sum == 5) := (hp 19 rfl).1
  refine WL.pass ((wanted_of rfl rfl (bool_tr e530 hc58)).trans rfl) rfl ?_
  exact WL.nil ⟨rfl, _, rfl, rfl, hs.cutG 0 0⟩ }
  {
  intro ρ w Γx Λx hs hu hp
  have e531 : ρ 36 = undef := (hp 20 rfl).1
  have e532 : ρ 40 = undef := (hp 24 rfl).1
  have e533 : ρ 35 = .bool (x54.Sum == 5) := (hp 19 rfl).1
  refine WL.pass ((wanted_of rfl rfl (bool_tr e533 hc58)).trans rfl) rfl ?_
  exact WL.nil ⟨rfl, _, rfl, rfl, hs.cutG 0 0⟩ }
  {
  intro ρ w Γx Λx hs hu hp
  have e534 : ρ 35 = .bool (x54.Sum == 5) := (hp 19 rfl).1
  have e535 : ρ 41 = undef := (hp 25 rfl).1
  refine WL.pickF (v := .bool false) (bool_tr e534 hc58) rfl ?_
  exact WL.nil ⟨rfl, _, rfl, rfl, hs.cutG 0 0⟩ }
  {
  intro ρ w Γx Λx hs hu hp
  have e536 : ρ 42 = .bool false := (hp 26 rfl).1
  refine WL.move (v := .bool false) e536 ?_
  exact WL.nil ⟨rfl, _, rfl, rfl, hs.cutG 0 0⟩ }
  {
  intro ρ w Γx Λx hs hu hp
  have e537 : ρ 43 = .bool false := (hp 27 rfl).1
  refine WL.pass ((wanted_of rfl rfl e537).trans rfl) rfl ?_
  exact WL.nil ⟨rfl, _, rfl, rfl, hs.cutG 0 0⟩ }
  {
  intro ρ w Γx Λx hs hu hp
  have e538 : ρ 43 = .bool false := (hp 27 rfl).1
  refine WL.pass ((wanted_of rfl rfl e538).trans rfl) rfl ?_
  exact WL.nil ⟨rfl, _, rfl, rfl, hs.cutG 0 0⟩ }
  {
  intro ρ w Γx Λx hs hu hp
  have e539 : ρ 44 = undef := (hp 28 rfl).1
  have e540 : ρ 45 = undef := (hp 29 rfl).1
  have e541 : ρ 43 = .bool false := (hp 27 rfl).1
  refine WL.pass ((wanted_of rfl rfl e541).trans rfl) rfl ?_
  exact WL.nil ⟨rfl, _, rfl, rfl, hs.cutG 0 0⟩ }
  {
  intro ρ w Γx Λx hs hu hp
  have e542 : ρ 46 = undef := (hp 30 rfl).1
  have e543 : ρ 43 = .bool false := (hp 27 rfl).1
  refine WL.pass ((wanted_of rfl rfl e543).trans rfl) rfl ?_
  exact WL.nil ⟨rfl, _, rfl, rfl, hs.cutG 0 0⟩ }
  {
  intro ρ w Γx Λx hs hu hp
  have e544 : ρ 43 = .bool false := (hp 27 rfl).1
  have e545 : ρ 47 = undef := (hp 31 rfl).1
  refine WL.pickF (v := .bool false) e544 rfl ?_
  exact WL.nil ⟨rfl, _, rfl, rfl, hs.cutG 0 0⟩ }
  {
  intro ρ w Γx Λx hs hu hp
  have e546 : ρ 48 = .bool false := (hp 32 rfl).1
  refine WL.move (v := .bool false) e546 ?_
  exact WL.nil ⟨rfl, _, rfl, rfl, hs.cutG 0 0⟩ }
  {
  intro ρ w Γx Λx hs hu hp
  have e547 : ρ 49 = .bool false := (hp 33 rfl).1
  refine WL.pass ((wanted_of rfl rfl e547).trans rfl) rfl ?_
  exact WL.nil ⟨rfl, _, rfl, rfl, hs.cutG 0 0⟩ }
  {
  intro ρ w Γx Λx hs hu hp
  have e548 : ρ 50 = undef := (hp 34 rfl).1
  have e549 : ρ 49 = .bool false := (hp 33 rfl).1
  refine WL.pass ((wanted_of rfl rfl e549).trans rfl) rfl ?_
  exact WL.nil ⟨rfl, _, rfl, rfl, hs.cutG 0 0⟩ }
  {
  intro ρ w Γx Λx hs hu hp
  have e550 : ρ 51 = undef := (hp 35 rfl).1
  have e551 : ρ 49 = .bool false := (hp 33 rfl).1
  refine WL.pass ((wanted_of rfl rfl e551).trans rfl) rfl ?_
  exact WL.nil ⟨rfl, _, rfl, rfl, hs.cutG 0 0⟩ }
  {
  intro ρ w Γx Λx hs hu hp
  have e552 : ρ 49 = .bool false := (hp 33 rfl).1
  have e553 : ρ 52 = undef := (hp 36 rfl).1
  refine WL.pickF (v := .bool false) e552 rfl ?_
  exact WL.nil ⟨rfl, _, rfl, rfl, hs.cutG 0 0⟩ }
  {
  intro ρ w hs hu554 hp
  obtain ⟨⟨⟨⟨⟨⟨⟨⟨⟨⟨⟨⟨⟨⟨⟨⟨⟨⟨⟨⟨⟨⟨⟨⟨⟨⟨⟨⟨⟨⟨⟨⟨⟨⟨⟨⟨⟨⟨_, hp0_⟩, hp1_⟩, hp2_⟩, hp3_⟩, hp4_⟩, hp5_⟩, hp6_⟩, hp7_⟩, hp8_⟩, hp9_⟩, hp10_⟩, hp11_⟩, hp12_⟩, hp13_⟩, hp14_⟩, hp15_⟩, hp16_⟩, hp17_⟩, hp18_⟩, hp19_⟩, hp20_⟩, hp21_⟩, hp22_⟩, hp23_⟩, hp24_⟩, hp25_⟩, hp26_⟩, hp27_⟩, hp28_⟩, hp29_⟩, hp30_⟩, hp31_⟩, hp32_⟩, hp33_⟩, hp34_⟩, hp35_⟩, hp36_⟩, hp37_⟩ := hp
  have hs : St ok (bz w0) w [vl t_fold_Field x54 (ρ 31), vl t_fold_Object x51 (ρ 30), pl tStr x46.Name (adOf (ρ 24)), pl t_fold_Object x46 (adOf (ρ 23)), vl (tSlice t_fold_Object) x12.Objects (ρ 22), vl (tSlice t_fold_Object) x12.Objects (ρ 17), vl t_fold_Store x12 (.agg cs26.toArray), vl t_fold_Store x9 (.agg cs30.toArray), vl (tSlice t_api_Effect) ([(⟨3, ([120] : List UInt8), ([99] : List UInt8), 2, []⟩ : api_Effect)]) (.slice (some ⟨g3, 0, none⟩) ([(⟨3, ([120] : List UInt8), ([99] : List UInt8), 2, []⟩ : api_Effect)]).length 1), vl (tSlice t_api_Effect) ([(⟨3, ([120] : List UInt8), ([99] : List UInt8), 3, []⟩ : api_Effect), (⟨4, ([97] : List UInt8), ([115] : List UInt8), 0, ([113] : List UInt8)⟩ : api_Effect)]) (.slice (some ⟨g6, 0, none⟩) ([(⟨3, ([120] : List UInt8), ([99] : List UInt8), 3, []⟩ : api_Effect), (⟨4, ([97] : List UInt8), ([115] : List UInt8), 0, ([113] : List UInt8)⟩ : api_Effect)]).length 2)] [blk g24 29 cs26, blk g7 41 ([.int .i64 102, .int .i64 1, .int .i64 0, .slice (some ⟨g6, 0, none⟩) ([(⟨3, ([120] : List UInt8), ([99] : List UInt8), 3, []⟩ : api_Effect), (⟨4, ([97] : List UInt8), ([115] : List UInt8), 0, ([113] : List UInt8)⟩ : api_Effect)]).length 2]), blk g4 41 ([.int .i64 101, .int .i64 1, .int .i64 0, .slice (some ⟨g3, 0, none⟩) ([(⟨3, ([120] : List UInt8), ([99] : List UInt8), 2, []⟩ : api_Effect)]).length 1])] := hs
  have e555 : ρ 53 = .bool false := hp37_
  have e556 : ρ 52 = undef := hp36_
  have e557 : ρ 51 = undef := hp35_
  have e558 : ρ 50 = undef := hp34_
  have e559 : ρ 49 = .bool false := hp33_
  have e560 : ρ 48 = .bool false := hp32_
  have e561 : ρ 47 = undef := hp31_
  have e562 : ρ 46 = undef := hp30_
  have e563 : ρ 45 = undef := hp29_
  have e564 : ρ 44 = undef := hp28_
  have e565 : ρ 43 = .bool false := hp27_
  have e566 : ρ 42 = .bool false := hp26_
  have e567 : ρ 41 = undef := hp25_
  have e568 : ρ 40 = undef := hp24_
  have e569 : ρ 39 = undef := hp23_
  have e570 : ρ 38 = undef := hp22_
  have e571 : ρ 37 = undef := hp21_
  have e572 : ρ 36 = undef := hp20_
  have e573 : ρ 35 = .bool (x54.Sum == 5) := hp19_
  have e574 : ρ 34 = .bool (x54.Sum == 5) := hp18_
  have e575 : ρ 33 = .bool (x54.Sum == 5) := hp17_
  have e576 : ρ 32 = .int .i64 x54.Sum := hp16_
  obtain ⟨cs577, e579⟩ := hp15_
  have e579 : ρ 31 = .agg cs577.toArray := e579
  try rw [e579] at hs
  obtain ⟨cs580, e582⟩ := hp14_
  have e582 : ρ 30 = .agg cs580.toArray := e582
  try rw [e582] at hs
  have e583 : ρ 29 = .agg cs26.toArray := hp13_
  have e584 : ρ 28 = .bool (x46.Name == ([97] : List UInt8)) := hp12_
  have e585 : ρ 27 = .bool (x46.Name == ([97] : List UInt8)) := hp11_
  have e586 : ρ 26 = .bool (x46.Name == ([97] : List UInt8)) := hp10_
  have e587 : ρ 25 = bstr x46.Name := hp9_
  obtain ⟨ad588, e589⟩ := hp8_
  have e589 : ρ 24 = .pointer (some ad588) := e589
  try rw [e589] at hs
  obtain ⟨ad590, e591⟩ := hp7_
  have e591 : ρ 23 = .pointer (some ad590) := e591
  try rw [e591] at hs
  obtain ⟨⟨a592, c593⟩, e594⟩ := hp6_
  have e594 : ρ 22 = .slice a592 (x12.Objects).length c593 := e594
  try rw [e594] at hs
  have e595 : ρ 21 = .pointer (some ⟨g24, 0, none⟩) := hp5_
  have e596 : ρ 20 = .bool (((x12.Objects).length : Int) == 2) := hp4_
  have e597 : ρ 19 = .bool (((x12.Objects).length : Int) == 2) := hp3_
  have e598 : ρ 18 = .int .i64 ((x12.Objects).length : Int) := hp2_
  obtain ⟨⟨a599, c600⟩, e601⟩ := hp1_
  have e601 : ρ 17 = .slice a599 (x12.Objects).length c600 := e601
  try rw [e601] at hs
  have e602 : ρ 16 = .pointer (some ⟨g24, 0, none⟩) := hp0_
  have hl581 := hs.agglen (n := 2) 1 rfl rfl rfl
  have hl578 := hs.agglen (n := 12) 0 rfl rfl rfl
  refine WA.step [38] (by kernel_rfl) (by simp) ⟨?_, trivial⟩
  refine WL.assign (v := .bool false) e555 ?_
  refine WL.nil ⟨rfl, _, rfl, ?_⟩
  refine WA.done (by kernel_rfl) ?_
  exact Jk38 false _ _ rfl ((hs.mask []).pick []) hf } } }
  {
  refine W.any (by kernel_rfl) 38 1 [true, true, true, true, true, true, true, true, true, true, true, true, true, true, true, true, true, true, true, true, true, true, true, true, true, true, true, true, true, true, true, true, true, true, true, true, true, true, false] rfl rfl (poAt [pv (.pointer (some ⟨g24, 0, none⟩)), pq (fun y : (Option Addr × Nat) => .slice y.1 (x12.Objects).length y.2) (fun v => [vl (tSlice t_fold_Object) x12.Objects v]) (fun v => []), pv (.int .i64 ((x12.Objects).length : Int)), pv (.bool (((x12.Objects).length : Int) == 2)), pv (.bool (((x12.Objects).length : Int) == 2)), pv (.pointer (some ⟨g24, 0, none⟩)), pq (fun y : (Option Addr × Nat) => .slice y.1 (x12.Objects).length y.2) (fun v => [vl (tSlice t_fold_Object) x12.Objects v]) (fun v => []), pq (fun y : Addr => .pointer (some y)) (fun v => [pl t_fold_Object x46 (adOf v)]) (fun v => []), pq (fun y : Addr => .pointer (some y)) (fun v => [pl tStr x46.Name (adOf v)]) (fun v => []), pv (bstr x46.Name), pv (.bool (x46.Name == ([97] : List UInt8))), pv (.bool (x46.Name == ([97] : List UInt8))), pv (.bool (x46.Name == ([97] : List UInt8))), pv (undef), pv (undef), pv (undef), pv (undef), pv (undef), pv (.bool false), pv (.bool false), pv (undef), pv (undef), pv (undef), pv (undef), pv (undef), pv (undef), pv (.bool false), pv (.bool false), pv (undef), pv (undef), pv (undef), pv (undef), pv (.bool false), pv (.bool false), pv (undef), pv (undef), pv (undef), pv (.bool false)]) (Λ := [blk g24 29 cs26, blk g7 41 ([.int .i64 102, .int .i64 1, .int .i64 0, .slice (some ⟨g6, 0, none⟩) ([(⟨3, ([120] : List UInt8), ([99] : List UInt8), 3, []⟩ : api_Effect), (⟨4, ([97] : List UInt8), ([115] : List UInt8), 0, ([113] : List UInt8)⟩ : api_Effect)]).length 2]), blk g4 41 ([.int .i64 101, .int .i64 1, .int .i64 0, .slice (some ⟨g3, 0, none⟩) ([(⟨3, ([120] : List UInt8), ([99] : List UInt8), 2, []⟩ : api_Effect)]).length 1])]) hs (by kernel_rfl) (by kernel_rfl) (by kernel_rfl) ⟨⟨⟨⟨⟨⟨⟨⟨⟨⟨⟨⟨⟨⟨⟨⟨⟨⟨⟨⟨⟨⟨⟨⟨⟨⟨⟨⟨⟨⟨⟨⟨⟨⟨⟨⟨⟨⟨trivial, ?_⟩, ?_⟩, ?_⟩, ?_⟩, ?_⟩, ?_⟩, ?_⟩, ?_⟩, ?_⟩, ?_⟩, ?_⟩, ?_⟩, ?_⟩, ?_⟩, ?_⟩, ?_⟩, ?_⟩, ?_⟩, ?_⟩, ?_⟩, ?_⟩, ?_⟩, ?_⟩, ?_⟩, ?_⟩, ?_⟩, ?_⟩, ?_⟩, ?_⟩, ?_⟩, ?_⟩, ?_⟩, ?_⟩, ?_⟩, ?_⟩, ?_⟩, ?_⟩, ?_⟩ ?_
  {
  intro ρ w Γx Λx hs hu hp
  refine WL.fieldAddr (m := 0) ((hu 3 rfl).trans e25) FA29_0 rfl ?_
  exact WL.nil ⟨rfl, _, rfl, rfl, hs.cutG 0 0⟩ }
  {
  intro ρ w Γx Λx hs hu hp
  have e603 : ρ 16 = .pointer (some ⟨g24, 0, none⟩) := (hp 0 rfl).1
  refine WL.loadF (z := x12.Objects) F_fold_Store_Objects hs (Λx.length + 0) (getApp rfl) (Γx.length + 0) (getApp rfl) rfl TI27 (.inr rfl) e603 rfl (fun v39 hs => ?_)
  obtain ⟨a40, c41, rfl⟩ := hs.slice 0 rfl
  have hs := hs.add (it := vl (tSlice t_fold_Object) x12.Objects (.slice a40 (x12.Objects).length c41)) fun ok hA => hA.get 0 rfl
  exact WL.nil ⟨rfl, _, rfl, ⟨(a40, c41), rfl⟩, hs.cutG 1 1⟩ }
  {
  intro ρ w Γx Λx hs hu hp
  obtain ⟨⟨⟨a604, c605⟩, e606r⟩, hm607⟩ := hp 1 rfl
  have e606 : ρ 17 = .slice a604 (x12.Objects).length c605 := e606r
  rw [e606r] at hm607
  have hs := hs.memo1 (it := vl (tSlice t_fold_Object) x12.Objects (.slice a604 (x12.Objects).length c605)) (List.mem_append.2 (.inl (hm607 _ (List.mem_of_getElem? (i := 0) rfl))))
  refine WL.len (v := .slice a604 (x12.Objects).length c605) e606 (len_slice UN27) ?_
  exact WL.nil ⟨rfl, _, rfl, rfl, hs.cutG 0 1⟩ }
  {
  intro ρ w Γx Λx hs hu hp
  have e608 : ρ 18 = .int .i64 ((x12.Objects).length : Int) := (hp 2 rfl).1
  refine WL.bin (v := .bool (((x12.Objects).length : Int) == 2)) e608 rfl (ib_eql _ _ _) ?_
  exact WL.nil ⟨rfl, _, rfl, rfl, hs.cutG 0 0⟩ }
  {
  intro ρ w Γx Λx hs hu hp
  have e609 : ρ 19 = .bool (((x12.Objects).length : Int) == 2) := (hp 3 rfl).1
  refine WL.move (v := .bool (((x12.Objects).length : Int) == 2)) e609 ?_
  exact WL.nil ⟨rfl, _, rfl, rfl, hs.cutG 0 0⟩ }
  {
  intro ρ w Γx Λx hs hu hp
  have e610 : ρ 20 = .bool (((x12.Objects).length : Int) == 2) := (hp 4 rfl).1
  refine WL.fieldAddr (m := 0) ((hu 3 rfl).trans e25) FA29_0 rfl ?_ (hg := (wanted_of rfl rfl (bool_tr e610 hc42)).trans rfl)
  exact WL.nil ⟨rfl, _, rfl, rfl, hs.cutG 0 0⟩ }
  {
  intro ρ w Γx Λx hs hu hp
  have e611 : ρ 21 = .pointer (some ⟨g24, 0, none⟩) := (hp 5 rfl).1
  have e612 : ρ 20 = .bool (((x12.Objects).length : Int) == 2) := (hp 4 rfl).1
  refine WL.loadF (z := x12.Objects) F_fold_Store_Objects hs (Λx.length + 0) (getApp rfl) (Γx.length + 0) (getApp rfl) rfl TI27 (.inr rfl) e611 rfl (fun v43 hs => ?_) (hg := (wanted_of rfl rfl (bool_tr e612 hc42)).trans rfl)
  obtain ⟨a44, c45, rfl⟩ := hs.slice 0 rfl
  have hs := hs.add (it := vl (tSlice t_fold_Object) x12.Objects (.slice a44 (x12.Objects).length c45)) fun ok hA => hA.get 0 rfl
  exact WL.nil ⟨rfl, _, rfl, ⟨(a44, c45), rfl⟩, hs.cutG 1 1⟩ }
  {
  intro ρ w Γx Λx hs hu hp
  obtain ⟨⟨⟨a613, c614⟩, e615r⟩, hm616⟩ := hp 6 rfl
  have e615 : ρ 22 = .slice a613 (x12.Objects).length c614 := e615r
  rw [e615r] at hm616
  have hs := hs.memo1 (it := vl (tSlice t_fold_Object) x12.Objects (.slice a613 (x12.Objects).length c614)) (List.mem_append.2 (.inl (hm616 _ (List.mem_of_getElem? (i := 0) rfl))))
  have e617 : ρ 20 = .bool (((x12.Objects).length : Int) == 2) := (hp 4 rfl).1
  refine WL.indexAddr hs 0 rfl UN27 TI51 e615 rfl hxx46 (fun ad47 hs => ?_) (hg := (wanted_of rfl rfl (bool_tr e617 hc42)).trans rfl)
  have hs := hs.add (it := pl t_fold_Object x46 ad47) fun ok hA => hA.get 0 rfl
  exact WL.nil ⟨rfl, _, rfl, ⟨ad47, rfl⟩, hs.cutG 1 2⟩ }
  {
  intro ρ w Γx Λx hs hu hp
  obtain ⟨⟨ad618, e619r⟩, hm620⟩ := hp 7 rfl
  have e619 : ρ 23 = .pointer (some ad618) := e619r
  rw [e619r] at hm620
  have hs := hs.memo1 (it := pl t_fold_Object x46 ad618) (List.mem_append.2 (.inl (hm620 _ (List.mem_of_getElem? (i := 0) rfl))))
  have e621 : ρ 20 = .bool (((x12.Objects).length : Int) == 2) := (hp 4 rfl).1
  refine WL.fieldAddrP (z := x46.Name) F_fold_Object_Name hs 0 rfl e619 FA51_0 rfl (fun ad48 hs => ?_) (hg := (wanted_of rfl rfl (bool_tr e621 hc42)).trans rfl)
  have hs := hs.add (it := pl tStr x46.Name ad48) fun ok hA => hA.get 0 rfl
  exact WL.nil ⟨rfl, _, rfl, ⟨ad48, rfl⟩, hs.cutG 1 2⟩ }
  {
  intro ρ w Γx Λx hs hu hp
  obtain ⟨⟨ad622, e623r⟩, hm624⟩ := hp 8 rfl
  have e623 : ρ 24 = .pointer (some ad622) := e623r
  rw [e623r] at hm624
  have hs := hs.memo1 (it := pl tStr x46.Name ad622) (List.mem_append.2 (.inl (hm624 _ (List.mem_of_getElem? (i := 0) rfl))))
  have e625 : ρ 20 = .bool (((x12.Objects).length : Int) == 2) := (hp 4 rfl).1
  refine WL.loadP hs 0 rfl TI9 (.inr rfl) e623 (fun v49 hs => ?_) (hg := (wanted_of rfl rfl (bool_tr e625 hc42)).trans rfl)
  obtain rfl := hs.str 0 rfl
  exact WL.nil ⟨rfl, _, rfl, rfl, hs.cutG 0 2⟩ }
  {
  intro ρ w Γx Λx hs hu hp
  have e626 : ρ 25 = bstr x46.Name := (hp 9 rfl).1
  have e627 : ρ 20 = .bool (((x12.Objects).length : Int) == 2) := (hp 4 rfl).1
  refine WL.binS (v := .bool (x46.Name == ([97] : List UInt8))) e626 rfl (sb_eql _ _) ?_ (hg := (wanted_of rfl rfl (bool_tr e627 hc42)).trans rfl)
  exact WL.nil ⟨rfl, _, rfl, rfl, hs.cutG 0 0⟩ }
  {
  intro ρ w Γx Λx hs hu hp
  have e628 : ρ 20 = .bool (((x12.Objects).length : Int) == 2) := (hp 4 rfl).1
  have e629 : ρ 26 = .bool (x46.Name == ([97] : List UInt8)) := (hp 10 rfl).1
  refine WL.pickT (v := .bool (x46.Name == ([97] : List UInt8))) (bool_tr e628 hc42) e629 ?_
  exact WL.nil ⟨rfl, _, rfl, rfl, hs.cutG 0 0⟩ }
  {
  intro ρ w Γx Λx hs hu hp
  have e630 : ρ 27 = .bool (x46.Name == ([97] : List UInt8)) := (hp 11 rfl).1
  refine WL.move (v := .bool (x46.Name == ([97] : List UInt8))) e630 ?_
  exact WL.nil ⟨rfl, _, rfl, rfl, hs.cutG 0 0⟩ }
  {
  intro ρ w Γx Λx hs hu hp
  have e631 : ρ 28 = .bool (x46.Name == ([97] : List UInt8)) := (hp 12 rfl).1
  refine WL.pass ((wanted_of rfl rfl (bool_tr e631 hc50)).trans rfl) rfl ?_
  exact WL.nil ⟨rfl, _, rfl, rfl, hs.cutG 0 0⟩ }
  {
  intro ρ w Γx Λx hs hu hp
  have e632 : ρ 29 = undef := (hp 13 rfl).1
  have e633 : ρ 28 = .bool (x46.Name == ([97] : List UInt8)) := (hp 12 rfl).1
  refine WL.pass ((wanted_of rfl rfl (bool_tr e633 hc50)).trans rfl) rfl ?_
  exact WL.nil ⟨rfl, _, rfl, rfl, hs.cutG 0 0⟩ }
  {
  intro ρ w Γx Λx hs hu hp
  have e634 : ρ 30 = undef := (hp 14 rfl).1
  have e635 : ρ 28 = .bool (x46.Name == ([97] : List UInt8)) := (hp 12 rfl).1
  refine WL.pass ((wanted_of rfl rfl (bool_tr e635 hc50)).trans rfl) rfl ?_
  exact WL.nil ⟨rfl, _, rfl, rfl, hs.cutG 0 0⟩ }
  {
  intro ρ w Γx Λx hs hu hp
  have e636 : ρ 31 = undef := (hp 15 rfl).1
  have e637 : ρ 28 = .bool (x46.Name == ([97] : List UInt8)) := (hp 12 rfl).1
  refine WL.pass ((wanted_of rfl rfl (bool_tr e637 hc50)).trans rfl) rfl ?_
  exact WL.nil ⟨rfl, _, rfl, rfl, hs.cutG 0 0⟩ }
  {
  intro ρ w Γx Λx hs hu hp
  have e638 : ρ 32 = undef := (hp 16 rfl).1
  have e639 : ρ 28 = .bool (x46.Name == ([97] : List UInt8)) := (hp 12 rfl).1
  refine WL.pass ((wanted_of rfl rfl (bool_tr e639 hc50)).trans rfl) rfl ?_
  exact WL.nil ⟨rfl, _, rfl, rfl, hs.cutG 0 0⟩ }
  {
  intro ρ w Γx Λx hs hu hp
  have e640 : ρ 28 = .bool (x46.Name == ([97] : List UInt8)) := (hp 12 rfl).1
  have e641 : ρ 33 = undef := (hp 17 rfl).1
  refine WL.pickF (v := .bool false) (bool_tr e640 hc50) rfl ?_
  exact WL.nil ⟨rfl, _, rfl, rfl, hs.cutG 0 0⟩ }
  {
  intro ρ w Γx Λx hs hu hp
  have e642 : ρ 34 = .bool false := (hp 18 rfl).1
  refine WL.move (v := .bool false) e642 ?_
  exact WL.nil ⟨rfl, _, rfl, rfl, hs.cutG 0 0⟩ }
  {
  intro ρ w Γx Λx hs hu hp
  have e643 : ρ 35 = .bool false := (hp 19 rfl).1
  refine WL.pass ((wanted_of rfl rfl e643).trans rfl) rfl ?_
  exact WL.nil ⟨rfl, _, rfl, rfl, hs.cutG 0 0⟩ }
  {
  intro ρ w Γx Λx hs hu hp
  have e644 : ρ 35 = .bool false := (hp 19 rfl).1
  refine WL.pass ((wanted_of rfl rfl e644).trans rfl) rfl ?_
  exact WL.nil ⟨rfl, _, rfl, rfl, hs.cutG 0 0⟩ }
  {
  intro ρ w Γx Λx hs hu hp
  have e645 : ρ 35 = .bool false := (hp 19 rfl).1
  refine WL.pass ((wanted_of rfl rfl e645).trans rfl) rfl ?_
  exact WL.nil ⟨rfl, _, rfl, rfl, hs.cutG 0 0⟩ }
  {
  intro ρ w Γx Λx hs hu hp
  have e646 : ρ 37 = undef := (hp 21 rfl).1
  have e647 : ρ 38 = undef := (hp 22 rfl).1
  have e648 : ρ 35 = .bool false := (hp 19 rfl).1
  refine WL.pass ((wanted_of rfl rfl e648).trans rfl) rfl ?_
  exact WL.nil ⟨rfl, _, rfl, rfl, hs.cutG 0 0⟩ }
  {
  intro ρ w Γx Λx hs hu hp
  have e649 : ρ 39 = undef := (hp 23 rfl).1
  have e650 : ρ 35 = .bool false := (hp 19 rfl).1
  refine WL.pass ((wanted_of rfl rfl e650).trans rfl) rfl ?_
  exact WL.nil ⟨rfl, _, rfl, rfl, hs.cutG 0 0⟩ }
  {
  intro ρ w Γx Λx hs hu hp
  have e651 : ρ 36 = undef := (hp 20 rfl).1
  have e652 : ρ 40 = undef := (hp 24 rfl).1
  have e653 : ρ 35 = .bool false := (hp 19 rfl).1
  refine WL.pass ((wanted_of rfl rfl e653).trans rfl) rfl ?_
  exact WL.nil ⟨rfl, _, rfl, rfl, hs.cutG 0 0⟩ }
  {
  intro ρ w Γx Λx hs hu hp
  have e654 : ρ 35 = .bool false := (hp 19 rfl).1
  have e655 : ρ 41 = undef := (hp 25 rfl).1
  refine WL.pickF (v := .bool false) e654 rfl ?_
  exact WL.nil ⟨rfl, _, rfl, rfl, hs.cutG 0 0⟩ }
  {
  intro ρ w Γx Λx hs hu hp
  have e656 : ρ 42 = .bool false := (hp 26 rfl).1
  refine WL.move (v := .bool false) e656 ?_
  exact WL.nil ⟨rfl, _, rfl, rfl, hs.cutG 0 0⟩ }
  {
  intro ρ w Γx Λx hs hu hp
  have e657 : ρ 43 = .bool false := (hp 27 rfl).1
  refine WL.pass ((wanted_of rfl rfl e657).trans rfl) rfl ?_
  exact WL.nil ⟨rfl, _, rfl, rfl, hs.cutG 0 0⟩ }
  {
  intro ρ w Γx Λx hs hu hp
  have e658 : ρ 43 = .bool false := (hp 27 rfl).1
  refine WL.pass ((wanted_of rfl rfl e658).trans rfl) rfl ?_
  exact WL.nil ⟨rfl, _, rfl, rfl, hs.cutG 0 0⟩ }
  {
  intro ρ w Γx Λx hs hu hp
  have e659 : ρ 44 = undef := (hp 28 rfl).1
  have e660 : ρ 45 = undef := (hp 29 rfl).1
  have e661 : ρ 43 = .bool false := (hp 27 rfl).1
  refine WL.pass ((wanted_of rfl rfl e661).trans rfl) rfl ?_
  exact WL.nil ⟨rfl, _, rfl, rfl, hs.cutG 0 0⟩ }
  {
  intro ρ w Γx Λx hs hu hp
  have e662 : ρ 46 = undef := (hp 30 rfl).1
  have e663 : ρ 43 = .bool false := (hp 27 rfl).1
  refine WL.pass ((wanted_of rfl rfl e663).trans rfl) rfl ?_
  exact WL.nil ⟨rfl, _, rfl, rfl, hs.cutG 0 0⟩ }
  {
  intro ρ w Γx Λx hs hu hp
  have e664 : ρ 43 = .bool false := (hp 27 rfl).1
  have e665 : ρ 47 = undef := (hp 31 rfl).1
  refine WL.pickF (v := .bool false) e664 rfl ?_
  exact WL.nil ⟨rfl, _, rfl, rfl, hs.cutG 0 0⟩ }
  {
  intro ρ w Γx Λx hs hu hp
  have e666 : ρ 48 = .bool false := (hp 32 rfl).1
  refine WL.move (v := .bool false) e666 ?_
  exact WL.nil ⟨rfl, _, rfl, rfl, hs.cutG 0 0⟩ }
  {
  intro ρ w Γx Λx hs hu hp
  have e667 : ρ 49 = .bool false := (hp 33 rfl).1
  refine WL.pass ((wanted_of rfl rfl e667).trans rfl) rfl ?_
  exact WL.nil ⟨rfl, _, rfl, rfl, hs.cutG 0 0⟩ }
  {
  intro ρ w Γx Λx hs hu hp
  have e668 : ρ 50 = undef := (hp 34 rfl).1
  have e669 : ρ 49 = .bool false := (hp 33 rfl).1
  refine WL.pass ((wanted_of rfl rfl e669).trans rfl) rfl ?_
  exact WL.nil ⟨rfl, _, rfl, rfl, hs.cutG 0 0⟩ }
  {
  intro ρ w Γx Λx hs hu hp
  have e670 : ρ 51 = undef := (hp 35 rfl).1
  have e671 : ρ 49 = .bool false := (hp 33 rfl).1
  refine WL.pass ((wanted_of rfl rfl e671).trans rfl) rfl ?_
  exact WL.nil ⟨rfl, _, rfl, rfl, hs.cutG 0 0⟩ }
  {
  intro ρ w Γx Λx hs hu hp
  have e672 : ρ 49 = .bool false := (hp 33 rfl).1
  have e673 : ρ 52 = undef := (hp 36 rfl).1
  refine WL.pickF (v := .bool false) e672 rfl ?_
  exact WL.nil ⟨rfl, _, rfl, rfl, hs.cutG 0 0⟩ }
  {
  intro ρ w hs hu674 hp
  obtain ⟨⟨⟨⟨⟨⟨⟨⟨⟨⟨⟨⟨⟨⟨⟨⟨⟨⟨⟨⟨⟨⟨⟨⟨⟨⟨⟨⟨⟨⟨⟨⟨⟨⟨⟨⟨⟨⟨_, hp0_⟩, hp1_⟩, hp2_⟩, hp3_⟩, hp4_⟩, hp5_⟩, hp6_⟩, hp7_⟩, hp8_⟩, hp9_⟩, hp10_⟩, hp11_⟩, hp12_⟩, hp13_⟩, hp14_⟩, hp15_⟩, hp16_⟩, hp17_⟩, hp18_⟩, hp19_⟩, hp20_⟩, hp21_⟩, hp22_⟩, hp23_⟩, hp24_⟩, hp25_⟩, hp26_⟩, hp27_⟩, hp28_⟩, hp29_⟩, hp30_⟩, hp31_⟩, hp32_⟩, hp33_⟩, hp34_⟩, hp35_⟩, hp36_⟩, hp37_⟩ := hp
  have hs : St ok (bz w0) w [pl tStr x46.Name (adOf (ρ 24)), pl t_fold_Object x46 (adOf (ρ 23)), vl (tSlice t_fold_Object) x12.Objects (ρ 22), vl (tSlice t_fold_Object) x12.Objects (ρ 17), vl t_fold_Store x12 (.agg cs26.toArray), vl t_fold_Store x9 (.agg cs30.toArray), vl (tSlice t_api_Effect) ([(⟨3, ([120] : List UInt8), ([99] : List UInt8), 2, []⟩ : api_Effect)]) (.slice (some ⟨g3, 0, none⟩) ([(⟨3, ([120] : List UInt8), ([99] : List UInt8), 2, []⟩ : api_Effect)]).length 1), vl (tSlice t_api_Effect) ([(⟨3, ([120] : List UInt8), ([99] : List UInt8), 3, []⟩ : api_Effect), (⟨4, ([97] : List UInt8), ([115] : List UInt8), 0, ([113] : List UInt8)⟩ : api_Effect)]) (.slice (some ⟨g6, 0, none⟩) ([(⟨3, ([120] : List UInt8), ([99] : List UInt8), 3, []⟩ : api_Effect), (⟨4, ([97] : List UInt8), ([115] : List UInt8), 0, ([113] : List UInt8)⟩ : api_Effect)]).length 2)] [blk g24 29 cs26, blk g7 41 ([.int .i64 102, .int .i64 1, .int .i64 0, .slice (some ⟨g6, 0, none⟩) ([(⟨3, ([120] : List UInt8), ([99] : List UInt8), 3, []⟩ : api_Effect), (⟨4, ([97] : List UInt8), ([115] : List UInt8), 0, ([113] : List UInt8)⟩ : api_Effect)]).length 2]), blk g4 41 ([.int .i64 101, .int .i64 1, .int .i64 0, .slice (some ⟨g3, 0, none⟩) ([(⟨3, ([120] : List UInt8), ([99] : List UInt8), 2, []⟩ : api_Effect)]).length 1])] := hs
  have e675 : ρ 53 = .bool false := hp37_
  have e676 : ρ 52 = undef := hp36_
  have e677 : ρ 51 = undef := hp35_
  have e678 : ρ 50 = undef := hp34_
  have e679 : ρ 49 = .bool false := hp33_
  have e680 : ρ 48 = .bool false := hp32_
  have e681 : ρ 47 = undef := hp31_
  have e682 : ρ 46 = undef := hp30_
  have e683 : ρ 45 = undef := hp29_
  have e684 : ρ 44 = undef := hp28_
  have e685 : ρ 43 = .bool false := hp27_
  have e686 : ρ 42 = .bool false := hp26_
  have e687 : ρ 41 = undef := hp25_
  have e688 : ρ 40 = undef := hp24_
  have e689 : ρ 39 = undef := hp23_
  have e690 : ρ 38 = undef := hp22_
  have e691 : ρ 37 = undef := hp21_
  have e692 : ρ 36 = undef := hp20_
  have e693 : ρ 35 = .bool false := hp19_
  have e694 : ρ 34 = .bool false := hp18_
  have e695 : ρ 33 = undef := hp17_
  have e696 : ρ 32 = undef := hp16_
  have e697 : ρ 31 = undef := hp15_
  have e698 : ρ 30 = undef := hp14_
  have e699 : ρ 29 = undef := hp13_
  have e700 : ρ 28 = .bool (x46.Name == ([97] : List UInt8)) := hp12_
  have e701 : ρ 27 = .bool (x46.Name == ([97] : List UInt8)) := hp11_
  have e702 : ρ 26 = .bool (x46.Name == ([97] : List UInt8)) := hp10_
  have e703 : ρ 25 = bstr x46.Name := hp9_
  obtain ⟨ad704, e705⟩ := hp8_
  have e705 : ρ 24 = .pointer (some ad704) := e705
  try rw [e705] at hs
  obtain ⟨ad706, e707⟩ := hp7_
  have e707 : ρ 23 = .pointer (some ad706) := e707
  try rw [e707] at hs
  obtain ⟨⟨a708, c709⟩, e710⟩ := hp6_
  have e710 : ρ 22 = .slice a708 (x12.Objects).length c709 := e710
  try rw [e710] at hs
  have e711 : ρ 21 = .pointer (some ⟨g24, 0, none⟩) := hp5_
  have e712 : ρ 20 = .bool (((x12.Objects).length : Int) == 2) := hp4_
  have e713 : ρ 19 = .bool (((x12.Objects).length : Int) == 2) := hp3_
  have e714 : ρ 18 = .int .i64 ((x12.Objects).length : Int) := hp2_
  obtain ⟨⟨a715, c716⟩, e717⟩ := hp1_
  have e717 : ρ 17 = .slice a715 (x12.Objects).length c716 := e717
  try rw [e717] at hs
  have e718 : ρ 16 = .pointer (some ⟨g24, 0, none⟩) := hp0_
  refine WA.step [38] (by kernel_rfl) (by simp) ⟨?_, trivial⟩
  refine WL.assign (v := .bool false) e675 ?_
  refine WL.nil ⟨rfl, _, rfl, ?_⟩
  refine WA.done (by kernel_rfl) ?_
  exact Jk38 false _ _ rfl ((hs.mask []).pick []) hf } } }
  {
  refine W.any (by kernel_rfl) 38 1 [true, true, true, true, true, true, true, true, true, true, true, true, true, true, true, true, true, true, true, true, true, true, true, true, true, true, true, true, true, true, true, true, true, true, true, true, true, true, false] rfl rfl (poAt [pv (.pointer (some ⟨g24, 0, none⟩)), pq (fun y : (Option Addr × Nat) => .slice y.1 (x12.Objects).length y.2) (fun v => [vl (tSlice t_fold_Object) x12.Objects v]) (fun v => []), pv (.int .i64 ((x12.Objects).length : Int)), pv (.bool (((x12.Objects).length : Int) == 2)), pv (.bool (((x12.Objects).length : Int) == 2)), pv (undef), pv (undef), pv (undef), pv (undef), pv (undef), pv (undef), pv (.bool false), pv (.bool false), pv (undef), pv (undef), pv (undef), pv (undef), pv (undef), pv (.bool false), pv (.bool false), pv (undef), pv (undef), pv (undef), pv (undef), pv (undef), pv (undef), pv (.bool false), pv (.bool false), pv (undef), pv (undef), pv (undef), pv (undef), pv (.bool false), pv (.bool false), pv (undef), pv (undef), pv (undef), pv (.bool false)]) (Λ := [blk g24 29 cs26, blk g7 41 ([.int .i64 102, .int .i64 1, .int .i64 0, .slice (some ⟨g6, 0, none⟩) ([(⟨3, ([120] : List UInt8), ([99] : List UInt8), 3, []⟩ : api_Effect), (⟨4, ([97] : List UInt8), ([115] : List UInt8), 0, ([113] : List UInt8)⟩ : api_Effect)]).length 2]), blk g4 41 ([.int .i64 101, .int .i64 1, .int .i64 0, .slice (some ⟨g3, 0, none⟩) ([(⟨3, ([120] : List UInt8), ([99] : List UInt8), 2, []⟩ : api_Effect)]).length 1])]) hs (by kernel_rfl) (by kernel_rfl) (by kernel_rfl) ⟨⟨⟨⟨⟨⟨⟨⟨⟨⟨⟨⟨⟨⟨⟨⟨⟨⟨⟨⟨⟨⟨⟨⟨⟨⟨⟨⟨⟨⟨⟨⟨⟨⟨⟨⟨⟨⟨trivial, ?_⟩, ?_⟩, ?_⟩, ?_⟩, ?_⟩, ?_⟩, ?_⟩, ?_⟩, ?_⟩, ?_⟩, ?_⟩, ?_⟩, ?_⟩, ?_⟩, ?_⟩, ?_⟩, ?_⟩, ?_⟩, ?_⟩, ?_⟩, ?_⟩, ?_⟩, ?_⟩, ?_⟩, ?_⟩, ?_⟩, ?_⟩, ?_⟩, ?_⟩, ?_⟩, ?_⟩, ?_⟩, ?_⟩, ?_⟩, ?_⟩, ?_⟩, ?_⟩, ?_⟩ ?_
  {
  intro ρ w Γx Λx hs hu hp
  refine WL.fieldAddr (m := 0) ((hu 3 rfl).trans e25) FA29_0 rfl ?_
  exact WL.nil ⟨rfl, _, rfl, rfl, hs.cutG 0 0⟩ }
  {
  intro ρ w Γx Λx hs hu hp
  have e719 : ρ 16 = .pointer (some ⟨g24, 0, none⟩) := (hp 0 rfl).1
  refine WL.loadF (z := x12.Objects) F_fold_Store_Objects hs (Λx.length + 0) (getApp rfl) (Γx.length + 0) (getApp rfl) rfl TI27 (.inr rfl) e719 rfl (fun v39 hs => ?_)
  obtain ⟨a40, c41, rfl⟩ := hs.slice 0 rfl
  have hs := hs.add (it := vl (tSlice t_fold_Object) x12.Objects (.slice a40 (x12.Objects).length c41)) fun ok hA => hA.get 0 rfl
  exact WL.nil ⟨rfl, _, rfl, ⟨(a40, c41), rfl⟩, hs.cutG 1 1⟩ }
  {
  intro ρ w Γx Λx hs hu hp
  obtain ⟨⟨⟨a720, c721⟩, e722r⟩, hm723⟩ := hp 1 rfl
  have e722 : ρ 17 = .slice a720 (x12.Objects).length c721 := e722r
  rw [e722r] at hm723
  have hs := hs.memo1 (it := vl (tSlice t_fold_Object) x12.Objects (.slice a720 (x12.Objects).length c721)) (List.mem_append.2 (.inl (hm723 _ (List.mem_of_getElem? (i := 0) rfl))))
  refine WL.len (v := .slice a720 (x12.Objects).length c721) e722 (len_slice UN27) ?_
  exact WL.nil ⟨rfl, _, rfl, rfl, hs.cutG 0 1⟩ }
  {
  intro ρ w Γx Λx hs hu hp
  have e724 : ρ 18 = .int .i64 ((x12.Objects).length : Int) := (hp 2 rfl).1
  refine WL.bin (v := .bool (((x12.Objects).length : Int) == 2)) e724 rfl (ib_eql _ _ _) ?_
  exact WL.nil ⟨rfl, _, rfl, rfl, hs.cutG 0 0⟩ }
  {
  intro ρ w Γx Λx hs hu hp
  have e725 : ρ 19 = .bool (((x12.Objects).length : Int) == 2) := (hp 3 rfl).1
  refine WL.move (v := .bool (((x12.Objects).length : Int) == 2)) e725 ?_
  exact WL.nil ⟨rfl, _, rfl, rfl, hs.cutG 0 0⟩ }
  {
  intro ρ w Γx Λx hs hu hp
  have e726 : ρ 20 = .bool (((x12.Objects).length : Int) == 2) := (hp 4 rfl).1
  refine WL.pass ((wanted_of rfl rfl (bool_tr e726 hc42)).trans rfl) rfl ?_
  exact WL.nil ⟨rfl, _, rfl, rfl, hs.cutG 0 0⟩ }
  {
  intro ρ w Γx Λx hs hu hp
  have e727 : ρ 21 = undef := (hp 5 rfl).1
  have e728 : ρ 20 = .bool (((x12.Objects).length : Int) == 2) := (hp 4 rfl).1
  refine WL.pass ((wanted_of rfl rfl (bool_tr e728 hc42)).trans rfl) rfl ?_
  exact WL.nil ⟨rfl, _, rfl, rfl, hs.cutG 0 0⟩ }
  {
  intro ρ w Γx Λx hs hu hp
  have e729 : ρ 22 = undef := (hp 6 rfl).1
  have e730 : ρ 20 = .bool (((x12.Objects).length : Int) == 2) := (hp 4 rfl).1
  refine WL.pass ((wanted_of rfl rfl (bool_tr e730 hc42)).trans rfl) rfl ?_
  exact WL.nil ⟨rfl, _, rfl, rfl, hs.cutG 0 0⟩ }
  {
  intro ρ w Γx Λx hs hu hp
  have e731 : ρ 23 = undef := (hp 7 rfl).1
  have e732 : ρ 20 = .bool (((x12.Objects).length : Int) == 2) := (hp 4 rfl).1
  refine WL.pass ((wanted_of rfl rfl (bool_tr e732 hc42)).trans rfl) rfl ?_
  exact WL.nil ⟨rfl, _, rfl, rfl, hs.cutG 0 0⟩ }
  {
  intro ρ w Γx Λx hs hu hp
  have e733 : ρ 24 = undef := (hp 8 rfl).1
  have e734 : ρ 20 = .bool (((x12.Objects).length : Int) == 2) := (hp 4 rfl).1
  refine WL.pass ((wanted_of rfl rfl (bool_tr e734 hc42)).trans rfl) rfl ?_
  exact WL.nil ⟨rfl, _, rfl, rfl, hs.cutG 0 0⟩ }
  {
  intro ρ w Γx Λx hs hu hp
  have e735 : ρ 25 = undef := (hp 9 rfl).1
  have e736 : ρ 20 = .bool (((x12.Objects).length : Int) == 2) := (hp 4 rfl).1
  refine WL.pass ((wanted_of rfl rfl (bool_tr e736 hc42)).trans rfl) rfl ?_
  exact WL.nil ⟨rfl, _, rfl, rfl, hs.cutG 0 0⟩ }
  {
  intro ρ w Γx Λx hs hu hp
  have e737 : ρ 20 = .bool (((x12.Objects).length : Int) == 2) := (hp 4 rfl).1
  have e738 : ρ 26 = undef := (hp 10 rfl).1
  refine WL.pickF (v := .bool false) (bool_tr e737 hc42) rfl ?_
  exact WL.nil ⟨rfl, _, rfl, rfl, hs.cutG 0 0⟩ }
  {
  intro ρ w Γx Λx hs hu hp
  have e739 : ρ 27 = .bool false := (hp 11 rfl).1
  refine WL.move (v := .bool false) e739 ?_
  exact WL.nil ⟨rfl, _, rfl, rfl, hs.cutG 0 0⟩ }
  {
  intro ρ w Γx Λx hs hu hp
  have e740 : ρ 28 = .bool false := (hp 12 rfl).1
  refine WL.pass ((wanted_of rfl rfl e740).trans rfl) rfl ?_
  exact WL.nil ⟨rfl, _, rfl, rfl, hs.cutG 0 0⟩ }
  {
  intro ρ w Γx Λx hs hu hp
  have e741 : ρ 29 = undef := (hp 13 rfl).1
  have e742 : ρ 28 = .bool false := (hp 12 rfl).1
  refine WL.pass ((wanted_of rfl rfl e742).trans rfl) rfl ?_
  exact WL.nil ⟨rfl, _, rfl, rfl, hs.cutG 0 0⟩ }
  {
  intro ρ w Γx Λx hs hu hp
  have e743 : ρ 30 = undef := (hp 14 rfl).1
  have e744 : ρ 28 = .bool false := (hp 12 rfl).1
  refine WL.pass ((wanted_of rfl rfl e744).trans rfl) rfl ?_
  exact WL.nil ⟨rfl, _, rfl, rfl, hs.cutG 0 0⟩ }
  {
  intro ρ w Γx Λx hs hu hp
  have e745 : ρ 31 = undef := (hp 15 rfl).1
  have e746 : ρ 28 = .bool false := (hp 12 rfl).1
  refine WL.pass ((wanted_of rfl rfl e746).trans rfl) rfl ?_
  exact WL.nil ⟨rfl, _, rfl, rfl, hs.cutG 0 0⟩ }
  {
  intro ρ w Γx Λx hs hu hp
  have e747 : ρ 32 = undef := (hp 16 rfl).1
  have e748 : ρ 28 = .bool false := (hp 12 rfl).1
  refine WL.pass ((wanted_of rfl rfl e748).trans rfl) rfl ?_
  exact WL.nil ⟨rfl, _, rfl, rfl, hs.cutG 0 0⟩ }
  {
  intro ρ w Γx Λx hs hu hp
  have e749 : ρ 28 = .bool false := (hp 12 rfl).1
  have e750 : ρ 33 = undef := (hp 17 rfl).1
  refine WL.pickF (v := .bool false) e749 rfl ?_
  exact WL.nil ⟨rfl, _, rfl, rfl, hs.cutG 0 0⟩ }
  {
  intro ρ w Γx Λx hs hu hp
  have e751 : ρ 34 = .bool false := (hp 18 rfl).1
  refine WL.move (v := .bool false) e751 ?_
  exact WL.nil ⟨rfl, _, rfl, rfl, hs.cutG 0 0⟩ }
  {
  intro ρ w Γx Λx hs hu hp
  have e752 : ρ 35 = .bool false := (hp 19 rfl).1
  refine WL.pass ((wanted_of rfl rfl e752).trans rfl) rfl ?_
  exact WL.nil ⟨rfl, _, rfl, rfl, hs.cutG 0 0⟩ }
  {
  intro ρ w Γx Λx hs hu hp
  have e753 : ρ 35 = .bool false := (hp 19 rfl).1
  refine WL.pass ((wanted_of rfl rfl e753).trans rfl) rfl ?_
  exact WL.nil ⟨rfl, _, rfl, rfl, hs.cutG 0 0⟩ }
  {
  intro ρ w Γx Λx hs hu hp
  have e754 : ρ 35 = .bool false := (hp 19 rfl).1
  refine WL.pass ((wanted_of rfl rfl e754).trans rfl) rfl ?_
  exact WL.nil ⟨rfl, _, rfl, rfl, hs.cutG 0 0⟩ }
  {
  intro ρ w Γx Λx hs hu hp
  have e755 : ρ 37 = undef := (hp 21 rfl).1
  have e756 : ρ 38 = undef := (hp 22 rfl).1
  have e757 : ρ 35 = .bool false := (hp 19 rfl).1
  refine WL.pass ((wanted_of rfl rfl e757).trans rfl) rfl ?_
  exact WL.nil ⟨rfl, _, rfl, rfl, hs.cutG 0 0⟩ }
  {
  intro ρ w Γx Λx hs hu hp
  have e758 : ρ 39 = undef := (hp 23 rfl).1
  have e759 : ρ 35 = .bool false := (hp 19 rfl).1
  refine WL.pass ((wanted_of rfl rfl e759).trans rfl) rfl ?_
  exact WL.nil ⟨rfl, _, rfl, rfl, hs.cutG 0 0⟩ }
  {
  intro ρ w Γx Λx hs hu hp
  have e760 : ρ 36 = undef := (hp 20 rfl).1
  have e761 : ρ 40 = undef := (hp 24 rfl).1
  have e762 : ρ 35 = .bool false := (hp 19 rfl).1
  refine WL.pass ((wanted_of rfl rfl e762).trans rfl) rfl ?_
  exact WL.nil ⟨rfl, _, rfl, rfl, hs.cutG 0 0⟩ }
  {
  intro ρ w Γx Λx hs hu hp
  have e763 : ρ 35 = .bool false := (hp 19 rfl).1
  have e764 : ρ 41 = undef := (hp 25 rfl).1
  refine WL.pickF (v := .bool false) e763 rfl ?_
  exact WL.nil ⟨rfl, _, rfl, rfl, hs.cutG 0 0⟩ }
  {
  intro ρ w Γx Λx hs hu hp
  have e765 : ρ 42 = .bool false := (hp 26 rfl).1
  refine WL.move (v := .bool false) e765 ?_
  exact WL.nil ⟨rfl, _, rfl, rfl, hs.cutG 0 0⟩ }
  {
  intro ρ w Γx Λx hs hu hp
  have e766 : ρ 43 = .bool false := (hp 27 rfl).1
  refine WL.pass ((wanted_of rfl rfl e766).trans rfl) rfl ?_
  exact WL.nil ⟨rfl, _, rfl, rfl, hs.cutG 0 0⟩ }
  {
  intro ρ w Γx Λx hs hu hp
  have e767 : ρ 43 = .bool false := (hp 27 rfl).1
  refine WL.pass ((wanted_of rfl rfl e767).trans rfl) rfl ?_
  exact WL.nil ⟨rfl, _, rfl, rfl, hs.cutG 0 0⟩ }
  {
  intro ρ w Γx Λx hs hu hp
  have e768 : ρ 44 = undef := (hp 28 rfl).1
  have e769 : ρ 45 = undef := (hp 29 rfl).1
  have e770 : ρ 43 = .bool false := (hp 27 rfl).1
  refine WL.pass ((wanted_of rfl rfl e770).trans rfl) rfl ?_
  exact WL.nil ⟨rfl, _, rfl, rfl, hs.cutG 0 0⟩ }
  {
  intro ρ w Γx Λx hs hu hp
  have e771 : ρ 46 = undef := (hp 30 rfl).1
  have e772 : ρ 43 = .bool false := (hp 27 rfl).1
  refine WL.pass ((wanted_of rfl rfl e772).trans rfl) rfl ?_
  exact WL.nil ⟨rfl, _, rfl, rfl, hs.cutG 0 0⟩ }
  {
  intro ρ w Γx Λx hs hu hp
  have e773 : ρ 43 = .bool false := (hp 27 rfl).1
  have e774 : ρ 47 = undef := (hp 31 rfl).1
  refine WL.pickF (v := .bool false) e773 rfl ?_
  exact WL.nil ⟨rfl, _, rfl, rfl, hs.cutG 0 0⟩ }
  {
  intro ρ w Γx Λx hs hu hp
  have e775 : ρ 48 = .bool false := (hp 32 rfl).1
  refine WL.move (v := .bool false) e775 ?_
  exact WL.nil ⟨rfl, _, rfl, rfl, hs.cutG 0 0⟩ }
  {
  intro ρ w Γx Λx hs hu hp
  have e776 : ρ 49 = .bool false := (hp 33 rfl).1
  refine WL.pass ((wanted_of rfl rfl e776).trans rfl) rfl ?_
  exact WL.nil ⟨rfl, _, rfl, rfl, hs.cutG 0 0⟩ }
  {
  intro ρ w Γx Λx hs hu hp
  have e777 : ρ 50 = undef := (hp 34 rfl).1
  have e778 : ρ 49 = .bool false := (hp 33 rfl).1
  refine WL.pass ((wanted_of rfl rfl e778).trans rfl) rfl ?_
  exact WL.nil ⟨rfl, _, rfl, rfl, hs.cutG 0 0⟩ }
  {
  intro ρ w Γx Λx hs hu hp
  have e779 : ρ 51 = undef := (hp 35 rfl).1
  have e780 : ρ 49 = .bool false := (hp 33 rfl).1
  refine WL.pass ((wanted_of rfl rfl e780).trans rfl) rfl ?_
  exact WL.nil ⟨rfl, _, rfl, rfl, hs.cutG 0 0⟩ }
  {
  intro ρ w Γx Λx hs hu hp
  have e781 : ρ 49 = .bool false := (hp 33 rfl).1
  have e782 : ρ 52 = undef := (hp 36 rfl).1
  refine WL.pickF (v := .bool false) e781 rfl ?_
  exact WL.nil ⟨rfl, _, rfl, rfl, hs.cutG 0 0⟩ }
  {
  intro ρ w hs hu783 hp
  obtain ⟨⟨⟨⟨⟨⟨⟨⟨⟨⟨⟨⟨⟨⟨⟨⟨⟨⟨⟨⟨⟨⟨⟨⟨⟨⟨⟨⟨⟨⟨⟨⟨⟨⟨⟨⟨⟨⟨_, hp0_⟩, hp1_⟩, hp2_⟩, hp3_⟩, hp4_⟩, hp5_⟩, hp6_⟩, hp7_⟩, hp8_⟩, hp9_⟩, hp10_⟩, hp11_⟩, hp12_⟩, hp13_⟩, hp14_⟩, hp15_⟩, hp16_⟩, hp17_⟩, hp18_⟩, hp19_⟩, hp20_⟩, hp21_⟩, hp22_⟩, hp23_⟩, hp24_⟩, hp25_⟩, hp26_⟩, hp27_⟩, hp28_⟩, hp29_⟩, hp30_⟩, hp31_⟩, hp32_⟩, hp33_⟩, hp34_⟩, hp35_⟩, hp36_⟩, hp37_⟩ := hp
  have hs : St ok (bz w0) w [vl (tSlice t_fold_Object) x12.Objects (ρ 17), vl t_fold_Store x12 (.agg cs26.toArray), vl t_fold_Store x9 (.agg cs30.toArray), vl (tSlice t_api_Effect) ([(⟨3, ([120] : List UInt8), ([99] : List UInt8), 2, []⟩ : api_Effect)]) (.slice (some ⟨g3, 0, none⟩) ([(⟨3, ([120] : List UInt8), ([99] : List UInt8), 2, []⟩ : api_Effect)]).length 1), vl (tSlice t_api_Effect) ([(⟨3, ([120] : List UInt8), ([99] : List UInt8), 3, []⟩ : api_Effect), (⟨4, ([97] : List UInt8), ([115] : List UInt8), 0, ([113] : List UInt8)⟩ : api_Effect)]) (.slice (some ⟨g6, 0, none⟩) ([(⟨3, ([120] : List UInt8), ([99] : List UInt8), 3, []⟩ : api_Effect), (⟨4, ([97] : List UInt8), ([115] : List UInt8), 0, ([113] : List UInt8)⟩ : api_Effect)]).length 2)] [blk g24 29 cs26, blk g7 41 ([.int .i64 102, .int .i64 1, .int .i64 0, .slice (some ⟨g6, 0, none⟩) ([(⟨3, ([120] : List UInt8), ([99] : List UInt8), 3, []⟩ : api_Effect), (⟨4, ([97] : List UInt8), ([115] : List UInt8), 0, ([113] : List UInt8)⟩ : api_Effect)]).length 2]), blk g4 41 ([.int .i64 101, .int .i64 1, .int .i64 0, .slice (some ⟨g3, 0, none⟩) ([(⟨3, ([120] : List UInt8), ([99] : List UInt8), 2, []⟩ : api_Effect)]).length 1])] := hs
  have e784 : ρ 53 = .bool false := hp37_
  have e785 : ρ 52 = undef := hp36_
  have e786 : ρ 51 = undef := hp35_
  have e787 : ρ 50 = undef := hp34_
  have e788 : ρ 49 = .bool false := hp33_
  have e789 : ρ 48 = .bool false := hp32_
  have e790 : ρ 47 = undef := hp31_
  have e791 : ρ 46 = undef := hp30_
  have e792 : ρ 45 = undef := hp29_
  have e793 : ρ 44 = undef := hp28_
  have e794 : ρ 43 = .bool false := hp27_
  have e795 : ρ 42 = .bool false := hp26_
  have e796 : ρ 41 = undef := hp25_
  have e797 : ρ 40 = undef := hp24_
  have e798 : ρ 39 = undef := hp23_
  have e799 : ρ 38 = undef := hp22_
  have e800 : ρ 37 = undef := hp21_
  have e801 : ρ 36 = undef := hp20_
  have e802 : ρ 35 = .bool false := hp19_
  have e803 : ρ 34 = .bool false := hp18_
  have e804 : ρ 33 = undef := hp17_
  have e805 : ρ 32 = undef := hp16_
  have e806 : ρ 31 = undef := hp15_
  have e807 : ρ 30 = undef := hp14_
  have e808 : ρ 29 = undef := hp13_
  have e809 : ρ 28 = .bool false := hp12_
  have e810 : ρ 27 = .bool false := hp11_
  have e811 : ρ 26 = undef := hp10_
  have e812 : ρ 25 = undef := hp9_
  have e813 : ρ 24 = undef := hp8_
  have e814 : ρ 23 = undef := hp7_
  have e815 : ρ 22 = undef := hp6_
  have e816 : ρ 21 = undef := hp5_
  have e817 : ρ 20 = .bool (((x12.Objects).length : Int) == 2) := hp4_
  have e818 : ρ 19 = .bool (((x12.Objects).length : Int) == 2) := hp3_
  have e819 : ρ 18 = .int .i64 ((x12.Objects).length : Int) := hp2_
  obtain ⟨⟨a820, c821⟩, e822⟩ := hp1_
  have e822 : ρ 17 = .slice a820 (x12.Objects).length c821 := e822
  try rw [e822] at hs
  have e823 : ρ 16 = .pointer (some ⟨g24, 0, none⟩) := hp0_
  refine WA.step [38] (by kernel_rfl) (by simp) ⟨?_, trivial⟩
  refine WL.assign (v := .bool false) e784 ?_
  refine WL.nil ⟨rfl, _, rfl, ?_⟩
  refine WA.done (by kernel_rfl) ?_
  exact Jk38 false _ _ rfl ((hs.mask []).pick []) hf } } }
end Go.Proofs.Ytlbcfjblpopcnaa
set_option linter.unusedVariables false
set_option linter.unusedSimpArgs false
namespace Go.Proofs.Ytlbcfjblpopcnaa
open Go Go.RowKit Go.Proofs.YtlbcfjblpopcnaaL
set_option maxRecDepth 100000
set_option maxHeartbeats 4000000
end Go.Proofs.Ytlbcfjblpopcnaa
set_option linter.unusedVariables false
set_option linter.unusedSimpArgs false
namespace Go.Proofs.Ytlbcfjblpopcnaa
open Go Go.RowKit Go.Proofs.YtlbcfjblpopcnaaL
set_option maxRecDepth 100000
set_option maxHeartbeats 4000000
theorem esref32_Fold.calls {ok : Nat → Prop} {w0 : World} {x1 : List api_Update} {a2 : Option Addr} {c3 : Nat} {r : fold_Store} (hf : esref32_Fold x1 = some r) (i0 : (vl (tSlice t_api_Update) x1 (.slice a2 x1.length c3)).holds ok w0) :
    Calls Try.prog 15 #[.slice a2 x1.length c3] w0 fun e w' => ∃ v, e = .returned v ∧ ∃ y : List Value, v = .agg y.toArray ∧ St ok (bz w0) w' [vl t_fold_Store r (.agg y.toArray)] [] := by
  unfold esref32_Fold at hf
  refine calls_of_W (fn := Try.f15) (N := 19) Try.func15 rfl Try.ntmps15 rfl ?_
  have hs : St ok (bz w0) w0 [vl (tSlice t_api_Update) x1 (.slice a2 x1.length c3)] [] := St.init (All.cons i0 All.nil)
  clear i0
  refine W.seqK fun K4 hK4 => ?_
  refine W.region ?_
  refine WL.alloc hs ZV29 (fun g5 w hs => ?_)
  refine WL.nil ?_
  refine hK4 _ _ ?_
  refine W.seqK fun K6 hK6 => ?_
  refine W.region ?_
  refine WL.build (vs := []) (cs := [.slice none 0 0]) trivial (bld PL29 rfl) ?_
  refine WL.alloc hs ZV29 (fun g7 w hs => ?_)
  refine WL.storeAll (vs := [.slice none 0 0]) hs 0 rfl TI29 rfl rfl rfl rfl (ones_of rfl) rfl (fun w hs => ?_)
  refine WL.nil ?_
  refine hK6 _ _ ?_
  refine W.seqK fun K8 hK8 => ?_
  have Jk13 : ∀ (x10 : List fold_Object) (a11 : Option Addr) (c12 : Nat) (ρ : Env) (w : World), ρ 2 = .pointer (some ⟨g5, 0, none⟩) → ρ 3 = .pointer (some ⟨g7, 0, none⟩) → St ok (bz w0) w [vl (tSlice t_fold_Object) x10 (.slice a11 x10.length c12)] [blk g7 29 [.slice a11 x10.length c12], blk g5 29 [.slice none 0 0]] → esref32_Fold.j1 x10 = some r → K8 ρ w := by
    intro x10 a11 c12 ρ w h9_2 h9_3 hs hf
    refine hK8 _ _ ?_
    unfold esref32_Fold.j1 at hf
    refine W.seqK fun K14 hK14 => ?_
    refine W.region ?_
    refine WL.loadN (vs := [.slice a11 x10.length c12]) hs 0 rfl TI29 h9_3 rfl rfl ?_
    refine WL.storeAll (vs := [.slice a11 x10.length c12]) hs 1 rfl TI29 h9_2 rfl rfl rfl (ones_of rfl) rfl (fun w hs => ?_)
    refine WL.nil ?_
    refine hK14 _ _ ?_
    refine W.ret ?_
    have hr := Option.some.inj hf; subst hr
    have hs := hs.add (it := vl t_fold_Store (⟨x10⟩ : fold_Store) (.agg [.slice a11 x10.length c12].toArray)) fun ok hA => V_agg ((R_one (hA.get 0 rfl))) rfl
    exact ⟨_, resOk_one rfl (res_all hs 1 rfl TI29 h9_2 rfl), [.slice a11 x10.length c12], rfl, (hs.mask []).pick [0]⟩
  refine W.seqK fun K15 hK15 => ?_
  refine W.region ?_
  refine WL.assign (v := .int .i64 0) rfl ?_
  refine WL.nil ?_
  refine hK15 _ _ ?_
  refine W.block ?_
  obtain ⟨bs21, hbs21, hfs21⟩ := bindE hf
  have hs := hs.add (it := vl (tSlice t_fold_Object) [] (.slice none 0 0)) fun ok hA => V_nil
  refine W.loop hbs21 (fun s ρ w => match s with | (x17, x18) => ∃ (a19 : Option Addr), ∃ (c20 : Nat), ρ 0 = .slice a2 x1.length c3 ∧ ρ 2 = .pointer (some ⟨g5, 0, none⟩) ∧ ρ 3 = .pointer (some ⟨g7, 0, none⟩) ∧ ρ 4 = .int .i64 x17 ∧ St ok (bz w0) w [vl (tSlice t_api_Update) x1 (.slice a2 x1.length c3), vl (tSlice t_fold_Object) x18 (.slice a19 x18.length c20)] [blk g7 29 [.slice a19 x18.length c20], blk g5 29 [.slice none 0 0]]) ⟨none, 0, rfl, rfl, rfl, rfl, (hs.mask [true, true]).pick [1, 0]⟩ ?_
  intro s ρ w os21 hI hf hbbs21
  obtain ⟨x17, x18⟩ := s
  obtain ⟨a19, c20, h16_0, h16_2, h16_3, h16_4, hs⟩ := hI
  unfold esref32_Fold.l1 at hf
  refine W.seqK fun K22 hK22 => ?_
  refine W.seqK fun K23 hK23 => ?_
  refine W.region ?_
  refine WL.move (v := .int .i64 x17) h16_4 ?_
  refine WL.move (v := .slice a2 x1.length c3) h16_0 ?_
  refine WL.len (v := .slice a2 x1.length c3) rfl (len_slice UN23) ?_
  refine WL.bin (v := .bool (decide (x17 < (x1.length : Int)))) rfl rfl (ib_lss _ _ _) ?_
  refine WL.nil ?_
  refine hK23 _ _ ?_
  rcases iteE hf with ⟨hc24, hf⟩ | ⟨hc24, hf⟩
  {
  refine W.cond_true (bool_tr rfl hc24) ?_
  refine W.skip ?_
  refine hK22 _ _ ?_
  refine W.seqK fun K25 hK25 => ?_
  refine W.block ?_
  obtain ⟨x26, hxx26, hf⟩ := bindE hf
  obtain ⟨x31, hxx31, hf⟩ := bindE hf
  refine W.any (by kernel_rfl) 6 1 [true, true, true, true, true, true, false] rfl rfl (poAt [pv (.agg ([.slice a19 x18.length c20] : List Value).toArray), pv (.slice a2 x1.length c3), pv (.int .i64 x17), pq (fun y : Addr => .pointer (some y)) (fun v => [pl t_api_Update x26 (adOf v)]) (fun v => []), pq (fun y : List Value => .agg y.toArray) (fun v => [vl t_api_Update x26 v]) (fun v => []), pq (fun y : List Value => .agg y.toArray) (fun v => [vl t_fold_Store x31 v]) (fun v => [])]) (Λ := [blk g7 29 [.slice a19 x18.length c20], blk g5 29 [.slice none 0 0]]) hs (by kernel_rfl) (by kernel_rfl) (by kernel_rfl) ⟨⟨⟨⟨⟨⟨trivial, ?_⟩, ?_⟩, ?_⟩, ?_⟩, ?_⟩, ?_⟩ ?_
  {
  intro ρ w Γx Λx hs hu hp
  refine WL.loadN (vs := [.slice a19 x18.length c20]) hs (Λx.length + 0) (getApp rfl) TI29 ((hu 3 rfl).trans h16_3) rfl rfl ?_
  exact WL.nil ⟨rfl, _, rfl, rfl, hs.cutG 0 0⟩ }
  {
  intro ρ w Γx Λx hs hu hp
  refine WL.move (v := .slice a2 x1.length c3) ((hu 0 rfl).trans h16_0) ?_
  exact WL.nil ⟨rfl, _, rfl, rfl, hs.cutG 0 0⟩ }
  {
  intro ρ w Γx Λx hs hu hp
  refine WL.move (v := .int .i64 x17) ((hu 4 rfl).trans h16_4) ?_
  exact WL.nil ⟨rfl, _, rfl, rfl, hs.cutG 0 0⟩ }
  {
  intro ρ w Γx Λx hs hu hp
  have e34 : ρ 13 = .slice a2 x1.length c3 := (hp 1 rfl).1
  have e35 : ρ 14 = .int .i64 x17 := (hp 2 rfl).1
  refine WL.indexAddr hs (Γx.length + 0) (getApp rfl) UN23 TI41 e34 e35 hxx26 (fun ad27 hs => ?_)
  have hs := hs.add (it := pl t_api_Update x26 ad27) fun ok hA => hA.get 0 rfl
  exact WL.nil ⟨rfl, _, rfl, ⟨ad27, rfl⟩, hs.cutG 1 1⟩ }
  {
  intro ρ w Γx Λx hs hu hp
  obtain ⟨⟨ad36, e37r⟩, hm38⟩ := hp 3 rfl
  have e37 : ρ 15 = .pointer (some ad36) := e37r
  rw [e37r] at hm38
  have hs := hs.memo1 (it := pl t_api_Update x26 ad36) (List.mem_append.2 (.inl (hm38 _ (List.mem_of_getElem? (i := 0) rfl))))
  refine WL.loadP hs 0 rfl TI41 (.inl rfl) e37 (fun v28 hs => ?_)
  obtain ⟨cs29, hl30, rfl⟩ := hs.aggv (n := 4) 0 rfl rfl rfl
  have hs := hs.add (it := vl t_api_Update x26 (.agg cs29.toArray)) fun ok hA => hA.get 0 rfl
  exact WL.nil ⟨rfl, _, rfl, ⟨cs29, rfl⟩, hs.cutG 1 2⟩ }
  {
  intro ρ w Γx Λx hs hu hp
  have e39 : ρ 12 = .agg ([.slice a19 x18.length c20] : List Value).toArray := (hp 0 rfl).1
  obtain ⟨⟨cs40, e42r⟩, hm43⟩ := hp 4 rfl
  have e42 : ρ 16 = .agg cs40.toArray := e42r
  rw [e42r] at hm43
  have hs := hs.memo1 (it := vl t_api_Update x26 (.agg cs40.toArray)) (List.mem_append.2 (.inl (hm43 _ (List.mem_of_getElem? (i := 0) rfl))))
  have hl41 := hs.agglen (n := 4) 0 rfl rfl rfl
  have hs := hs.add (it := vl t_fold_Store (⟨x18⟩ : fold_Store) (.agg [.slice a19 x18.length c20].toArray)) fun ok hA => V_agg ((R_one (hA.get (Γx.length + 1 + 1) (getApp1 rfl)))) rfl
  refine WL.call (vs := [.agg ([.slice a19 x18.length c20] : List Value).toArray, .agg cs40.toArray]) hs FN23 ⟨e39, ⟨e42, trivial⟩⟩ (fun ok hA => esref32_Apply.calls (x1 := (⟨x18⟩ : fold_Store)) (x2 := x26) hxx31 (hA.get 0 rfl) (hA.get 1 rfl)) ?_
  rintro cs32 w hs
  have hl33 := hs.agglen (n := 1) 0 rfl rfl rfl
  have hs := hs.add (it := vl t_fold_Store x31 (.agg cs32.toArray)) fun ok hA => hA.get 0 rfl
  exact WL.nil ⟨rfl, _, rfl, ⟨cs32, rfl⟩, hs.cutG 1 3⟩ }
  {
  intro ρ w hs hu44 hp
  obtain ⟨⟨⟨⟨⟨⟨_, hp0_⟩, hp1_⟩, hp2_⟩, hp3_⟩, hp4_⟩, hp5_⟩ := hp
  have hs : St ok (bz w0) w [vl t_fold_Store x31 (ρ 17), vl t_api_Update x26 (ρ 16), pl t_api_Update x26 (adOf (ρ 15)), vl (tSlice t_api_Update) x1 (.slice a2 x1.length c3), vl (tSlice t_fold_Object) x18 (.slice a19 x18.length c20)] [blk g7 29 [.slice a19 x18.length c20], blk g5 29 [.slice none 0 0]] := hs
  obtain ⟨cs45, e47⟩ := hp5_
  have e47 : ρ 17 = .agg cs45.toArray := e47
  try rw [e47] at hs
  obtain ⟨cs48, e50⟩ := hp4_
  have e50 : ρ 16 = .agg cs48.toArray := e50
  try rw [e50] at hs
  obtain ⟨ad51, e52⟩ := hp3_
  have e52 : ρ 15 = .pointer (some ad51) := e52
  try rw [e52] at hs
  have e53 : ρ 14 = .int .i64 x17 := hp2_
  have e54 : ρ 13 = .slice a2 x1.length c3 := hp1_
  have e55 : ρ 12 = .agg ([.slice a19 x18.length c20] : List Value).toArray := hp0_
  have hl49 := hs.agglen (n := 4) 1 rfl rfl rfl
  have hl46 := hs.agglen (n := 1) 0 rfl rfl rfl
  refine WA.step [6] (by kernel_rfl) (by simp) ⟨?_, trivial⟩
  refine WL.storeAll (vs := cs45) hs 0 rfl TI29 ((hu44 3 rfl).trans h16_3) e47 rfl hl46 (hs.ones 0 rfl rfl) rfl (fun w hs => ?_)
  refine WL.nil ⟨rfl, _, rfl, ?_⟩
  refine WA.done (by kernel_rfl) ?_
  refine hK25 _ _ ?_
  refine W.region ?_
  refine WL.move (v := .int .i64 x17) ((hu44 4 rfl).trans h16_4) ?_
  obtain ⟨x56, ex56, hf⟩ := letE hf
  refine WL.bin (v := .int .i64 x56) rfl rfl (ib_as ex56 (ib_add _ _ _)) ?_
  refine WL.assign (v := .int .i64 x56) rfl ?_
  refine WL.nil ?_
  obtain ⟨a59, c60, rfl⟩ := open_fold_Store hs 0 rfl
  have hs := hs.add (it := vl (tSlice t_fold_Object) x31.Objects (.slice a59 (x31.Objects).length c60)) fun ok hA => V_fld F_fold_Store_Objects (hA.get 0 rfl) rfl rfl rfl
  exact ⟨_, (Option.some.inj hf).symm, a59, c60, ((hu44 0 rfl).trans h16_0), ((hu44 2 rfl).trans h16_2), ((hu44 3 rfl).trans h16_3), rfl, (hs.mask [true, true]).pick [4, 0]⟩ } }
  {
  refine W.cond_false (bool_tr rfl hc24) ?_
  refine W.exit ?_
  have hr := Option.some.inj hf; subst hr
  have hr := hbbs21 _ rfl; subst hr
  have hf := hfs21
  exact Jk13 x18 a19 c20 _ _ h16_2 h16_3 ((hs.mask [true, true]).pick [1]) hf }
theorem esref32_EqualStrings.calls {ok : Nat → Prop} {w0 : World} {x1 : List (List UInt8)} {x4 : List (List UInt8)} {a2 : Option Addr} {c3 : Nat} {a5 : Option Addr} {c6 : Nat} {r : Bool} (hf : esref32_EqualStrings x1 x4 = some r) (i0 : (vl (tSlice tStr) x1 (.slice a2 x1.length c3)).holds ok w0) (i1 : (vl (tSlice tStr) x4 (.slice a5 x4.length c6)).holds ok w0) :
    Calls Try.prog 56 #[.slice a2 x1.length c3, .slice a5 x4.length c6] w0 fun e w' => ∃ v, e = .returned v ∧ ∃ y : Unit, v = .bool r ∧ St ok (bz w0) w' [] [] := by
  unfold esref32_EqualStrings at hf
  refine calls_of_W (fn := Try.f56) (N := 26) Try.func56 rfl Try.ntmps56 rfl ?_
  have hs : St ok (bz w0) w0 [vl (tSlice tStr) x1 (.slice a2 x1.length c3), vl (tSlice tStr) x4 (.slice a5 x4.length c6)] [] := St.init (All.cons i0 (All.cons i1 All.nil))
  clear i0 i1
  refine W.seqK fun K7 hK7 => ?_
  refine W.region ?_
  refine WL.assign (v := .bool false) rfl ?_
  refine WL.nil ?_
  refine hK7 _ _ ?_
  refine W.seqK fun K8 hK8 => ?_
  refine W.seqK fun K9 hK9 => ?_
  refine W.region ?_
  refine WL.move (v := .slice a2 x1.length c3) rfl ?_
  refine WL.len (v := .slice a2 x1.length c3) rfl (len_slice UN55) ?_
  refine WL.move (v := .slice a5 x4.length c6) rfl ?_
  refine WL.len (v := .slice a5 x4.length c6) rfl (len_slice UN55) ?_
  refine WL.bin (v := .bool ((x1.length : Int) != (x4.length : Int))) rfl rfl (ib_neq _ _ _) ?_
  refine WL.nil ?_
  refine hK9 _ _ ?_
  rcases iteE hf with ⟨hc10, hf⟩ | ⟨hc10, hf⟩
  {
  refine W.cond_true (bool_tr rfl hc10) ?_
  refine W.seqK fun K11 hK11 => ?_
  refine W.region ?_
  refine WL.assign (v := .bool false) rfl ?_
  refine WL.nil ?_
  refine hK11 _ _ ?_
  refine W.ret ?_
  have hr := Option.some.inj hf; subst hr
  exact ⟨_, resOk_one rfl rfl, (), rfl, (hs.mask []).pick []⟩ }
  {
  refine W.cond_false (bool_tr rfl hc10) ?_
  refine W.skip ?_
  refine hK8 _ _ ?_
  refine W.seqK fun K12 hK12 => ?_
  have Jk14 : ∀  (ρ : Env) (w : World), St ok (bz w0) w [] [] → esref32_EqualStrings.j1 = some r → K12 ρ w := by
    intro  ρ w  hs hf
    refine hK12 _ _ ?_
    unfold esref32_EqualStrings.j1 at hf
    refine W.seqK fun K15 hK15 => ?_
    refine W.region ?_
    refine WL.assign (v := .bool true) rfl ?_
    refine WL.nil ?_
    refine hK15 _ _ ?_
    refine W.ret ?_
    have hr := Option.some.inj hf; subst hr
    exact ⟨_, resOk_one rfl rfl, (), rfl, (hs.mask []).pick []⟩
  refine W.seqK fun K16 hK16 => ?_
  refine W.region ?_
  refine WL.assign (v := .int .i64 0) rfl ?_
  refine WL.nil ?_
  refine hK16 _ _ ?_
  refine W.block ?_
  obtain ⟨bs19, hbs19, hfs19⟩ := bindE hf
  refine W.loop hbs19 (fun s ρ w => match s with | x18 => ρ 0 = .slice a2 x1.length c3 ∧ ρ 1 = .slice a5 x4.length c6 ∧ ρ 5 = .int .i64 x18 ∧ St ok (bz w0) w [vl (tSlice tStr) x1 (.slice a2 x1.length c3), vl (tSlice tStr) x4 (.slice a5 x4.length c6)] []) ⟨rfl, rfl, rfl, (hs.mask []).pick [0, 1]⟩ ?_
  intro x18 ρ w os19 hI hf hbbs19
  obtain ⟨h17_0, h17_1, h17_5, hs⟩ := hI
  unfold esref32_EqualStrings.l1 at hf
  refine W.seqK fun K20 hK20 => ?_
  refine W.seqK fun K21 hK21 => ?_
  refine W.region ?_
  refine WL.move (v := .int .i64 x18) h17_5 ?_
  refine WL.move (v := .slice a2 x1.length c3) h17_0 ?_
  refine WL.len (v := .slice a2 x1.length c3) rfl (len_slice UN55) ?_
  refine WL.bin (v := .bool (decide (x18 < (x1.length : Int)))) rfl rfl (ib_lss _ _ _) ?_
  refine WL.nil ?_
  refine hK21 _ _ ?_
  rcases iteE hf with ⟨hc22, hf⟩ | ⟨hc22, hf⟩
  {
  refine W.cond_true (bool_tr rfl hc22) ?_
  refine W.skip ?_
  refine hK20 _ _ ?_
  refine W.seqK fun K23 hK23 => ?_
  refine W.block ?_
  refine W.seqK fun K24 hK24 => ?_
  obtain ⟨x25, hxx25, hf⟩ := bindE hf
  obtain ⟨x28, hxx28, hf⟩ := bindE hf
  refine W.any (by kernel_rfl) 9 0 [true, true, true, true, true, true, true, true, true] rfl rfl (poAt [pv (.slice a2 x1.length c3), pv (.int .i64 x18), pq (fun y : Addr => .pointer (some y)) (fun v => [pl tStr x25 (adOf v)]) (fun v => []), pv (bstr x25), pv (.slice a5 x4.length c6), pv (.int .i64 x18), pq (fun y : Addr => .pointer (some y)) (fun v => [pl tStr x28 (adOf v)]) (fun v => []), pv (bstr x28), pv (.bool (x25 != x28))]) (Λ := []) hs (by kernel_rfl) (by kernel_rfl) (by kernel_rfl) ⟨⟨⟨⟨⟨⟨⟨⟨⟨trivial, ?_⟩, ?_⟩, ?_⟩, ?_⟩, ?_⟩, ?_⟩, ?_⟩, ?_⟩, ?_⟩ ?_
  {
  intro ρ w Γx Λx hs hu hp
  refine WL.move (v := .slice a2 x1.length c3) ((hu 0 rfl).trans h17_0) ?_
  exact WL.nil ⟨rfl, _, rfl, rfl, hs.cutG 0 0⟩ }
  {
  intro ρ w Γx Λx hs hu hp
  refine WL.move (v := .int .i64 x18) ((hu 5 rfl).trans h17_5) ?_
  exact WL.nil ⟨rfl, _, rfl, rfl, hs.cutG 0 0⟩ }
  {
  intro ρ w Γx Λx hs hu hp
  have e31 : ρ 17 = .slice a2 x1.length c3 := (hp 0 rfl).1
  have e32 : ρ 18 = .int .i64 x18 := (hp 1 rfl).1
  refine WL.indexAddr hs (Γx.length + 0) (getApp rfl) UN55 TI9 e31 e32 hxx25 (fun ad26 hs => ?_)
  have hs := hs.add (it := pl tStr x25 ad26) fun ok hA => hA.get 0 rfl
  exact WL.nil ⟨rfl, _, rfl, ⟨ad26, rfl⟩, hs.cutG 1 1⟩ }
  {
  intro ρ w Γx Λx hs hu hp
  obtain ⟨⟨ad33, e34r⟩, hm35⟩ := hp 2 rfl
  have e34 : ρ 19 = .pointer (some ad33) := e34r
  rw [e34r] at hm35
  have hs := hs.memo1 (it := pl tStr x25 ad33) (List.mem_append.2 (.inl (hm35 _ (List.mem_of_getElem? (i := 0) rfl))))
  refine WL.loadP hs 0 rfl TI9 (.inr rfl) e34 (fun v27 hs => ?_)
  obtain rfl := hs.str 0 rfl
  exact WL.nil ⟨rfl, _, rfl, rfl, hs.cutG 0 2⟩ }
  {
  intro ρ w Γx Λx hs hu hp
  refine WL.move (v := .slice a5 x4.length c6) ((hu 1 rfl).trans h17_1) ?_
  exact WL.nil ⟨rfl, _, rfl, rfl, hs.cutG 0 0⟩ }
  {
  intro ρ w Γx Λx hs hu hp
  refine WL.move (v := .int .i64 x18) ((hu 5 rfl).trans h17_5) ?_
  exact WL.nil ⟨rfl, _, rfl, rfl, hs.cutG 0 0⟩ }
  {
  intro ρ w Γx Λx hs hu hp
  have e36 : ρ 21 = .slice a5 x4.length c6 := (hp 4 rfl).1
  have e37 : ρ 22 = .int .i64 x18 := (hp 5 rfl).1
  refine WL.indexAddr hs (Γx.length + 1) (getApp rfl) UN55 TI9 e36 e37 hxx28 (fun ad29 hs => ?_)
  have hs := hs.add (it := pl tStr x28 ad29) fun ok hA => hA.get 0 rfl
  exact WL.nil ⟨rfl, _, rfl, ⟨ad29, rfl⟩, hs.cutG 1 1⟩ }
  {
  intro ρ w Γx Λx hs hu hp
  obtain ⟨⟨ad38, e39r⟩, hm40⟩ := hp 6 rfl
  have e39 : ρ 23 = .pointer (some ad38) := e39r
  rw [e39r] at hm40
  have hs := hs.memo1 (it := pl tStr x28 ad38) (List.mem_append.2 (.inl (hm40 _ (List.mem_of_getElem? (i := 0) rfl))))
  refine WL.loadP hs 0 rfl TI9 (.inr rfl) e39 (fun v30 hs => ?_)
  obtain rfl := hs.str 0 rfl
  exact WL.nil ⟨rfl, _, rfl, rfl, hs.cutG 0 2⟩ }
  {
  intro ρ w Γx Λx hs hu hp
  have e41 : ρ 20 = bstr x25 := (hp 3 rfl).1
  have e42 : ρ 24 = bstr x28 := (hp 7 rfl).1
  refine WL.binS (v := .bool (x25 != x28)) e41 e42 (sb_neq _ _) ?_
  exact WL.nil ⟨rfl, _, rfl, rfl, hs.cutG 0 0⟩ }
  {
  intro ρ w hs hu43 hp
  obtain ⟨⟨⟨⟨⟨⟨⟨⟨⟨_, hp0_⟩, hp1_⟩, hp2_⟩, hp3_⟩, hp4_⟩, hp5_⟩, hp6_⟩, hp7_⟩, hp8_⟩ := hp
  have hs : St ok (bz w0) w [pl tStr x28 (adOf (ρ 23)), pl tStr x25 (adOf (ρ 19)), vl (tSlice tStr) x1 (.slice a2 x1.length c3), vl (tSlice tStr) x4 (.slice a5 x4.length c6)] [] := hs
  have e44 : ρ 25 = .bool (x25 != x28) := hp8_
  have e45 : ρ 24 = bstr x28 := hp7_
  obtain ⟨ad46, e47⟩ := hp6_
  have e47 : ρ 23 = .pointer (some ad46) := e47
  try rw [e47] at hs
  have e48 : ρ 22 = .int .i64 x18 := hp5_
  have e49 : ρ 21 = .slice a5 x4.length c6 := hp4_
  have e50 : ρ 20 = bstr x25 := hp3_
  obtain ⟨ad51, e52⟩ := hp2_
  have e52 : ρ 19 = .pointer (some ad51) := e52
  try rw [e52] at hs
  have e53 : ρ 18 = .int .i64 x18 := hp1_
  have e54 : ρ 17 = .slice a2 x1.length c3 := hp0_
  refine WA.done (by kernel_rfl) ?_
  refine hK24 _ _ ?_
  rcases iteE hf with ⟨hc55, hf⟩ | ⟨hc55, hf⟩
  {
  refine W.cond_true (bool_tr e44 hc55) ?_
  refine W.seqK fun K56 hK56 => ?_
  refine W.region ?_
  refine WL.assign (v := .bool false) rfl ?_
  refine WL.nil ?_
  refine hK56 _ _ ?_
  refine W.ret ?_
  have hr := Option.some.inj hf; subst hr
  have hr := hbbs19 _ rfl; subst hr
  have hf := hfs19
  have hr := Option.some.inj hf; subst hr
  exact ⟨_, resOk_one rfl rfl, (), rfl, (hs.mask []).pick []⟩ }
  {
  refine W.cond_false (bool_tr e44 hc55) ?_
  refine W.skip ?_
  refine hK23 _ _ ?_
  refine W.region ?_
  refine WL.move (v := .int .i64 x18) ((hu43 5 rfl).trans h17_5) ?_
  obtain ⟨x57, ex57, hf⟩ := letE hf
  refine WL.bin (v := .int .i64 x57) rfl rfl (ib_as ex57 (ib_add _ _ _)) ?_
  refine WL.assign (v := .int .i64 x57) rfl ?_
  refine WL.nil ?_
  exact ⟨_, (Option.some.inj hf).symm, ((hu43 0 rfl).trans h17_0), ((hu43 1 rfl).trans h17_1), rfl, (hs.mask []).pick [2, 3]⟩ } } }
  {
  refine W.cond_false (bool_tr rfl hc22) ?_
  refine W.exit ?_
  have hr := Option.some.inj hf; subst hr
  have hr := hbbs19 _ rfl; subst hr
  have hf := hfs19
  exact Jk14  _ _  ((hs.mask []).pick []) hf } }
theorem esref32_EqualField.calls {ok : Nat → Prop} {w0 : World} {x1 : fold_Field} {x5 : fold_Field} {v2 : Value} {v6 : Value} {r : Bool} (hf : esref32_EqualField x1 x5 = some r) (i0 : (vl t_fold_Field x1 v2).holds ok w0) (i1 : (vl t_fold_Field x5 v6).holds ok w0) :
    Calls Try.prog 33 #[v2, v6] w0 fun e w' => ∃ v, e = .returned v ∧ ∃ y : Unit, v = .bool r ∧ St ok (bz w0) w' [] [] := by
  unfold esref32_EqualField at hf
  refine calls_of_W (fn := Try.f33) (N := 52) Try.func33 rfl Try.ntmps33 rfl ?_
  have hs : St ok (bz w0) w0 [vl t_fold_Field x1 v2, vl t_fold_Field x5 v6] [] := St.init (All.cons i0 (All.cons i1 All.nil))
  clear i0 i1
  obtain ⟨cs3, hl4, rfl⟩ := hs.aggv (n := 12) 0 rfl rfl rfl
  obtain ⟨cs7, hl8, rfl⟩ := hs.aggv (n := 12) 1 rfl rfl rfl
  refine W.seqK fun K9 hK9 => ?_
  refine W.region ?_
  refine WL.box (vs := cs3) hs rfl rfl (fun g10 w hs => ?_)
  refine WL.box (vs := cs7) hs rfl rfl (fun g11 w hs => ?_)
  refine WL.assign (v := .bool false) rfl ?_
  refine WL.nil ?_
  refine hK9 _ _ ?_
  refine W.seqK fun K12 hK12 => ?_
  have Jk15 : ∀ (x14 : Bool) (ρ : Env) (w : World), ρ 4 = .bool x14 → St ok (bz w0) w [] [] → esref32_EqualField.j1 x14 = some r → K12 ρ w := by
    intro x14 ρ w h13_4 hs hf
    refine hK12 _ _ ?_
    unfold esref32_EqualField.j1 at hf
    refine W.ret ?_
    have hr := Option.some.inj hf; subst hr
    exact ⟨_, resOk_one rfl h13_4, (), rfl, (hs.mask []).pick []⟩
  refine W.region ?_
  refine WL.fieldAddr (m := 0) rfl FA57_0 rfl ?_
  refine WL.loadF (z := x1.Name) F_fold_Field_Name hs 1 rfl 0 rfl rfl TI9 (.inr rfl) rfl rfl (fun v16 hs => ?_)
  obtain rfl := hs.str 0 rfl
  refine WL.fieldAddr (m := 0) rfl FA57_0 rfl ?_
  refine WL.loadF (z := x5.Name) F_fold_Field_Name hs 0 rfl 2 rfl rfl TI9 (.inr rfl) rfl rfl (fun v17 hs => ?_)
  obtain rfl := hs.str 0 rfl
  refine WL.binS (v := .bool (x1.Name == x5.Name)) rfl rfl (sb_eql _ _) ?_
  refine WL.move (v := .bool (x1.Name == x5.Name)) rfl ?_
  rcases iteE hf with ⟨hc18, hf⟩ | ⟨hc18, hf⟩
  {
  refine WL.fieldAddr (m := 1) rfl FA57_1 rfl ?_ (hg := (wanted_of rfl rfl (bool_tr rfl hc18)).trans rfl)
  refine WL.loadF (z := x1.Register) F_fold_Field_Register hs 1 rfl 2 rfl rfl TI54 (.inl rfl) rfl rfl (fun v19 hs => ?_) (hg := (wanted_of rfl rfl (bool_tr rfl hc18)).trans rfl)
  obtain ⟨cs20, hl21, rfl⟩ := hs.aggv (n := 6) 0 rfl rfl rfl
  refine WL.fieldAddr (m := 1) rfl FA57_1 rfl ?_ (hg := (wanted_of rfl rfl (bool_tr rfl hc18)).trans rfl)
  refine WL.loadF (z := x5.Register) F_fold_Field_Register hs 0 rfl 4 rfl rfl TI54 (.inl rfl) rfl rfl (fun v22 hs => ?_) (hg := (wanted_of rfl rfl (bool_tr rfl hc18)).trans rfl)
  obtain ⟨cs23, hl24, rfl⟩ := hs.aggv (n := 6) 0 rfl rfl rfl
  obtain rfl := open_fold_Register hs 1 rfl
  obtain rfl := open_fold_Register hs 0 rfl
  refine WL.eqA rfl rfl EG54 (EQ54 (⟨x1.Register.Set, x1.Register.Tag, x1.Register.Client, x1.Register.Seq, x1.Register.N, x1.Register.S⟩ : fold_Register) (⟨x5.Register.Set, x5.Register.Tag, x5.Register.Client, x5.Register.Seq, x5.Register.N, x5.Register.S⟩ : fold_Register)) ?_ (hg := (wanted_of rfl rfl (bool_tr rfl hc18)).trans rfl)
  refine WL.pickT (v := .bool (decide ((⟨x1.Register.Set, x1.Register.Tag, x1.Register.Client, x1.Register.Seq, x1.Register.N, x1.Register.S⟩ : fold_Register) = (⟨x5.Register.Set, x5.Register.Tag, x5.Register.Client, x5.Register.Seq, x5.Register.N, x5.Register.S⟩ : fold_Register)))) (bool_tr rfl hc18) rfl ?_
  refine WL.move (v := .bool (decide ((⟨x1.Register.Set, x1.Register.Tag, x1.Register.Client, x1.Register.Seq, x1.Register.N, x1.Register.S⟩ : fold_Register) = (⟨x5.Register.Set, x5.Register.Tag, x5.Register.Client, x5.Register.Seq, x5.Register.N, x5.Register.S⟩ : fold_Register)))) rfl ?_
  rcases iteE hf with ⟨hc25, hf⟩ | ⟨hc25, hf⟩
  {
  refine WL.fieldAddr (m := 7) rfl FA57_2 rfl ?_ (hg := (wanted_of rfl rfl (bool_tr rfl hc25)).trans rfl)
  refine WL.loadF (z := x1.HasMax) F_fold_Field_HasMax hs 1 rfl 4 rfl rfl TI4 (.inr rfl) rfl rfl (fun v26 hs => ?_) (hg := (wanted_of rfl rfl (bool_tr rfl hc25)).trans rfl)
  obtain rfl := hs.bool 0 rfl
  refine WL.fieldAddr (m := 7) rfl FA57_2 rfl ?_ (hg := (wanted_of rfl rfl (bool_tr rfl hc25)).trans rfl)
  refine WL.loadF (z := x5.HasMax) F_fold_Field_HasMax hs 0 rfl 6 rfl rfl TI4 (.inr rfl) rfl rfl (fun v27 hs => ?_) (hg := (wanted_of rfl rfl (bool_tr rfl hc25)).trans rfl)
  obtain rfl := hs.bool 0 rfl
  refine WL.eqB UN4 rfl rfl ?_ (hg := (wanted_of rfl rfl (bool_tr rfl hc25)).trans rfl)
  refine WL.pickT (v := .bool (x1.HasMax == x5.HasMax)) (bool_tr rfl hc25) rfl ?_
  refine WL.move (v := .bool (x1.HasMax == x5.HasMax)) rfl ?_
  rcases iteE hf with ⟨hc28, hf⟩ | ⟨hc28, hf⟩
  {
  refine WL.fieldAddr (m := 8) rfl FA57_3 rfl ?_ (hg := (wanted_of rfl rfl (bool_tr rfl hc28)).trans rfl)
  refine WL.loadF (z := x1.Max) F_fold_Field_Max hs 1 rfl 6 rfl rfl TI2 (.inr rfl) rfl rfl (fun v29 hs => ?_) (hg := (wanted_of rfl rfl (bool_tr rfl hc28)).trans rfl)
  obtain rfl := hs.int 0 rfl
  refine WL.fieldAddr (m := 8) rfl FA57_3 rfl ?_ (hg := (wanted_of rfl rfl (bool_tr rfl hc28)).trans rfl)
  refine WL.loadF (z := x5.Max) F_fold_Field_Max hs 0 rfl 8 rfl rfl TI2 (.inr rfl) rfl rfl (fun v30 hs => ?_) (hg := (wanted_of rfl rfl (bool_tr rfl hc28)).trans rfl)
  obtain rfl := hs.int 0 rfl
  refine WL.bin (v := .bool (x1.Max == x5.Max)) rfl rfl (ib_eql _ _ _) ?_ (hg := (wanted_of rfl rfl (bool_tr rfl hc28)).trans rfl)
  refine WL.pickT (v := .bool (x1.Max == x5.Max)) (bool_tr rfl hc28) rfl ?_
  refine WL.move (v := .bool (x1.Max == x5.Max)) rfl ?_
  rcases iteE hf with ⟨hc31, hf⟩ | ⟨hc31, hf⟩
  {
  refine WL.fieldAddr (m := 9) rfl FA57_4 rfl ?_ (hg := (wanted_of rfl rfl (bool_tr rfl hc31)).trans rfl)
  refine WL.loadF (z := x1.Sum) F_fold_Field_Sum hs 1 rfl 8 rfl rfl TI2 (.inr rfl) rfl rfl (fun v32 hs => ?_) (hg := (wanted_of rfl rfl (bool_tr rfl hc31)).trans rfl)
  obtain rfl := hs.int 0 rfl
  refine WL.fieldAddr (m := 9) rfl FA57_4 rfl ?_ (hg := (wanted_of rfl rfl (bool_tr rfl hc31)).trans rfl)
  refine WL.loadF (z := x5.Sum) F_fold_Field_Sum hs 0 rfl 10 rfl rfl TI2 (.inr rfl) rfl rfl (fun v33 hs => ?_) (hg := (wanted_of rfl rfl (bool_tr rfl hc31)).trans rfl)
  obtain rfl := hs.int 0 rfl
  refine WL.bin (v := .bool (x1.Sum == x5.Sum)) rfl rfl (ib_eql _ _ _) ?_ (hg := (wanted_of rfl rfl (bool_tr rfl hc31)).trans rfl)
  refine WL.pickT (v := .bool (x1.Sum == x5.Sum)) (bool_tr rfl hc31) rfl ?_
  refine WL.move (v := .bool (x1.Sum == x5.Sum)) rfl ?_
  rcases iteE hf with ⟨hc34, hf⟩ | ⟨hc34, hf⟩
  {
  refine WL.fieldAddr (m := 11) rfl FA57_6 rfl ?_ (hg := (wanted_of rfl rfl (bool_tr rfl hc34)).trans rfl)
  refine WL.loadF (z := x1.Flag) F_fold_Field_Flag hs 1 rfl 10 rfl rfl TI4 (.inr rfl) rfl rfl (fun v35 hs => ?_) (hg := (wanted_of rfl rfl (bool_tr rfl hc34)).trans rfl)
  obtain rfl := hs.bool 0 rfl
  refine WL.fieldAddr (m := 11) rfl FA57_6 rfl ?_ (hg := (wanted_of rfl rfl (bool_tr rfl hc34)).trans rfl)
  refine WL.loadF (z := x5.Flag) F_fold_Field_Flag hs 0 rfl 12 rfl rfl TI4 (.inr rfl) rfl rfl (fun v36 hs => ?_) (hg := (wanted_of rfl rfl (bool_tr rfl hc34)).trans rfl)
  obtain rfl := hs.bool 0 rfl
  refine WL.eqB UN4 rfl rfl ?_ (hg := (wanted_of rfl rfl (bool_tr rfl hc34)).trans rfl)
  refine WL.pickT (v := .bool (x1.Flag == x5.Flag)) (bool_tr rfl hc34) rfl ?_
  refine WL.move (v := .bool (x1.Flag == x5.Flag)) rfl ?_
  rcases iteE hf with ⟨hc37, hf⟩ | ⟨hc37, hf⟩
  {
  refine WL.fieldAddr (m := 10) rfl FA57_5 rfl ?_ (hg := (wanted_of rfl rfl (bool_tr rfl hc37)).trans rfl)
  refine WL.loadF (z := x1.Elems) F_fold_Field_Elems hs 1 rfl 12 rfl rfl TI55 (.inr rfl) rfl rfl (fun v38 hs => ?_) (hg := (wanted_of rfl rfl (bool_tr rfl hc37)).trans rfl)
  obtain ⟨a39, c40, rfl⟩ := hs.slice 0 rfl
  refine WL.fieldAddr (m := 10) rfl FA57_5 rfl ?_ (hg := (wanted_of rfl rfl (bool_tr rfl hc37)).trans rfl)
  refine WL.loadF (z := x5.Elems) F_fold_Field_Elems hs 0 rfl 14 rfl rfl TI55 (.inr rfl) rfl rfl (fun v41 hs => ?_) (hg := (wanted_of rfl rfl (bool_tr rfl hc37)).trans rfl)
  obtain ⟨a42, c43, rfl⟩ := hs.slice 0 rfl
  obtain ⟨x44, hxx44, hf⟩ := bindE hf
  refine WL.call (vs := [.slice a39 (x1.Elems).length c40, .slice a42 (x5.Elems).length c43]) hs FN56 ⟨rfl, ⟨rfl, trivial⟩⟩ (fun ok hA => esref32_EqualStrings.calls (x1 := x1.Elems) (x4 := x5.Elems) hxx44 (hA.get 1 rfl) (hA.get 0 rfl)) ?_ (hg := (wanted_of rfl rfl (bool_tr rfl hc37)).trans rfl)
  rintro _ w hs
  refine WL.pickT (v := .bool x44) (bool_tr rfl hc37) rfl ?_
  refine WL.assign (v := .bool x44) rfl ?_
  refine WL.nil ?_
  exact Jk15 x44 _ _ rfl ((hs.mask []).pick []) hf }
  {
  refine WL.pass ((wanted_of rfl rfl (bool_tr rfl hc37)).trans rfl) rfl ?_
  refine WL.pass ((wanted_of rfl rfl (bool_tr rfl hc37)).trans rfl) rfl ?_
  refine WL.pass ((wanted_of rfl rfl (bool_tr rfl hc37)).trans rfl) rfl ?_
  refine WL.pass ((wanted_of rfl rfl (bool_tr rfl hc37)).trans rfl) rfl ?_
  refine WL.pass ((wanted_of rfl rfl (bool_tr rfl hc37)).trans rfl) rfl ?_
  refine WL.pickF (v := .bool false) (bool_tr rfl hc37) rfl ?_
  refine WL.assign (v := .bool false) rfl ?_
  refine WL.nil ?_
  exact Jk15 false _ _ rfl ((hs.mask []).pick []) hf } }
  {
  refine WL.pass ((wanted_of rfl rfl (bool_tr rfl hc34)).trans rfl) rfl ?_
  refine WL.pass ((wanted_of rfl rfl (bool_tr rfl hc34)).trans rfl) rfl ?_
  refine WL.pass ((wanted_of rfl rfl (bool_tr rfl hc34)).trans rfl) rfl ?_
  refine WL.pass ((wanted_of rfl rfl (bool_tr rfl hc34)).trans rfl) rfl ?_
  refine WL.pass ((wanted_of rfl rfl (bool_tr rfl hc34)).trans rfl) rfl ?_
  refine WL.pickF (v := .bool false) (bool_tr rfl hc34) rfl ?_
  refine WL.move (v := .bool false) rfl ?_
  refine WL.pass ((wanted_of rfl rfl rfl).trans rfl) rfl ?_
  refine WL.pass ((wanted_of rfl rfl rfl).trans rfl) rfl ?_
  refine WL.pass ((wanted_of rfl rfl rfl).trans rfl) rfl ?_
  refine WL.pass ((wanted_of rfl rfl rfl).trans rfl) rfl ?_
  refine WL.pass ((wanted_of rfl rfl rfl).trans rfl) rfl ?_
  refine WL.pickF (v := .bool false) rfl rfl ?_
  refine WL.assign (v := .bool false) rfl ?_
  refine WL.nil ?_
  exact Jk15 false _ _ rfl ((hs.mask []).pick []) hf } }
  {
  refine WL.pass ((wanted_of rfl rfl (bool_tr rfl hc31)).trans rfl) rfl ?_
  refine WL.pass ((wanted_of rfl rfl (bool_tr rfl hc31)).trans rfl) rfl ?_
  refine WL.pass ((wanted_of rfl rfl (bool_tr rfl hc31)).trans rfl) rfl ?_
  refine WL.pass ((wanted_of rfl rfl (bool_tr rfl hc31)).trans rfl) rfl ?_
  refine WL.pass ((wanted_of rfl rfl (bool_tr rfl hc31)).trans rfl) rfl ?_
  refine WL.pickF (v := .bool false) (bool_tr rfl hc31) rfl ?_
  refine WL.move (v := .bool false) rfl ?_
  refine WL.pass ((wanted_of rfl rfl rfl).trans rfl) rfl ?_
  refine WL.pass ((wanted_of rfl rfl rfl).trans rfl) rfl ?_
  refine WL.pass ((wanted_of rfl rfl rfl).trans rfl) rfl ?_
  refine WL.pass ((wanted_of rfl rfl rfl).trans rfl) rfl ?_
  refine WL.pass ((wanted_of rfl rfl rfl).trans rfl) rfl ?_
  refine WL.pickF (v := .bool false) rfl rfl ?_
  refine WL.move (v := .bool false) rfl ?_
  refine WL.pass ((wanted_of rfl rfl rfl).trans rfl) rfl ?_
  refine WL.pass ((wanted_of rfl rfl rfl).trans rfl) rfl ?_
  refine WL.pass ((wanted_of rfl rfl rfl).trans rfl) rfl ?_
  refine WL.pass ((wanted_of rfl rfl rfl).trans rfl) rfl ?_
  refine WL.pass ((wanted_of rfl rfl rfl).trans rfl) rfl ?_
  refine WL.pickF (v := .bool false) rfl rfl ?_
  refine WL.assign (v := .bool false) rfl ?_
  refine WL.nil ?_
  exact Jk15 false _ _ rfl ((hs.mask []).pick []) hf } }
  {
  refine WL.pass ((wanted_of rfl rfl (bool_tr rfl hc28)).trans rfl) rfl ?_
  refine WL.pass ((wanted_of rfl rfl (bool_tr rfl hc28)).trans rfl) rfl ?_
  refine WL.pass ((wanted_of rfl rfl (bool_tr rfl hc28)).trans rfl) rfl ?_
  refine WL.pass ((wanted_of rfl rfl (bool_tr rfl hc28)).trans rfl) rfl ?_
  refine WL.pass ((wanted_of rfl rfl (bool_tr rfl hc28)).trans rfl) rfl ?_
  refine WL.pickF (v := .bool false) (bool_tr rfl hc28) rfl ?_
  refine WL.move (v := .bool false) rfl ?_
  refine WL.pass ((wanted_of rfl rfl rfl).trans rfl) rfl ?_
  refine WL.pass ((wanted_of rfl rfl rfl).trans rfl) rfl ?_
  refine WL.pass ((wanted_of rfl rfl rfl).trans rfl) rfl ?_
  refine WL.pass ((wanted_of rfl rfl rfl).trans rfl) rfl ?_
  refine WL.pass ((wanted_of rfl rfl rfl).trans rfl) rfl ?_
  refine WL.pickF (v := .bool false) rfl rfl ?_
  refine WL.move (v := .bool false) rfl ?_
  refine WL.pass ((wanted_of rfl rfl rfl).trans rfl) rfl ?_
  refine WL.pass ((wanted_of rfl rfl rfl).trans rfl) rfl ?_
  refine WL.pass ((wanted_of rfl rfl rfl).trans rfl) rfl ?_
  refine WL.pass ((wanted_of rfl rfl rfl).trans rfl) rfl ?_
  refine WL.pass ((wanted_of rfl rfl rfl).trans rfl) rfl ?_
  refine WL.pickF (v := .bool false) rfl rfl ?_
  refine WL.move (v := .bool false) rfl ?_
  refine WL.pass ((wanted_of rfl rfl rfl).trans rfl) rfl ?_
  refine WL.pass ((wanted_of rfl rfl rfl).trans rfl) rfl ?_
  refine WL.pass ((wanted_of rfl rfl rfl).trans rfl) rfl ?_
  refine WL.pass ((wanted_of rfl rfl rfl).trans rfl) rfl ?_
  refine WL.pass ((wanted_of rfl rfl rfl).trans rfl) rfl ?_
  refine WL.pickF (v := .bool false) rfl rfl ?_
  refine WL.assign (v := .bool false) rfl ?_
  refine WL.nil ?_
  exact Jk15 false _ _ rfl ((hs.mask []).pick []) hf } }
  {
  refine WL.pass ((wanted_of rfl rfl (bool_tr rfl hc25)).trans rfl) rfl ?_
  refine WL.pass ((wanted_of rfl rfl (bool_tr rfl hc25)).trans rfl) rfl ?_
  refine WL.pass ((wanted_of rfl rfl (bool_tr rfl hc25)).trans rfl) rfl ?_
  refine WL.pass ((wanted_of rfl rfl (bool_tr rfl hc25)).trans rfl) rfl ?_
  refine WL.pass ((wanted_of rfl rfl (bool_tr rfl hc25)).trans rfl) rfl ?_
  refine WL.pickF (v := .bool false) (bool_tr rfl hc25) rfl ?_
  refine WL.move (v := .bool false) rfl ?_
  refine WL.pass ((wanted_of rfl rfl rfl).trans rfl) rfl ?_
  refine WL.pass ((wanted_of rfl rfl rfl).trans rfl) rfl ?_
  refine WL.pass ((wanted_of rfl rfl rfl).trans rfl) rfl ?_
  refine WL.pass ((wanted_of rfl rfl rfl).trans rfl) rfl ?_
  refine WL.pass ((wanted_of rfl rfl rfl).trans rfl) rfl ?_
  refine WL.pickF (v := .bool false) rfl rfl ?_
  refine WL.move (v := .bool false) rfl ?_
  refine WL.pass ((wanted_of rfl rfl rfl).trans rfl) rfl ?_
  refine WL.pass ((wanted_of rfl rfl rfl).trans rfl) rfl ?_
  refine WL.pass ((wanted_of rfl rfl rfl).trans rfl) rfl ?_
  refine WL.pass ((wanted_of rfl rfl rfl).trans rfl) rfl ?_
  refine WL.pass ((wanted_of rfl rfl rfl).trans rfl) rfl ?_
  refine WL.pickF (v := .bool false) rfl rfl ?_
  refine WL.move (v := .bool false) rfl ?_
  refine WL.pass ((wanted_of rfl rfl rfl).trans rfl) rfl ?_
  refine WL.pass ((wanted_of rfl rfl rfl).trans rfl) rfl ?_
  refine WL.pass ((wanted_of rfl rfl rfl).trans rfl) rfl ?_
  refine WL.pass ((wanted_of rfl rfl rfl).trans rfl) rfl ?_
  refine WL.pass ((wanted_of rfl rfl rfl).trans rfl) rfl ?_
  refine WL.pickF (v := .bool false) rfl rfl ?_
  refine WL.move (v := .bool false) rfl ?_
  refine WL.pass ((wanted_of rfl rfl rfl).trans rfl) rfl ?_
  refine WL.pass ((wanted_of rfl rfl rfl).trans rfl) rfl ?_
  refine WL.pass ((wanted_of rfl rfl rfl).trans rfl) rfl ?_
  refine WL.pass ((wanted_of rfl rfl rfl).trans rfl) rfl ?_
  refine WL.pass ((wanted_of rfl rfl rfl).trans rfl) rfl ?_
  refine WL.pickF (v := .bool false) rfl rfl ?_
  refine WL.assign (v := .bool false) rfl ?_
  refine WL.nil ?_
  exact Jk15 false _ _ rfl ((hs.mask []).pick []) hf } }
  {
  refine WL.pass ((wanted_of rfl rfl (bool_tr rfl hc18)).trans rfl) rfl ?_
  refine WL.pass ((wanted_of rfl rfl (bool_tr rfl hc18)).trans rfl) rfl ?_
  refine WL.pass ((wanted_of rfl rfl (bool_tr rfl hc18)).trans rfl) rfl ?_
  refine WL.pass ((wanted_of rfl rfl (bool_tr rfl hc18)).trans rfl) rfl ?_
  refine WL.pass ((wanted_of rfl rfl (bool_tr rfl hc18)).trans rfl) rfl ?_
  refine WL.pickF (v := .bool false) (bool_tr rfl hc18) rfl ?_
  refine WL.move (v := .bool false) rfl ?_
  refine WL.pass ((wanted_of rfl rfl rfl).trans rfl) rfl ?_
  refine WL.pass ((wanted_of rfl rfl rfl).trans rfl) rfl ?_
  refine WL.pass ((wanted_of rfl rfl rfl).trans rfl) rfl ?_
  refine WL.pass ((wanted_of rfl rfl rfl).trans rfl) rfl ?_
  refine WL.pass ((wanted_of rfl rfl rfl).trans rfl) rfl ?_
  refine WL.pickF (v := .bool false) rfl rfl ?_
  refine WL.move (v := .bool false) rfl ?_
  refine WL.pass ((wanted_of rfl rfl rfl).trans rfl) rfl ?_
  refine WL.pass ((wanted_of rfl rfl rfl).trans rfl) rfl ?_
  refine WL.pass ((wanted_of rfl rfl rfl).trans rfl) rfl ?_
  refine WL.pass ((wanted_of rfl rfl rfl).trans rfl) rfl ?_
  refine WL.pass ((wanted_of rfl rfl rfl).trans rfl) rfl ?_
  refine WL.pickF (v := .bool false) rfl rfl ?_
  refine WL.move (v := .bool false) rfl ?_
  refine WL.pass ((wanted_of rfl rfl rfl).trans rfl) rfl ?_
  refine WL.pass ((wanted_of rfl rfl rfl).trans rfl) rfl ?_
  refine WL.pass ((wanted_of rfl rfl rfl).trans rfl) rfl ?_
  refine WL.pass ((wanted_of rfl rfl rfl).trans rfl) rfl ?_
  refine WL.pass ((wanted_of rfl rfl rfl).trans rfl) rfl ?_
  refine WL.pickF (v := .bool false) rfl rfl ?_
  refine WL.move (v := .bool false) rfl ?_
  refine WL.pass ((wanted_of rfl rfl rfl).trans rfl) rfl ?_
  refine WL.pass ((wanted_of rfl rfl rfl).trans rfl) rfl ?_
  refine WL.pass ((wanted_of rfl rfl rfl).trans rfl) rfl ?_
  refine WL.pass ((wanted_of rfl rfl rfl).trans rfl) rfl ?_
  refine WL.pass ((wanted_of rfl rfl rfl).trans rfl) rfl ?_
  refine WL.pickF (v := .bool false) rfl rfl ?_
  refine WL.move (v := .bool false) rfl ?_
  refine WL.pass ((wanted_of rfl rfl rfl).trans rfl) rfl ?_
  refine WL.pass ((wanted_of rfl rfl rfl).trans rfl) rfl ?_
  refine WL.pass ((wanted_of rfl rfl rfl).trans rfl) rfl ?_
  refine WL.pass ((wanted_of rfl rfl rfl).trans rfl) rfl ?_
  refine WL.pass ((wanted_of rfl rfl rfl).trans rfl) rfl ?_
  refine WL.pickF (v := .bool false) rfl rfl ?_
  refine WL.assign (v := .bool false) rfl ?_
  refine WL.nil ?_
  exact Jk15 false _ _ rfl ((hs.mask []).pick []) hf }
end Go.Proofs.Ytlbcfjblpopcnaa
