import Derived.Test.YtodebgfppmcjlaaFh
import Derived.Test.YtodebgfppmcjlaaLt
import Derived.Test.YtodebgfppmcjlaaFp0
import Derived.Test.YtodebgfppmcjlaaFp4
import Derived.Test.YtodebgfppmcjlaaFp9
import Derived.Test.YtodebgfppmcjlaaFp10
set_option linter.unusedVariables false
set_option linter.unusedSimpArgs false
namespace Go.Proofs.Ytodebgfppmcjlaa
open Go Go.RowKit Go.Proofs.YtodebgfppmcjlaaL
set_option maxRecDepth 100000
set_option maxHeartbeats 4000000
/-! elasticstore/elasticstorelaw04.QuorumWeights: function 10 -/
theorem eslaw04_QuorumWeights.calls {ok : Nat → Prop} {w0 : World} {x1 : Int} {x2 : Int} {x3 : Int}  {r : Bool} (hf : eslaw04_QuorumWeights x1 x2 x3 = some r)  :
    Calls Try.prog 10 #[.int .i64 x1, .int .i64 x2, .int .i64 x3] w0 fun e w' => ∃ v, e = .returned v ∧ ∃ y : Unit, v = .bool r ∧ St ok (bz w0) w' [] [] := by
  unfold eslaw04_QuorumWeights at hf
  refine calls_of_W (fn := Try.f10) (N := 60) Try.func10 rfl Try.ntmps10 rfl ?_
  have hs : St ok (bz w0) w0 [] [] := St.init All.nil
  refine W.seqK fun K4 hK4 => ?_
  refine W.region ?_
  refine WL.assign (v := .bool false) rfl ?_
  refine WL.nil ?_
  refine hK4 _ _ ?_
  refine W.seqK fun K5 hK5 => ?_
  refine W.region ?_
  refine WL.move (v := .int .i64 x1) rfl ?_
  obtain ⟨x6, hxx6, hf⟩ := bindE hf
  refine WL.call (vs := [.int .i64 0, .int .i64 x1]) hs FN22 ⟨rfl, ⟨rfl, trivial⟩⟩ (fun ok hA => eslaw04_view.calls (x1 := 0) (x2 := x1) hxx6) ?_
  rintro ⟨a7, n8, c9⟩ w hs
  refine WL.alloc hs ZV26 (fun g10 w hs => ?_)
  refine WL.storeAll (vs := [.slice a7 n8 c9, .int .i64 x6.Rule.Kind, .int .i64 x6.Rule.Columns, .int .i64 x6.Rule.Faulty]) hs 0 rfl TI26 rfl rfl rfl rfl (ones_of rfl) rfl (fun w hs => ?_)
  refine WL.nil ?_
  refine hK5 _ _ ?_
  refine W.seqK fun K11 hK11 => ?_
  have Jk14 : ∀ (x12 : List api_Member) (ρ : Env) (w : World), ρ 2 = .int .i64 x3 → ρ 7 = .pointer (some ⟨g10, 0, none⟩) → St ok (bz w0) w [] [blk g10 26 [.slice a7 n8 c9, .int .i64 x6.Rule.Kind, .int .i64 x6.Rule.Columns, .int .i64 x6.Rule.Faulty], own t_api_Member 44 (.slice a7 n8 c9) x12] → eslaw04_QuorumWeights.j3 x3 x6 x12 = some r → K11 ρ w := by
    intro x12 ρ w h13_2 h13_7 hs hf
    refine hK11 _ _ ?_
    unfold eslaw04_QuorumWeights.j3 at hf
    obtain rfl := hs.ownLen 1 rfl
    have hs := hs.freezeOwn 1 rfl
    refine W.seqK fun K231 hK231 => ?_
    have Jk241 : ∀ (x234 : api_View) (x238 : api_View) (g233 : Nat) (cs235 : List Value) (g237 : Nat) (cs239 : List Value) (ρ : Env) (w : World), cs235.length = 4 → cs239.length = 4 → ρ 2 = .int .i64 x3 → ρ 7 = .pointer (some ⟨g10, 0, none⟩) → ρ 9 = .pointer (some ⟨g233, 0, none⟩) → ρ 10 = .pointer (some ⟨g237, 0, none⟩) → St ok (bz w0) w [vl (tSlice t_api_Member) x12 (.slice a7 x12.length c9), vl t_api_View x234 (.agg cs235.toArray), vl t_api_View x238 (.agg cs239.toArray)] [blk g10 26 [.slice a7 x12.length c9, .int .i64 x6.Rule.Kind, .int .i64 x6.Rule.Columns, .int .i64 x6.Rule.Faulty], blk g233 26 cs235, blk g237 26 cs239] → eslaw04_QuorumWeights.j2 x3 x12 x234 x238 = some r → K231 ρ w := by
      intro x234 x238 g233 cs235 g237 cs239 ρ w hl236 hl240 h232_2 h232_7 h232_9 h232_10 hs hf
      refine hK231 _ _ ?_
      unfold eslaw04_QuorumWeights.j2 at hf
      refine W.seqK fun K242 hK242 => ?_
      refine W.region ?_
      refine WL.build (vs := [(0, .int .i64 1)]) (cs := [.int .i64 1, .int .i64 0, .int .i64 0]) ⟨⟨rfl, rfl⟩, trivial⟩ (bld PL23 rfl) ?_
      refine WL.fieldAddr (m := 1) h232_9 FA26_1 rfl ?_
      obtain ⟨a243, c244, rfl⟩ := open_api_View hs 1 rfl
      have hs := hs.add (it := vl (tSlice t_api_Member) x234.Members (.slice a243 (x234.Members).length c244)) fun ok hA => V_fld F_api_View_Members (hA.get 1 rfl) rfl rfl rfl
      refine WL.store (vs := [.int .i64 1, .int .i64 0, .int .i64 0]) (cs' := [.slice a243 (x234.Members).length c244, .int .i64 1, .int .i64 0, .int .i64 0]) hs 1 rfl TI23 rfl rfl rfl rfl (ones_of rfl) (Nat.le_of_ble_eq_true rfl) rfl (fun w hs => ?_)
      refine WL.nil ?_
      refine hK242 _ _ ?_
      refine W.seqK fun K245 hK245 => ?_
      refine W.region ?_
      refine WL.build (vs := [(0, .int .i64 2)]) (cs := [.int .i64 2, .int .i64 0, .int .i64 0]) ⟨⟨rfl, rfl⟩, trivial⟩ (bld PL23 rfl) ?_
      refine WL.fieldAddr (m := 1) h232_10 FA26_1 rfl ?_
      obtain ⟨a246, c247, rfl⟩ := open_api_View hs 3 rfl
      have hs := hs.add (it := vl (tSlice t_api_Member) x238.Members (.slice a246 (x238.Members).length c247)) fun ok hA => V_fld F_api_View_Members (hA.get 3 rfl) rfl rfl rfl
      refine WL.store (vs := [.int .i64 2, .int .i64 0, .int .i64 0]) (cs' := [.slice a246 (x238.Members).length c247, .int .i64 2, .int .i64 0, .int .i64 0]) hs 2 rfl TI23 rfl rfl rfl rfl (ones_of rfl) (Nat.le_of_ble_eq_true rfl) rfl (fun w hs => ?_)
      refine WL.nil ?_
      refine hK245 _ _ ?_
      refine W.seqK fun K248 hK248 => ?_
      refine W.region ?_
      refine WL.loadN (vs := [.slice a7 x12.length c9, .int .i64 x6.Rule.Kind, .int .i64 x6.Rule.Columns, .int .i64 x6.Rule.Faulty]) hs 0 rfl TI26 h232_7 rfl rfl ?_
      refine WL.alloc hs ZV26 (fun g249 w hs => ?_)
      refine WL.storeAll (vs := [.slice a7 x12.length c9, .int .i64 x6.Rule.Kind, .int .i64 x6.Rule.Columns, .int .i64 x6.Rule.Faulty]) hs 0 rfl TI26 rfl rfl rfl rfl (ones_of rfl) rfl (fun w hs => ?_)
      refine WL.nil ?_
      refine hK248 _ _ ?_
      refine W.seqK fun K250 hK250 => ?_
      refine W.region ?_
      refine WL.build (vs := [(0, .int .i64 4)]) (cs := [.int .i64 4, .int .i64 0, .int .i64 0]) ⟨⟨rfl, rfl⟩, trivial⟩ (bld PL23 rfl) ?_
      refine WL.fieldAddr (m := 1) rfl FA26_1 rfl ?_
      refine WL.store (vs := [.int .i64 4, .int .i64 0, .int .i64 0]) (cs' := [.slice a7 x12.length c9, .int .i64 4, .int .i64 0, .int .i64 0]) hs 0 rfl TI23 rfl rfl rfl rfl (ones_of rfl) (Nat.le_of_ble_eq_true rfl) rfl (fun w hs => ?_)
      refine WL.nil ?_
      refine hK250 _ _ ?_
      refine W.seqK fun K251 hK251 => ?_
      obtain ⟨x252, hxx252, hf⟩ := bindE hf
      obtain ⟨x255, hxx255, hf⟩ := bindE hf
      refine W.any (by kernel_rfl) 4 1 [true, true, true, true, false] rfl rfl (poAt [pv (.agg ([.slice a243 (x234.Members).length c244, .int .i64 1, .int .i64 0, .int .i64 0] : List Value).toArray), pv (.int .i64 x3), pq (fun y : (Option Addr × Nat) => .slice y.1 x252.length y.2) (fun v => [vl (tSlice (tInt .i64)) x252 v]) (fun v => []), pv (.bool x255)]) (Λ := [blk g249 26 [.slice a7 x12.length c9, .int .i64 4, .int .i64 0, .int .i64 0], blk g10 26 [.slice a7 x12.length c9, .int .i64 x6.Rule.Kind, .int .i64 x6.Rule.Columns, .int .i64 x6.Rule.Faulty], blk g233 26 [.slice a243 (x234.Members).length c244, .int .i64 1, .int .i64 0, .int .i64 0], blk g237 26 [.slice a246 (x238.Members).length c247, .int .i64 2, .int .i64 0, .int .i64 0]]) hs (by kernel_rfl) (by kernel_rfl) (by kernel_rfl) ⟨⟨⟨⟨trivial, ?_⟩, ?_⟩, ?_⟩, ?_⟩ ?_
      · intro ρ w Γx Λx hs hu hp
        refine WL.loadN (vs := [.slice a243 (x234.Members).length c244, .int .i64 1, .int .i64 0, .int .i64 0]) hs (Λx.length + 2) (getApp rfl) TI26 ((hu 9 rfl).trans h232_9) rfl rfl ?_
        exact WL.nil ⟨rfl, _, rfl, rfl, hs.cutG 0 0⟩
      · intro ρ w Γx Λx hs hu hp
        refine WL.move (v := .int .i64 x3) ((hu 2 rfl).trans h232_2) ?_
        exact WL.nil ⟨rfl, _, rfl, rfl, hs.cutG 0 0⟩
      · intro ρ w Γx Λx hs hu hp
        have e256 : ρ 40 = .int .i64 x3 := (hp 1 rfl).1
        refine WL.call (vs := [.int .i64 x3]) hs FN24 ⟨e256, trivial⟩ (fun ok hA => eslaw04_chosen.callc (x1 := x3) hxx252) ?_
        rintro ⟨a253, c254⟩ w hs
        have hs := hs.add (it := vl (tSlice (tInt .i64)) x252 (.slice a253 x252.length c254)) fun ok hA => hA.get 0 rfl
        exact WL.nil ⟨rfl, _, rfl, ⟨(a253, c254), rfl⟩, hs.cutG 1 1⟩
      · intro ρ w Γx Λx hs hu hp
        have e257 : ρ 39 = .agg ([.slice a243 (x234.Members).length c244, .int .i64 1, .int .i64 0, .int .i64 0] : List Value).toArray := (hp 0 rfl).1
        obtain ⟨⟨⟨a258, c259⟩, e260r⟩, hm261⟩ := hp 2 rfl
        have e260 : ρ 41 = .slice a258 x252.length c259 := e260r
        rw [e260r] at hm261
        have hs := hs.memo1 (it := vl (tSlice (tInt .i64)) x252 (.slice a258 x252.length c259)) (List.mem_append.2 (.inl (hm261 _ (List.mem_of_getElem? (i := 0) rfl))))
        have hs := hs.add (it := vl t_api_View (⟨x234.Members, (⟨1, 0, 0⟩ : api_Rule)⟩ : api_View) (.agg [.slice a243 (x234.Members).length c244, .int .i64 1, .int .i64 0, .int .i64 0].toArray)) fun ok hA => V_agg (show t_api_View.R ok _ _ _ from ⟨[.slice a243 (x234.Members).length c244], [.int .i64 1, .int .i64 0, .int .i64 0], rfl, (R_one (hA.get (Γx.length + 1 + 1) (getApp1 rfl))), ⟨[.int .i64 1], [.int .i64 0, .int .i64 0], rfl, rfl, ⟨[.int .i64 0], [.int .i64 0], rfl, rfl, rfl⟩⟩⟩) rfl
        refine WL.call (vs := [.agg ([.slice a243 (x234.Members).length c244, .int .i64 1, .int .i64 0, .int .i64 0] : List Value).toArray, .slice a258 x252.length c259]) hs FN18 ⟨e257, ⟨e260, trivial⟩⟩ (fun ok hA => quorum_IsQuorum.calls (x1 := (⟨x234.Members, (⟨1, 0, 0⟩ : api_Rule)⟩ : api_View)) (x5 := x252) hxx255 (hA.get 0 rfl) (hA.get 1 rfl)) ?_
        rintro _ w hs
        exact WL.nil ⟨rfl, _, rfl, rfl, hs.cutG 0 2⟩
      · intro ρ w hs hu262 hp
        obtain ⟨⟨⟨⟨_, hp0_⟩, hp1_⟩, hp2_⟩, hp3_⟩ := hp
        have hs : St ok (bz w0) w [vl (tSlice (tInt .i64)) x252 (ρ 41), vl (tSlice t_api_Member) x238.Members (.slice a246 (x238.Members).length c247), vl (tSlice t_api_Member) x234.Members (.slice a243 (x234.Members).length c244), vl (tSlice t_api_Member) x12 (.slice a7 x12.length c9), vl t_api_View x234 (.agg [.slice a243 (x234.Members).length c244, .int .i64 x234.Rule.Kind, .int .i64 x234.Rule.Columns, .int .i64 x234.Rule.Faulty].toArray), vl t_api_View x238 (.agg [.slice a246 (x238.Members).length c247, .int .i64 x238.Rule.Kind, .int .i64 x238.Rule.Columns, .int .i64 x238.Rule.Faulty].toArray)] [blk g249 26 [.slice a7 x12.length c9, .int .i64 4, .int .i64 0, .int .i64 0], blk g10 26 [.slice a7 x12.length c9, .int .i64 x6.Rule.Kind, .int .i64 x6.Rule.Columns, .int .i64 x6.Rule.Faulty], blk g233 26 [.slice a243 (x234.Members).length c244, .int .i64 1, .int .i64 0, .int .i64 0], blk g237 26 [.slice a246 (x238.Members).length c247, .int .i64 2, .int .i64 0, .int .i64 0]] := hs
        have e263 : ρ 42 = .bool x255 := hp3_
        obtain ⟨⟨a264, c265⟩, e266⟩ := hp2_
        have e266 : ρ 41 = .slice a264 x252.length c265 := e266
        try rw [e266] at hs
        have e267 : ρ 40 = .int .i64 x3 := hp1_
        have e268 : ρ 39 = .agg ([.slice a243 (x234.Members).length c244, .int .i64 1, .int .i64 0, .int .i64 0] : List Value).toArray := hp0_
        refine WA.step [4] (by kernel_rfl) (by simp) ⟨?_, trivial⟩
        refine WL.assign (v := .bool x255) e263 ?_
        refine WL.nil ⟨rfl, _, rfl, ?_⟩
        refine WA.done (by kernel_rfl) ?_
        refine hK251 _ _ ?_
        refine W.seqK fun K269 hK269 => ?_
        have Jk272 : ∀ (x271 : Bool) (ρ : Env) (w : World), ρ 6 = .bool x271 → St ok (bz w0) w [] [] → eslaw04_QuorumWeights.j1 x271 = some r → K269 ρ w := by
          intro x271 ρ w h270_6 hs hf
          refine hK269 _ _ ?_
          unfold eslaw04_QuorumWeights.j1 at hf
          refine W.ret ?_
          have hr := Option.some.inj hf; subst hr
          exact ⟨_, resOk_one rfl h270_6, (), rfl, (hs.mask []).pick []⟩
        obtain ⟨x273, hxx273, hf⟩ := bindE hf
        obtain ⟨x276, hxx276, hf⟩ := bindE hf
        rcases iteE hf with ⟨hc277, hf⟩ | ⟨hc277, hf⟩
        · obtain ⟨x278, hxx278, hf⟩ := bindE hf
          obtain ⟨x281, hxx281, hf⟩ := bindE hf
          rcases iteE hf with ⟨hc282, hf⟩ | ⟨hc282, hf⟩
          · obtain ⟨x283, hxx283, hf⟩ := bindE hf
            refine W.any (by kernel_rfl) 17 1 [true, true, true, true, true, true, true, true, true, true, true, true, true, true, true, true, true, false] rfl rfl (poAt [pv (.agg ([.slice a246 (x238.Members).length c247, .int .i64 2, .int .i64 0, .int .i64 0] : List Value).toArray), pv (.int .i64 x3), pq (fun y : (Option Addr × Nat) => .slice y.1 x273.length y.2) (fun v => [vl (tSlice (tInt .i64)) x273 v]) (fun v => []), pv (.bool x276), pv (.bool x255), pv (.bool (x276 == x255)), pv (.bool (x276 == x255)), pv (.agg ([.slice a7 x12.length c9, .int .i64 4, .int .i64 0, .int .i64 0] : List Value).toArray), pv (.int .i64 x3), pq (fun y : (Option Addr × Nat) => .slice y.1 x278.length y.2) (fun v => [vl (tSlice (tInt .i64)) x278 v]) (fun v => []), pv (.bool x281), pv (.bool x255), pv (.bool (x281 == x255)), pv (.bool (x281 == x255)), pv (.bool (x281 == x255)), pv (.bool x283), pv (.bool x283)]) (Λ := [blk g249 26 [.slice a7 x12.length c9, .int .i64 4, .int .i64 0, .int .i64 0], blk g10 26 [.slice a7 x12.length c9, .int .i64 x6.Rule.Kind, .int .i64 x6.Rule.Columns, .int .i64 x6.Rule.Faulty], blk g233 26 [.slice a243 (x234.Members).length c244, .int .i64 1, .int .i64 0, .int .i64 0], blk g237 26 [.slice a246 (x238.Members).length c247, .int .i64 2, .int .i64 0, .int .i64 0]]) hs (by kernel_rfl) (by kernel_rfl) (by kernel_rfl) ⟨⟨⟨⟨⟨⟨⟨⟨⟨⟨⟨⟨⟨⟨⟨⟨⟨trivial, ?_⟩, ?_⟩, ?_⟩, ?_⟩, ?_⟩, ?_⟩, ?_⟩, ?_⟩, ?_⟩, ?_⟩, ?_⟩, ?_⟩, ?_⟩, ?_⟩, ?_⟩, ?_⟩, ?_⟩ ?_
            · intro ρ w Γx Λx hs hu hp
              refine WL.loadN (vs := [.slice a246 (x238.Members).length c247, .int .i64 2, .int .i64 0, .int .i64 0]) hs (Λx.length + 3) (getApp rfl) TI26 ((hu 10 rfl).trans ((hu262 10 rfl).trans h232_10)) rfl rfl ?_
              exact WL.nil ⟨rfl, _, rfl, rfl, hs.cutG 0 0⟩
            · intro ρ w Γx Λx hs hu hp
              refine WL.move (v := .int .i64 x3) ((hu 2 rfl).trans ((hu262 2 rfl).trans h232_2)) ?_
              exact WL.nil ⟨rfl, _, rfl, rfl, hs.cutG 0 0⟩
            · intro ρ w Γx Λx hs hu hp
              have e284 : ρ 44 = .int .i64 x3 := (hp 1 rfl).1
              refine WL.call (vs := [.int .i64 x3]) hs FN24 ⟨e284, trivial⟩ (fun ok hA => eslaw04_chosen.callc (x1 := x3) hxx273) ?_
              rintro ⟨a274, c275⟩ w hs
              have hs := hs.add (it := vl (tSlice (tInt .i64)) x273 (.slice a274 x273.length c275)) fun ok hA => hA.get 0 rfl
              exact WL.nil ⟨rfl, _, rfl, ⟨(a274, c275), rfl⟩, hs.cutG 1 1⟩
            · intro ρ w Γx Λx hs hu hp
              have e285 : ρ 43 = .agg ([.slice a246 (x238.Members).length c247, .int .i64 2, .int .i64 0, .int .i64 0] : List Value).toArray := (hp 0 rfl).1
              obtain ⟨⟨⟨a286, c287⟩, e288r⟩, hm289⟩ := hp 2 rfl
              have e288 : ρ 45 = .slice a286 x273.length c287 := e288r
              rw [e288r] at hm289
              have hs := hs.memo1 (it := vl (tSlice (tInt .i64)) x273 (.slice a286 x273.length c287)) (List.mem_append.2 (.inl (hm289 _ (List.mem_of_getElem? (i := 0) rfl))))
              have hs := hs.add (it := vl t_api_View (⟨x238.Members, (⟨2, 0, 0⟩ : api_Rule)⟩ : api_View) (.agg [.slice a246 (x238.Members).length c247, .int .i64 2, .int .i64 0, .int .i64 0].toArray)) fun ok hA => V_agg (show t_api_View.R ok _ _ _ from ⟨[.slice a246 (x238.Members).length c247], [.int .i64 2, .int .i64 0, .int .i64 0], rfl, (R_one (hA.get (Γx.length + 1 + 1) (getApp1 rfl))), ⟨[.int .i64 2], [.int .i64 0, .int .i64 0], rfl, rfl, ⟨[.int .i64 0], [.int .i64 0], rfl, rfl, rfl⟩⟩⟩) rfl
              refine WL.call (vs := [.agg ([.slice a246 (x238.Members).length c247, .int .i64 2, .int .i64 0, .int .i64 0] : List Value).toArray, .slice a286 x273.length c287]) hs FN18 ⟨e285, ⟨e288, trivial⟩⟩ (fun ok hA => quorum_IsQuorum.calls (x1 := (⟨x238.Members, (⟨2, 0, 0⟩ : api_Rule)⟩ : api_View)) (x5 := x273) hxx276 (hA.get 0 rfl) (hA.get 1 rfl)) ?_
              rintro _ w hs
              exact WL.nil ⟨rfl, _, rfl, rfl, hs.cutG 0 2⟩
            · intro ρ w Γx Λx hs hu hp
              refine WL.move (v := .bool x255) (hu 12 rfl) ?_
              exact WL.nil ⟨rfl, _, rfl, rfl, hs.cutG 0 0⟩
            · intro ρ w Γx Λx hs hu hp
              have e290 : ρ 46 = .bool x276 := (hp 3 rfl).1
              have e291 : ρ 47 = .bool x255 := (hp 4 rfl).1
              refine WL.eqB UN4 e290 e291 ?_
              exact WL.nil ⟨rfl, _, rfl, rfl, hs.cutG 0 0⟩
            · intro ρ w Γx Λx hs hu hp
              have e292 : ρ 48 = .bool (x276 == x255) := (hp 5 rfl).1
              refine WL.move (v := .bool (x276 == x255)) e292 ?_
              exact WL.nil ⟨rfl, _, rfl, rfl, hs.cutG 0 0⟩
            · intro ρ w Γx Λx hs hu hp
              have e293 : ρ 49 = .bool (x276 == x255) := (hp 6 rfl).1
              refine WL.loadN (vs := [.slice a7 x12.length c9, .int .i64 4, .int .i64 0, .int .i64 0]) hs (Λx.length + 0) (getApp rfl) TI26 ((hu 11 rfl).trans (hu262 11 rfl)) rfl rfl ?_ (hg := (wanted_of rfl rfl (bool_tr e293 hc277)).trans rfl)
              exact WL.nil ⟨rfl, _, rfl, rfl, hs.cutG 0 0⟩
            · intro ρ w Γx Λx hs hu hp
              have e294 : ρ 49 = .bool (x276 == x255) := (hp 6 rfl).1
              refine WL.move (v := .int .i64 x3) ((hu 2 rfl).trans ((hu262 2 rfl).trans h232_2)) ?_ (hg := (wanted_of rfl rfl (bool_tr e294 hc277)).trans rfl)
              exact WL.nil ⟨rfl, _, rfl, rfl, hs.cutG 0 0⟩
            · intro ρ w Γx Λx hs hu hp
              have e295 : ρ 51 = .int .i64 x3 := (hp 8 rfl).1
              have e296 : ρ 49 = .bool (x276 == x255) := (hp 6 rfl).1
              refine WL.call (vs := [.int .i64 x3]) hs FN24 ⟨e295, trivial⟩ (fun ok hA => eslaw04_chosen.callc (x1 := x3) hxx278) ?_ (hg := (wanted_of rfl rfl (bool_tr e296 hc277)).trans rfl)
              rintro ⟨a279, c280⟩ w hs
              have hs := hs.add (it := vl (tSlice (tInt .i64)) x278 (.slice a279 x278.length c280)) fun ok hA => hA.get 0 rfl
              exact WL.nil ⟨rfl, _, rfl, ⟨(a279, c280), rfl⟩, hs.cutG 1 1⟩
            · intro ρ w Γx Λx hs hu hp
              have e297 : ρ 50 = .agg ([.slice a7 x12.length c9, .int .i64 4, .int .i64 0, .int .i64 0] : List Value).toArray := (hp 7 rfl).1
              obtain ⟨⟨⟨a298, c299⟩, e300r⟩, hm301⟩ := hp 9 rfl
              have e300 : ρ 52 = .slice a298 x278.length c299 := e300r
              rw [e300r] at hm301
              have hs := hs.memo1 (it := vl (tSlice (tInt .i64)) x278 (.slice a298 x278.length c299)) (List.mem_append.2 (.inl (hm301 _ (List.mem_of_getElem? (i := 0) rfl))))
              have e302 : ρ 49 = .bool (x276 == x255) := (hp 6 rfl).1
              have hs := hs.add (it := vl t_api_View (⟨x12, (⟨4, 0, 0⟩ : api_Rule)⟩ : api_View) (.agg [.slice a7 x12.length c9, .int .i64 4, .int .i64 0, .int .i64 0].toArray)) fun ok hA => V_agg (show t_api_View.R ok _ _ _ from ⟨[.slice a7 x12.length c9], [.int .i64 4, .int .i64 0, .int .i64 0], rfl, (R_one (hA.get (Γx.length + 3 + 1) (getApp1 rfl))), ⟨[.int .i64 4], [.int .i64 0, .int .i64 0], rfl, rfl, ⟨[.int .i64 0], [.int .i64 0], rfl, rfl, rfl⟩⟩⟩) rfl
              refine WL.call (vs := [.agg ([.slice a7 x12.length c9, .int .i64 4, .int .i64 0, .int .i64 0] : List Value).toArray, .slice a298 x278.length c299]) hs FN18 ⟨e297, ⟨e300, trivial⟩⟩ (fun ok hA => quorum_IsQuorum.calls (x1 := (⟨x12, (⟨4, 0, 0⟩ : api_Rule)⟩ : api_View)) (x5 := x278) hxx281 (hA.get 0 rfl) (hA.get 1 rfl)) ?_ (hg := (wanted_of rfl rfl (bool_tr e302 hc277)).trans rfl)
              rintro _ w hs
              exact WL.nil ⟨rfl, _, rfl, rfl, hs.cutG 0 2⟩
            · intro ρ w Γx Λx hs hu hp
              have e303 : ρ 49 = .bool (x276 == x255) := (hp 6 rfl).1
              refine WL.move (v := .bool x255) (hu 12 rfl) ?_ (hg := (wanted_of rfl rfl (bool_tr e303 hc277)).trans rfl)
              exact WL.nil ⟨rfl, _, rfl, rfl, hs.cutG 0 0⟩
            · intro ρ w Γx Λx hs hu hp
              have e304 : ρ 53 = .bool x281 := (hp 10 rfl).1
              have e305 : ρ 54 = .bool x255 := (hp 11 rfl).1
              have e306 : ρ 49 = .bool (x276 == x255) := (hp 6 rfl).1
              refine WL.eqB UN4 e304 e305 ?_ (hg := (wanted_of rfl rfl (bool_tr e306 hc277)).trans rfl)
              exact WL.nil ⟨rfl, _, rfl, rfl, hs.cutG 0 0⟩
            · intro ρ w Γx Λx hs hu hp
              have e307 : ρ 49 = .bool (x276 == x255) := (hp 6 rfl).1
              have e308 : ρ 55 = .bool (x281 == x255) := (hp 12 rfl).1
              refine WL.pickT (v := .bool (x281 == x255)) (bool_tr e307 hc277) e308 ?_
              exact WL.nil ⟨rfl, _, rfl, rfl, hs.cutG 0 0⟩
            · intro ρ w Γx Λx hs hu hp
              have e309 : ρ 56 = .bool (x281 == x255) := (hp 13 rfl).1
              refine WL.move (v := .bool (x281 == x255)) e309 ?_
              exact WL.nil ⟨rfl, _, rfl, rfl, hs.cutG 0 0⟩
            · intro ρ w Γx Λx hs hu hp
              have e310 : ρ 57 = .bool (x281 == x255) := (hp 14 rfl).1
              refine WL.call (vs := []) hs FN11 trivial (fun ok hA => eslaw04_awake.calls hxx283) ?_ (hg := (wanted_of rfl rfl (bool_tr e310 hc282)).trans rfl)
              rintro _ w hs
              exact WL.nil ⟨rfl, _, rfl, rfl, hs.cutG 0 0⟩
            · intro ρ w Γx Λx hs hu hp
              have e311 : ρ 57 = .bool (x281 == x255) := (hp 14 rfl).1
              have e312 : ρ 58 = .bool x283 := (hp 15 rfl).1
              refine WL.pickT (v := .bool x283) (bool_tr e311 hc282) e312 ?_
              exact WL.nil ⟨rfl, _, rfl, rfl, hs.cutG 0 0⟩
            · intro ρ w hs hu313 hp
              obtain ⟨⟨⟨⟨⟨⟨⟨⟨⟨⟨⟨⟨⟨⟨⟨⟨⟨_, hp0_⟩, hp1_⟩, hp2_⟩, hp3_⟩, hp4_⟩, hp5_⟩, hp6_⟩, hp7_⟩, hp8_⟩, hp9_⟩, hp10_⟩, hp11_⟩, hp12_⟩, hp13_⟩, hp14_⟩, hp15_⟩, hp16_⟩ := hp
              have hs : St ok (bz w0) w [vl (tSlice (tInt .i64)) x278 (ρ 52), vl (tSlice (tInt .i64)) x273 (ρ 45), vl (tSlice (tInt .i64)) x252 (.slice a264 x252.length c265), vl (tSlice t_api_Member) x238.Members (.slice a246 (x238.Members).length c247), vl (tSlice t_api_Member) x234.Members (.slice a243 (x234.Members).length c244), vl (tSlice t_api_Member) x12 (.slice a7 x12.length c9), vl t_api_View x234 (.agg [.slice a243 (x234.Members).length c244, .int .i64 x234.Rule.Kind, .int .i64 x234.Rule.Columns, .int .i64 x234.Rule.Faulty].toArray), vl t_api_View x238 (.agg [.slice a246 (x238.Members).length c247, .int .i64 x238.Rule.Kind, .int .i64 x238.Rule.Columns, .int .i64 x238.Rule.Faulty].toArray)] [blk g249 26 [.slice a7 x12.length c9, .int .i64 4, .int .i64 0, .int .i64 0], blk g10 26 [.slice a7 x12.length c9, .int .i64 x6.Rule.Kind, .int .i64 x6.Rule.Columns, .int .i64 x6.Rule.Faulty], blk g233 26 [.slice a243 (x234.Members).length c244, .int .i64 1, .int .i64 0, .int .i64 0], blk g237 26 [.slice a246 (x238.Members).length c247, .int .i64 2, .int .i64 0, .int .i64 0]] := hs
              have e314 : ρ 59 = .bool x283 := hp16_
              have e315 : ρ 58 = .bool x283 := hp15_
              have e316 : ρ 57 = .bool (x281 == x255) := hp14_
              have e317 : ρ 56 = .bool (x281 == x255) := hp13_
              have e318 : ρ 55 = .bool (x281 == x255) := hp12_
              have e319 : ρ 54 = .bool x255 := hp11_
              have e320 : ρ 53 = .bool x281 := hp10_
              obtain ⟨⟨a321, c322⟩, e323⟩ := hp9_
              have e323 : ρ 52 = .slice a321 x278.length c322 := e323
              try rw [e323] at hs
              have e324 : ρ 51 = .int .i64 x3 := hp8_
              have e325 : ρ 50 = .agg ([.slice a7 x12.length c9, .int .i64 4, .int .i64 0, .int .i64 0] : List Value).toArray := hp7_
              have e326 : ρ 49 = .bool (x276 == x255) := hp6_
              have e327 : ρ 48 = .bool (x276 == x255) := hp5_
              have e328 : ρ 47 = .bool x255 := hp4_
              have e329 : ρ 46 = .bool x276 := hp3_
              obtain ⟨⟨a330, c331⟩, e332⟩ := hp2_
              have e332 : ρ 45 = .slice a330 x273.length c331 := e332
              try rw [e332] at hs
              have e333 : ρ 44 = .int .i64 x3 := hp1_
              have e334 : ρ 43 = .agg ([.slice a246 (x238.Members).length c247, .int .i64 2, .int .i64 0, .int .i64 0] : List Value).toArray := hp0_
              refine WA.step [17] (by kernel_rfl) (by simp) ⟨?_, trivial⟩
              refine WL.assign (v := .bool x283) e314 ?_
              refine WL.nil ⟨rfl, _, rfl, ?_⟩
              refine WA.done (by kernel_rfl) ?_
              exact Jk272 x283 _ _ rfl ((hs.mask []).pick []) hf
          · refine W.any (by kernel_rfl) 17 1 [true, true, true, true, true, true, true, true, true, true, true, true, true, true, true, true, true, false] rfl rfl (poAt [pv (.agg ([.slice a246 (x238.Members).length c247, .int .i64 2, .int .i64 0, .int .i64 0] : List Value).toArray), pv (.int .i64 x3), pq (fun y : (Option Addr × Nat) => .slice y.1 x273.length y.2) (fun v => [vl (tSlice (tInt .i64)) x273 v]) (fun v => []), pv (.bool x276), pv (.bool x255), pv (.bool (x276 == x255)), pv (.bool (x276 == x255)), pv (.agg ([.slice a7 x12.length c9, .int .i64 4, .int .i64 0, .int .i64 0] : List Value).toArray), pv (.int .i64 x3), pq (fun y : (Option Addr × Nat) => .slice y.1 x278.length y.2) (fun v => [vl (tSlice (tInt .i64)) x278 v]) (fun v => []), pv (.bool x281), pv (.bool x255), pv (.bool (x281 == x255)), pv (.bool (x281 == x255)), pv (.bool (x281 == x255)), pv (undef), pv (.bool false)]) (Λ := [blk g249 26 [.slice a7 x12.length c9, .int .i64 4, .int .i64 0, .int .i64 0], blk g10 26 [.slice a7 x12.length c9, .int .i64 x6.Rule.Kind, .int .i64 x6.Rule.Columns, .int .i64 x6.Rule.Faulty], blk g233 26 [.slice a243 (x234.Members).length c244, .int .i64 1, .int .i64 0, .int .i64 0], blk g237 26 [.slice a246 (x238.Members).length c247, .int .i64 2, .int .i64 0, .int .i64 0]]) hs (by kernel_rfl) (by kernel_rfl) (by kernel_rfl) ⟨⟨⟨⟨⟨⟨⟨⟨⟨⟨⟨⟨⟨⟨⟨⟨⟨trivial, ?_⟩, ?_⟩, ?_⟩, ?_⟩, ?_⟩, ?_⟩, ?_⟩, ?_⟩, ?_⟩, ?_⟩, ?_⟩, ?_⟩, ?_⟩, ?_⟩, ?_⟩, ?_⟩, ?_⟩ ?_
            · intro ρ w Γx Λx hs hu hp
              refine WL.loadN (vs := [.slice a246 (x238.Members).length c247, .int .i64 2, .int .i64 0, .int .i64 0]) hs (Λx.length + 3) (getApp rfl) TI26 ((hu 10 rfl).trans ((hu262 10 rfl).trans h232_10)) rfl rfl ?_
              exact WL.nil ⟨rfl, _, rfl, rfl, hs.cutG 0 0⟩
            · intro ρ w Γx Λx hs hu hp
              refine WL.move (v := .int .i64 x3) ((hu 2 rfl).trans ((hu262 2 rfl).trans h232_2)) ?_
              exact WL.nil ⟨rfl, _, rfl, rfl, hs.cutG 0 0⟩
            · intro ρ w Γx Λx hs hu hp
              have e335 : ρ 44 = .int .i64 x3 := (hp 1 rfl).1
              refine WL.call (vs := [.int .i64 x3]) hs FN24 ⟨e335, trivial⟩ (fun ok hA => eslaw04_chosen.callc (x1 := x3) hxx273) ?_
              rintro ⟨a274, c275⟩ w hs
              have hs := hs.add (it := vl (tSlice (tInt .i64)) x273 (.slice a274 x273.length c275)) fun ok hA => hA.get 0 rfl
              exact WL.nil ⟨rfl, _, rfl, ⟨(a274, c275), rfl⟩, hs.cutG 1 1⟩
            · intro ρ w Γx Λx hs hu hp
              have e336 : ρ 43 = .agg ([.slice a246 (x238.Members).length c247, .int .i64 2, .int .i64 0, .int .i64 0] : List Value).toArray := (hp 0 rfl).1
              obtain ⟨⟨⟨a337, c338⟩, e339r⟩, hm340⟩ := hp 2 rfl
              have e339 : ρ 45 = .slice a337 x273.length c338 := e339r
              rw [e339r] at hm340
              have hs := hs.memo1 (it := vl (tSlice (tInt .i64)) x273 (.slice a337 x273.length c338)) (List.mem_append.2 (.inl (hm340 _ (List.mem_of_getElem? (i := 0) rfl))))
              have hs := hs.add (it := vl t_api_View (⟨x238.Members, (⟨2, 0, 0⟩ : api_Rule)⟩ : api_View) (.agg [.slice a246 (x238.Members).length c247, .int .i64 2, .int .i64 0, .int .i64 0].toArray)) fun ok hA => V_agg (show t_api_View.R ok _ _ _ from ⟨[.slice a246 (x238.Members).length c247], [.int .i64 2, .int .i64 0, .int .i64 0], rfl, (R_one (hA.get (Γx.length + 1 + 1) (getApp1 rfl))), ⟨[.int .i64 2], [.int .i64 0, .int .i64 0], rfl, rfl, ⟨[.int .i64 0], [.int .i64 0], rfl, rfl, rfl⟩⟩⟩) rfl
              refine WL.call (vs := [.agg ([.slice a246 (x238.Members).length c247, .int .i64 2, .int .i64 0, .int .i64 0] : List Value).toArray, .slice a337 x273.length c338]) hs FN18 ⟨e336, ⟨e339, trivial⟩⟩ (fun ok hA => quorum_IsQuorum.calls (x1 := (⟨x238.Members, (⟨2, 0, 0⟩ : api_Rule)⟩ : api_View)) (x5 := x273) hxx276 (hA.get 0 rfl) (hA.get 1 rfl)) ?_
              rintro _ w hs
              exact WL.nil ⟨rfl, _, rfl, rfl, hs.cutG 0 2⟩
            · intro ρ w Γx Λx hs hu hp
              refine WL.move (v := .bool x255) (hu 12 rfl) ?_
              exact WL.nil ⟨rfl, _, rfl, rfl, hs.cutG 0 0⟩
            · intro ρ w Γx Λx hs hu hp
              have e341 : ρ 46 = .bool x276 := (hp 3 rfl).1
              have e342 : ρ 47 = .bool x255 := (hp 4 rfl).1
              refine WL.eqB UN4 e341 e342 ?_
              exact WL.nil ⟨rfl, _, rfl, rfl, hs.cutG 0 0⟩
            · intro ρ w Γx Λx hs hu hp
              have e343 : ρ 48 = .bool (x276 == x255) := (hp 5 rfl).1
              refine WL.move (v := .bool (x276 == x255)) e343 ?_
              exact WL.nil ⟨rfl, _, rfl, rfl, hs.cutG 0 0⟩
            · intro ρ w Γx Λx hs hu hp
              have e344 : ρ 49 = .bool (x276 == x255) := (hp 6 rfl).1
              refine WL.loadN (vs := [.slice a7 x12.length c9, .int .i64 4, .int .i64 0, .int .i64 0]) hs (Λx.length + 0) (getApp rfl) TI26 ((hu 11 rfl).trans (hu262 11 rfl)) rfl rfl ?_ (hg := (wanted_of rfl rfl (bool_tr e344 hc277)).trans rfl)
              exact WL.nil ⟨rfl, _, rfl, rfl, hs.cutG 0 0⟩
            · intro ρ w Γx Λx hs hu hp
              have e345 : ρ 49 = .bool (x276 == x255) := (hp 6 rfl).1
              refine WL.move (v := .int .i64 x3) ((hu 2 rfl).trans ((hu262 2 rfl).trans h232_2)) ?_ (hg := (wanted_of rfl rfl (bool_tr e345 hc277)).trans rfl)
              exact WL.nil ⟨rfl, _, rfl, rfl, hs.cutG 0 0⟩
            · intro ρ w Γx Λx hs hu hp
              have e346 : ρ 51 = .int .i64 x3 := (hp 8 rfl).1
              have e347 : ρ 49 = .bool (x276 == x255) := (hp 6 rfl).1
              refine WL.call (vs := [.int .i64 x3]) hs FN24 ⟨e346, trivial⟩ (fun ok hA => eslaw04_chosen.callc (x1 := x3) hxx278) ?_ (hg := (wanted_of rfl rfl (bool_tr e347 hc277)).trans rfl)
              rintro ⟨a279, c280⟩ w hs
              have hs := hs.add (it := vl (tSlice (tInt .i64)) x278 (.slice a279 x278.length c280)) fun ok hA => hA.get 0 rfl
              exact WL.nil ⟨rfl, _, rfl, ⟨(a279, c280), rfl⟩, hs.cutG 1 1⟩
            · intro ρ w Γx Λx hs hu hp
              have e348 : ρ 50 = .agg ([.slice a7 x12.length c9, .int .i64 4, .int .i64 0, .int .i64 0] : List Value).toArray := (hp 7 rfl).1
              obtain ⟨⟨⟨a349, c350⟩, e351r⟩, hm352⟩ := hp 9 rfl
              have e351 : ρ 52 = .slice a349 x278.length c350 := e351r
              rw [e351r] at hm352
              have hs := hs.memo1 (it := vl (tSlice (tInt .i64)) x278 (.slice a349 x278.length c350)) (List.mem_append.2 (.inl (hm352 _ (List.mem_of_getElem? (i := 0) rfl))))
              have e353 : ρ 49 = .bool (x276 == x255) := (hp 6 rfl).1
              have hs := hs.add (it := vl t_api_View (⟨x12, (⟨4, 0, 0⟩ : api_Rule)⟩ : api_View) (.agg [.slice a7 x12.length c9, .int .i64 4, .int .i64 0, .int .i64 0].toArray)) fun ok hA => V_agg (show t_api_View.R ok _ _ _ from ⟨[.slice a7 x12.length c9], [.int .i64 4, .int .i64 0, .int .i64 0], rfl, (R_one (hA.get (Γx.length + 3 + 1) (getApp1 rfl))), ⟨[.int .i64 4], [.int .i64 0, .int .i64 0], rfl, rfl, ⟨[.int .i64 0], [.int .i64 0], rfl, rfl, rfl⟩⟩⟩) rfl
              refine WL.call (vs := [.agg ([.slice a7 x12.length c9, .int .i64 4, .int .i64 0, .int .i64 0] : List Value).toArray, .slice a349 x278.length c350]) hs FN18 ⟨e348, ⟨e351, trivial⟩⟩ (fun ok hA => quorum_IsQuorum.calls (x1 := (⟨x12, (⟨4, 0, 0⟩ : api_Rule)⟩ : api_View)) (x5 := x278) hxx281 (hA.get 0 rfl) (hA.get 1 rfl)) ?_ (hg := (wanted_of rfl rfl (bool_tr e353 hc277)).trans rfl)
              rintro _ w hs
              exact WL.nil ⟨rfl, _, rfl, rfl, hs.cutG 0 2⟩
            · intro ρ w Γx Λx hs hu hp
              have e354 : ρ 49 = .bool (x276 == x255) := (hp 6 rfl).1
              refine WL.move (v := .bool x255) (hu 12 rfl) ?_ (hg := (wanted_of rfl rfl (bool_tr e354 hc277)).trans rfl)
              exact WL.nil ⟨rfl, _, rfl, rfl, hs.cutG 0 0⟩
            · intro ρ w Γx Λx hs hu hp
              have e355 : ρ 53 = .bool x281 := (hp 10 rfl).1
              have e356 : ρ 54 = .bool x255 := (hp 11 rfl).1
              have e357 : ρ 49 = .bool (x276 == x255) := (hp 6 rfl).1
              refine WL.eqB UN4 e355 e356 ?_ (hg := (wanted_of rfl rfl (bool_tr e357 hc277)).trans rfl)
              exact WL.nil ⟨rfl, _, rfl, rfl, hs.cutG 0 0⟩
            · intro ρ w Γx Λx hs hu hp
              have e358 : ρ 49 = .bool (x276 == x255) := (hp 6 rfl).1
              have e359 : ρ 55 = .bool (x281 == x255) := (hp 12 rfl).1
              refine WL.pickT (v := .bool (x281 == x255)) (bool_tr e358 hc277) e359 ?_
              exact WL.nil ⟨rfl, _, rfl, rfl, hs.cutG 0 0⟩
            · intro ρ w Γx Λx hs hu hp
              have e360 : ρ 56 = .bool (x281 == x255) := (hp 13 rfl).1
              refine WL.move (v := .bool (x281 == x255)) e360 ?_
              exact WL.nil ⟨rfl, _, rfl, rfl, hs.cutG 0 0⟩
            · intro ρ w Γx Λx hs hu hp
              have e361 : ρ 57 = .bool (x281 == x255) := (hp 14 rfl).1
              refine WL.pass ((wanted_of rfl rfl (bool_tr e361 hc282)).trans rfl) rfl ?_
              exact WL.nil ⟨rfl, _, rfl, rfl, hs.cutG 0 0⟩
            · intro ρ w Γx Λx hs hu hp
              have e362 : ρ 57 = .bool (x281 == x255) := (hp 14 rfl).1
              have e363 : ρ 58 = undef := (hp 15 rfl).1
              refine WL.pickF (v := .bool false) (bool_tr e362 hc282) rfl ?_
              exact WL.nil ⟨rfl, _, rfl, rfl, hs.cutG 0 0⟩
            · intro ρ w hs hu364 hp
              obtain ⟨⟨⟨⟨⟨⟨⟨⟨⟨⟨⟨⟨⟨⟨⟨⟨⟨_, hp0_⟩, hp1_⟩, hp2_⟩, hp3_⟩, hp4_⟩, hp5_⟩, hp6_⟩, hp7_⟩, hp8_⟩, hp9_⟩, hp10_⟩, hp11_⟩, hp12_⟩, hp13_⟩, hp14_⟩, hp15_⟩, hp16_⟩ := hp
              have hs : St ok (bz w0) w [vl (tSlice (tInt .i64)) x278 (ρ 52), vl (tSlice (tInt .i64)) x273 (ρ 45), vl (tSlice (tInt .i64)) x252 (.slice a264 x252.length c265), vl (tSlice t_api_Member) x238.Members (.slice a246 (x238.Members).length c247), vl (tSlice t_api_Member) x234.Members (.slice a243 (x234.Members).length c244), vl (tSlice t_api_Member) x12 (.slice a7 x12.length c9), vl t_api_View x234 (.agg [.slice a243 (x234.Members).length c244, .int .i64 x234.Rule.Kind, .int .i64 x234.Rule.Columns, .int .i64 x234.Rule.Faulty].toArray), vl t_api_View x238 (.agg [.slice a246 (x238.Members).length c247, .int .i64 x238.Rule.Kind, .int .i64 x238.Rule.Columns, .int .i64 x238.Rule.Faulty].toArray)] [blk g249 26 [.slice a7 x12.length c9, .int .i64 4, .int .i64 0, .int .i64 0], blk g10 26 [.slice a7 x12.length c9, .int .i64 x6.Rule.Kind, .int .i64 x6.Rule.Columns, .int .i64 x6.Rule.Faulty], blk g233 26 [.slice a243 (x234.Members).length c244, .int .i64 1, .int .i64 0, .int .i64 0], blk g237 26 [.slice a246 (x238.Members).length c247, .int .i64 2, .int .i64 0, .int .i64 0]] := hs
              have e365 : ρ 59 = .bool false := hp16_
              have e366 : ρ 58 = undef := hp15_
              have e367 : ρ 57 = .bool (x281 == x255) := hp14_
              have e368 : ρ 56 = .bool (x281 == x255) := hp13_
              have e369 : ρ 55 = .bool (x281 == x255) := hp12_
              have e370 : ρ 54 = .bool x255 := hp11_
              have e371 : ρ 53 = .bool x281 := hp10_
              obtain ⟨⟨a372, c373⟩, e374⟩ := hp9_
              have e374 : ρ 52 = .slice a372 x278.length c373 := e374
              try rw [e374] at hs
              have e375 : ρ 51 = .int .i64 x3 := hp8_
              have e376 : ρ 50 = .agg ([.slice a7 x12.length c9, .int .i64 4, .int .i64 0, .int .i64 0] : List Value).toArray := hp7_
              have e377 : ρ 49 = .bool (x276 == x255) := hp6_
              have e378 : ρ 48 = .bool (x276 == x255) := hp5_
              have e379 : ρ 47 = .bool x255 := hp4_
              have e380 : ρ 46 = .bool x276 := hp3_
              obtain ⟨⟨a381, c382⟩, e383⟩ := hp2_
              have e383 : ρ 45 = .slice a381 x273.length c382 := e383
              try rw [e383] at hs
              have e384 : ρ 44 = .int .i64 x3 := hp1_
              have e385 : ρ 43 = .agg ([.slice a246 (x238.Members).length c247, .int .i64 2, .int .i64 0, .int .i64 0] : List Value).toArray := hp0_
              refine WA.step [17] (by kernel_rfl) (by simp) ⟨?_, trivial⟩
              refine WL.assign (v := .bool false) e365 ?_
              refine WL.nil ⟨rfl, _, rfl, ?_⟩
              refine WA.done (by kernel_rfl) ?_
              exact Jk272 false _ _ rfl ((hs.mask []).pick []) hf
        · refine W.any (by kernel_rfl) 17 1 [true, true, true, true, true, true, true, true, true, true, true, true, true, true, true, true, true, false] rfl rfl (poAt [pv (.agg ([.slice a246 (x238.Members).length c247, .int .i64 2, .int .i64 0, .int .i64 0] : List Value).toArray), pv (.int .i64 x3), pq (fun y : (Option Addr × Nat) => .slice y.1 x273.length y.2) (fun v => [vl (tSlice (tInt .i64)) x273 v]) (fun v => []), pv (.bool x276), pv (.bool x255), pv (.bool (x276 == x255)), pv (.bool (x276 == x255)), pv (undef), pv (undef), pv (undef), pv (undef), pv (undef), pv (undef), pv (.bool false), pv (.bool false), pv (undef), pv (.bool false)]) (Λ := [blk g249 26 [.slice a7 x12.length c9, .int .i64 4, .int .i64 0, .int .i64 0], blk g10 26 [.slice a7 x12.length c9, .int .i64 x6.Rule.Kind, .int .i64 x6.Rule.Columns, .int .i64 x6.Rule.Faulty], blk g233 26 [.slice a243 (x234.Members).length c244, .int .i64 1, .int .i64 0, .int .i64 0], blk g237 26 [.slice a246 (x238.Members).length c247, .int .i64 2, .int .i64 0, .int .i64 0]]) hs (by kernel_rfl) (by kernel_rfl) (by kernel_rfl) ⟨⟨⟨⟨⟨⟨⟨⟨⟨⟨⟨⟨⟨⟨⟨⟨⟨trivial, ?_⟩, ?_⟩, ?_⟩, ?_⟩, ?_⟩, ?_⟩, ?_⟩, ?_⟩, ?_⟩, ?_⟩, ?_⟩, ?_⟩, ?_⟩, ?_⟩, ?_⟩, ?_⟩, ?_⟩ ?_
          · intro ρ w Γx Λx hs hu hp
            refine WL.loadN (vs := [.slice a246 (x238.Members).length c247, .int .i64 2, .int .i64 0, .int .i64 0]) hs (Λx.length + 3) (getApp rfl) TI26 ((hu 10 rfl).trans ((hu262 10 rfl).trans h232_10)) rfl rfl ?_
            exact WL.nil ⟨rfl, _, rfl, rfl, hs.cutG 0 0⟩
          · intro ρ w Γx Λx hs hu hp
            refine WL.move (v := .int .i64 x3) ((hu 2 rfl).trans ((hu262 2 rfl).trans h232_2)) ?_
            exact WL.nil ⟨rfl, _, rfl, rfl, hs.cutG 0 0⟩
          · intro ρ w Γx Λx hs hu hp
            have e386 : ρ 44 = .int .i64 x3 := (hp 1 rfl).1
            refine WL.call (vs := [.int .i64 x3]) hs FN24 ⟨e386, trivial⟩ (fun ok hA => eslaw04_chosen.callc (x1 := x3) hxx273) ?_
            rintro ⟨a274, c275⟩ w hs
            have hs := hs.add (it := vl (tSlice (tInt .i64)) x273 (.slice a274 x273.length c275)) fun ok hA => hA.get 0 rfl
            exact WL.nil ⟨rfl, _, rfl, ⟨(a274, c275), rfl⟩, hs.cutG 1 1⟩
          · intro ρ w Γx Λx hs hu hp
            have e387 : ρ 43 = .agg ([.slice a246 (x238.Members).length c247, .int .i64 2, .int .i64 0, .int .i64 0] : List Value).toArray := (hp 0 rfl).1
            obtain ⟨⟨⟨a388, c389⟩, e390r⟩, hm391⟩ := hp 2 rfl
            have e390 : ρ 45 = .slice a388 x273.length c389 := e390r
            rw [e390r] at hm391
            have hs := hs.memo1 (it := vl (tSlice (tInt .i64)) x273 (.slice a388 x273.length c389)) (List.mem_append.2 (.inl (hm391 _ (List.mem_of_getElem? (i := 0) rfl))))
            have hs := hs.add (it := vl t_api_View (⟨x238.Members, (⟨2, 0, 0⟩ : api_Rule)⟩ : api_View) (.agg [.slice a246 (x238.Members).length c247, .int .i64 2, .int .i64 0, .int .i64 0].toArray)) fun ok hA => V_agg (show t_api_View.R ok _ _ _ from ⟨[.slice a246 (x238.Members).length c247], [.int .i64 2, .int .i64 0, .int .i64 0], rfl, (R_one (hA.get (Γx.length + 1 + 1) (getApp1 rfl))), ⟨[.int .i64 2], [.int .i64 0, .int .i64 0], rfl, rfl, ⟨[.int .i64 0], [.int .i64 0], rfl, rfl, rfl⟩⟩⟩) rfl
            refine WL.call (vs := [.agg ([.slice a246 (x238.Members).length c247, .int .i64 2, .int .i64 0, .int .i64 0] : List Value).toArray, .slice a388 x273.length c389]) hs FN18 ⟨e387, ⟨e390, trivial⟩⟩ (fun ok hA => quorum_IsQuorum.calls (x1 := (⟨x238.Members, (⟨2, 0, 0⟩ : api_Rule)⟩ : api_View)) (x5 := x273) hxx276 (hA.get 0 rfl) (hA.get 1 rfl)) ?_
            rintro _ w hs
            exact WL.nil ⟨rfl, _, rfl, rfl, hs.cutG 0 2⟩
          · intro ρ w Γx Λx hs hu hp
            refine WL.move (v := .bool x255) (hu 12 rfl) ?_
            exact WL.nil ⟨rfl, _, rfl, rfl, hs.cutG 0 0⟩
          · intro ρ w Γx Λx hs hu hp
            have e392 : ρ 46 = .bool x276 := (hp 3 rfl).1
            have e393 : ρ 47 = .bool x255 := (hp 4 rfl).1
            refine WL.eqB UN4 e392 e393 ?_
            exact WL.nil ⟨rfl, _, rfl, rfl, hs.cutG 0 0⟩
          · intro ρ w Γx Λx hs hu hp
            have e394 : ρ 48 = .bool (x276 == x255) := (hp 5 rfl).1
            refine WL.move (v := .bool (x276 == x255)) e394 ?_
            exact WL.nil ⟨rfl, _, rfl, rfl, hs.cutG 0 0⟩
          · intro ρ w Γx Λx hs hu hp
            have e395 : ρ 49 = .bool (x276 == x255) := (hp 6 rfl).1
            refine WL.pass ((wanted_of rfl rfl (bool_tr e395 hc277)).trans rfl) rfl ?_
            exact WL.nil ⟨rfl, _, rfl, rfl, hs.cutG 0 0⟩
          · intro ρ w Γx Λx hs hu hp
            have e396 : ρ 49 = .bool (x276 == x255) := (hp 6 rfl).1
            refine WL.pass ((wanted_of rfl rfl (bool_tr e396 hc277)).trans rfl) rfl ?_
            exact WL.nil ⟨rfl, _, rfl, rfl, hs.cutG 0 0⟩
          · intro ρ w Γx Λx hs hu hp
            have e397 : ρ 51 = undef := (hp 8 rfl).1
            have e398 : ρ 49 = .bool (x276 == x255) := (hp 6 rfl).1
            refine WL.pass ((wanted_of rfl rfl (bool_tr e398 hc277)).trans rfl) rfl ?_
            exact WL.nil ⟨rfl, _, rfl, rfl, hs.cutG 0 0⟩
          · intro ρ w Γx Λx hs hu hp
            have e399 : ρ 50 = undef := (hp 7 rfl).1
            have e400 : ρ 52 = undef := (hp 9 rfl).1
            have e401 : ρ 49 = .bool (x276 == x255) := (hp 6 rfl).1
            refine WL.pass ((wanted_of rfl rfl (bool_tr e401 hc277)).trans rfl) rfl ?_
            exact WL.nil ⟨rfl, _, rfl, rfl, hs.cutG 0 0⟩
          · intro ρ w Γx Λx hs hu hp
            have e402 : ρ 49 = .bool (x276 == x255) := (hp 6 rfl).1
            refine WL.pass ((wanted_of rfl rfl (bool_tr e402 hc277)).trans rfl) rfl ?_
            exact WL.nil ⟨rfl, _, rfl, rfl, hs.cutG 0 0⟩
          · intro ρ w Γx Λx hs hu hp
            have e403 : ρ 53 = undef := (hp 10 rfl).1
            have e404 : ρ 54 = undef := (hp 11 rfl).1
            have e405 : ρ 49 = .bool (x276 == x255) := (hp 6 rfl).1
            refine WL.pass ((wanted_of rfl rfl (bool_tr e405 hc277)).trans rfl) rfl ?_
            exact WL.nil ⟨rfl, _, rfl, rfl, hs.cutG 0 0⟩
          · intro ρ w Γx Λx hs hu hp
            have e406 : ρ 49 = .bool (x276 == x255) := (hp 6 rfl).1
            have e407 : ρ 55 = undef := (hp 12 rfl).1
            refine WL.pickF (v := .bool false) (bool_tr e406 hc277) rfl ?_
            exact WL.nil ⟨rfl, _, rfl, rfl, hs.cutG 0 0⟩
          · intro ρ w Γx Λx hs hu hp
            have e408 : ρ 56 = .bool false := (hp 13 rfl).1
            refine WL.move (v := .bool false) e408 ?_
            exact WL.nil ⟨rfl, _, rfl, rfl, hs.cutG 0 0⟩
          · intro ρ w Γx Λx hs hu hp
            have e409 : ρ 57 = .bool false := (hp 14 rfl).1
            refine WL.pass ((wanted_of rfl rfl e409).trans rfl) rfl ?_
            exact WL.nil ⟨rfl, _, rfl, rfl, hs.cutG 0 0⟩
          · intro ρ w Γx Λx hs hu hp
            have e410 : ρ 57 = .bool false := (hp 14 rfl).1
            have e411 : ρ 58 = undef := (hp 15 rfl).1
            refine WL.pickF (v := .bool false) e410 rfl ?_
            exact WL.nil ⟨rfl, _, rfl, rfl, hs.cutG 0 0⟩
          · intro ρ w hs hu412 hp
            obtain ⟨⟨⟨⟨⟨⟨⟨⟨⟨⟨⟨⟨⟨⟨⟨⟨⟨_, hp0_⟩, hp1_⟩, hp2_⟩, hp3_⟩, hp4_⟩, hp5_⟩, hp6_⟩, hp7_⟩, hp8_⟩, hp9_⟩, hp10_⟩, hp11_⟩, hp12_⟩, hp13_⟩, hp14_⟩, hp15_⟩, hp16_⟩ := hp
            have hs : St ok (bz w0) w [vl (tSlice (tInt .i64)) x273 (ρ 45), vl (tSlice (tInt .i64)) x252 (.slice a264 x252.length c265), vl (tSlice t_api_Member) x238.Members (.slice a246 (x238.Members).length c247), vl (tSlice t_api_Member) x234.Members (.slice a243 (x234.Members).length c244), vl (tSlice t_api_Member) x12 (.slice a7 x12.length c9), vl t_api_View x234 (.agg [.slice a243 (x234.Members).length c244, .int .i64 x234.Rule.Kind, .int .i64 x234.Rule.Columns, .int .i64 x234.Rule.Faulty].toArray), vl t_api_View x238 (.agg [.slice a246 (x238.Members).length c247, .int .i64 x238.Rule.Kind, .int .i64 x238.Rule.Columns, .int .i64 x238.Rule.Faulty].toArray)] [blk g249 26 [.slice a7 x12.length c9, .int .i64 4, .int .i64 0, .int .i64 0], blk g10 26 [.slice a7 x12.length c9, .int .i64 x6.Rule.Kind, .int .i64 x6.Rule.Columns, .int .i64 x6.Rule.Faulty], blk g233 26 [.slice a243 (x234.Members).length c244, .int .i64 1, .int .i64 0, .int .i64 0], blk g237 26 [.slice a246 (x238.Members).length c247, .int .i64 2, .int .i64 0, .int .i64 0]] := hs
            have e413 : ρ 59 = .bool false := hp16_
            have e414 : ρ 58 = undef := hp15_
            have e415 : ρ 57 = .bool false := hp14_
            have e416 : ρ 56 = .bool false := hp13_
            have e417 : ρ 55 = undef := hp12_
            have e418 : ρ 54 = undef := hp11_
            have e419 : ρ 53 = undef := hp10_
            have e420 : ρ 52 = undef := hp9_
            have e421 : ρ 51 = undef := hp8_
            have e422 : ρ 50 = undef := hp7_
            have e423 : ρ 49 = .bool (x276 == x255) := hp6_
            have e424 : ρ 48 = .bool (x276 == x255) := hp5_
            have e425 : ρ 47 = .bool x255 := hp4_
            have e426 : ρ 46 = .bool x276 := hp3_
            obtain ⟨⟨a427, c428⟩, e429⟩ := hp2_
            have e429 : ρ 45 = .slice a427 x273.length c428 := e429
            try rw [e429] at hs
            have e430 : ρ 44 = .int .i64 x3 := hp1_
            have e431 : ρ 43 = .agg ([.slice a246 (x238.Members).length c247, .int .i64 2, .int .i64 0, .int .i64 0] : List Value).toArray := hp0_
            refine WA.step [17] (by kernel_rfl) (by simp) ⟨?_, trivial⟩
            refine WL.assign (v := .bool false) e413 ?_
            refine WL.nil ⟨rfl, _, rfl, ?_⟩
            refine WA.done (by kernel_rfl) ?_
            exact Jk272 false _ _ rfl ((hs.mask []).pick []) hf
    refine W.any (by kernel_rfl) 0 6 [false, false, false, false, false, false] rfl rfl (poAt []) (Λ := [blk g10 26 [.slice a7 x12.length c9, .int .i64 x6.Rule.Kind, .int .i64 x6.Rule.Columns, .int .i64 x6.Rule.Faulty]]) hs (by kernel_rfl) (by kernel_rfl) (by kernel_rfl) trivial ?_
    · intro ρ w hs hu434 hp
      have hs : St ok (bz w0) w [vl (tSlice t_api_Member) x12 (.slice a7 x12.length c9)] [blk g10 26 [.slice a7 x12.length c9, .int .i64 x6.Rule.Kind, .int .i64 x6.Rule.Columns, .int .i64 x6.Rule.Faulty]] := hs
      refine WA.step [0, 1, 2, 3] (by kernel_rfl) (by simp) ⟨?_, ?_, ?_, ?_, trivial⟩
      · refine WL.loadN (vs := [.slice a7 x12.length c9, .int .i64 x6.Rule.Kind, .int .i64 x6.Rule.Columns, .int .i64 x6.Rule.Faulty]) hs 0 rfl TI26 ((hu434 7 rfl).trans h13_7) rfl rfl ?_
        refine WL.nil ⟨rfl, _, rfl, ?_⟩
        refine WA.step [1, 2, 3] (by kernel_rfl) (by simp) ⟨?_, ?_, ?_, trivial⟩
        · refine WL.loadN (vs := [.slice a7 x12.length c9, .int .i64 x6.Rule.Kind, .int .i64 x6.Rule.Columns, .int .i64 x6.Rule.Faulty]) hs 0 rfl TI26 ((hu434 7 rfl).trans h13_7) rfl rfl ?_
          refine WL.nil ⟨rfl, _, rfl, ?_⟩
          refine WA.step [2, 3] (by kernel_rfl) (by simp) ⟨?_, ?_, trivial⟩
          · refine WL.alloc hs ZV26 (fun g435 w hs => ?_)
            refine WL.nil ⟨rfl, _, rfl, ?_⟩
            refine WA.step [3] (by kernel_rfl) (by simp) ⟨?_, trivial⟩
            refine WL.alloc hs ZV26 (fun g436 w hs => ?_)
            refine WL.nil ⟨rfl, _, rfl, ?_⟩
            refine WA.step [4] (by kernel_rfl) (by simp) ⟨?_, trivial⟩
            refine WL.storeAll (vs := [.slice a7 x12.length c9, .int .i64 x6.Rule.Kind, .int .i64 x6.Rule.Columns, .int .i64 x6.Rule.Faulty]) hs 1 rfl TI26 rfl rfl rfl rfl (ones_of rfl) rfl (fun w hs => ?_)
            refine WL.nil ⟨rfl, _, rfl, ?_⟩
            refine WA.step [5] (by kernel_rfl) (by simp) ⟨?_, trivial⟩
            refine WL.storeAll (vs := [.slice a7 x12.length c9, .int .i64 x6.Rule.Kind, .int .i64 x6.Rule.Columns, .int .i64 x6.Rule.Faulty]) hs 0 rfl TI26 rfl rfl rfl rfl (ones_of rfl) rfl (fun w hs => ?_)
            refine WL.nil ⟨rfl, _, rfl, ?_⟩
            refine WA.done (by kernel_rfl) ?_
            have hs := hs.add (it := vl t_api_View (⟨x12, (⟨x6.Rule.Kind, x6.Rule.Columns, x6.Rule.Faulty⟩ : api_Rule)⟩ : api_View) (.agg [.slice a7 x12.length c9, .int .i64 x6.Rule.Kind, .int .i64 x6.Rule.Columns, .int .i64 x6.Rule.Faulty].toArray)) fun ok hA => V_agg (show t_api_View.R ok _ _ _ from ⟨[.slice a7 x12.length c9], [.int .i64 x6.Rule.Kind, .int .i64 x6.Rule.Columns, .int .i64 x6.Rule.Faulty], rfl, (R_one (hA.get 0 rfl)), ⟨[.int .i64 x6.Rule.Kind], [.int .i64 x6.Rule.Columns, .int .i64 x6.Rule.Faulty], rfl, rfl, ⟨[.int .i64 x6.Rule.Columns], [.int .i64 x6.Rule.Faulty], rfl, rfl, rfl⟩⟩⟩) rfl
            have hs := hs.add (it := vl t_api_View (⟨x12, (⟨x6.Rule.Kind, x6.Rule.Columns, x6.Rule.Faulty⟩ : api_Rule)⟩ : api_View) (.agg [.slice a7 x12.length c9, .int .i64 x6.Rule.Kind, .int .i64 x6.Rule.Columns, .int .i64 x6.Rule.Faulty].toArray)) fun ok hA => V_agg (show t_api_View.R ok _ _ _ from ⟨[.slice a7 x12.length c9], [.int .i64 x6.Rule.Kind, .int .i64 x6.Rule.Columns, .int .i64 x6.Rule.Faulty], rfl, (R_one (hA.get 1 rfl)), ⟨[.int .i64 x6.Rule.Kind], [.int .i64 x6.Rule.Columns, .int .i64 x6.Rule.Faulty], rfl, rfl, ⟨[.int .i64 x6.Rule.Columns], [.int .i64 x6.Rule.Faulty], rfl, rfl, rfl⟩⟩⟩) rfl
            have hs := hs.add (it := vl t_api_View (⟨x12, (⟨x6.Rule.Kind, x6.Rule.Columns, x6.Rule.Faulty⟩ : api_Rule)⟩ : api_View) (.agg [.slice a7 x12.length c9, .int .i64 x6.Rule.Kind, .int .i64 x6.Rule.Columns, .int .i64 x6.Rule.Faulty].toArray)) fun ok hA => V_agg (show t_api_View.R ok _ _ _ from ⟨[.slice a7 x12.length c9], [.int .i64 x6.Rule.Kind, .int .i64 x6.Rule.Columns, .int .i64 x6.Rule.Faulty], rfl, (R_one (hA.get 2 rfl)), ⟨[.int .i64 x6.Rule.Kind], [.int .i64 x6.Rule.Columns, .int .i64 x6.Rule.Faulty], rfl, rfl, ⟨[.int .i64 x6.Rule.Columns], [.int .i64 x6.Rule.Faulty], rfl, rfl, rfl⟩⟩⟩) rfl
            have hs := hs.add (it := vl t_api_View (⟨x12, (⟨x6.Rule.Kind, x6.Rule.Columns, x6.Rule.Faulty⟩ : api_Rule)⟩ : api_View) (.agg [.slice a7 x12.length c9, .int .i64 x6.Rule.Kind, .int .i64 x6.Rule.Columns, .int .i64 x6.Rule.Faulty].toArray)) fun ok hA => V_agg (show t_api_View.R ok _ _ _ from ⟨[.slice a7 x12.length c9], [.int .i64 x6.Rule.Kind, .int .i64 x6.Rule.Columns, .int .i64 x6.Rule.Faulty], rfl, (R_one (hA.get 3 rfl)), ⟨[.int .i64 x6.Rule.Kind], [.int .i64 x6.Rule.Columns, .int .i64 x6.Rule.Faulty], rfl, rfl, ⟨[.int .i64 x6.Rule.Columns], [.int .i64 x6.Rule.Faulty], rfl, rfl, rfl⟩⟩⟩) rfl
            have hs := hs.front 0 rfl
            have hs := hs.front 1 rfl
            have hs := hs.front 2 rfl
            exact Jk241 (⟨x12, (⟨x6.Rule.Kind, x6.Rule.Columns, x6.Rule.Faulty⟩ : api_Rule)⟩ : api_View) (⟨x12, (⟨x6.Rule.Kind, x6.Rule.Columns, x6.Rule.Faulty⟩ : api_Rule)⟩ : api_View) g435 [.slice a7 x12.length c9, .int .i64 x6.Rule.Kind, .int .i64 x6.Rule.Columns, .int .i64 x6.Rule.Faulty] g436 [.slice a7 x12.length c9, .int .i64 x6.Rule.Kind, .int .i64 x6.Rule.Columns, .int .i64 x6.Rule.Faulty] _ _ rfl rfl ((hu434 2 rfl).trans h13_2) ((hu434 7 rfl).trans h13_7) rfl rfl ((hs.mask [true, true, true]).pick [4, 1, 0]) hf
          · refine WL.alloc hs ZV26 (fun g435 w hs => ?_)
            refine WL.nil ⟨rfl, _, rfl, ?_⟩
            refine WA.step [2] (by kernel_rfl) (by simp) ⟨?_, trivial⟩
            refine WL.alloc hs ZV26 (fun g436 w hs => ?_)
            refine WL.nil ⟨rfl, _, rfl, ?_⟩
            refine WA.step [4] (by kernel_rfl) (by simp) ⟨?_, trivial⟩
            refine WL.storeAll (vs := [.slice a7 x12.length c9, .int .i64 x6.Rule.Kind, .int .i64 x6.Rule.Columns, .int .i64 x6.Rule.Faulty]) hs 0 rfl TI26 rfl rfl rfl rfl (ones_of rfl) rfl (fun w hs => ?_)
            refine WL.nil ⟨rfl, _, rfl, ?_⟩
            refine WA.step [5] (by kernel_rfl) (by simp) ⟨?_, trivial⟩
            refine WL.storeAll (vs := [.slice a7 x12.length c9, .int .i64 x6.Rule.Kind, .int .i64 x6.Rule.Columns, .int .i64 x6.Rule.Faulty]) hs 1 rfl TI26 rfl rfl rfl rfl (ones_of rfl) rfl (fun w hs => ?_)
            refine WL.nil ⟨rfl, _, rfl, ?_⟩
            refine WA.done (by kernel_rfl) ?_
            have hs := hs.add (it := vl t_api_View (⟨x12, (⟨x6.Rule.Kind, x6.Rule.Columns, x6.Rule.Faulty⟩ : api_Rule)⟩ : api_View) (.agg [.slice a7 x12.length c9, .int .i64 x6.Rule.Kind, .int .i64 x6.Rule.Columns, .int .i64 x6.Rule.Faulty].toArray)) fun ok hA => V_agg (show t_api_View.R ok _ _ _ from ⟨[.slice a7 x12.length c9], [.int .i64 x6.Rule.Kind, .int .i64 x6.Rule.Columns, .int .i64 x6.Rule.Faulty], rfl, (R_one (hA.get 0 rfl)), ⟨[.int .i64 x6.Rule.Kind], [.int .i64 x6.Rule.Columns, .int .i64 x6.Rule.Faulty], rfl, rfl, ⟨[.int .i64 x6.Rule.Columns], [.int .i64 x6.Rule.Faulty], rfl, rfl, rfl⟩⟩⟩) rfl
            have hs := hs.add (it := vl t_api_View (⟨x12, (⟨x6.Rule.Kind, x6.Rule.Columns, x6.Rule.Faulty⟩ : api_Rule)⟩ : api_View) (.agg [.slice a7 x12.length c9, .int .i64 x6.Rule.Kind, .int .i64 x6.Rule.Columns, .int .i64 x6.Rule.Faulty].toArray)) fun ok hA => V_agg (show t_api_View.R ok _ _ _ from ⟨[.slice a7 x12.length c9], [.int .i64 x6.Rule.Kind, .int .i64 x6.Rule.Columns, .int .i64 x6.Rule.Faulty], rfl, (R_one (hA.get 1 rfl)), ⟨[.int .i64 x6.Rule.Kind], [.int .i64 x6.Rule.Columns, .int .i64 x6.Rule.Faulty], rfl, rfl, ⟨[.int .i64 x6.Rule.Columns], [.int .i64 x6.Rule.Faulty], rfl, rfl, rfl⟩⟩⟩) rfl
            have hs := hs.add (it := vl t_api_View (⟨x12, (⟨x6.Rule.Kind, x6.Rule.Columns, x6.Rule.Faulty⟩ : api_Rule)⟩ : api_View) (.agg [.slice a7 x12.length c9, .int .i64 x6.Rule.Kind, .int .i64 x6.Rule.Columns, .int .i64 x6.Rule.Faulty].toArray)) fun ok hA => V_agg (show t_api_View.R ok _ _ _ from ⟨[.slice a7 x12.length c9], [.int .i64 x6.Rule.Kind, .int .i64 x6.Rule.Columns, .int .i64 x6.Rule.Faulty], rfl, (R_one (hA.get 2 rfl)), ⟨[.int .i64 x6.Rule.Kind], [.int .i64 x6.Rule.Columns, .int .i64 x6.Rule.Faulty], rfl, rfl, ⟨[.int .i64 x6.Rule.Columns], [.int .i64 x6.Rule.Faulty], rfl, rfl, rfl⟩⟩⟩) rfl
            have hs := hs.add (it := vl t_api_View (⟨x12, (⟨x6.Rule.Kind, x6.Rule.Columns, x6.Rule.Faulty⟩ : api_Rule)⟩ : api_View) (.agg [.slice a7 x12.length c9, .int .i64 x6.Rule.Kind, .int .i64 x6.Rule.Columns, .int .i64 x6.Rule.Faulty].toArray)) fun ok hA => V_agg (show t_api_View.R ok _ _ _ from ⟨[.slice a7 x12.length c9], [.int .i64 x6.Rule.Kind, .int .i64 x6.Rule.Columns, .int .i64 x6.Rule.Faulty], rfl, (R_one (hA.get 3 rfl)), ⟨[.int .i64 x6.Rule.Kind], [.int .i64 x6.Rule.Columns, .int .i64 x6.Rule.Faulty], rfl, rfl, ⟨[.int .i64 x6.Rule.Columns], [.int .i64 x6.Rule.Faulty], rfl, rfl, rfl⟩⟩⟩) rfl
            have hs := hs.front 1 rfl
            have hs := hs.front 1 rfl
            have hs := hs.front 2 rfl
            exact Jk241 (⟨x12, (⟨x6.Rule.Kind, x6.Rule.Columns, x6.Rule.Faulty⟩ : api_Rule)⟩ : api_View) (⟨x12, (⟨x6.Rule.Kind, x6.Rule.Columns, x6.Rule.Faulty⟩ : api_Rule)⟩ : api_View) g436 [.slice a7 x12.length c9, .int .i64 x6.Rule.Kind, .int .i64 x6.Rule.Columns, .int .i64 x6.Rule.Faulty] g435 [.slice a7 x12.length c9, .int .i64 x6.Rule.Kind, .int .i64 x6.Rule.Columns, .int .i64 x6.Rule.Faulty] _ _ rfl rfl ((hu434 2 rfl).trans h13_2) ((hu434 7 rfl).trans h13_7) rfl rfl ((hs.mask [true, true, true]).pick [4, 1, 0]) hf
        · refine WL.alloc hs ZV26 (fun g435 w hs => ?_)
          refine WL.nil ⟨rfl, _, rfl, ?_⟩
          refine WA.step [1, 3] (by kernel_rfl) (by simp) ⟨?_, ?_, trivial⟩
          · refine WL.loadN (vs := [.slice a7 x12.length c9, .int .i64 x6.Rule.Kind, .int .i64 x6.Rule.Columns, .int .i64 x6.Rule.Faulty]) hs 1 rfl TI26 ((hu434 7 rfl).trans h13_7) rfl rfl ?_
            refine WL.nil ⟨rfl, _, rfl, ?_⟩
            refine WA.step [3] (by kernel_rfl) (by simp) ⟨?_, trivial⟩
            refine WL.alloc hs ZV26 (fun g436 w hs => ?_)
            refine WL.nil ⟨rfl, _, rfl, ?_⟩
            refine WA.step [4] (by kernel_rfl) (by simp) ⟨?_, trivial⟩
            refine WL.storeAll (vs := [.slice a7 x12.length c9, .int .i64 x6.Rule.Kind, .int .i64 x6.Rule.Columns, .int .i64 x6.Rule.Faulty]) hs 1 rfl TI26 rfl rfl rfl rfl (ones_of rfl) rfl (fun w hs => ?_)
            refine WL.nil ⟨rfl, _, rfl, ?_⟩
            refine WA.step [5] (by kernel_rfl) (by simp) ⟨?_, trivial⟩
            refine WL.storeAll (vs := [.slice a7 x12.length c9, .int .i64 x6.Rule.Kind, .int .i64 x6.Rule.Columns, .int .i64 x6.Rule.Faulty]) hs 0 rfl TI26 rfl rfl rfl rfl (ones_of rfl) rfl (fun w hs => ?_)
            refine WL.nil ⟨rfl, _, rfl, ?_⟩
            refine WA.done (by kernel_rfl) ?_
            have hs := hs.add (it := vl t_api_View (⟨x12, (⟨x6.Rule.Kind, x6.Rule.Columns, x6.Rule.Faulty⟩ : api_Rule)⟩ : api_View) (.agg [.slice a7 x12.length c9, .int .i64 x6.Rule.Kind, .int .i64 x6.Rule.Columns, .int .i64 x6.Rule.Faulty].toArray)) fun ok hA => V_agg (show t_api_View.R ok _ _ _ from ⟨[.slice a7 x12.length c9], [.int .i64 x6.Rule.Kind, .int .i64 x6.Rule.Columns, .int .i64 x6.Rule.Faulty], rfl, (R_one (hA.get 0 rfl)), ⟨[.int .i64 x6.Rule.Kind], [.int .i64 x6.Rule.Columns, .int .i64 x6.Rule.Faulty], rfl, rfl, ⟨[.int .i64 x6.Rule.Columns], [.int .i64 x6.Rule.Faulty], rfl, rfl, rfl⟩⟩⟩) rfl
            have hs := hs.add (it := vl t_api_View (⟨x12, (⟨x6.Rule.Kind, x6.Rule.Columns, x6.Rule.Faulty⟩ : api_Rule)⟩ : api_View) (.agg [.slice a7 x12.length c9, .int .i64 x6.Rule.Kind, .int .i64 x6.Rule.Columns, .int .i64 x6.Rule.Faulty].toArray)) fun ok hA => V_agg (show t_api_View.R ok _ _ _ from ⟨[.slice a7 x12.length c9], [.int .i64 x6.Rule.Kind, .int .i64 x6.Rule.Columns, .int .i64 x6.Rule.Faulty], rfl, (R_one (hA.get 1 rfl)), ⟨[.int .i64 x6.Rule.Kind], [.int .i64 x6.Rule.Columns, .int .i64 x6.Rule.Faulty], rfl, rfl, ⟨[.int .i64 x6.Rule.Columns], [.int .i64 x6.Rule.Faulty], rfl, rfl, rfl⟩⟩⟩) rfl
            have hs := hs.add (it := vl t_api_View (⟨x12, (⟨x6.Rule.Kind, x6.Rule.Columns, x6.Rule.Faulty⟩ : api_Rule)⟩ : api_View) (.agg [.slice a7 x12.length c9, .int .i64 x6.Rule.Kind, .int .i64 x6.Rule.Columns, .int .i64 x6.Rule.Faulty].toArray)) fun ok hA => V_agg (show t_api_View.R ok _ _ _ from ⟨[.slice a7 x12.length c9], [.int .i64 x6.Rule.Kind, .int .i64 x6.Rule.Columns, .int .i64 x6.Rule.Faulty], rfl, (R_one (hA.get 2 rfl)), ⟨[.int .i64 x6.Rule.Kind], [.int .i64 x6.Rule.Columns, .int .i64 x6.Rule.Faulty], rfl, rfl, ⟨[.int .i64 x6.Rule.Columns], [.int .i64 x6.Rule.Faulty], rfl, rfl, rfl⟩⟩⟩) rfl
            have hs := hs.add (it := vl t_api_View (⟨x12, (⟨x6.Rule.Kind, x6.Rule.Columns, x6.Rule.Faulty⟩ : api_Rule)⟩ : api_View) (.agg [.slice a7 x12.length c9, .int .i64 x6.Rule.Kind, .int .i64 x6.Rule.Columns, .int .i64 x6.Rule.Faulty].toArray)) fun ok hA => V_agg (show t_api_View.R ok _ _ _ from ⟨[.slice a7 x12.length c9], [.int .i64 x6.Rule.Kind, .int .i64 x6.Rule.Columns, .int .i64 x6.Rule.Faulty], rfl, (R_one (hA.get 3 rfl)), ⟨[.int .i64 x6.Rule.Kind], [.int .i64 x6.Rule.Columns, .int .i64 x6.Rule.Faulty], rfl, rfl, ⟨[.int .i64 x6.Rule.Columns], [.int .i64 x6.Rule.Faulty], rfl, rfl, rfl⟩⟩⟩) rfl
            have hs := hs.front 0 rfl
            have hs := hs.front 1 rfl
            have hs := hs.front 2 rfl
            exact Jk241 (⟨x12, (⟨x6.Rule.Kind, x6.Rule.Columns, x6.Rule.Faulty⟩ : api_Rule)⟩ : api_View) (⟨x12, (⟨x6.Rule.Kind, x6.Rule.Columns, x6.Rule.Faulty⟩ : api_Rule)⟩ : api_View) g435 [.slice a7 x12.length c9, .int .i64 x6.Rule.Kind, .int .i64 x6.Rule.Columns, .int .i64 x6.Rule.Faulty] g436 [.slice a7 x12.length c9, .int .i64 x6.Rule.Kind, .int .i64 x6.Rule.Columns, .int .i64 x6.Rule.Faulty] _ _ rfl rfl ((hu434 2 rfl).trans h13_2) ((hu434 7 rfl).trans h13_7) rfl rfl ((hs.mask [true, true, true]).pick [4, 1, 0]) hf
          · refine WL.alloc hs ZV26 (fun g436 w hs => ?_)
            refine WL.nil ⟨rfl, _, rfl, ?_⟩
            refine WA.step [1, 4] (by kernel_rfl) (by simp) ⟨?_, ?_, trivial⟩
            · refine WL.loadN (vs := [.slice a7 x12.length c9, .int .i64 x6.Rule.Kind, .int .i64 x6.Rule.Columns, .int .i64 x6.Rule.Faulty]) hs 2 rfl TI26 ((hu434 7 rfl).trans h13_7) rfl rfl ?_
              refine WL.nil ⟨rfl, _, rfl, ?_⟩
              refine WA.step [4] (by kernel_rfl) (by simp) ⟨?_, trivial⟩
              refine WL.storeAll (vs := [.slice a7 x12.length c9, .int .i64 x6.Rule.Kind, .int .i64 x6.Rule.Columns, .int .i64 x6.Rule.Faulty]) hs 1 rfl TI26 rfl rfl rfl rfl (ones_of rfl) rfl (fun w hs => ?_)
              refine WL.nil ⟨rfl, _, rfl, ?_⟩
              refine WA.step [5] (by kernel_rfl) (by simp) ⟨?_, trivial⟩
              refine WL.storeAll (vs := [.slice a7 x12.length c9, .int .i64 x6.Rule.Kind, .int .i64 x6.Rule.Columns, .int .i64 x6.Rule.Faulty]) hs 0 rfl TI26 rfl rfl rfl rfl (ones_of rfl) rfl (fun w hs => ?_)
              refine WL.nil ⟨rfl, _, rfl, ?_⟩
              refine WA.done (by kernel_rfl) ?_
              have hs := hs.add (it := vl t_api_View (⟨x12, (⟨x6.Rule.Kind, x6.Rule.Columns, x6.Rule.Faulty⟩ : api_Rule)⟩ : api_View) (.agg [.slice a7 x12.length c9, .int .i64 x6.Rule.Kind, .int .i64 x6.Rule.Columns, .int .i64 x6.Rule.Faulty].toArray)) fun ok hA => V_agg (show t_api_View.R ok _ _ _ from ⟨[.slice a7 x12.length c9], [.int .i64 x6.Rule.Kind, .int .i64 x6.Rule.Columns, .int .i64 x6.Rule.Faulty], rfl, (R_one (hA.get 0 rfl)), ⟨[.int .i64 x6.Rule.Kind], [.int .i64 x6.Rule.Columns, .int .i64 x6.Rule.Faulty], rfl, rfl, ⟨[.int .i64 x6.Rule.Columns], [.int .i64 x6.Rule.Faulty], rfl, rfl, rfl⟩⟩⟩) rfl
              have hs := hs.add (it := vl t_api_View (⟨x12, (⟨x6.Rule.Kind, x6.Rule.Columns, x6.Rule.Faulty⟩ : api_Rule)⟩ : api_View) (.agg [.slice a7 x12.length c9, .int .i64 x6.Rule.Kind, .int .i64 x6.Rule.Columns, .int .i64 x6.Rule.Faulty].toArray)) fun ok hA => V_agg (show t_api_View.R ok _ _ _ from ⟨[.slice a7 x12.length c9], [.int .i64 x6.Rule.Kind, .int .i64 x6.Rule.Columns, .int .i64 x6.Rule.Faulty], rfl, (R_one (hA.get 1 rfl)), ⟨[.int .i64 x6.Rule.Kind], [.int .i64 x6.Rule.Columns, .int .i64 x6.Rule.Faulty], rfl, rfl, ⟨[.int .i64 x6.Rule.Columns], [.int .i64 x6.Rule.Faulty], rfl, rfl, rfl⟩⟩⟩) rfl
              have hs := hs.add (it := vl t_api_View (⟨x12, (⟨x6.Rule.Kind, x6.Rule.Columns, x6.Rule.Faulty⟩ : api_Rule)⟩ : api_View) (.agg [.slice a7 x12.length c9, .int .i64 x6.Rule.Kind, .int .i64 x6.Rule.Columns, .int .i64 x6.Rule.Faulty].toArray)) fun ok hA => V_agg (show t_api_View.R ok _ _ _ from ⟨[.slice a7 x12.length c9], [.int .i64 x6.Rule.Kind, .int .i64 x6.Rule.Columns, .int .i64 x6.Rule.Faulty], rfl, (R_one (hA.get 2 rfl)), ⟨[.int .i64 x6.Rule.Kind], [.int .i64 x6.Rule.Columns, .int .i64 x6.Rule.Faulty], rfl, rfl, ⟨[.int .i64 x6.Rule.Columns], [.int .i64 x6.Rule.Faulty], rfl, rfl, rfl⟩⟩⟩) rfl
              have hs := hs.add (it := vl t_api_View (⟨x12, (⟨x6.Rule.Kind, x6.Rule.Columns, x6.Rule.Faulty⟩ : api_Rule)⟩ : api_View) (.agg [.slice a7 x12.length c9, .int .i64 x6.Rule.Kind, .int .i64 x6.Rule.Columns, .int .i64 x6.Rule.Faulty].toArray)) fun ok hA => V_agg (show t_api_View.R ok _ _ _ from ⟨[.slice a7 x12.length c9], [.int .i64 x6.Rule.Kind, .int .i64 x6.Rule.Columns, .int .i64 x6.Rule.Faulty], rfl, (R_one (hA.get 3 rfl)), ⟨[.int .i64 x6.Rule.Kind], [.int .i64 x6.Rule.Columns, .int .i64 x6.Rule.Faulty], rfl, rfl, ⟨[.int .i64 x6.Rule.Columns], [.int .i64 x6.Rule.Faulty], rfl, rfl, rfl⟩⟩⟩) rfl
              have hs := hs.front 0 rfl
              have hs := hs.front 1 rfl
              have hs := hs.front 2 rfl
              exact Jk241 (⟨x12, (⟨x6.Rule.Kind, x6.Rule.Columns, x6.Rule.Faulty⟩ : api_Rule)⟩ : api_View) (⟨x12, (⟨x6.Rule.Kind, x6.Rule.Columns, x6.Rule.Faulty⟩ : api_Rule)⟩ : api_View) g435 [.slice a7 x12.length c9, .int .i64 x6.Rule.Kind, .int .i64 x6.Rule.Columns, .int .i64 x6.Rule.Faulty] g436 [.slice a7 x12.length c9, .int .i64 x6.Rule.Kind, .int .i64 x6.Rule.Columns, .int .i64 x6.Rule.Faulty] _ _ rfl rfl ((hu434 2 rfl).trans h13_2) ((hu434 7 rfl).trans h13_7) rfl rfl ((hs.mask [true, true, true]).pick [4, 1, 0]) hf
            · refine WL.storeAll (vs := [.slice a7 x12.length c9, .int .i64 x6.Rule.Kind, .int .i64 x6.Rule.Columns, .int .i64 x6.Rule.Faulty]) hs 1 rfl TI26 rfl rfl rfl rfl (ones_of rfl) rfl (fun w hs => ?_)
              refine WL.nil ⟨rfl, _, rfl, ?_⟩
              refine WA.step [1] (by kernel_rfl) (by simp) ⟨?_, trivial⟩
              refine WL.loadN (vs := [.slice a7 x12.length c9, .int .i64 x6.Rule.Kind, .int .i64 x6.Rule.Columns, .int .i64 x6.Rule.Faulty]) hs 2 rfl TI26 ((hu434 7 rfl).trans h13_7) rfl rfl ?_
              refine WL.nil ⟨rfl, _, rfl, ?_⟩
              refine WA.step [5] (by kernel_rfl) (by simp) ⟨?_, trivial⟩
              refine WL.storeAll (vs := [.slice a7 x12.length c9, .int .i64 x6.Rule.Kind, .int .i64 x6.Rule.Columns, .int .i64 x6.Rule.Faulty]) hs 0 rfl TI26 rfl rfl rfl rfl (ones_of rfl) rfl (fun w hs => ?_)
              refine WL.nil ⟨rfl, _, rfl, ?_⟩
              refine WA.done (by kernel_rfl) ?_
              have hs := hs.add (it := vl t_api_View (⟨x12, (⟨x6.Rule.Kind, x6.Rule.Columns, x6.Rule.Faulty⟩ : api_Rule)⟩ : api_View) (.agg [.slice a7 x12.length c9, .int .i64 x6.Rule.Kind, .int .i64 x6.Rule.Columns, .int .i64 x6.Rule.Faulty].toArray)) fun ok hA => V_agg (show t_api_View.R ok _ _ _ from ⟨[.slice a7 x12.length c9], [.int .i64 x6.Rule.Kind, .int .i64 x6.Rule.Columns, .int .i64 x6.Rule.Faulty], rfl, (R_one (hA.get 0 rfl)), ⟨[.int .i64 x6.Rule.Kind], [.int .i64 x6.Rule.Columns, .int .i64 x6.Rule.Faulty], rfl, rfl, ⟨[.int .i64 x6.Rule.Columns], [.int .i64 x6.Rule.Faulty], rfl, rfl, rfl⟩⟩⟩) rfl
              have hs := hs.add (it := vl t_api_View (⟨x12, (⟨x6.Rule.Kind, x6.Rule.Columns, x6.Rule.Faulty⟩ : api_Rule)⟩ : api_View) (.agg [.slice a7 x12.length c9, .int .i64 x6.Rule.Kind, .int .i64 x6.Rule.Columns, .int .i64 x6.Rule.Faulty].toArray)) fun ok hA => V_agg (show t_api_View.R ok _ _ _ from ⟨[.slice a7 x12.length c9], [.int .i64 x6.Rule.Kind, .int .i64 x6.Rule.Columns, .int .i64 x6.Rule.Faulty], rfl, (R_one (hA.get 1 rfl)), ⟨[.int .i64 x6.Rule.Kind], [.int .i64 x6.Rule.Columns, .int .i64 x6.Rule.Faulty], rfl, rfl, ⟨[.int .i64 x6.Rule.Columns], [.int .i64 x6.Rule.Faulty], rfl, rfl, rfl⟩⟩⟩) rfl
              have hs := hs.add (it := vl t_api_View (⟨x12, (⟨x6.Rule.Kind, x6.Rule.Columns, x6.Rule.Faulty⟩ : api_Rule)⟩ : api_View) (.agg [.slice a7 x12.length c9, .int .i64 x6.Rule.Kind, .int .i64 x6.Rule.Columns, .int .i64 x6.Rule.Faulty].toArray)) fun ok hA => V_agg (show t_api_View.R ok _ _ _ from ⟨[.slice a7 x12.length c9], [.int .i64 x6.Rule.Kind, .int .i64 x6.Rule.Columns, .int .i64 x6.Rule.Faulty], rfl, (R_one (hA.get 2 rfl)), ⟨[.int .i64 x6.Rule.Kind], [.int .i64 x6.Rule.Columns, .int .i64 x6.Rule.Faulty], rfl, rfl, ⟨[.int .i64 x6.Rule.Columns], [.int .i64 x6.Rule.Faulty], rfl, rfl, rfl⟩⟩⟩) rfl
              have hs := hs.add (it := vl t_api_View (⟨x12, (⟨x6.Rule.Kind, x6.Rule.Columns, x6.Rule.Faulty⟩ : api_Rule)⟩ : api_View) (.agg [.slice a7 x12.length c9, .int .i64 x6.Rule.Kind, .int .i64 x6.Rule.Columns, .int .i64 x6.Rule.Faulty].toArray)) fun ok hA => V_agg (show t_api_View.R ok _ _ _ from ⟨[.slice a7 x12.length c9], [.int .i64 x6.Rule.Kind, .int .i64 x6.Rule.Columns, .int .i64 x6.Rule.Faulty], rfl, (R_one (hA.get 3 rfl)), ⟨[.int .i64 x6.Rule.Kind], [.int .i64 x6.Rule.Columns, .int .i64 x6.Rule.Faulty], rfl, rfl, ⟨[.int .i64 x6.Rule.Columns], [.int .i64 x6.Rule.Faulty], rfl, rfl, rfl⟩⟩⟩) rfl
              have hs := hs.front 0 rfl
              have hs := hs.front 1 rfl
              have hs := hs.front 2 rfl
              exact Jk241 (⟨x12, (⟨x6.Rule.Kind, x6.Rule.Columns, x6.Rule.Faulty⟩ : api_Rule)⟩ : api_View) (⟨x12, (⟨x6.Rule.Kind, x6.Rule.Columns, x6.Rule.Faulty⟩ : api_Rule)⟩ : api_View) g435 [.slice a7 x12.length c9, .int .i64 x6.Rule.Kind, .int .i64 x6.Rule.Columns, .int .i64 x6.Rule.Faulty] g436 [.slice a7 x12.length c9, .int .i64 x6.Rule.Kind, .int .i64 x6.Rule.Columns, .int .i64 x6.Rule.Faulty] _ _ rfl rfl ((hu434 2 rfl).trans h13_2) ((hu434 7 rfl).trans h13_7) rfl rfl ((hs.mask [true, true, true]).pick [4, 1, 0]) hf
        · refine WL.alloc hs ZV26 (fun g435 w hs => ?_)
          refine WL.nil ⟨rfl, _, rfl, ?_⟩
          refine WA.step [1, 2] (by kernel_rfl) (by simp) ⟨?_, ?_, trivial⟩
          · refine WL.loadN (vs := [.slice a7 x12.length c9, .int .i64 x6.Rule.Kind, .int .i64 x6.Rule.Columns, .int .i64 x6.Rule.Faulty]) hs 1 rfl TI26 ((hu434 7 rfl).trans h13_7) rfl rfl ?_
            refine WL.nil ⟨rfl, _, rfl, ?_⟩
            refine WA.step [2] (by kernel_rfl) (by simp) ⟨?_, trivial⟩
            refine WL.alloc hs ZV26 (fun g436 w hs => ?_)
            refine WL.nil ⟨rfl, _, rfl, ?_⟩
            refine WA.step [4] (by kernel_rfl) (by simp) ⟨?_, trivial⟩
            refine WL.storeAll (vs := [.slice a7 x12.length c9, .int .i64 x6.Rule.Kind, .int .i64 x6.Rule.Columns, .int .i64 x6.Rule.Faulty]) hs 0 rfl TI26 rfl rfl rfl rfl (ones_of rfl) rfl (fun w hs => ?_)
            refine WL.nil ⟨rfl, _, rfl, ?_⟩
            refine WA.step [5] (by kernel_rfl) (by simp) ⟨?_, trivial⟩
            refine WL.storeAll (vs := [.slice a7 x12.length c9, .int .i64 x6.Rule.Kind, .int .i64 x6.Rule.Columns, .int .i64 x6.Rule.Faulty]) hs 1 rfl TI26 rfl rfl rfl rfl (ones_of rfl) rfl (fun w hs => ?_)
            refine WL.nil ⟨rfl, _, rfl, ?_⟩
            refine WA.done (by kernel_rfl) ?_
            have hs := hs.add (it := vl t_api_View (⟨x12, (⟨x6.Rule.Kind, x6.Rule.Columns, x6.Rule.Faulty⟩ : api_Rule)⟩ : api_View) (.agg [.slice a7 x12.length c9, .int .i64 x6.Rule.Kind, .int .i64 x6.Rule.Columns, .int .i64 x6.Rule.Faulty].toArray)) fun ok hA => V_agg (show t_api_View.R ok _ _ _ from ⟨[.slice a7 x12.length c9], [.int .i64 x6.Rule.Kind, .int .i64 x6.Rule.Columns, .int .i64 x6.Rule.Faulty], rfl, (R_one (hA.get 0 rfl)), ⟨[.int .i64 x6.Rule.Kind], [.int .i64 x6.Rule.Columns, .int .i64 x6.Rule.Faulty], rfl, rfl, ⟨[.int .i64 x6.Rule.Columns], [.int .i64 x6.Rule.Faulty], rfl, rfl, rfl⟩⟩⟩) rfl
            have hs := hs.add (it := vl t_api_View (⟨x12, (⟨x6.Rule.Kind, x6.Rule.Columns, x6.Rule.Faulty⟩ : api_Rule)⟩ : api_View) (.agg [.slice a7 x12.length c9, .int .i64 x6.Rule.Kind, .int .i64 x6.Rule.Columns, .int .i64 x6.Rule.Faulty].toArray)) fun ok hA => V_agg (show t_api_View.R ok _ _ _ from ⟨[.slice a7 x12.length c9], [.int .i64 x6.Rule.Kind, .int .i64 x6.Rule.Columns, .int .i64 x6.Rule.Faulty], rfl, (R_one (hA.get 1 rfl)), ⟨[.int .i64 x6.Rule.Kind], [.int .i64 x6.Rule.Columns, .int .i64 x6.Rule.Faulty], rfl, rfl, ⟨[.int .i64 x6.Rule.Columns], [.int .i64 x6.Rule.Faulty], rfl, rfl, rfl⟩⟩⟩) rfl
            have hs := hs.add (it := vl t_api_View (⟨x12, (⟨x6.Rule.Kind, x6.Rule.Columns, x6.Rule.Faulty⟩ : api_Rule)⟩ : api_View) (.agg [.slice a7 x12.length c9, .int .i64 x6.Rule.Kind, .int .i64 x6.Rule.Columns, .int .i64 x6.Rule.Faulty].toArray)) fun ok hA => V_agg (show t_api_View.R ok _ _ _ from ⟨[.slice a7 x12.length c9], [.int .i64 x6.Rule.Kind, .int .i64 x6.Rule.Columns, .int .i64 x6.Rule.Faulty], rfl, (R_one (hA.get 2 rfl)), ⟨[.int .i64 x6.Rule.Kind], [.int .i64 x6.Rule.Columns, .int .i64 x6.Rule.Faulty], rfl, rfl, ⟨[.int .i64 x6.Rule.Columns], [.int .i64 x6.Rule.Faulty], rfl, rfl, rfl⟩⟩⟩) rfl
            have hs := hs.add (it := vl t_api_View (⟨x12, (⟨x6.Rule.Kind, x6.Rule.Columns, x6.Rule.Faulty⟩ : api_Rule)⟩ : api_View) (.agg [.slice a7 x12.length c9, .int .i64 x6.Rule.Kind, .int .i64 x6.Rule.Columns, .int .i64 x6.Rule.Faulty].toArray)) fun ok hA => V_agg (show t_api_View.R ok _ _ _ from ⟨[.slice a7 x12.length c9], [.int .i64 x6.Rule.Kind, .int .i64 x6.Rule.Columns, .int .i64 x6.Rule.Faulty], rfl, (R_one (hA.get 3 rfl)), ⟨[.int .i64 x6.Rule.Kind], [.int .i64 x6.Rule.Columns, .int .i64 x6.Rule.Faulty], rfl, rfl, ⟨[.int .i64 x6.Rule.Columns], [.int .i64 x6.Rule.Faulty], rfl, rfl, rfl⟩⟩⟩) rfl
            have hs := hs.front 1 rfl
            have hs := hs.front 1 rfl
            have hs := hs.front 2 rfl
            exact Jk241 (⟨x12, (⟨x6.Rule.Kind, x6.Rule.Columns, x6.Rule.Faulty⟩ : api_Rule)⟩ : api_View) (⟨x12, (⟨x6.Rule.Kind, x6.Rule.Columns, x6.Rule.Faulty⟩ : api_Rule)⟩ : api_View) g436 [.slice a7 x12.length c9, .int .i64 x6.Rule.Kind, .int .i64 x6.Rule.Columns, .int .i64 x6.Rule.Faulty] g435 [.slice a7 x12.length c9, .int .i64 x6.Rule.Kind, .int .i64 x6.Rule.Columns, .int .i64 x6.Rule.Faulty] _ _ rfl rfl ((hu434 2 rfl).trans h13_2) ((hu434 7 rfl).trans h13_7) rfl rfl ((hs.mask [true, true, true]).pick [4, 1, 0]) hf
          · refine WL.alloc hs ZV26 (fun g436 w hs => ?_)
            refine WL.nil ⟨rfl, _, rfl, ?_⟩
            refine WA.step [1, 4] (by kernel_rfl) (by simp) ⟨?_, ?_, trivial⟩
            · refine WL.loadN (vs := [.slice a7 x12.length c9, .int .i64 x6.Rule.Kind, .int .i64 x6.Rule.Columns, .int .i64 x6.Rule.Faulty]) hs 2 rfl TI26 ((hu434 7 rfl).trans h13_7) rfl rfl ?_
              refine WL.nil ⟨rfl, _, rfl, ?_⟩
              refine WA.step [4] (by kernel_rfl) (by simp) ⟨?_, trivial⟩
              refine WL.storeAll (vs := [.slice a7 x12.length c9, .int .i64 x6.Rule.Kind, .int .i64 x6.Rule.Columns, .int .i64 x6.Rule.Faulty]) hs 0 rfl TI26 rfl rfl rfl rfl (ones_of rfl) rfl (fun w hs => ?_)
              refine WL.nil ⟨rfl, _, rfl, ?_⟩
              refine WA.step [5] (by kernel_rfl) (by simp) ⟨?_, trivial⟩
              refine WL.storeAll (vs := [.slice a7 x12.length c9, .int .i64 x6.Rule.Kind, .int .i64 x6.Rule.Columns, .int .i64 x6.Rule.Faulty]) hs 1 rfl TI26 rfl rfl rfl rfl (ones_of rfl) rfl (fun w hs => ?_)
              refine WL.nil ⟨rfl, _, rfl, ?_⟩
              refine WA.done (by kernel_rfl) ?_
              have hs := hs.add (it := vl t_api_View (⟨x12, (⟨x6.Rule.Kind, x6.Rule.Columns, x6.Rule.Faulty⟩ : api_Rule)⟩ : api_View) (.agg [.slice a7 x12.length c9, .int .i64 x6.Rule.Kind, .int .i64 x6.Rule.Columns, .int .i64 x6.Rule.Faulty].toArray)) fun ok hA => V_agg (show t_api_View.R ok _ _ _ from ⟨[.slice a7 x12.length c9], [.int .i64 x6.Rule.Kind, .int .i64 x6.Rule.Columns, .int .i64 x6.Rule.Faulty], rfl, (R_one (hA.get 0 rfl)), ⟨[.int .i64 x6.Rule.Kind], [.int .i64 x6.Rule.Columns, .int .i64 x6.Rule.Faulty], rfl, rfl, ⟨[.int .i64 x6.Rule.Columns], [.int .i64 x6.Rule.Faulty], rfl, rfl, rfl⟩⟩⟩) rfl
              have hs := hs.add (it := vl t_api_View (⟨x12, (⟨x6.Rule.Kind, x6.Rule.Columns, x6.Rule.Faulty⟩ : api_Rule)⟩ : api_View) (.agg [.slice a7 x12.length c9, .int .i64 x6.Rule.Kind, .int .i64 x6.Rule.Columns, .int .i64 x6.Rule.Faulty].toArray)) fun ok hA => V_agg (show t_api_View.R ok _ _ _ from ⟨[.slice a7 x12.length c9], [.int .i64 x6.Rule.Kind, .int .i64 x6.Rule.Columns, .int .i64 x6.Rule.Faulty], rfl, (R_one (hA.get 1 rfl)), ⟨[.int .i64 x6.Rule.Kind], [.int .i64 x6.Rule.Columns, .int .i64 x6.Rule.Faulty], rfl, rfl, ⟨[.int .i64 x6.Rule.Columns], [.int .i64 x6.Rule.Faulty], rfl, rfl, rfl⟩⟩⟩) rfl
              have hs := hs.add (it := vl t_api_View (⟨x12, (⟨x6.Rule.Kind, x6.Rule.Columns, x6.Rule.Faulty⟩ : api_Rule)⟩ : api_View) (.agg [.slice a7 x12.length c9, .int .i64 x6.Rule.Kind, .int .i64 x6.Rule.Columns, .int .i64 x6.Rule.Faulty].toArray)) fun ok hA => V_agg (show t_api_View.R ok _ _ _ from ⟨[.slice a7 x12.length c9], [.int .i64 x6.Rule.Kind, .int .i64 x6.Rule.Columns, .int .i64 x6.Rule.Faulty], rfl, (R_one (hA.get 2 rfl)), ⟨[.int .i64 x6.Rule.Kind], [.int .i64 x6.Rule.Columns, .int .i64 x6.Rule.Faulty], rfl, rfl, ⟨[.int .i64 x6.Rule.Columns], [.int .i64 x6.Rule.Faulty], rfl, rfl, rfl⟩⟩⟩) rfl
              have hs := hs.add (it := vl t_api_View (⟨x12, (⟨x6.Rule.Kind, x6.Rule.Columns, x6.Rule.Faulty⟩ : api_Rule)⟩ : api_View) (.agg [.slice a7 x12.length c9, .int .i64 x6.Rule.Kind, .int .i64 x6.Rule.Columns, .int .i64 x6.Rule.Faulty].toArray)) fun ok hA => V_agg (show t_api_View.R ok _ _ _ from ⟨[.slice a7 x12.length c9], [.int .i64 x6.Rule.Kind, .int .i64 x6.Rule.Columns, .int .i64 x6.Rule.Faulty], rfl, (R_one (hA.get 3 rfl)), ⟨[.int .i64 x6.Rule.Kind], [.int .i64 x6.Rule.Columns, .int .i64 x6.Rule.Faulty], rfl, rfl, ⟨[.int .i64 x6.Rule.Columns], [.int .i64 x6.Rule.Faulty], rfl, rfl, rfl⟩⟩⟩) rfl
              have hs := hs.front 1 rfl
              have hs := hs.front 1 rfl
              have hs := hs.front 2 rfl
              exact Jk241 (⟨x12, (⟨x6.Rule.Kind, x6.Rule.Columns, x6.Rule.Faulty⟩ : api_Rule)⟩ : api_View) (⟨x12, (⟨x6.Rule.Kind, x6.Rule.Columns, x6.Rule.Faulty⟩ : api_Rule)⟩ : api_View) g436 [.slice a7 x12.length c9, .int .i64 x6.Rule.Kind, .int .i64 x6.Rule.Columns, .int .i64 x6.Rule.Faulty] g435 [.slice a7 x12.length c9, .int .i64 x6.Rule.Kind, .int .i64 x6.Rule.Columns, .int .i64 x6.Rule.Faulty] _ _ rfl rfl ((hu434 2 rfl).trans h13_2) ((hu434 7 rfl).trans h13_7) rfl rfl ((hs.mask [true, true, true]).pick [4, 1, 0]) hf
            · refine WL.storeAll (vs := [.slice a7 x12.length c9, .int .i64 x6.Rule.Kind, .int .i64 x6.Rule.Columns, .int .i64 x6.Rule.Faulty]) hs 0 rfl TI26 rfl rfl rfl rfl (ones_of rfl) rfl (fun w hs => ?_)
              refine WL.nil ⟨rfl, _, rfl, ?_⟩
              refine WA.step [1] (by kernel_rfl) (by simp) ⟨?_, trivial⟩
              refine WL.loadN (vs := [.slice a7 x12.length c9, .int .i64 x6.Rule.Kind, .int .i64 x6.Rule.Columns, .int .i64 x6.Rule.Faulty]) hs 2 rfl TI26 ((hu434 7 rfl).trans h13_7) rfl rfl ?_
              refine WL.nil ⟨rfl, _, rfl, ?_⟩
              refine WA.step [5] (by kernel_rfl) (by simp) ⟨?_, trivial⟩
              refine WL.storeAll (vs := [.slice a7 x12.length c9, .int .i64 x6.Rule.Kind, .int .i64 x6.Rule.Columns, .int .i64 x6.Rule.Faulty]) hs 1 rfl TI26 rfl rfl rfl rfl (ones_of rfl) rfl (fun w hs => ?_)
              refine WL.nil ⟨rfl, _, rfl, ?_⟩
              refine WA.done (by kernel_rfl) ?_
              have hs := hs.add (it := vl t_api_View (⟨x12, (⟨x6.Rule.Kind, x6.Rule.Columns, x6.Rule.Faulty⟩ : api_Rule)⟩ : api_View) (.agg [.slice a7 x12.length c9, .int .i64 x6.Rule.Kind, .int .i64 x6.Rule.Columns, .int .i64 x6.Rule.Faulty].toArray)) fun ok hA => V_agg (show t_api_View.R ok _ _ _ from ⟨[.slice a7 x12.length c9], [.int .i64 x6.Rule.Kind, .int .i64 x6.Rule.Columns, .int .i64 x6.Rule.Faulty], rfl, (R_one (hA.get 0 rfl)), ⟨[.int .i64 x6.Rule.Kind], [.int .i64 x6.Rule.Columns, .int .i64 x6.Rule.Faulty], rfl, rfl, ⟨[.int .i64 x6.Rule.Columns], [.int .i64 x6.Rule.Faulty], rfl, rfl, rfl⟩⟩⟩) rfl
              have hs := hs.add (it := vl t_api_View (⟨x12, (⟨x6.Rule.Kind, x6.Rule.Columns, x6.Rule.Faulty⟩ : api_Rule)⟩ : api_View) (.agg [.slice a7 x12.length c9, .int .i64 x6.Rule.Kind, .int .i64 x6.Rule.Columns, .int .i64 x6.Rule.Faulty].toArray)) fun ok hA => V_agg (show t_api_View.R ok _ _ _ from ⟨[.slice a7 x12.length c9], [.int .i64 x6.Rule.Kind, .int .i64 x6.Rule.Columns, .int .i64 x6.Rule.Faulty], rfl, (R_one (hA.get 1 rfl)), ⟨[.int .i64 x6.Rule.Kind], [.int .i64 x6.Rule.Columns, .int .i64 x6.Rule.Faulty], rfl, rfl, ⟨[.int .i64 x6.Rule.Columns], [.int .i64 x6.Rule.Faulty], rfl, rfl, rfl⟩⟩⟩) rfl
              have hs := hs.add (it := vl t_api_View (⟨x12, (⟨x6.Rule.Kind, x6.Rule.Columns, x6.Rule.Faulty⟩ : api_Rule)⟩ : api_View) (.agg [.slice a7 x12.length c9, .int .i64 x6.Rule.Kind, .int .i64 x6.Rule.Columns, .int .i64 x6.Rule.Faulty].toArray)) fun ok hA => V_agg (show t_api_View.R ok _ _ _ from ⟨[.slice a7 x12.length c9], [.int .i64 x6.Rule.Kind, .int .i64 x6.Rule.Columns, .int .i64 x6.Rule.Faulty], rfl, (R_one (hA.get 2 rfl)), ⟨[.int .i64 x6.Rule.Kind], [.int .i64 x6.Rule.Columns, .int .i64 x6.Rule.Faulty], rfl, rfl, ⟨[.int .i64 x6.Rule.Columns], [.int .i64 x6.Rule.Faulty], rfl, rfl, rfl⟩⟩⟩) rfl
              have hs := hs.add (it := vl t_api_View (⟨x12, (⟨x6.Rule.Kind, x6.Rule.Columns, x6.Rule.Faulty⟩ : api_Rule)⟩ : api_View) (.agg [.slice a7 x12.length c9, .int .i64 x6.Rule.Kind, .int .i64 x6.Rule.Columns, .int .i64 x6.Rule.Faulty].toArray)) fun ok hA => V_agg (show t_api_View.R ok _ _ _ from ⟨[.slice a7 x12.length c9], [.int .i64 x6.Rule.Kind, .int .i64 x6.Rule.Columns, .int .i64 x6.Rule.Faulty], rfl, (R_one (hA.get 3 rfl)), ⟨[.int .i64 x6.Rule.Kind], [.int .i64 x6.Rule.Columns, .int .i64 x6.Rule.Faulty], rfl, rfl, ⟨[.int .i64 x6.Rule.Columns], [.int .i64 x6.Rule.Faulty], rfl, rfl, rfl⟩⟩⟩) rfl
              have hs := hs.front 1 rfl
              have hs := hs.front 1 rfl
              have hs := hs.front 2 rfl
              exact Jk241 (⟨x12, (⟨x6.Rule.Kind, x6.Rule.Columns, x6.Rule.Faulty⟩ : api_Rule)⟩ : api_View) (⟨x12, (⟨x6.Rule.Kind, x6.Rule.Columns, x6.Rule.Faulty⟩ : api_Rule)⟩ : api_View) g436 [.slice a7 x12.length c9, .int .i64 x6.Rule.Kind, .int .i64 x6.Rule.Columns, .int .i64 x6.Rule.Faulty] g435 [.slice a7 x12.length c9, .int .i64 x6.Rule.Kind, .int .i64 x6.Rule.Columns, .int .i64 x6.Rule.Faulty] _ _ rfl rfl ((hu434 2 rfl).trans h13_2) ((hu434 7 rfl).trans h13_7) rfl rfl ((hs.mask [true, true, true]).pick [4, 1, 0]) hf
      · refine WL.loadN (vs := [.slice a7 x12.length c9, .int .i64 x6.Rule.Kind, .int .i64 x6.Rule.Columns, .int .i64 x6.Rule.Faulty]) hs 0 rfl TI26 ((hu434 7 rfl).trans h13_7) rfl rfl ?_
        refine WL.nil ⟨rfl, _, rfl, ?_⟩
        refine WA.step [0, 2, 3] (by kernel_rfl) (by simp) ⟨?_, ?_, ?_, trivial⟩
        · refine WL.loadN (vs := [.slice a7 x12.length c9, .int .i64 x6.Rule.Kind, .int .i64 x6.Rule.Columns, .int .i64 x6.Rule.Faulty]) hs 0 rfl TI26 ((hu434 7 rfl).trans h13_7) rfl rfl ?_
          refine WL.nil ⟨rfl, _, rfl, ?_⟩
          refine WA.step [2, 3] (by kernel_rfl) (by simp) ⟨?_, ?_, trivial⟩
          · refine WL.alloc hs ZV26 (fun g435 w hs => ?_)
            refine WL.nil ⟨rfl, _, rfl, ?_⟩
            refine WA.step [3] (by kernel_rfl) (by simp) ⟨?_, trivial⟩
            refine WL.alloc hs ZV26 (fun g436 w hs => ?_)
            refine WL.nil ⟨rfl, _, rfl, ?_⟩
            refine WA.step [4] (by kernel_rfl) (by simp) ⟨?_, trivial⟩
            refine WL.storeAll (vs := [.slice a7 x12.length c9, .int .i64 x6.Rule.Kind, .int .i64 x6.Rule.Columns, .int .i64 x6.Rule.Faulty]) hs 1 rfl TI26 rfl rfl rfl rfl (ones_of rfl) rfl (fun w hs => ?_)
            refine WL.nil ⟨rfl, _, rfl, ?_⟩
            refine WA.step [5] (by kernel_rfl) (by simp) ⟨?_, trivial⟩
            refine WL.storeAll (vs := [.slice a7 x12.length c9, .int .i64 x6.Rule.Kind, .int .i64 x6.Rule.Columns, .int .i64 x6.Rule.Faulty]) hs 0 rfl TI26 rfl rfl rfl rfl (ones_of rfl) rfl (fun w hs => ?_)
            refine WL.nil ⟨rfl, _, rfl, ?_⟩
            refine WA.done (by kernel_rfl) ?_
            have hs := hs.add (it := vl t_api_View (⟨x12, (⟨x6.Rule.Kind, x6.Rule.Columns, x6.Rule.Faulty⟩ : api_Rule)⟩ : api_View) (.agg [.slice a7 x12.length c9, .int .i64 x6.Rule.Kind, .int .i64 x6.Rule.Columns, .int .i64 x6.Rule.Faulty].toArray)) fun ok hA => V_agg (show t_api_View.R ok _ _ _ from ⟨[.slice a7 x12.length c9], [.int .i64 x6.Rule.Kind, .int .i64 x6.Rule.Columns, .int .i64 x6.Rule.Faulty], rfl, (R_one (hA.get 0 rfl)), ⟨[.int .i64 x6.Rule.Kind], [.int .i64 x6.Rule.Columns, .int .i64 x6.Rule.Faulty], rfl, rfl, ⟨[.int .i64 x6.Rule.Columns], [.int .i64 x6.Rule.Faulty], rfl, rfl, rfl⟩⟩⟩) rfl
            have hs := hs.add (it := vl t_api_View (⟨x12, (⟨x6.Rule.Kind, x6.Rule.Columns, x6.Rule.Faulty⟩ : api_Rule)⟩ : api_View) (.agg [.slice a7 x12.length c9, .int .i64 x6.Rule.Kind, .int .i64 x6.Rule.Columns, .int .i64 x6.Rule.Faulty].toArray)) fun ok hA => V_agg (show t_api_View.R ok _ _ _ from ⟨[.slice a7 x12.length c9], [.int .i64 x6.Rule.Kind, .int .i64 x6.Rule.Columns, .int .i64 x6.Rule.Faulty], rfl, (R_one (hA.get 1 rfl)), ⟨[.int .i64 x6.Rule.Kind], [.int .i64 x6.Rule.Columns, .int .i64 x6.Rule.Faulty], rfl, rfl, ⟨[.int .i64 x6.Rule.Columns], [.int .i64 x6.Rule.Faulty], rfl, rfl, rfl⟩⟩⟩) rfl
            have hs := hs.add (it := vl t_api_View (⟨x12, (⟨x6.Rule.Kind, x6.Rule.Columns, x6.Rule.Faulty⟩ : api_Rule)⟩ : api_View) (.agg [.slice a7 x12.length c9, .int .i64 x6.Rule.Kind, .int .i64 x6.Rule.Columns, .int .i64 x6.Rule.Faulty].toArray)) fun ok hA => V_agg (show t_api_View.R ok _ _ _ from ⟨[.slice a7 x12.length c9], [.int .i64 x6.Rule.Kind, .int .i64 x6.Rule.Columns, .int .i64 x6.Rule.Faulty], rfl, (R_one (hA.get 2 rfl)), ⟨[.int .i64 x6.Rule.Kind], [.int .i64 x6.Rule.Columns, .int .i64 x6.Rule.Faulty], rfl, rfl, ⟨[.int .i64 x6.Rule.Columns], [.int .i64 x6.Rule.Faulty], rfl, rfl, rfl⟩⟩⟩) rfl
            have hs := hs.add (it := vl t_api_View (⟨x12, (⟨x6.Rule.Kind, x6.Rule.Columns, x6.Rule.Faulty⟩ : api_Rule)⟩ : api_View) (.agg [.slice a7 x12.length c9, .int .i64 x6.Rule.Kind, .int .i64 x6.Rule.Columns, .int .i64 x6.Rule.Faulty].toArray)) fun ok hA => V_agg (show t_api_View.R ok _ _ _ from ⟨[.slice a7 x12.length c9], [.int .i64 x6.Rule.Kind, .int .i64 x6.Rule.Columns, .int .i64 x6.Rule.Faulty], rfl, (R_one (hA.get 3 rfl)), ⟨[.int .i64 x6.Rule.Kind], [.int .i64 x6.Rule.Columns, .int .i64 x6.Rule.Faulty], rfl, rfl, ⟨[.int .i64 x6.Rule.Columns], [.int .i64 x6.Rule.Faulty], rfl, rfl, rfl⟩⟩⟩) rfl
            have hs := hs.front 0 rfl
            have hs := hs.front 1 rfl
            have hs := hs.front 2 rfl
            exact Jk241 (⟨x12, (⟨x6.Rule.Kind, x6.Rule.Columns, x6.Rule.Faulty⟩ : api_Rule)⟩ : api_View) (⟨x12, (⟨x6.Rule.Kind, x6.Rule.Columns, x6.Rule.Faulty⟩ : api_Rule)⟩ : api_View) g435 [.slice a7 x12.length c9, .int .i64 x6.Rule.Kind, .int .i64 x6.Rule.Columns, .int .i64 x6.Rule.Faulty] g436 [.slice a7 x12.length c9, .int .i64 x6.Rule.Kind, .int .i64 x6.Rule.Columns, .int .i64 x6.Rule.Faulty] _ _ rfl rfl ((hu434 2 rfl).trans h13_2) ((hu434 7 rfl).trans h13_7) rfl rfl ((hs.mask [true, true, true]).pick [4, 1, 0]) hf
          · refine WL.alloc hs ZV26 (fun g435 w hs => ?_)
            refine WL.nil ⟨rfl, _, rfl, ?_⟩
            refine WA.step [2] (by kernel_rfl) (by simp) ⟨?_, trivial⟩
            refine WL.alloc hs ZV26 (fun g436 w hs => ?_)
            refine WL.nil ⟨rfl, _, rfl, ?_⟩
            refine WA.step [4] (by kernel_rfl) (by simp) ⟨?_, trivial⟩
            refine WL.storeAll (vs := [.slice a7 x12.length c9, .int .i64 x6.Rule.Kind, .int .i64 x6.Rule.Columns, .int .i64 x6.Rule.Faulty]) hs 0 rfl TI26 rfl rfl rfl rfl (ones_of rfl) rfl (fun w hs => ?_)
            refine WL.nil ⟨rfl, _, rfl, ?_⟩
            refine WA.step [5] (by kernel_rfl) (by simp) ⟨?_, trivial⟩
            refine WL.storeAll (vs := [.slice a7 x12.length c9, .int .i64 x6.Rule.Kind, .int .i64 x6.Rule.Columns, .int .i64 x6.Rule.Faulty]) hs 1 rfl TI26 rfl rfl rfl rfl (ones_of rfl) rfl (fun w hs => ?_)
            refine WL.nil ⟨rfl, _, rfl, ?_⟩
            refine WA.done (by kernel_rfl) ?_
            have hs := hs.add (it := vl t_api_View (⟨x12, (⟨x6.Rule.Kind, x6.Rule.Columns, x6.Rule.Faulty⟩ : api_Rule)⟩ : api_View) (.agg [.slice a7 x12.length c9, .int .i64 x6.Rule.Kind, .int .i64 x6.Rule.Columns, .int .i64 x6.Rule.Faulty].toArray)) fun ok hA => V_agg (show t_api_View.R ok _ _ _ from ⟨[.slice a7 x12.length c9], [.int .i64 x6.Rule.Kind, .int .i64 x6.Rule.Columns, .int .i64 x6.Rule.Faulty], rfl, (R_one (hA.get 0 rfl)), ⟨[.int .i64 x6.Rule.Kind], [.int .i64 x6.Rule.Columns, .int .i64 x6.Rule.Faulty], rfl, rfl, ⟨[.int .i64 x6.Rule.Columns], [.int .i64 x6.Rule.Faulty], rfl, rfl, rfl⟩⟩⟩) rfl
            have hs := hs.add (it := vl t_api_View (⟨x12, (⟨x6.Rule.Kind, x6.Rule.Columns, x6.Rule.Faulty⟩ : api_Rule)⟩ : api_View) (.agg [.slice a7 x12.length c9, .int .i64 x6.Rule.Kind, .int .i64 x6.Rule.Columns, .int .i64 x6.Rule.Faulty].toArray)) fun ok hA => V_agg (show t_api_View.R ok _ _ _ from ⟨[.slice a7 x12.length c9], [.int .i64 x6.Rule.Kind, .int .i64 x6.Rule.Columns, .int .i64 x6.Rule.Faulty], rfl, (R_one (hA.get 1 rfl)), ⟨[.int .i64 x6.Rule.Kind], [.int .i64 x6.Rule.Columns, .int .i64 x6.Rule.Faulty], rfl, rfl, ⟨[.int .i64 x6.Rule.Columns], [.int .i64 x6.Rule.Faulty], rfl, rfl, rfl⟩⟩⟩) rfl
            have hs := hs.add (it := vl t_api_View (⟨x12, (⟨x6.Rule.Kind, x6.Rule.Columns, x6.Rule.Faulty⟩ : api_Rule)⟩ : api_View) (.agg [.slice a7 x12.length c9, .int .i64 x6.Rule.Kind, .int .i64 x6.Rule.Columns, .int .i64 x6.Rule.Faulty].toArray)) fun ok hA => V_agg (show t_api_View.R ok _ _ _ from ⟨[.slice a7 x12.length c9], [.int .i64 x6.Rule.Kind, .int .i64 x6.Rule.Columns, .int .i64 x6.Rule.Faulty], rfl, (R_one (hA.get 2 rfl)), ⟨[.int .i64 x6.Rule.Kind], [.int .i64 x6.Rule.Columns, .int .i64 x6.Rule.Faulty], rfl, rfl, ⟨[.int .i64 x6.Rule.Columns], [.int .i64 x6.Rule.Faulty], rfl, rfl, rfl⟩⟩⟩) rfl
            have hs := hs.add (it := vl t_api_View (⟨x12, (⟨x6.Rule.Kind, x6.Rule.Columns, x6.Rule.Faulty⟩ : api_Rule)⟩ : api_View) (.agg [.slice a7 x12.length c9, .int .i64 x6.Rule.Kind, .int .i64 x6.Rule.Columns, .int .i64 x6.Rule.Faulty].toArray)) fun ok hA => V_agg (show t_api_View.R ok _ _ _ from ⟨[.slice a7 x12.length c9], [.int .i64 x6.Rule.Kind, .int .i64 x6.Rule.Columns, .int .i64 x6.Rule.Faulty], rfl, (R_one (hA.get 3 rfl)), ⟨[.int .i64 x6.Rule.Kind], [.int .i64 x6.Rule.Columns, .int .i64 x6.Rule.Faulty], rfl, rfl, ⟨[.int .i64 x6.Rule.Columns], [.int .i64 x6.Rule.Faulty], rfl, rfl, rfl⟩⟩⟩) rfl
            have hs := hs.front 1 rfl
            have hs := hs.front 1 rfl
            have hs := hs.front 2 rfl
            exact Jk241 (⟨x12, (⟨x6.Rule.Kind, x6.Rule.Columns, x6.Rule.Faulty⟩ : api_Rule)⟩ : api_View) (⟨x12, (⟨x6.Rule.Kind, x6.Rule.Columns, x6.Rule.Faulty⟩ : api_Rule)⟩ : api_View) g436 [.slice a7 x12.length c9, .int .i64 x6.Rule.Kind, .int .i64 x6.Rule.Columns, .int .i64 x6.Rule.Faulty] g435 [.slice a7 x12.length c9, .int .i64 x6.Rule.Kind, .int .i64 x6.Rule.Columns, .int .i64 x6.Rule.Faulty] _ _ rfl rfl ((hu434 2 rfl).trans h13_2) ((hu434 7 rfl).trans h13_7) rfl rfl ((hs.mask [true, true, true]).pick [4, 1, 0]) hf
        · refine WL.alloc hs ZV26 (fun g435 w hs => ?_)
          refine WL.nil ⟨rfl, _, rfl, ?_⟩
          refine WA.step [0, 3] (by kernel_rfl) (by simp) ⟨?_, ?_, trivial⟩
          · refine WL.loadN (vs := [.slice a7 x12.length c9, .int .i64 x6.Rule.Kind, .int .i64 x6.Rule.Columns, .int .i64 x6.Rule.Faulty]) hs 1 rfl TI26 ((hu434 7 rfl).trans h13_7) rfl rfl ?_
            refine WL.nil ⟨rfl, _, rfl, ?_⟩
            refine WA.step [3] (by kernel_rfl) (by simp) ⟨?_, trivial⟩
            refine WL.alloc hs ZV26 (fun g436 w hs => ?_)
            refine WL.nil ⟨rfl, _, rfl, ?_⟩
            refine WA.step [4] (by kernel_rfl) (by simp) ⟨?_, trivial⟩
            refine WL.storeAll (vs := [.slice a7 x12.length c9, .int .i64 x6.Rule.Kind, .int .i64 x6.Rule.Columns, .int .i64 x6.Rule.Faulty]) hs 1 rfl TI26 rfl rfl rfl rfl (ones_of rfl) rfl (fun w hs => ?_)
            refine WL.nil ⟨rfl, _, rfl, ?_⟩
            refine WA.step [5] (by kernel_rfl) (by simp) ⟨?_, trivial⟩
            refine WL.storeAll (vs := [.slice a7 x12.length c9, .int .i64 x6.Rule.Kind, .int .i64 x6.Rule.Columns, .int .i64 x6.Rule.Faulty]) hs 0 rfl TI26 rfl rfl rfl rfl (ones_of rfl) rfl (fun w hs => ?_)
            refine WL.nil ⟨rfl, _, rfl, ?_⟩
            refine WA.done (by kernel_rfl) ?_
            have hs := hs.add (it := vl t_api_View (⟨x12, (⟨x6.Rule.Kind, x6.Rule.Columns, x6.Rule.Faulty⟩ : api_Rule)⟩ : api_View) (.agg [.slice a7 x12.length c9, .int .i64 x6.Rule.Kind, .int .i64 x6.Rule.Columns, .int .i64 x6.Rule.Faulty].toArray)) fun ok hA => V_agg (show t_api_View.R ok _ _ _ from ⟨[.slice a7 x12.length c9], [.int .i64 x6.Rule.Kind, .int .i64 x6.Rule.Columns, .int .i64 x6.Rule.Faulty], rfl, (R_one (hA.get 0 rfl)), ⟨[.int .i64 x6.Rule.Kind], [.int .i64 x6.Rule.Columns, .int .i64 x6.Rule.Faulty], rfl, rfl, ⟨[.int .i64 x6.Rule.Columns], [.int .i64 x6.Rule.Faulty], rfl, rfl, rfl⟩⟩⟩) rfl
            have hs := hs.add (it := vl t_api_View (⟨x12, (⟨x6.Rule.Kind, x6.Rule.Columns, x6.Rule.Faulty⟩ : api_Rule)⟩ : api_View) (.agg [.slice a7 x12.length c9, .int .i64 x6.Rule.Kind, .int .i64 x6.Rule.Columns, .int .i64 x6.Rule.Faulty].toArray)) fun ok hA => V_agg (show t_api_View.R ok _ _ _ from ⟨[.slice a7 x12.length c9], [.int .i64 x6.Rule.Kind, .int .i64 x6.Rule.Columns, .int .i64 x6.Rule.Faulty], rfl, (R_one (hA.get 1 rfl)), ⟨[.int .i64 x6.Rule.Kind], [.int .i64 x6.Rule.Columns, .int .i64 x6.Rule.Faulty], rfl, rfl, ⟨[.int .i64 x6.Rule.Columns], [.int .i64 x6.Rule.Faulty], rfl, rfl, rfl⟩⟩⟩) rfl
            have hs := hs.add (it := vl t_api_View (⟨x12, (⟨x6.Rule.Kind, x6.Rule.Columns, x6.Rule.Faulty⟩ : api_Rule)⟩ : api_View) (.agg [.slice a7 x12.length c9, .int .i64 x6.Rule.Kind, .int .i64 x6.Rule.Columns, .int .i64 x6.Rule.Faulty].toArray)) fun ok hA => V_agg (show t_api_View.R ok _ _ _ from ⟨[.slice a7 x12.length c9], [.int .i64 x6.Rule.Kind, .int .i64 x6.Rule.Columns, .int .i64 x6.Rule.Faulty], rfl, (R_one (hA.get 2 rfl)), ⟨[.int .i64 x6.Rule.Kind], [.int .i64 x6.Rule.Columns, .int .i64 x6.Rule.Faulty], rfl, rfl, ⟨[.int .i64 x6.Rule.Columns], [.int .i64 x6.Rule.Faulty], rfl, rfl, rfl⟩⟩⟩) rfl
            have hs := hs.add (it := vl t_api_View (⟨x12, (⟨x6.Rule.Kind, x6.Rule.Columns, x6.Rule.Faulty⟩ : api_Rule)⟩ : api_View) (.agg [.slice a7 x12.length c9, .int .i64 x6.Rule.Kind, .int .i64 x6.Rule.Columns, .int .i64 x6.Rule.Faulty].toArray)) fun ok hA => V_agg (show t_api_View.R ok _ _ _ from ⟨[.slice a7 x12.length c9], [.int .i64 x6.Rule.Kind, .int .i64 x6.Rule.Columns, .int .i64 x6.Rule.Faulty], rfl, (R_one (hA.get 3 rfl)), ⟨[.int .i64 x6.Rule.Kind], [.int .i64 x6.Rule.Columns, .int .i64 x6.Rule.Faulty], rfl, rfl, ⟨[.int .i64 x6.Rule.Columns], [.int .i64 x6.Rule.Faulty], rfl, rfl, rfl⟩⟩⟩) rfl
            have hs := hs.front 0 rfl
            have hs := hs.front 1 rfl
            have hs := hs.front 2 rfl
            exact Jk241 (⟨x12, (⟨x6.Rule.Kind, x6.Rule.Columns, x6.Rule.Faulty⟩ : api_Rule)⟩ : api_View) (⟨x12, (⟨x6.Rule.Kind, x6.Rule.Columns, x6.Rule.Faulty⟩ : api_Rule)⟩ : api_View) g435 [.slice a7 x12.length c9, .int .i64 x6.Rule.Kind, .int .i64 x6.Rule.Columns, .int .i64 x6.Rule.Faulty] g436 [.slice a7 x12.length c9, .int .i64 x6.Rule.Kind, .int .i64 x6.Rule.Columns, .int .i64 x6.Rule.Faulty] _ _ rfl rfl ((hu434 2 rfl).trans h13_2) ((hu434 7 rfl).trans h13_7) rfl rfl ((hs.mask [true, true, true]).pick [4, 1, 0]) hf
          · refine WL.alloc hs ZV26 (fun g436 w hs => ?_)
            refine WL.nil ⟨rfl, _, rfl, ?_⟩
            refine WA.step [0] (by kernel_rfl) (by simp) ⟨?_, trivial⟩
            refine WL.loadN (vs := [.slice a7 x12.length c9, .int .i64 x6.Rule.Kind, .int .i64 x6.Rule.Columns, .int .i64 x6.Rule.Faulty]) hs 2 rfl TI26 ((hu434 7 rfl).trans h13_7) rfl rfl ?_
            refine WL.nil ⟨rfl, _, rfl, ?_⟩
            refine WA.step [4] (by kernel_rfl) (by simp) ⟨?_, trivial⟩
            refine WL.storeAll (vs := [.slice a7 x12.length c9, .int .i64 x6.Rule.Kind, .int .i64 x6.Rule.Columns, .int .i64 x6.Rule.Faulty]) hs 1 rfl TI26 rfl rfl rfl rfl (ones_of rfl) rfl (fun w hs => ?_)
            refine WL.nil ⟨rfl, _, rfl, ?_⟩
            refine WA.step [5] (by kernel_rfl) (by simp) ⟨?_, trivial⟩
            refine WL.storeAll (vs := [.slice a7 x12.length c9, .int .i64 x6.Rule.Kind, .int .i64 x6.Rule.Columns, .int .i64 x6.Rule.Faulty]) hs 0 rfl TI26 rfl rfl rfl rfl (ones_of rfl) rfl (fun w hs => ?_)
            refine WL.nil ⟨rfl, _, rfl, ?_⟩
            refine WA.done (by kernel_rfl) ?_
            have hs := hs.add (it := vl t_api_View (⟨x12, (⟨x6.Rule.Kind, x6.Rule.Columns, x6.Rule.Faulty⟩ : api_Rule)⟩ : api_View) (.agg [.slice a7 x12.length c9, .int .i64 x6.Rule.Kind, .int .i64 x6.Rule.Columns, .int .i64 x6.Rule.Faulty].toArray)) fun ok hA => V_agg (show t_api_View.R ok _ _ _ from ⟨[.slice a7 x12.length c9], [.int .i64 x6.Rule.Kind, .int .i64 x6.Rule.Columns, .int .i64 x6.Rule.Faulty], rfl, (R_one (hA.get 0 rfl)), ⟨[.int .i64 x6.Rule.Kind], [.int .i64 x6.Rule.Columns, .int .i64 x6.Rule.Faulty], rfl, rfl, ⟨[.int .i64 x6.Rule.Columns], [.int .i64 x6.Rule.Faulty], rfl, rfl, rfl⟩⟩⟩) rfl
            have hs := hs.add (it := vl t_api_View (⟨x12, (⟨x6.Rule.Kind, x6.Rule.Columns, x6.Rule.Faulty⟩ : api_Rule)⟩ : api_View) (.agg [.slice a7 x12.length c9, .int .i64 x6.Rule.Kind, .int .i64 x6.Rule.Columns, .int .i64 x6.Rule.Faulty].toArray)) fun ok hA => V_agg (show t_api_View.R ok _ _ _ from ⟨[.slice a7 x12.length c9], [.int .i64 x6.Rule.Kind, .int .i64 x6.Rule.Columns, .int .i64 x6.Rule.Faulty], rfl, (R_one (hA.get 1 rfl)), ⟨[.int .i64 x6.Rule.Kind], [.int .i64 x6.Rule.Columns, .int .i64 x6.Rule.Faulty], rfl, rfl, ⟨[.int .i64 x6.Rule.Columns], [.int .i64 x6.Rule.Faulty], rfl, rfl, rfl⟩⟩⟩) rfl
            have hs := hs.add (it := vl t_api_View (⟨x12, (⟨x6.Rule.Kind, x6.Rule.Columns, x6.Rule.Faulty⟩ : api_Rule)⟩ : api_View) (.agg [.slice a7 x12.length c9, .int .i64 x6.Rule.Kind, .int .i64 x6.Rule.Columns, .int .i64 x6.Rule.Faulty].toArray)) fun ok hA => V_agg (show t_api_View.R ok _ _ _ from ⟨[.slice a7 x12.length c9], [.int .i64 x6.Rule.Kind, .int .i64 x6.Rule.Columns, .int .i64 x6.Rule.Faulty], rfl, (R_one (hA.get 2 rfl)), ⟨[.int .i64 x6.Rule.Kind], [.int .i64 x6.Rule.Columns, .int .i64 x6.Rule.Faulty], rfl, rfl, ⟨[.int .i64 x6.Rule.Columns], [.int .i64 x6.Rule.Faulty], rfl, rfl, rfl⟩⟩⟩) rfl
            have hs := hs.add (it := vl t_api_View (⟨x12, (⟨x6.Rule.Kind, x6.Rule.Columns, x6.Rule.Faulty⟩ : api_Rule)⟩ : api_View) (.agg [.slice a7 x12.length c9, .int .i64 x6.Rule.Kind, .int .i64 x6.Rule.Columns, .int .i64 x6.Rule.Faulty].toArray)) fun ok hA => V_agg (show t_api_View.R ok _ _ _ from ⟨[.slice a7 x12.length c9], [.int .i64 x6.Rule.Kind, .int .i64 x6.Rule.Columns, .int .i64 x6.Rule.Faulty], rfl, (R_one (hA.get 3 rfl)), ⟨[.int .i64 x6.Rule.Kind], [.int .i64 x6.Rule.Columns, .int .i64 x6.Rule.Faulty], rfl, rfl, ⟨[.int .i64 x6.Rule.Columns], [.int .i64 x6.Rule.Faulty], rfl, rfl, rfl⟩⟩⟩) rfl
            have hs := hs.front 0 rfl
            have hs := hs.front 1 rfl
            have hs := hs.front 2 rfl
            exact Jk241 (⟨x12, (⟨x6.Rule.Kind, x6.Rule.Columns, x6.Rule.Faulty⟩ : api_Rule)⟩ : api_View) (⟨x12, (⟨x6.Rule.Kind, x6.Rule.Columns, x6.Rule.Faulty⟩ : api_Rule)⟩ : api_View) g435 [.slice a7 x12.length c9, .int .i64 x6.Rule.Kind, .int .i64 x6.Rule.Columns, .int .i64 x6.Rule.Faulty] g436 [.slice a7 x12.length c9, .int .i64 x6.Rule.Kind, .int .i64 x6.Rule.Columns, .int .i64 x6.Rule.Faulty] _ _ rfl rfl ((hu434 2 rfl).trans h13_2) ((hu434 7 rfl).trans h13_7) rfl rfl ((hs.mask [true, true, true]).pick [4, 1, 0]) hf
        · refine WL.alloc hs ZV26 (fun g435 w hs => ?_)
          refine WL.nil ⟨rfl, _, rfl, ?_⟩
          refine WA.step [0, 2] (by kernel_rfl) (by simp) ⟨?_, ?_, trivial⟩
          · refine WL.loadN (vs := [.slice a7 x12.length c9, .int .i64 x6.Rule.Kind, .int .i64 x6.Rule.Columns, .int .i64 x6.Rule.Faulty]) hs 1 rfl TI26 ((hu434 7 rfl).trans h13_7) rfl rfl ?_
            refine WL.nil ⟨rfl, _, rfl, ?_⟩
            refine WA.step [2] (by kernel_rfl) (by simp) ⟨?_, trivial⟩
            refine WL.alloc hs ZV26 (fun g436 w hs => ?_)
            refine WL.nil ⟨rfl, _, rfl, ?_⟩
            refine WA.step [4] (by kernel_rfl) (by simp) ⟨?_, trivial⟩
            refine WL.storeAll (vs := [.slice a7 x12.length c9, .int .i64 x6.Rule.Kind, .int .i64 x6.Rule.Columns, .int .i64 x6.Rule.Faulty]) hs 0 rfl TI26 rfl rfl rfl rfl (ones_of rfl) rfl (fun w hs => ?_)
            refine WL.nil ⟨rfl, _, rfl, ?_⟩
            refine WA.step [5] (by kernel_rfl) (by simp) ⟨?_, trivial⟩
            refine WL.storeAll (vs := [.slice a7 x12.length c9, .int .i64 x6.Rule.Kind, .int .i64 x6.Rule.Columns, .int .i64 x6.Rule.Faulty]) hs 1 rfl TI26 rfl rfl rfl rfl (ones_of rfl) rfl (fun w hs => ?_)
            refine WL.nil ⟨rfl, _, rfl, ?_⟩
            refine WA.done (by kernel_rfl) ?_
            have hs := hs.add (it := vl t_api_View (⟨x12, (⟨x6.Rule.Kind, x6.Rule.Columns, x6.Rule.Faulty⟩ : api_Rule)⟩ : api_View) (.agg [.slice a7 x12.length c9, .int .i64 x6.Rule.Kind, .int .i64 x6.Rule.Columns, .int .i64 x6.Rule.Faulty].toArray)) fun ok hA => V_agg (show t_api_View.R ok _ _ _ from ⟨[.slice a7 x12.length c9], [.int .i64 x6.Rule.Kind, .int .i64 x6.Rule.Columns, .int .i64 x6.Rule.Faulty], rfl, (R_one (hA.get 0 rfl)), ⟨[.int .i64 x6.Rule.Kind], [.int .i64 x6.Rule.Columns, .int .i64 x6.Rule.Faulty], rfl, rfl, ⟨[.int .i64 x6.Rule.Columns], [.int .i64 x6.Rule.Faulty], rfl, rfl, rfl⟩⟩⟩) rfl
            have hs := hs.add (it := vl t_api_View (⟨x12, (⟨x6.Rule.Kind, x6.Rule.Columns, x6.Rule.Faulty⟩ : api_Rule)⟩ : api_View) (.agg [.slice a7 x12.length c9, .int .i64 x6.Rule.Kind, .int .i64 x6.Rule.Columns, .int .i64 x6.Rule.Faulty].toArray)) fun ok hA => V_agg (show t_api_View.R ok _ _ _ from ⟨[.slice a7 x12.length c9], [.int .i64 x6.Rule.Kind, .int .i64 x6.Rule.Columns, .int .i64 x6.Rule.Faulty], rfl, (R_one (hA.get 1 rfl)), ⟨[.int .i64 x6.Rule.Kind], [.int .i64 x6.Rule.Columns, .int .i64 x6.Rule.Faulty], rfl, rfl, ⟨[.int .i64 x6.Rule.Columns], [.int .i64 x6.Rule.Faulty], rfl, rfl, rfl⟩⟩⟩) rfl
            have hs := hs.add (it := vl t_api_View (⟨x12, (⟨x6.Rule.Kind, x6.Rule.Columns, x6.Rule.Faulty⟩ : api_Rule)⟩ : api_View) (.agg [.slice a7 x12.length c9, .int .i64 x6.Rule.Kind, .int .i64 x6.Rule.Columns, .int .i64 x6.Rule.Faulty].toArray)) fun ok hA => V_agg (show t_api_View.R ok _ _ _ from ⟨[.slice a7 x12.length c9], [.int .i64 x6.Rule.Kind, .int .i64 x6.Rule.Columns, .int .i64 x6.Rule.Faulty], rfl, (R_one (hA.get 2 rfl)), ⟨[.int .i64 x6.Rule.Kind], [.int .i64 x6.Rule.Columns, .int .i64 x6.Rule.Faulty], rfl, rfl, ⟨[.int .i64 x6.Rule.Columns], [.int .i64 x6.Rule.Faulty], rfl, rfl, rfl⟩⟩⟩) rfl
            have hs := hs.add (it := vl t_api_View (⟨x12, (⟨x6.Rule.Kind, x6.Rule.Columns, x6.Rule.Faulty⟩ : api_Rule)⟩ : api_View) (.agg [.slice a7 x12.length c9, .int .i64 x6.Rule.Kind, .int .i64 x6.Rule.Columns, .int .i64 x6.Rule.Faulty].toArray)) fun ok hA => V_agg (show t_api_View.R ok _ _ _ from ⟨[.slice a7 x12.length c9], [.int .i64 x6.Rule.Kind, .int .i64 x6.Rule.Columns, .int .i64 x6.Rule.Faulty], rfl, (R_one (hA.get 3 rfl)), ⟨[.int .i64 x6.Rule.Kind], [.int .i64 x6.Rule.Columns, .int .i64 x6.Rule.Faulty], rfl, rfl, ⟨[.int .i64 x6.Rule.Columns], [.int .i64 x6.Rule.Faulty], rfl, rfl, rfl⟩⟩⟩) rfl
            have hs := hs.front 1 rfl
            have hs := hs.front 1 rfl
            have hs := hs.front 2 rfl
            exact Jk241 (⟨x12, (⟨x6.Rule.Kind, x6.Rule.Columns, x6.Rule.Faulty⟩ : api_Rule)⟩ : api_View) (⟨x12, (⟨x6.Rule.Kind, x6.Rule.Columns, x6.Rule.Faulty⟩ : api_Rule)⟩ : api_View) g436 [.slice a7 x12.length c9, .int .i64 x6.Rule.Kind, .int .i64 x6.Rule.Columns, .int .i64 x6.Rule.Faulty] g435 [.slice a7 x12.length c9, .int .i64 x6.Rule.Kind, .int .i64 x6.Rule.Columns, .int .i64 x6.Rule.Faulty] _ _ rfl rfl ((hu434 2 rfl).trans h13_2) ((hu434 7 rfl).trans h13_7) rfl rfl ((hs.mask [true, true, true]).pick [4, 1, 0]) hf
          · refine WL.alloc hs ZV26 (fun g436 w hs => ?_)
            refine WL.nil ⟨rfl, _, rfl, ?_⟩
            refine WA.step [0] (by kernel_rfl) (by simp) ⟨?_, trivial⟩
            refine WL.loadN (vs := [.slice a7 x12.length c9, .int .i64 x6.Rule.Kind, .int .i64 x6.Rule.Columns, .int .i64 x6.Rule.Faulty]) hs 2 rfl TI26 ((hu434 7 rfl).trans h13_7) rfl rfl ?_
            refine WL.nil ⟨rfl, _, rfl, ?_⟩
            refine WA.step [4] (by kernel_rfl) (by simp) ⟨?_, trivial⟩
            refine WL.storeAll (vs := [.slice a7 x12.length c9, .int .i64 x6.Rule.Kind, .int .i64 x6.Rule.Columns, .int .i64 x6.Rule.Faulty]) hs 0 rfl TI26 rfl rfl rfl rfl (ones_of rfl) rfl (fun w hs => ?_)
            refine WL.nil ⟨rfl, _, rfl, ?_⟩
            refine WA.step [5] (by kernel_rfl) (by simp) ⟨?_, trivial⟩
            refine WL.storeAll (vs := [.slice a7 x12.length c9, .int .i64 x6.Rule.Kind, .int .i64 x6.Rule.Columns, .int .i64 x6.Rule.Faulty]) hs 1 rfl TI26 rfl rfl rfl rfl (ones_of rfl) rfl (fun w hs => ?_)
            refine WL.nil ⟨rfl, _, rfl, ?_⟩
            refine WA.done (by kernel_rfl) ?_
            have hs := hs.add (it := vl t_api_View (⟨x12, (⟨x6.Rule.Kind, x6.Rule.Columns, x6.Rule.Faulty⟩ : api_Rule)⟩ : api_View) (.agg [.slice a7 x12.length c9, .int .i64 x6.Rule.Kind, .int .i64 x6.Rule.Columns, .int .i64 x6.Rule.Faulty].toArray)) fun ok hA => V_agg (show t_api_View.R ok _ _ _ from ⟨[.slice a7 x12.length c9], [.int .i64 x6.Rule.Kind, .int .i64 x6.Rule.Columns, .int .i64 x6.Rule.Faulty], rfl, (R_one (hA.get 0 rfl)), ⟨[.int .i64 x6.Rule.Kind], [.int .i64 x6.Rule.Columns, .int .i64 x6.Rule.Faulty], rfl, rfl, ⟨[.int .i64 x6.Rule.Columns], [.int .i64 x6.Rule.Faulty], rfl, rfl, rfl⟩⟩⟩) rfl
            have hs := hs.add (it := vl t_api_View (⟨x12, (⟨x6.Rule.Kind, x6.Rule.Columns, x6.Rule.Faulty⟩ : api_Rule)⟩ : api_View) (.agg [.slice a7 x12.length c9, .int .i64 x6.Rule.Kind, .int .i64 x6.Rule.Columns, .int .i64 x6.Rule.Faulty].toArray)) fun ok hA => V_agg (show t_api_View.R ok _ _ _ from ⟨[.slice a7 x12.length c9], [.int .i64 x6.Rule.Kind, .int .i64 x6.Rule.Columns, .int .i64 x6.Rule.Faulty], rfl, (R_one (hA.get 1 rfl)), ⟨[.int .i64 x6.Rule.Kind], [.int .i64 x6.Rule.Columns, .int .i64 x6.Rule.Faulty], rfl, rfl, ⟨[.int .i64 x6.Rule.Columns], [.int .i64 x6.Rule.Faulty], rfl, rfl, rfl⟩⟩⟩) rfl
            have hs := hs.add (it := vl t_api_View (⟨x12, (⟨x6.Rule.Kind, x6.Rule.Columns, x6.Rule.Faulty⟩ : api_Rule)⟩ : api_View) (.agg [.slice a7 x12.length c9, .int .i64 x6.Rule.Kind, .int .i64 x6.Rule.Columns, .int .i64 x6.Rule.Faulty].toArray)) fun ok hA => V_agg (show t_api_View.R ok _ _ _ from ⟨[.slice a7 x12.length c9], [.int .i64 x6.Rule.Kind, .int .i64 x6.Rule.Columns, .int .i64 x6.Rule.Faulty], rfl, (R_one (hA.get 2 rfl)), ⟨[.int .i64 x6.Rule.Kind], [.int .i64 x6.Rule.Columns, .int .i64 x6.Rule.Faulty], rfl, rfl, ⟨[.int .i64 x6.Rule.Columns], [.int .i64 x6.Rule.Faulty], rfl, rfl, rfl⟩⟩⟩) rfl
            have hs := hs.add (it := vl t_api_View (⟨x12, (⟨x6.Rule.Kind, x6.Rule.Columns, x6.Rule.Faulty⟩ : api_Rule)⟩ : api_View) (.agg [.slice a7 x12.length c9, .int .i64 x6.Rule.Kind, .int .i64 x6.Rule.Columns, .int .i64 x6.Rule.Faulty].toArray)) fun ok hA => V_agg (show t_api_View.R ok _ _ _ from ⟨[.slice a7 x12.length c9], [.int .i64 x6.Rule.Kind, .int .i64 x6.Rule.Columns, .int .i64 x6.Rule.Faulty], rfl, (R_one (hA.get 3 rfl)), ⟨[.int .i64 x6.Rule.Kind], [.int .i64 x6.Rule.Columns, .int .i64 x6.Rule.Faulty], rfl, rfl, ⟨[.int .i64 x6.Rule.Columns], [.int .i64 x6.Rule.Faulty], rfl, rfl, rfl⟩⟩⟩) rfl
            have hs := hs.front 1 rfl
            have hs := hs.front 1 rfl
            have hs := hs.front 2 rfl
            exact Jk241 (⟨x12, (⟨x6.Rule.Kind, x6.Rule.Columns, x6.Rule.Faulty⟩ : api_Rule)⟩ : api_View) (⟨x12, (⟨x6.Rule.Kind, x6.Rule.Columns, x6.Rule.Faulty⟩ : api_Rule)⟩ : api_View) g436 [.slice a7 x12.length c9, .int .i64 x6.Rule.Kind, .int .i64 x6.Rule.Columns, .int .i64 x6.Rule.Faulty] g435 [.slice a7 x12.length c9, .int .i64 x6.Rule.Kind, .int .i64 x6.Rule.Columns, .int .i64 x6.Rule.Faulty] _ _ rfl rfl ((hu434 2 rfl).trans h13_2) ((hu434 7 rfl).trans h13_7) rfl rfl ((hs.mask [true, true, true]).pick [4, 1, 0]) hf
      · refine WL.alloc hs ZV26 (fun g435 w hs => ?_)
        refine WL.nil ⟨rfl, _, rfl, ?_⟩
        refine WA.step [0, 1, 3] (by kernel_rfl) (by simp) ⟨?_, ?_, ?_, trivial⟩
        · refine WL.loadN (vs := [.slice a7 x12.length c9, .int .i64 x6.Rule.Kind, .int .i64 x6.Rule.Columns, .int .i64 x6.Rule.Faulty]) hs 1 rfl TI26 ((hu434 7 rfl).trans h13_7) rfl rfl ?_
          refine WL.nil ⟨rfl, _, rfl, ?_⟩
          refine WA.step [1, 3] (by kernel_rfl) (by simp) ⟨?_, ?_, trivial⟩
          · refine WL.loadN (vs := [.slice a7 x12.length c9, .int .i64 x6.Rule.Kind, .int .i64 x6.Rule.Columns, .int .i64 x6.Rule.Faulty]) hs 1 rfl TI26 ((hu434 7 rfl).trans h13_7) rfl rfl ?_
            refine WL.nil ⟨rfl, _, rfl, ?_⟩
            refine WA.step [3] (by kernel_rfl) (by simp) ⟨?_, trivial⟩
            refine WL.alloc hs ZV26 (fun g436 w hs => ?_)
            refine WL.nil ⟨rfl, _, rfl, ?_⟩
            refine WA.step [4] (by kernel_rfl) (by simp) ⟨?_, trivial⟩
            refine WL.storeAll (vs := [.slice a7 x12.length c9, .int .i64 x6.Rule.Kind, .int .i64 x6.Rule.Columns, .int .i64 x6.Rule.Faulty]) hs 1 rfl TI26 rfl rfl rfl rfl (ones_of rfl) rfl (fun w hs => ?_)
            refine WL.nil ⟨rfl, _, rfl, ?_⟩
            refine WA.step [5] (by kernel_rfl) (by simp) ⟨?_, trivial⟩
            refine WL.storeAll (vs := [.slice a7 x12.length c9, .int .i64 x6.Rule.Kind, .int .i64 x6.Rule.Columns, .int .i64 x6.Rule.Faulty]) hs 0 rfl TI26 rfl rfl rfl rfl (ones_of rfl) rfl (fun w hs => ?_)
            refine WL.nil ⟨rfl, _, rfl, ?_⟩
            refine WA.done (by kernel_rfl) ?_
            have hs := hs.add (it := vl t_api_View (⟨x12, (⟨x6.Rule.Kind, x6.Rule.Columns, x6.Rule.Faulty⟩ : api_Rule)⟩ : api_View) (.agg [.slice a7 x12.length c9, .int .i64 x6.Rule.Kind, .int .i64 x6.Rule.Columns, .int .i64 x6.Rule.Faulty].toArray)) fun ok hA => V_agg (show t_api_View.R ok _ _ _ from ⟨[.slice a7 x12.length c9], [.int .i64 x6.Rule.Kind, .int .i64 x6.Rule.Columns, .int .i64 x6.Rule.Faulty], rfl, (R_one (hA.get 0 rfl)), ⟨[.int .i64 x6.Rule.Kind], [.int .i64 x6.Rule.Columns, .int .i64 x6.Rule.Faulty], rfl, rfl, ⟨[.int .i64 x6.Rule.Columns], [.int .i64 x6.Rule.Faulty], rfl, rfl, rfl⟩⟩⟩) rfl
            have hs := hs.add (it := vl t_api_View (⟨x12, (⟨x6.Rule.Kind, x6.Rule.Columns, x6.Rule.Faulty⟩ : api_Rule)⟩ : api_View) (.agg [.slice a7 x12.length c9, .int .i64 x6.Rule.Kind, .int .i64 x6.Rule.Columns, .int .i64 x6.Rule.Faulty].toArray)) fun ok hA => V_agg (show t_api_View.R ok _ _ _ from ⟨[.slice a7 x12.length c9], [.int .i64 x6.Rule.Kind, .int .i64 x6.Rule.Columns, .int .i64 x6.Rule.Faulty], rfl, (R_one (hA.get 1 rfl)), ⟨[.int .i64 x6.Rule.Kind], [.int .i64 x6.Rule.Columns, .int .i64 x6.Rule.Faulty], rfl, rfl, ⟨[.int .i64 x6.Rule.Columns], [.int .i64 x6.Rule.Faulty], rfl, rfl, rfl⟩⟩⟩) rfl
            have hs := hs.add (it := vl t_api_View (⟨x12, (⟨x6.Rule.Kind, x6.Rule.Columns, x6.Rule.Faulty⟩ : api_Rule)⟩ : api_View) (.agg [.slice a7 x12.length c9, .int .i64 x6.Rule.Kind, .int .i64 x6.Rule.Columns, .int .i64 x6.Rule.Faulty].toArray)) fun ok hA => V_agg (show t_api_View.R ok _ _ _ from ⟨[.slice a7 x12.length c9], [.int .i64 x6.Rule.Kind, .int .i64 x6.Rule.Columns, .int .i64 x6.Rule.Faulty], rfl, (R_one (hA.get 2 rfl)), ⟨[.int .i64 x6.Rule.Kind], [.int .i64 x6.Rule.Columns, .int .i64 x6.Rule.Faulty], rfl, rfl, ⟨[.int .i64 x6.Rule.Columns], [.int .i64 x6.Rule.Faulty], rfl, rfl, rfl⟩⟩⟩) rfl
            have hs := hs.add (it := vl t_api_View (⟨x12, (⟨x6.Rule.Kind, x6.Rule.Columns, x6.Rule.Faulty⟩ : api_Rule)⟩ : api_View) (.agg [.slice a7 x12.length c9, .int .i64 x6.Rule.Kind, .int .i64 x6.Rule.Columns, .int .i64 x6.Rule.Faulty].toArray)) fun ok hA => V_agg (show t_api_View.R ok _ _ _ from ⟨[.slice a7 x12.length c9], [.int .i64 x6.Rule.Kind, .int .i64 x6.Rule.Columns, .int .i64 x6.Rule.Faulty], rfl, (R_one (hA.get 3 rfl)), ⟨[.int .i64 x6.Rule.Kind], [.int .i64 x6.Rule.Columns, .int .i64 x6.Rule.Faulty], rfl, rfl, ⟨[.int .i64 x6.Rule.Columns], [.int .i64 x6.Rule.Faulty], rfl, rfl, rfl⟩⟩⟩) rfl
            have hs := hs.front 0 rfl
            have hs := hs.front 1 rfl
            have hs := hs.front 2 rfl
            exact Jk241 (⟨x12, (⟨x6.Rule.Kind, x6.Rule.Columns, x6.Rule.Faulty⟩ : api_Rule)⟩ : api_View) (⟨x12, (⟨x6.Rule.Kind, x6.Rule.Columns, x6.Rule.Faulty⟩ : api_Rule)⟩ : api_View) g435 [.slice a7 x12.length c9, .int .i64 x6.Rule.Kind, .int .i64 x6.Rule.Columns, .int .i64 x6.Rule.Faulty] g436 [.slice a7 x12.length c9, .int .i64 x6.Rule.Kind, .int .i64 x6.Rule.Columns, .int .i64 x6.Rule.Faulty] _ _ rfl rfl ((hu434 2 rfl).trans h13_2) ((hu434 7 rfl).trans h13_7) rfl rfl ((hs.mask [true, true, true]).pick [4, 1, 0]) hf
          · refine WL.alloc hs ZV26 (fun g436 w hs => ?_)
            refine WL.nil ⟨rfl, _, rfl, ?_⟩
            refine WA.step [1, 4] (by kernel_rfl) (by simp) ⟨?_, ?_, trivial⟩
            · refine WL.loadN (vs := [.slice a7 x12.length c9, .int .i64 x6.Rule.Kind, .int .i64 x6.Rule.Columns, .int .i64 x6.Rule.Faulty]) hs 2 rfl TI26 ((hu434 7 rfl).trans h13_7) rfl rfl ?_
              refine WL.nil ⟨rfl, _, rfl, ?_⟩
              refine WA.step [4] (by kernel_rfl) (by simp) ⟨?_, trivial⟩
              refine WL.storeAll (vs := [.slice a7 x12.length c9, .int .i64 x6.Rule.Kind, .int .i64 x6.Rule.Columns, .int .i64 x6.Rule.Faulty]) hs 1 rfl TI26 rfl rfl rfl rfl (ones_of rfl) rfl (fun w hs => ?_)
              refine WL.nil ⟨rfl, _, rfl, ?_⟩
              refine WA.step [5] (by kernel_rfl) (by simp) ⟨?_, trivial⟩
              refine WL.storeAll (vs := [.slice a7 x12.length c9, .int .i64 x6.Rule.Kind, .int .i64 x6.Rule.Columns, .int .i64 x6.Rule.Faulty]) hs 0 rfl TI26 rfl rfl rfl rfl (ones_of rfl) rfl (fun w hs => ?_)
              refine WL.nil ⟨rfl, _, rfl, ?_⟩
              refine WA.done (by kernel_rfl) ?_
              have hs := hs.add (it := vl t_api_View (⟨x12, (⟨x6.Rule.Kind, x6.Rule.Columns, x6.Rule.Faulty⟩ : api_Rule)⟩ : api_View) (.agg [.slice a7 x12.length c9, .int .i64 x6.Rule.Kind, .int .i64 x6.Rule.Columns, .int .i64 x6.Rule.Faulty].toArray)) fun ok hA => V_agg (show t_api_View.R ok _ _ _ from ⟨[.slice a7 x12.length c9], [.int .i64 x6.Rule.Kind, .int .i64 x6.Rule.Columns, .int .i64 x6.Rule.Faulty], rfl, (R_one (hA.get 0 rfl)), ⟨[.int .i64 x6.Rule.Kind], [.int .i64 x6.Rule.Columns, .int .i64 x6.Rule.Faulty], rfl, rfl, ⟨[.int .i64 x6.Rule.Columns], [.int .i64 x6.Rule.Faulty], rfl, rfl, rfl⟩⟩⟩) rfl
              have hs := hs.add (it := vl t_api_View (⟨x12, (⟨x6.Rule.Kind, x6.Rule.Columns, x6.Rule.Faulty⟩ : api_Rule)⟩ : api_View) (.agg [.slice a7 x12.length c9, .int .i64 x6.Rule.Kind, .int .i64 x6.Rule.Columns, .int .i64 x6.Rule.Faulty].toArray)) fun ok hA => V_agg (show t_api_View.R ok _ _ _ from ⟨[.slice a7 x12.length c9], [.int .i64 x6.Rule.Kind, .int .i64 x6.Rule.Columns, .int .i64 x6.Rule.Faulty], rfl, (R_one (hA.get 1 rfl)), ⟨[.int .i64 x6.Rule.Kind], [.int .i64 x6.Rule.Columns, .int .i64 x6.Rule.Faulty], rfl, rfl, ⟨[.int .i64 x6.Rule.Columns], [.int .i64 x6.Rule.Faulty], rfl, rfl, rfl⟩⟩⟩) rfl
              have hs := hs.add (it := vl t_api_View (⟨x12, (⟨x6.Rule.Kind, x6.Rule.Columns, x6.Rule.Faulty⟩ : api_Rule)⟩ : api_View) (.agg [.slice a7 x12.length c9, .int .i64 x6.Rule.Kind, .int .i64 x6.Rule.Columns, .int .i64 x6.Rule.Faulty].toArray)) fun ok hA => V_agg (show t_api_View.R ok _ _ _ from ⟨[.slice a7 x12.length c9], [.int .i64 x6.Rule.Kind, .int .i64 x6.Rule.Columns, .int .i64 x6.Rule.Faulty], rfl, (R_one (hA.get 2 rfl)), ⟨[.int .i64 x6.Rule.Kind], [.int .i64 x6.Rule.Columns, .int .i64 x6.Rule.Faulty], rfl, rfl, ⟨[.int .i64 x6.Rule.Columns], [.int .i64 x6.Rule.Faulty], rfl, rfl, rfl⟩⟩⟩) rfl
              have hs := hs.add (it := vl t_api_View (⟨x12, (⟨x6.Rule.Kind, x6.Rule.Columns, x6.Rule.Faulty⟩ : api_Rule)⟩ : api_View) (.agg [.slice a7 x12.length c9, .int .i64 x6.Rule.Kind, .int .i64 x6.Rule.Columns, .int .i64 x6.Rule.Faulty].toArray)) fun ok hA => V_agg (show t_api_View.R ok _ _ _ from ⟨[.slice a7 x12.length c9], [.int .i64 x6.Rule.Kind, .int .i64 x6.Rule.Columns, .int .i64 x6.Rule.Faulty], rfl, (R_one (hA.get 3 rfl)), ⟨[.int .i64 x6.Rule.Kind], [.int .i64 x6.Rule.Columns, .int .i64 x6.Rule.Faulty], rfl, rfl, ⟨[.int .i64 x6.Rule.Columns], [.int .i64 x6.Rule.Faulty], rfl, rfl, rfl⟩⟩⟩) rfl
              have hs := hs.front 0 rfl
              have hs := hs.front 1 rfl
              have hs := hs.front 2 rfl
              exact Jk241 (⟨x12, (⟨x6.Rule.Kind, x6.Rule.Columns, x6.Rule.Faulty⟩ : api_Rule)⟩ : api_View) (⟨x12, (⟨x6.Rule.Kind, x6.Rule.Columns, x6.Rule.Faulty⟩ : api_Rule)⟩ : api_View) g435 [.slice a7 x12.length c9, .int .i64 x6.Rule.Kind, .int .i64 x6.Rule.Columns, .int .i64 x6.Rule.Faulty] g436 [.slice a7 x12.length c9, .int .i64 x6.Rule.Kind, .int .i64 x6.Rule.Columns, .int .i64 x6.Rule.Faulty] _ _ rfl rfl ((hu434 2 rfl).trans h13_2) ((hu434 7 rfl).trans h13_7) rfl rfl ((hs.mask [true, true, true]).pick [4, 1, 0]) hf
            · refine WL.storeAll (vs := [.slice a7 x12.length c9, .int .i64 x6.Rule.Kind, .int .i64 x6.Rule.Columns, .int .i64 x6.Rule.Faulty]) hs 1 rfl TI26 rfl rfl rfl rfl (ones_of rfl) rfl (fun w hs => ?_)
              refine WL.nil ⟨rfl, _, rfl, ?_⟩
              refine WA.step [1] (by kernel_rfl) (by simp) ⟨?_, trivial⟩
              refine WL.loadN (vs := [.slice a7 x12.length c9, .int .i64 x6.Rule.Kind, .int .i64 x6.Rule.Columns, .int .i64 x6.Rule.Faulty]) hs 2 rfl TI26 ((hu434 7 rfl).trans h13_7) rfl rfl ?_
              refine WL.nil ⟨rfl, _, rfl, ?_⟩
              refine WA.step [5] (by kernel_rfl) (by simp) ⟨?_, trivial⟩
              refine WL.storeAll (vs := [.slice a7 x12.length c9, .int .i64 x6.Rule.Kind, .int .i64 x6.Rule.Columns, .int .i64 x6.Rule.Faulty]) hs 0 rfl TI26 rfl rfl rfl rfl (ones_of rfl) rfl (fun w hs => ?_)
              refine WL.nil ⟨rfl, _, rfl, ?_⟩
              refine WA.done (by kernel_rfl) ?_
              have hs := hs.add (it := vl t_api_View (⟨x12, (⟨x6.Rule.Kind, x6.Rule.Columns, x6.Rule.Faulty⟩ : api_Rule)⟩ : api_View) (.agg [.slice a7 x12.length c9, .int .i64 x6.Rule.Kind, .int .i64 x6.Rule.Columns, .int .i64 x6.Rule.Faulty].toArray)) fun ok hA => V_agg (show t_api_View.R ok _ _ _ from ⟨[.slice a7 x12.length c9], [.int .i64 x6.Rule.Kind, .int .i64 x6.Rule.Columns, .int .i64 x6.Rule.Faulty], rfl, (R_one (hA.get 0 rfl)), ⟨[.int .i64 x6.Rule.Kind], [.int .i64 x6.Rule.Columns, .int .i64 x6.Rule.Faulty], rfl, rfl, ⟨[.int .i64 x6.Rule.Columns], [.int .i64 x6.Rule.Faulty], rfl, rfl, rfl⟩⟩⟩) rfl
              have hs := hs.add (it := vl t_api_View (⟨x12, (⟨x6.Rule.Kind, x6.Rule.Columns, x6.Rule.Faulty⟩ : api_Rule)⟩ : api_View) (.agg [.slice a7 x12.length c9, .int .i64 x6.Rule.Kind, .int .i64 x6.Rule.Columns, .int .i64 x6.Rule.Faulty].toArray)) fun ok hA => V_agg (show t_api_View.R ok _ _ _ from ⟨[.slice a7 x12.length c9], [.int .i64 x6.Rule.Kind, .int .i64 x6.Rule.Columns, .int .i64 x6.Rule.Faulty], rfl, (R_one (hA.get 1 rfl)), ⟨[.int .i64 x6.Rule.Kind], [.int .i64 x6.Rule.Columns, .int .i64 x6.Rule.Faulty], rfl, rfl, ⟨[.int .i64 x6.Rule.Columns], [.int .i64 x6.Rule.Faulty], rfl, rfl, rfl⟩⟩⟩) rfl
              have hs := hs.add (it := vl t_api_View (⟨x12, (⟨x6.Rule.Kind, x6.Rule.Columns, x6.Rule.Faulty⟩ : api_Rule)⟩ : api_View) (.agg [.slice a7 x12.length c9, .int .i64 x6.Rule.Kind, .int .i64 x6.Rule.Columns, .int .i64 x6.Rule.Faulty].toArray)) fun ok hA => V_agg (show t_api_View.R ok _ _ _ from ⟨[.slice a7 x12.length c9], [.int .i64 x6.Rule.Kind, .int .i64 x6.Rule.Columns, .int .i64 x6.Rule.Faulty], rfl, (R_one (hA.get 2 rfl)), ⟨[.int .i64 x6.Rule.Kind], [.int .i64 x6.Rule.Columns, .int .i64 x6.Rule.Faulty], rfl, rfl, ⟨[.int .i64 x6.Rule.Columns], [.int .i64 x6.Rule.Faulty], rfl, rfl, rfl⟩⟩⟩) rfl
              have hs := hs.add (it := vl t_api_View (⟨x12, (⟨x6.Rule.Kind, x6.Rule.Columns, x6.Rule.Faulty⟩ : api_Rule)⟩ : api_View) (.agg [.slice a7 x12.length c9, .int .i64 x6.Rule.Kind, .int .i64 x6.Rule.Columns, .int .i64 x6.Rule.Faulty].toArray)) fun ok hA => V_agg (show t_api_View.R ok _ _ _ from ⟨[.slice a7 x12.length c9], [.int .i64 x6.Rule.Kind, .int .i64 x6.Rule.Columns, .int .i64 x6.Rule.Faulty], rfl, (R_one (hA.get 3 rfl)), ⟨[.int .i64 x6.Rule.Kind], [.int .i64 x6.Rule.Columns, .int .i64 x6.Rule.Faulty], rfl, rfl, ⟨[.int .i64 x6.Rule.Columns], [.int .i64 x6.Rule.Faulty], rfl, rfl, rfl⟩⟩⟩) rfl
              have hs := hs.front 0 rfl
              have hs := hs.front 1 rfl
              have hs := hs.front 2 rfl
              exact Jk241 (⟨x12, (⟨x6.Rule.Kind, x6.Rule.Columns, x6.Rule.Faulty⟩ : api_Rule)⟩ : api_View) (⟨x12, (⟨x6.Rule.Kind, x6.Rule.Columns, x6.Rule.Faulty⟩ : api_Rule)⟩ : api_View) g435 [.slice a7 x12.length c9, .int .i64 x6.Rule.Kind, .int .i64 x6.Rule.Columns, .int .i64 x6.Rule.Faulty] g436 [.slice a7 x12.length c9, .int .i64 x6.Rule.Kind, .int .i64 x6.Rule.Columns, .int .i64 x6.Rule.Faulty] _ _ rfl rfl ((hu434 2 rfl).trans h13_2) ((hu434 7 rfl).trans h13_7) rfl rfl ((hs.mask [true, true, true]).pick [4, 1, 0]) hf
        · refine WL.loadN (vs := [.slice a7 x12.length c9, .int .i64 x6.Rule.Kind, .int .i64 x6.Rule.Columns, .int .i64 x6.Rule.Faulty]) hs 1 rfl TI26 ((hu434 7 rfl).trans h13_7) rfl rfl ?_
          refine WL.nil ⟨rfl, _, rfl, ?_⟩
          refine WA.step [0, 3] (by kernel_rfl) (by simp) ⟨?_, ?_, trivial⟩
          · refine WL.loadN (vs := [.slice a7 x12.length c9, .int .i64 x6.Rule.Kind, .int .i64 x6.Rule.Columns, .int .i64 x6.Rule.Faulty]) hs 1 rfl TI26 ((hu434 7 rfl).trans h13_7) rfl rfl ?_
            refine WL.nil ⟨rfl, _, rfl, ?_⟩
            refine WA.step [3] (by kernel_rfl) (by simp) ⟨?_, trivial⟩
            refine WL.alloc hs ZV26 (fun g436 w hs => ?_)
            refine WL.nil ⟨rfl, _, rfl, ?_⟩
            refine WA.step [4] (by kernel_rfl) (by simp) ⟨?_, trivial⟩
            refine WL.storeAll (vs := [.slice a7 x12.length c9, .int .i64 x6.Rule.Kind, .int .i64 x6.Rule.Columns, .int .i64 x6.Rule.Faulty]) hs 1 rfl TI26 rfl rfl rfl rfl (ones_of rfl) rfl (fun w hs => ?_)
            refine WL.nil ⟨rfl, _, rfl, ?_⟩
            refine WA.step [5] (by kernel_rfl) (by simp) ⟨?_, trivial⟩
            refine WL.storeAll (vs := [.slice a7 x12.length c9, .int .i64 x6.Rule.Kind, .int .i64 x6.Rule.Columns, .int .i64 x6.Rule.Faulty]) hs 0 rfl TI26 rfl rfl rfl rfl (ones_of rfl) rfl (fun w hs => ?_)
            refine WL.nil ⟨rfl, _, rfl, ?_⟩
            refine WA.done (by kernel_rfl) ?_
            have hs := hs.add (it := vl t_api_View (⟨x12, (⟨x6.Rule.Kind, x6.Rule.Columns, x6.Rule.Faulty⟩ : api_Rule)⟩ : api_View) (.agg [.slice a7 x12.length c9, .int .i64 x6.Rule.Kind, .int .i64 x6.Rule.Columns, .int .i64 x6.Rule.Faulty].toArray)) fun ok hA => V_agg (show t_api_View.R ok _ _ _ from ⟨[.slice a7 x12.length c9], [.int .i64 x6.Rule.Kind, .int .i64 x6.Rule.Columns, .int .i64 x6.Rule.Faulty], rfl, (R_one (hA.get 0 rfl)), ⟨[.int .i64 x6.Rule.Kind], [.int .i64 x6.Rule.Columns, .int .i64 x6.Rule.Faulty], rfl, rfl, ⟨[.int .i64 x6.Rule.Columns], [.int .i64 x6.Rule.Faulty], rfl, rfl, rfl⟩⟩⟩) rfl
            have hs := hs.add (it := vl t_api_View (⟨x12, (⟨x6.Rule.Kind, x6.Rule.Columns, x6.Rule.Faulty⟩ : api_Rule)⟩ : api_View) (.agg [.slice a7 x12.length c9, .int .i64 x6.Rule.Kind, .int .i64 x6.Rule.Columns, .int .i64 x6.Rule.Faulty].toArray)) fun ok hA => V_agg (show t_api_View.R ok _ _ _ from ⟨[.slice a7 x12.length c9], [.int .i64 x6.Rule.Kind, .int .i64 x6.Rule.Columns, .int .i64 x6.Rule.Faulty], rfl, (R_one (hA.get 1 rfl)), ⟨[.int .i64 x6.Rule.Kind], [.int .i64 x6.Rule.Columns, .int .i64 x6.Rule.Faulty], rfl, rfl, ⟨[.int .i64 x6.Rule.Columns], [.int .i64 x6.Rule.Faulty], rfl, rfl, rfl⟩⟩⟩) rfl
            have hs := hs.add (it := vl t_api_View (⟨x12, (⟨x6.Rule.Kind, x6.Rule.Columns, x6.Rule.Faulty⟩ : api_Rule)⟩ : api_View) (.agg [.slice a7 x12.length c9, .int .i64 x6.Rule.Kind, .int .i64 x6.Rule.Columns, .int .i64 x6.Rule.Faulty].toArray)) fun ok hA => V_agg (show t_api_View.R ok _ _ _ from ⟨[.slice a7 x12.length c9], [.int .i64 x6.Rule.Kind, .int .i64 x6.Rule.Columns, .int .i64 x6.Rule.Faulty], rfl, (R_one (hA.get 2 rfl)), ⟨[.int .i64 x6.Rule.Kind], [.int .i64 x6.Rule.Columns, .int .i64 x6.Rule.Faulty], rfl, rfl, ⟨[.int .i64 x6.Rule.Columns], [.int .i64 x6.Rule.Faulty], rfl, rfl, rfl⟩⟩⟩) rfl
            have hs := hs.add (it := vl t_api_View (⟨x12, (⟨x6.Rule.Kind, x6.Rule.Columns, x6.Rule.Faulty⟩ : api_Rule)⟩ : api_View) (.agg [.slice a7 x12.length c9, .int .i64 x6.Rule.Kind, .int .i64 x6.Rule.Columns, .int .i64 x6.Rule.Faulty].toArray)) fun ok hA => V_agg (show t_api_View.R ok _ _ _ from ⟨[.slice a7 x12.length c9], [.int .i64 x6.Rule.Kind, .int .i64 x6.Rule.Columns, .int .i64 x6.Rule.Faulty], rfl, (R_one (hA.get 3 rfl)), ⟨[.int .i64 x6.Rule.Kind], [.int .i64 x6.Rule.Columns, .int .i64 x6.Rule.Faulty], rfl, rfl, ⟨[.int .i64 x6.Rule.Columns], [.int .i64 x6.Rule.Faulty], rfl, rfl, rfl⟩⟩⟩) rfl
            have hs := hs.front 0 rfl
            have hs := hs.front 1 rfl
            have hs := hs.front 2 rfl
            exact Jk241 (⟨x12, (⟨x6.Rule.Kind, x6.Rule.Columns, x6.Rule.Faulty⟩ : api_Rule)⟩ : api_View) (⟨x12, (⟨x6.Rule.Kind, x6.Rule.Columns, x6.Rule.Faulty⟩ : api_Rule)⟩ : api_View) g435 [.slice a7 x12.length c9, .int .i64 x6.Rule.Kind, .int .i64 x6.Rule.Columns, .int .i64 x6.Rule.Faulty] g436 [.slice a7 x12.length c9, .int .i64 x6.Rule.Kind, .int .i64 x6.Rule.Columns, .int .i64 x6.Rule.Faulty] _ _ rfl rfl ((hu434 2 rfl).trans h13_2) ((hu434 7 rfl).trans h13_7) rfl rfl ((hs.mask [true, true, true]).pick [4, 1, 0]) hf
          · refine WL.alloc hs ZV26 (fun g436 w hs => ?_)
            refine WL.nil ⟨rfl, _, rfl, ?_⟩
            refine WA.step [0] (by kernel_rfl) (by simp) ⟨?_, trivial⟩
            refine WL.loadN (vs := [.slice a7 x12.length c9, .int .i64 x6.Rule.Kind, .int .i64 x6.Rule.Columns, .int .i64 x6.Rule.Faulty]) hs 2 rfl TI26 ((hu434 7 rfl).trans h13_7) rfl rfl ?_
            refine WL.nil ⟨rfl, _, rfl, ?_⟩
            refine WA.step [4] (by kernel_rfl) (by simp) ⟨?_, trivial⟩
            refine WL.storeAll (vs := [.slice a7 x12.length c9, .int .i64 x6.Rule.Kind, .int .i64 x6.Rule.Columns, .int .i64 x6.Rule.Faulty]) hs 1 rfl TI26 rfl rfl rfl rfl (ones_of rfl) rfl (fun w hs => ?_)
            refine WL.nil ⟨rfl, _, rfl, ?_⟩
            refine WA.step [5] (by kernel_rfl) (by simp) ⟨?_, trivial⟩
            refine WL.storeAll (vs := [.slice a7 x12.length c9, .int .i64 x6.Rule.Kind, .int .i64 x6.Rule.Columns, .int .i64 x6.Rule.Faulty]) hs 0 rfl TI26 rfl rfl rfl rfl (ones_of rfl) rfl (fun w hs => ?_)
            refine WL.nil ⟨rfl, _, rfl, ?_⟩
            refine WA.done (by kernel_rfl) ?_
            have hs := hs.add (it := vl t_api_View (⟨x12, (⟨x6.Rule.Kind, x6.Rule.Columns, x6.Rule.Faulty⟩ : api_Rule)⟩ : api_View) (.agg [.slice a7 x12.length c9, .int .i64 x6.Rule.Kind, .int .i64 x6.Rule.Columns, .int .i64 x6.Rule.Faulty].toArray)) fun ok hA => V_agg (show t_api_View.R ok _ _ _ from ⟨[.slice a7 x12.length c9], [.int .i64 x6.Rule.Kind, .int .i64 x6.Rule.Columns, .int .i64 x6.Rule.Faulty], rfl, (R_one (hA.get 0 rfl)), ⟨[.int .i64 x6.Rule.Kind], [.int .i64 x6.Rule.Columns, .int .i64 x6.Rule.Faulty], rfl, rfl, ⟨[.int .i64 x6.Rule.Columns], [.int .i64 x6.Rule.Faulty], rfl, rfl, rfl⟩⟩⟩) rfl
            have hs := hs.add (it := vl t_api_View (⟨x12, (⟨x6.Rule.Kind, x6.Rule.Columns, x6.Rule.Faulty⟩ : api_Rule)⟩ : api_View) (.agg [.slice a7 x12.length c9, .int .i64 x6.Rule.Kind, .int .i64 x6.Rule.Columns, .int .i64 x6.Rule.Faulty].toArray)) fun ok hA => V_agg (show t_api_View.R ok _ _ _ from ⟨[.slice a7 x12.length c9], [.int .i64 x6.Rule.Kind, .int .i64 x6.Rule.Columns, .int .i64 x6.Rule.Faulty], rfl, (R_one (hA.get 1 rfl)), ⟨[.int .i64 x6.Rule.Kind], [.int .i64 x6.Rule.Columns, .int .i64 x6.Rule.Faulty], rfl, rfl, ⟨[.int .i64 x6.Rule.Columns], [.int .i64 x6.Rule.Faulty], rfl, rfl, rfl⟩⟩⟩) rfl
            have hs := hs.add (it := vl t_api_View (⟨x12, (⟨x6.Rule.Kind, x6.Rule.Columns, x6.Rule.Faulty⟩ : api_Rule)⟩ : api_View) (.agg [.slice a7 x12.length c9, .int .i64 x6.Rule.Kind, .int .i64 x6.Rule.Columns, .int .i64 x6.Rule.Faulty].toArray)) fun ok hA => V_agg (show t_api_View.R ok _ _ _ from ⟨[.slice a7 x12.length c9], [.int .i64 x6.Rule.Kind, .int .i64 x6.Rule.Columns, .int .i64 x6.Rule.Faulty], rfl, (R_one (hA.get 2 rfl)), ⟨[.int .i64 x6.Rule.Kind], [.int .i64 x6.Rule.Columns, .int .i64 x6.Rule.Faulty], rfl, rfl, ⟨[.int .i64 x6.Rule.Columns], [.int .i64 x6.Rule.Faulty], rfl, rfl, rfl⟩⟩⟩) rfl
            have hs := hs.add (it := vl t_api_View (⟨x12, (⟨x6.Rule.Kind, x6.Rule.Columns, x6.Rule.Faulty⟩ : api_Rule)⟩ : api_View) (.agg [.slice a7 x12.length c9, .int .i64 x6.Rule.Kind, .int .i64 x6.Rule.Columns, .int .i64 x6.Rule.Faulty].toArray)) fun ok hA => V_agg (show t_api_View.R ok _ _ _ from ⟨[.slice a7 x12.length c9], [.int .i64 x6.Rule.Kind, .int .i64 x6.Rule.Columns, .int .i64 x6.Rule.Faulty], rfl, (R_one (hA.get 3 rfl)), ⟨[.int .i64 x6.Rule.Kind], [.int .i64 x6.Rule.Columns, .int .i64 x6.Rule.Faulty], rfl, rfl, ⟨[.int .i64 x6.Rule.Columns], [.int .i64 x6.Rule.Faulty], rfl, rfl, rfl⟩⟩⟩) rfl
            have hs := hs.front 0 rfl
            have hs := hs.front 1 rfl
            have hs := hs.front 2 rfl
            exact Jk241 (⟨x12, (⟨x6.Rule.Kind, x6.Rule.Columns, x6.Rule.Faulty⟩ : api_Rule)⟩ : api_View) (⟨x12, (⟨x6.Rule.Kind, x6.Rule.Columns, x6.Rule.Faulty⟩ : api_Rule)⟩ : api_View) g435 [.slice a7 x12.length c9, .int .i64 x6.Rule.Kind, .int .i64 x6.Rule.Columns, .int .i64 x6.Rule.Faulty] g436 [.slice a7 x12.length c9, .int .i64 x6.Rule.Kind, .int .i64 x6.Rule.Columns, .int .i64 x6.Rule.Faulty] _ _ rfl rfl ((hu434 2 rfl).trans h13_2) ((hu434 7 rfl).trans h13_7) rfl rfl ((hs.mask [true, true, true]).pick [4, 1, 0]) hf
        · refine WL.alloc hs ZV26 (fun g436 w hs => ?_)
          refine WL.nil ⟨rfl, _, rfl, ?_⟩
          refine WA.step [0, 1] (by kernel_rfl) (by simp) ⟨?_, ?_, trivial⟩
          · refine WL.loadN (vs := [.slice a7 x12.length c9, .int .i64 x6.Rule.Kind, .int .i64 x6.Rule.Columns, .int .i64 x6.Rule.Faulty]) hs 2 rfl TI26 ((hu434 7 rfl).trans h13_7) rfl rfl ?_
            refine WL.nil ⟨rfl, _, rfl, ?_⟩
            refine WA.step [1, 4] (by kernel_rfl) (by simp) ⟨?_, ?_, trivial⟩
            · refine WL.loadN (vs := [.slice a7 x12.length c9, .int .i64 x6.Rule.Kind, .int .i64 x6.Rule.Columns, .int .i64 x6.Rule.Faulty]) hs 2 rfl TI26 ((hu434 7 rfl).trans h13_7) rfl rfl ?_
              refine WL.nil ⟨rfl, _, rfl, ?_⟩
              refine WA.step [4] (by kernel_rfl) (by simp) ⟨?_, trivial⟩
              refine WL.storeAll (vs := [.slice a7 x12.length c9, .int .i64 x6.Rule.Kind, .int .i64 x6.Rule.Columns, .int .i64 x6.Rule.Faulty]) hs 1 rfl TI26 rfl rfl rfl rfl (ones_of rfl) rfl (fun w hs => ?_)
              refine WL.nil ⟨rfl, _, rfl, ?_⟩
              refine WA.step [5] (by kernel_rfl) (by simp) ⟨?_, trivial⟩
              refine WL.storeAll (vs := [.slice a7 x12.length c9, .int .i64 x6.Rule.Kind, .int .i64 x6.Rule.Columns, .int .i64 x6.Rule.Faulty]) hs 0 rfl TI26 rfl rfl rfl rfl (ones_of rfl) rfl (fun w hs => ?_)
              refine WL.nil ⟨rfl, _, rfl, ?_⟩
              refine WA.done (by kernel_rfl) ?_
              have hs := hs.add (it := vl t_api_View (⟨x12, (⟨x6.Rule.Kind, x6.Rule.Columns, x6.Rule.Faulty⟩ : api_Rule)⟩ : api_View) (.agg [.slice a7 x12.length c9, .int .i64 x6.Rule.Kind, .int .i64 x6.Rule.Columns, .int .i64 x6.Rule.Faulty].toArray)) fun ok hA => V_agg (show t_api_View.R ok _ _ _ from ⟨[.slice a7 x12.length c9], [.int .i64 x6.Rule.Kind, .int .i64 x6.Rule.Columns, .int .i64 x6.Rule.Faulty], rfl, (R_one (hA.get 0 rfl)), ⟨[.int .i64 x6.Rule.Kind], [.int .i64 x6.Rule.Columns, .int .i64 x6.Rule.Faulty], rfl, rfl, ⟨[.int .i64 x6.Rule.Columns], [.int .i64 x6.Rule.Faulty], rfl, rfl, rfl⟩⟩⟩) rfl
              have hs := hs.add (it := vl t_api_View (⟨x12, (⟨x6.Rule.Kind, x6.Rule.Columns, x6.Rule.Faulty⟩ : api_Rule)⟩ : api_View) (.agg [.slice a7 x12.length c9, .int .i64 x6.Rule.Kind, .int .i64 x6.Rule.Columns, .int .i64 x6.Rule.Faulty].toArray)) fun ok hA => V_agg (show t_api_View.R ok _ _ _ from ⟨[.slice a7 x12.length c9], [.int .i64 x6.Rule.Kind, .int .i64 x6.Rule.Columns, .int .i64 x6.Rule.Faulty], rfl, (R_one (hA.get 1 rfl)), ⟨[.int .i64 x6.Rule.Kind], [.int .i64 x6.Rule.Columns, .int .i64 x6.Rule.Faulty], rfl, rfl, ⟨[.int .i64 x6.Rule.Columns], [.int .i64 x6.Rule.Faulty], rfl, rfl, rfl⟩⟩⟩) rfl
              have hs := hs.add (it := vl t_api_View (⟨x12, (⟨x6.Rule.Kind, x6.Rule.Columns, x6.Rule.Faulty⟩ : api_Rule)⟩ : api_View) (.agg [.slice a7 x12.length c9, .int .i64 x6.Rule.Kind, .int .i64 x6.Rule.Columns, .int .i64 x6.Rule.Faulty].toArray)) fun ok hA => V_agg (show t_api_View.R ok _ _ _ from ⟨[.slice a7 x12.length c9], [.int .i64 x6.Rule.Kind, .int .i64 x6.Rule.Columns, .int .i64 x6.Rule.Faulty], rfl, (R_one (hA.get 2 rfl)), ⟨[.int .i64 x6.Rule.Kind], [.int .i64 x6.Rule.Columns, .int .i64 x6.Rule.Faulty], rfl, rfl, ⟨[.int .i64 x6.Rule.Columns], [.int .i64 x6.Rule.Faulty], rfl, rfl, rfl⟩⟩⟩) rfl
              have hs := hs.add (it := vl t_api_View (⟨x12, (⟨x6.Rule.Kind, x6.Rule.Columns, x6.Rule.Faulty⟩ : api_Rule)⟩ : api_View) (.agg [.slice a7 x12.length c9, .int .i64 x6.Rule.Kind, .int .i64 x6.Rule.Columns, .int .i64 x6.Rule.Faulty].toArray)) fun ok hA => V_agg (show t_api_View.R ok _ _ _ from ⟨[.slice a7 x12.length c9], [.int .i64 x6.Rule.Kind, .int .i64 x6.Rule.Columns, .int .i64 x6.Rule.Faulty], rfl, (R_one (hA.get 3 rfl)), ⟨[.int .i64 x6.Rule.Kind], [.int .i64 x6.Rule.Columns, .int .i64 x6.Rule.Faulty], rfl, rfl, ⟨[.int .i64 x6.Rule.Columns], [.int .i64 x6.Rule.Faulty], rfl, rfl, rfl⟩⟩⟩) rfl
              have hs := hs.front 0 rfl
              have hs := hs.front 1 rfl
              have hs := hs.front 2 rfl
              exact Jk241 (⟨x12, (⟨x6.Rule.Kind, x6.Rule.Columns, x6.Rule.Faulty⟩ : api_Rule)⟩ : api_View) (⟨x12, (⟨x6.Rule.Kind, x6.Rule.Columns, x6.Rule.Faulty⟩ : api_Rule)⟩ : api_View) g435 [.slice a7 x12.length c9, .int .i64 x6.Rule.Kind, .int .i64 x6.Rule.Columns, .int .i64 x6.Rule.Faulty] g436 [.slice a7 x12.length c9, .int .i64 x6.Rule.Kind, .int .i64 x6.Rule.Columns, .int .i64 x6.Rule.Faulty] _ _ rfl rfl ((hu434 2 rfl).trans h13_2) ((hu434 7 rfl).trans h13_7) rfl rfl ((hs.mask [true, true, true]).pick [4, 1, 0]) hf
            · refine WL.storeAll (vs := [.slice a7 x12.length c9, .int .i64 x6.Rule.Kind, .int .i64 x6.Rule.Columns, .int .i64 x6.Rule.Faulty]) hs 1 rfl TI26 rfl rfl rfl rfl (ones_of rfl) rfl (fun w hs => ?_)
              refine WL.nil ⟨rfl, _, rfl, ?_⟩
              refine WA.step [1] (by kernel_rfl) (by simp) ⟨?_, trivial⟩
              refine WL.loadN (vs := [.slice a7 x12.length c9, .int .i64 x6.Rule.Kind, .int .i64 x6.Rule.Columns, .int .i64 x6.Rule.Faulty]) hs 2 rfl TI26 ((hu434 7 rfl).trans h13_7) rfl rfl ?_
              refine WL.nil ⟨rfl, _, rfl, ?_⟩
              refine WA.step [5] (by kernel_rfl) (by simp) ⟨?_, trivial⟩
              refine WL.storeAll (vs := [.slice a7 x12.length c9, .int .i64 x6.Rule.Kind, .int .i64 x6.Rule.Columns, .int .i64 x6.Rule.Faulty]) hs 0 rfl TI26 rfl rfl rfl rfl (ones_of rfl) rfl (fun w hs => ?_)
              refine WL.nil ⟨rfl, _, rfl, ?_⟩
              refine WA.done (by kernel_rfl) ?_
              have hs := hs.add (it := vl t_api_View (⟨x12, (⟨x6.Rule.Kind, x6.Rule.Columns, x6.Rule.Faulty⟩ : api_Rule)⟩ : api_View) (.agg [.slice a7 x12.length c9, .int .i64 x6.Rule.Kind, .int .i64 x6.Rule.Columns, .int .i64 x6.Rule.Faulty].toArray)) fun ok hA => V_agg (show t_api_View.R ok _ _ _ from ⟨[.slice a7 x12.length c9], [.int .i64 x6.Rule.Kind, .int .i64 x6.Rule.Columns, .int .i64 x6.Rule.Faulty], rfl, (R_one (hA.get 0 rfl)), ⟨[.int .i64 x6.Rule.Kind], [.int .i64 x6.Rule.Columns, .int .i64 x6.Rule.Faulty], rfl, rfl, ⟨[.int .i64 x6.Rule.Columns], [.int .i64 x6.Rule.Faulty], rfl, rfl, rfl⟩⟩⟩) rfl
              have hs := hs.add (it := vl t_api_View (⟨x12, (⟨x6.Rule.Kind, x6.Rule.Columns, x6.Rule.Faulty⟩ : api_Rule)⟩ : api_View) (.agg [.slice a7 x12.length c9, .int .i64 x6.Rule.Kind, .int .i64 x6.Rule.Columns, .int .i64 x6.Rule.Faulty].toArray)) fun ok hA => V_agg (show t_api_View.R ok _ _ _ from ⟨[.slice a7 x12.length c9], [.int .i64 x6.Rule.Kind, .int .i64 x6.Rule.Columns, .int .i64 x6.Rule.Faulty], rfl, (R_one (hA.get 1 rfl)), ⟨[.int .i64 x6.Rule.Kind], [.int .i64 x6.Rule.Columns, .int .i64 x6.Rule.Faulty], rfl, rfl, ⟨[.int .i64 x6.Rule.Columns], [.int .i64 x6.Rule.Faulty], rfl, rfl, rfl⟩⟩⟩) rfl
              have hs := hs.add (it := vl t_api_View (⟨x12, (⟨x6.Rule.Kind, x6.Rule.Columns, x6.Rule.Faulty⟩ : api_Rule)⟩ : api_View) (.agg [.slice a7 x12.length c9, .int .i64 x6.Rule.Kind, .int .i64 x6.Rule.Columns, .int .i64 x6.Rule.Faulty].toArray)) fun ok hA => V_agg (show t_api_View.R ok _ _ _ from ⟨[.slice a7 x12.length c9], [.int .i64 x6.Rule.Kind, .int .i64 x6.Rule.Columns, .int .i64 x6.Rule.Faulty], rfl, (R_one (hA.get 2 rfl)), ⟨[.int .i64 x6.Rule.Kind], [.int .i64 x6.Rule.Columns, .int .i64 x6.Rule.Faulty], rfl, rfl, ⟨[.int .i64 x6.Rule.Columns], [.int .i64 x6.Rule.Faulty], rfl, rfl, rfl⟩⟩⟩) rfl
              have hs := hs.add (it := vl t_api_View (⟨x12, (⟨x6.Rule.Kind, x6.Rule.Columns, x6.Rule.Faulty⟩ : api_Rule)⟩ : api_View) (.agg [.slice a7 x12.length c9, .int .i64 x6.Rule.Kind, .int .i64 x6.Rule.Columns, .int .i64 x6.Rule.Faulty].toArray)) fun ok hA => V_agg (show t_api_View.R ok _ _ _ from ⟨[.slice a7 x12.length c9], [.int .i64 x6.Rule.Kind, .int .i64 x6.Rule.Columns, .int .i64 x6.Rule.Faulty], rfl, (R_one (hA.get 3 rfl)), ⟨[.int .i64 x6.Rule.Kind], [.int .i64 x6.Rule.Columns, .int .i64 x6.Rule.Faulty], rfl, rfl, ⟨[.int .i64 x6.Rule.Columns], [.int .i64 x6.Rule.Faulty], rfl, rfl, rfl⟩⟩⟩) rfl
              have hs := hs.front 0 rfl
              have hs := hs.front 1 rfl
              have hs := hs.front 2 rfl
              exact Jk241 (⟨x12, (⟨x6.Rule.Kind, x6.Rule.Columns, x6.Rule.Faulty⟩ : api_Rule)⟩ : api_View) (⟨x12, (⟨x6.Rule.Kind, x6.Rule.Columns, x6.Rule.Faulty⟩ : api_Rule)⟩ : api_View) g435 [.slice a7 x12.length c9, .int .i64 x6.Rule.Kind, .int .i64 x6.Rule.Columns, .int .i64 x6.Rule.Faulty] g436 [.slice a7 x12.length c9, .int .i64 x6.Rule.Kind, .int .i64 x6.Rule.Columns, .int .i64 x6.Rule.Faulty] _ _ rfl rfl ((hu434 2 rfl).trans h13_2) ((hu434 7 rfl).trans h13_7) rfl rfl ((hs.mask [true, true, true]).pick [4, 1, 0]) hf
          · refine WL.loadN (vs := [.slice a7 x12.length c9, .int .i64 x6.Rule.Kind, .int .i64 x6.Rule.Columns, .int .i64 x6.Rule.Faulty]) hs 2 rfl TI26 ((hu434 7 rfl).trans h13_7) rfl rfl ?_
            refine WL.nil ⟨rfl, _, rfl, ?_⟩
            refine WA.step [0] (by kernel_rfl) (by simp) ⟨?_, trivial⟩
            refine WL.loadN (vs := [.slice a7 x12.length c9, .int .i64 x6.Rule.Kind, .int .i64 x6.Rule.Columns, .int .i64 x6.Rule.Faulty]) hs 2 rfl TI26 ((hu434 7 rfl).trans h13_7) rfl rfl ?_
            refine WL.nil ⟨rfl, _, rfl, ?_⟩
            refine WA.step [4] (by kernel_rfl) (by simp) ⟨?_, trivial⟩
            refine WL.storeAll (vs := [.slice a7 x12.length c9, .int .i64 x6.Rule.Kind, .int .i64 x6.Rule.Columns, .int .i64 x6.Rule.Faulty]) hs 1 rfl TI26 rfl rfl rfl rfl (ones_of rfl) rfl (fun w hs => ?_)
            refine WL.nil ⟨rfl, _, rfl, ?_⟩
            refine WA.step [5] (by kernel_rfl) (by simp) ⟨?_, trivial⟩
            refine WL.storeAll (vs := [.slice a7 x12.length c9, .int .i64 x6.Rule.Kind, .int .i64 x6.Rule.Columns, .int .i64 x6.Rule.Faulty]) hs 0 rfl TI26 rfl rfl rfl rfl (ones_of rfl) rfl (fun w hs => ?_)
            refine WL.nil ⟨rfl, _, rfl, ?_⟩
            refine WA.done (by kernel_rfl) ?_
            have hs := hs.add (it := vl t_api_View (⟨x12, (⟨x6.Rule.Kind, x6.Rule.Columns, x6.Rule.Faulty⟩ : api_Rule)⟩ : api_View) (.agg [.slice a7 x12.length c9, .int .i64 x6.Rule.Kind, .int .i64 x6.Rule.Columns, .int .i64 x6.Rule.Faulty].toArray)) fun ok hA => V_agg (show t_api_View.R ok _ _ _ from ⟨[.slice a7 x12.length c9], [.int .i64 x6.Rule.Kind, .int .i64 x6.Rule.Columns, .int .i64 x6.Rule.Faulty], rfl, (R_one (hA.get 0 rfl)), ⟨[.int .i64 x6.Rule.Kind], [.int .i64 x6.Rule.Columns, .int .i64 x6.Rule.Faulty], rfl, rfl, ⟨[.int .i64 x6.Rule.Columns], [.int .i64 x6.Rule.Faulty], rfl, rfl, rfl⟩⟩⟩) rfl
            have hs := hs.add (it := vl t_api_View (⟨x12, (⟨x6.Rule.Kind, x6.Rule.Columns, x6.Rule.Faulty⟩ : api_Rule)⟩ : api_View) (.agg [.slice a7 x12.length c9, .int .i64 x6.Rule.Kind, .int .i64 x6.Rule.Columns, .int .i64 x6.Rule.Faulty].toArray)) fun ok hA => V_agg (show t_api_View.R ok _ _ _ from ⟨[.slice a7 x12.length c9], [.int .i64 x6.Rule.Kind, .int .i64 x6.Rule.Columns, .int .i64 x6.Rule.Faulty], rfl, (R_one (hA.get 1 rfl)), ⟨[.int .i64 x6.Rule.Kind], [.int .i64 x6.Rule.Columns, .int .i64 x6.Rule.Faulty], rfl, rfl, ⟨[.int .i64 x6.Rule.Columns], [.int .i64 x6.Rule.Faulty], rfl, rfl, rfl⟩⟩⟩) rfl
            have hs := hs.add (it := vl t_api_View (⟨x12, (⟨x6.Rule.Kind, x6.Rule.Columns, x6.Rule.Faulty⟩ : api_Rule)⟩ : api_View) (.agg [.slice a7 x12.length c9, .int .i64 x6.Rule.Kind, .int .i64 x6.Rule.Columns, .int .i64 x6.Rule.Faulty].toArray)) fun ok hA => V_agg (show t_api_View.R ok _ _ _ from ⟨[.slice a7 x12.length c9], [.int .i64 x6.Rule.Kind, .int .i64 x6.Rule.Columns, .int .i64 x6.Rule.Faulty], rfl, (R_one (hA.get 2 rfl)), ⟨[.int .i64 x6.Rule.Kind], [.int .i64 x6.Rule.Columns, .int .i64 x6.Rule.Faulty], rfl, rfl, ⟨[.int .i64 x6.Rule.Columns], [.int .i64 x6.Rule.Faulty], rfl, rfl, rfl⟩⟩⟩) rfl
            have hs := hs.add (it := vl t_api_View (⟨x12, (⟨x6.Rule.Kind, x6.Rule.Columns, x6.Rule.Faulty⟩ : api_Rule)⟩ : api_View) (.agg [.slice a7 x12.length c9, .int .i64 x6.Rule.Kind, .int .i64 x6.Rule.Columns, .int .i64 x6.Rule.Faulty].toArray)) fun ok hA => V_agg (show t_api_View.R ok _ _ _ from ⟨[.slice a7 x12.length c9], [.int .i64 x6.Rule.Kind, .int .i64 x6.Rule.Columns, .int .i64 x6.Rule.Faulty], rfl, (R_one (hA.get 3 rfl)), ⟨[.int .i64 x6.Rule.Kind], [.int .i64 x6.Rule.Columns, .int .i64 x6.Rule.Faulty], rfl, rfl, ⟨[.int .i64 x6.Rule.Columns], [.int .i64 x6.Rule.Faulty], rfl, rfl, rfl⟩⟩⟩) rfl
            have hs := hs.front 0 rfl
            have hs := hs.front 1 rfl
            have hs := hs.front 2 rfl
            exact Jk241 (⟨x12, (⟨x6.Rule.Kind, x6.Rule.Columns, x6.Rule.Faulty⟩ : api_Rule)⟩ : api_View) (⟨x12, (⟨x6.Rule.Kind, x6.Rule.Columns, x6.Rule.Faulty⟩ : api_Rule)⟩ : api_View) g435 [.slice a7 x12.length c9, .int .i64 x6.Rule.Kind, .int .i64 x6.Rule.Columns, .int .i64 x6.Rule.Faulty] g436 [.slice a7 x12.length c9, .int .i64 x6.Rule.Kind, .int .i64 x6.Rule.Columns, .int .i64 x6.Rule.Faulty] _ _ rfl rfl ((hu434 2 rfl).trans h13_2) ((hu434 7 rfl).trans h13_7) rfl rfl ((hs.mask [true, true, true]).pick [4, 1, 0]) hf
      · refine WL.alloc hs ZV26 (fun g435 w hs => ?_)
        refine WL.nil ⟨rfl, _, rfl, ?_⟩
        refine WA.step [0, 1, 2] (by kernel_rfl) (by simp) ⟨?_, ?_, ?_, trivial⟩
        · refine WL.loadN (vs := [.slice a7 x12.length c9, .int .i64 x6.Rule.Kind, .int .i64 x6.Rule.Columns, .int .i64 x6.Rule.Faulty]) hs 1 rfl TI26 ((hu434 7 rfl).trans h13_7) rfl rfl ?_
          refine WL.nil ⟨rfl, _, rfl, ?_⟩
          refine WA.step [1, 2] (by kernel_rfl) (by simp) ⟨?_, ?_, trivial⟩
          · refine WL.loadN (vs := [.slice a7 x12.length c9, .int .i64 x6.Rule.Kind, .int .i64 x6.Rule.Columns, .int .i64 x6.Rule.Faulty]) hs 1 rfl TI26 ((hu434 7 rfl).trans h13_7) rfl rfl ?_
            refine WL.nil ⟨rfl, _, rfl, ?_⟩
            refine WA.step [2] (by kernel_rfl) (by simp) ⟨?_, trivial⟩
            refine WL.alloc hs ZV26 (fun g436 w hs => ?_)
            refine WL.nil ⟨rfl, _, rfl, ?_⟩
            refine WA.step [4] (by kernel_rfl) (by simp) ⟨?_, trivial⟩
            refine WL.storeAll (vs := [.slice a7 x12.length c9, .int .i64 x6.Rule.Kind, .int .i64 x6.Rule.Columns, .int .i64 x6.Rule.Faulty]) hs 0 rfl TI26 rfl rfl rfl rfl (ones_of rfl) rfl (fun w hs => ?_)
            refine WL.nil ⟨rfl, _, rfl, ?_⟩
            refine WA.step [5] (by kernel_rfl) (by simp) ⟨?_, trivial⟩
            refine WL.storeAll (vs := [.slice a7 x12.length c9, .int .i64 x6.Rule.Kind, .int .i64 x6.Rule.Columns, .int .i64 x6.Rule.Faulty]) hs 1 rfl TI26 rfl rfl rfl rfl (ones_of rfl) rfl (fun w hs => ?_)
            refine WL.nil ⟨rfl, _, rfl, ?_⟩
            refine WA.done (by kernel_rfl) ?_
            have hs := hs.add (it := vl t_api_View (⟨x12, (⟨x6.Rule.Kind, x6.Rule.Columns, x6.Rule.Faulty⟩ : api_Rule)⟩ : api_View) (.agg [.slice a7 x12.length c9, .int .i64 x6.Rule.Kind, .int .i64 x6.Rule.Columns, .int .i64 x6.Rule.Faulty].toArray)) fun ok hA => V_agg (show t_api_View.R ok _ _ _ from ⟨[.slice a7 x12.length c9], [.int .i64 x6.Rule.Kind, .int .i64 x6.Rule.Columns, .int .i64 x6.Rule.Faulty], rfl, (R_one (hA.get 0 rfl)), ⟨[.int .i64 x6.Rule.Kind], [.int .i64 x6.Rule.Columns, .int .i64 x6.Rule.Faulty], rfl, rfl, ⟨[.int .i64 x6.Rule.Columns], [.int .i64 x6.Rule.Faulty], rfl, rfl, rfl⟩⟩⟩) rfl
            have hs := hs.add (it := vl t_api_View (⟨x12, (⟨x6.Rule.Kind, x6.Rule.Columns, x6.Rule.Faulty⟩ : api_Rule)⟩ : api_View) (.agg [.slice a7 x12.length c9, .int .i64 x6.Rule.Kind, .int .i64 x6.Rule.Columns, .int .i64 x6.Rule.Faulty].toArray)) fun ok hA => V_agg (show t_api_View.R ok _ _ _ from ⟨[.slice a7 x12.length c9], [.int .i64 x6.Rule.Kind, .int .i64 x6.Rule.Columns, .int .i64 x6.Rule.Faulty], rfl, (R_one (hA.get 1 rfl)), ⟨[.int .i64 x6.Rule.Kind], [.int .i64 x6.Rule.Columns, .int .i64 x6.Rule.Faulty], rfl, rfl, ⟨[.int .i64 x6.Rule.Columns], [.int .i64 x6.Rule.Faulty], rfl, rfl, rfl⟩⟩⟩) rfl
            have hs := hs.add (it := vl t_api_View (⟨x12, (⟨x6.Rule.Kind, x6.Rule.Columns, x6.Rule.Faulty⟩ : api_Rule)⟩ : api_View) (.agg [.slice a7 x12.length c9, .int .i64 x6.Rule.Kind, .int .i64 x6.Rule.Columns, .int .i64 x6.Rule.Faulty].toArray)) fun ok hA => V_agg (show t_api_View.R ok _ _ _ from ⟨[.slice a7 x12.length c9], [.int .i64 x6.Rule.Kind, .int .i64 x6.Rule.Columns, .int .i64 x6.Rule.Faulty], rfl, (R_one (hA.get 2 rfl)), ⟨[.int .i64 x6.Rule.Kind], [.int .i64 x6.Rule.Columns, .int .i64 x6.Rule.Faulty], rfl, rfl, ⟨[.int .i64 x6.Rule.Columns], [.int .i64 x6.Rule.Faulty], rfl, rfl, rfl⟩⟩⟩) rfl
            have hs := hs.add (it := vl t_api_View (⟨x12, (⟨x6.Rule.Kind, x6.Rule.Columns, x6.Rule.Faulty⟩ : api_Rule)⟩ : api_View) (.agg [.slice a7 x12.length c9, .int .i64 x6.Rule.Kind, .int .i64 x6.Rule.Columns, .int .i64 x6.Rule.Faulty].toArray)) fun ok hA => V_agg (show t_api_View.R ok _ _ _ from ⟨[.slice a7 x12.length c9], [.int .i64 x6.Rule.Kind, .int .i64 x6.Rule.Columns, .int .i64 x6.Rule.Faulty], rfl, (R_one (hA.get 3 rfl)), ⟨[.int .i64 x6.Rule.Kind], [.int .i64 x6.Rule.Columns, .int .i64 x6.Rule.Faulty], rfl, rfl, ⟨[.int .i64 x6.Rule.Columns], [.int .i64 x6.Rule.Faulty], rfl, rfl, rfl⟩⟩⟩) rfl
            have hs := hs.front 1 rfl
            have hs := hs.front 1 rfl
            have hs := hs.front 2 rfl
            exact Jk241 (⟨x12, (⟨x6.Rule.Kind, x6.Rule.Columns, x6.Rule.Faulty⟩ : api_Rule)⟩ : api_View) (⟨x12, (⟨x6.Rule.Kind, x6.Rule.Columns, x6.Rule.Faulty⟩ : api_Rule)⟩ : api_View) g436 [.slice a7 x12.length c9, .int .i64 x6.Rule.Kind, .int .i64 x6.Rule.Columns, .int .i64 x6.Rule.Faulty] g435 [.slice a7 x12.length c9, .int .i64 x6.Rule.Kind, .int .i64 x6.Rule.Columns, .int .i64 x6.Rule.Faulty] _ _ rfl rfl ((hu434 2 rfl).trans h13_2) ((hu434 7 rfl).trans h13_7) rfl rfl ((hs.mask [true, true, true]).pick [4, 1, 0]) hf
          · refine WL.alloc hs ZV26 (fun g436 w hs => ?_)
            refine WL.nil ⟨rfl, _, rfl, ?_⟩
            refine WA.step [1, 4] (by kernel_rfl) (by simp) ⟨?_, ?_, trivial⟩
            · refine WL.loadN (vs := [.slice a7 x12.length c9, .int .i64 x6.Rule.Kind, .int .i64 x6.Rule.Columns, .int .i64 x6.Rule.Faulty]) hs 2 rfl TI26 ((hu434 7 rfl).trans h13_7) rfl rfl ?_
              refine WL.nil ⟨rfl, _, rfl, ?_⟩
              refine WA.step [4] (by kernel_rfl) (by simp) ⟨?_, trivial⟩
              refine WL.storeAll (vs := [.slice a7 x12.length c9, .int .i64 x6.Rule.Kind, .int .i64 x6.Rule.Columns, .int .i64 x6.Rule.Faulty]) hs 0 rfl TI26 rfl rfl rfl rfl (ones_of rfl) rfl (fun w hs => ?_)
              refine WL.nil ⟨rfl, _, rfl, ?_⟩
              refine WA.step [5] (by kernel_rfl) (by simp) ⟨?_, trivial⟩
              refine WL.storeAll (vs := [.slice a7 x12.length c9, .int .i64 x6.Rule.Kind, .int .i64 x6.Rule.Columns, .int .i64 x6.Rule.Faulty]) hs 1 rfl TI26 rfl rfl rfl rfl (ones_of rfl) rfl (fun w hs => ?_)
              refine WL.nil ⟨rfl, _, rfl, ?_⟩
              refine WA.done (by kernel_rfl) ?_
              have hs := hs.add (it := vl t_api_View (⟨x12, (⟨x6.Rule.Kind, x6.Rule.Columns, x6.Rule.Faulty⟩ : api_Rule)⟩ : api_View) (.agg [.slice a7 x12.length c9, .int .i64 x6.Rule.Kind, .int .i64 x6.Rule.Columns, .int .i64 x6.Rule.Faulty].toArray)) fun ok hA => V_agg (show t_api_View.R ok _ _ _ from ⟨[.slice a7 x12.length c9], [.int .i64 x6.Rule.Kind, .int .i64 x6.Rule.Columns, .int .i64 x6.Rule.Faulty], rfl, (R_one (hA.get 0 rfl)), ⟨[.int .i64 x6.Rule.Kind], [.int .i64 x6.Rule.Columns, .int .i64 x6.Rule.Faulty], rfl, rfl, ⟨[.int .i64 x6.Rule.Columns], [.int .i64 x6.Rule.Faulty], rfl, rfl, rfl⟩⟩⟩) rfl
              have hs := hs.add (it := vl t_api_View (⟨x12, (⟨x6.Rule.Kind, x6.Rule.Columns, x6.Rule.Faulty⟩ : api_Rule)⟩ : api_View) (.agg [.slice a7 x12.length c9, .int .i64 x6.Rule.Kind, .int .i64 x6.Rule.Columns, .int .i64 x6.Rule.Faulty].toArray)) fun ok hA => V_agg (show t_api_View.R ok _ _ _ from ⟨[.slice a7 x12.length c9], [.int .i64 x6.Rule.Kind, .int .i64 x6.Rule.Columns, .int .i64 x6.Rule.Faulty], rfl, (R_one (hA.get 1 rfl)), ⟨[.int .i64 x6.Rule.Kind], [.int .i64 x6.Rule.Columns, .int .i64 x6.Rule.Faulty], rfl, rfl, ⟨[.int .i64 x6.Rule.Columns], [.int .i64 x6.Rule.Faulty], rfl, rfl, rfl⟩⟩⟩) rfl
              have hs := hs.add (it := vl t_api_View (⟨x12, (⟨x6.Rule.Kind, x6.Rule.Columns, x6.Rule.Faulty⟩ : api_Rule)⟩ : api_View) (.agg [.slice a7 x12.length c9, .int .i64 x6.Rule.Kind, .int .i64 x6.Rule.Columns, .int .i64 x6.Rule.Faulty].toArray)) fun ok hA => V_agg (show t_api_View.R ok _ _ _ from ⟨[.slice a7 x12.length c9], [.int .i64 x6.Rule.Kind, .int .i64 x6.Rule.Columns, .int .i64 x6.Rule.Faulty], rfl, (R_one (hA.get 2 rfl)), ⟨[.int .i64 x6.Rule.Kind], [.int .i64 x6.Rule.Columns, .int .i64 x6.Rule.Faulty], rfl, rfl, ⟨[.int .i64 x6.Rule.Columns], [.int .i64 x6.Rule.Faulty], rfl, rfl, rfl⟩⟩⟩) rfl
              have hs := hs.add (it := vl t_api_View (⟨x12, (⟨x6.Rule.Kind, x6.Rule.Columns, x6.Rule.Faulty⟩ : api_Rule)⟩ : api_View) (.agg [.slice a7 x12.length c9, .int .i64 x6.Rule.Kind, .int .i64 x6.Rule.Columns, .int .i64 x6.Rule.Faulty].toArray)) fun ok hA => V_agg (show t_api_View.R ok _ _ _ from ⟨[.slice a7 x12.length c9], [.int .i64 x6.Rule.Kind, .int .i64 x6.Rule.Columns, .int .i64 x6.Rule.Faulty], rfl, (R_one (hA.get 3 rfl)), ⟨[.int .i64 x6.Rule.Kind], [.int .i64 x6.Rule.Columns, .int .i64 x6.Rule.Faulty], rfl, rfl, ⟨[.int .i64 x6.Rule.Columns], [.int .i64 x6.Rule.Faulty], rfl, rfl, rfl⟩⟩⟩) rfl
              have hs := hs.front 1 rfl
              have hs := hs.front 1 rfl
              have hs := hs.front 2 rfl
              exact Jk241 (⟨x12, (⟨x6.Rule.Kind, x6.Rule.Columns, x6.Rule.Faulty⟩ : api_Rule)⟩ : api_View) (⟨x12, (⟨x6.Rule.Kind, x6.Rule.Columns, x6.Rule.Faulty⟩ : api_Rule)⟩ : api_View) g436 [.slice a7 x12.length c9, .int .i64 x6.Rule.Kind, .int .i64 x6.Rule.Columns, .int .i64 x6.Rule.Faulty] g435 [.slice a7 x12.length c9, .int .i64 x6.Rule.Kind, .int .i64 x6.Rule.Columns, .int .i64 x6.Rule.Faulty] _ _ rfl rfl ((hu434 2 rfl).trans h13_2) ((hu434 7 rfl).trans h13_7) rfl rfl ((hs.mask [true, true, true]).pick [4, 1, 0]) hf
            · refine WL.storeAll (vs := [.slice a7 x12.length c9, .int .i64 x6.Rule.Kind, .int .i64 x6.Rule.Columns, .int .i64 x6.Rule.Faulty]) hs 0 rfl TI26 rfl rfl rfl rfl (ones_of rfl) rfl (fun w hs => ?_)
              refine WL.nil ⟨rfl, _, rfl, ?_⟩
              refine WA.step [1] (by kernel_rfl) (by simp) ⟨?_, trivial⟩
              refine WL.loadN (vs := [.slice a7 x12.length c9, .int .i64 x6.Rule.Kind, .int .i64 x6.Rule.Columns, .int .i64 x6.Rule.Faulty]) hs 2 rfl TI26 ((hu434 7 rfl).trans h13_7) rfl rfl ?_
              refine WL.nil ⟨rfl, _, rfl, ?_⟩
              refine WA.step [5] (by kernel_rfl) (by simp) ⟨?_, trivial⟩
              refine WL.storeAll (vs := [.slice a7 x12.length c9, .int .i64 x6.Rule.Kind, .int .i64 x6.Rule.Columns, .int .i64 x6.Rule.Faulty]) hs 1 rfl TI26 rfl rfl rfl rfl (ones_of rfl) rfl (fun w hs => ?_)
              refine WL.nil ⟨rfl, _, rfl, ?_⟩
              refine WA.done (by kernel_rfl) ?_
              have hs := hs.add (it := vl t_api_View (⟨x12, (⟨x6.Rule.Kind, x6.Rule.Columns, x6.Rule.Faulty⟩ : api_Rule)⟩ : api_View) (.agg [.slice a7 x12.length c9, .int .i64 x6.Rule.Kind, .int .i64 x6.Rule.Columns, .int .i64 x6.Rule.Faulty].toArray)) fun ok hA => V_agg (show t_api_View.R ok _ _ _ from ⟨[.slice a7 x12.length c9], [.int .i64 x6.Rule.Kind, .int .i64 x6.Rule.Columns, .int .i64 x6.Rule.Faulty], rfl, (R_one (hA.get 0 rfl)), ⟨[.int .i64 x6.Rule.Kind], [.int .i64 x6.Rule.Columns, .int .i64 x6.Rule.Faulty], rfl, rfl, ⟨[.int .i64 x6.Rule.Columns], [.int .i64 x6.Rule.Faulty], rfl, rfl, rfl⟩⟩⟩) rfl
              have hs := hs.add (it := vl t_api_View (⟨x12, (⟨x6.Rule.Kind, x6.Rule.Columns, x6.Rule.Faulty⟩ : api_Rule)⟩ : api_View) (.agg [.slice a7 x12.length c9, .int .i64 x6.Rule.Kind, .int .i64 x6.Rule.Columns, .int .i64 x6.Rule.Faulty].toArray)) fun ok hA => V_agg (show t_api_View.R ok _ _ _ from ⟨[.slice a7 x12.length c9], [.int .i64 x6.Rule.Kind, .int .i64 x6.Rule.Columns, .int .i64 x6.Rule.Faulty], rfl, (R_one (hA.get 1 rfl)), ⟨[.int .i64 x6.Rule.Kind], [.int .i64 x6.Rule.Columns, .int .i64 x6.Rule.Faulty], rfl, rfl, ⟨[.int .i64 x6.Rule.Columns], [.int .i64 x6.Rule.Faulty], rfl, rfl, rfl⟩⟩⟩) rfl
              have hs := hs.add (it := vl t_api_View (⟨x12, (⟨x6.Rule.Kind, x6.Rule.Columns, x6.Rule.Faulty⟩ : api_Rule)⟩ : api_View) (.agg [.slice a7 x12.length c9, .int .i64 x6.Rule.Kind, .int .i64 x6.Rule.Columns, .int .i64 x6.Rule.Faulty].toArray)) fun ok hA => V_agg (show t_api_View.R ok _ _ _ from ⟨[.slice a7 x12.length c9], [.int .i64 x6.Rule.Kind, .int .i64 x6.Rule.Columns, .int .i64 x6.Rule.Faulty], rfl, (R_one (hA.get 2 rfl)), ⟨[.int .i64 x6.Rule.Kind], [.int .i64 x6.Rule.Columns, .int .i64 x6.Rule.Faulty], rfl, rfl, ⟨[.int .i64 x6.Rule.Columns], [.int .i64 x6.Rule.Faulty], rfl, rfl, rfl⟩⟩⟩) rfl
              have hs := hs.add (it := vl t_api_View (⟨x12, (⟨x6.Rule.Kind, x6.Rule.Columns, x6.Rule.Faulty⟩ : api_Rule)⟩ : api_View) (.agg [.slice a7 x12.length c9, .int .i64 x6.Rule.Kind, .int .i64 x6.Rule.Columns, .int .i64 x6.Rule.Faulty].toArray)) fun ok hA => V_agg (show t_api_View.R ok _ _ _ from ⟨[.slice a7 x12.length c9], [.int .i64 x6.Rule.Kind, .int .i64 x6.Rule.Columns, .int .i64 x6.Rule.Faulty], rfl, (R_one (hA.get 3 rfl)), ⟨[.int .i64 x6.Rule.Kind], [.int .i64 x6.Rule.Columns, .int .i64 x6.Rule.Faulty], rfl, rfl, ⟨[.int .i64 x6.Rule.Columns], [.int .i64 x6.Rule.Faulty], rfl, rfl, rfl⟩⟩⟩) rfl
              have hs := hs.front 1 rfl
              have hs := hs.front 1 rfl
              have hs := hs.front 2 rfl
              exact Jk241 (⟨x12, (⟨x6.Rule.Kind, x6.Rule.Columns, x6.Rule.Faulty⟩ : api_Rule)⟩ : api_View) (⟨x12, (⟨x6.Rule.Kind, x6.Rule.Columns, x6.Rule.Faulty⟩ : api_Rule)⟩ : api_View) g436 [.slice a7 x12.length c9, .int .i64 x6.Rule.Kind, .int .i64 x6.Rule.Columns, .int .i64 x6.Rule.Faulty] g435 [.slice a7 x12.length c9, .int .i64 x6.Rule.Kind, .int .i64 x6.Rule.Columns, .int .i64 x6.Rule.Faulty] _ _ rfl rfl ((hu434 2 rfl).trans h13_2) ((hu434 7 rfl).trans h13_7) rfl rfl ((hs.mask [true, true, true]).pick [4, 1, 0]) hf
        · refine WL.loadN (vs := [.slice a7 x12.length c9, .int .i64 x6.Rule.Kind, .int .i64 x6.Rule.Columns, .int .i64 x6.Rule.Faulty]) hs 1 rfl TI26 ((hu434 7 rfl).trans h13_7) rfl rfl ?_
          refine WL.nil ⟨rfl, _, rfl, ?_⟩
          refine WA.step [0, 2] (by kernel_rfl) (by simp) ⟨?_, ?_, trivial⟩
          · refine WL.loadN (vs := [.slice a7 x12.length c9, .int .i64 x6.Rule.Kind, .int .i64 x6.Rule.Columns, .int .i64 x6.Rule.Faulty]) hs 1 rfl TI26 ((hu434 7 rfl).trans h13_7) rfl rfl ?_
            refine WL.nil ⟨rfl, _, rfl, ?_⟩
            refine WA.step [2] (by kernel_rfl) (by simp) ⟨?_, trivial⟩
            refine WL.alloc hs ZV26 (fun g436 w hs => ?_)
            refine WL.nil ⟨rfl, _, rfl, ?_⟩
            refine WA.step [4] (by kernel_rfl) (by simp) ⟨?_, trivial⟩
            refine WL.storeAll (vs := [.slice a7 x12.length c9, .int .i64 x6.Rule.Kind, .int .i64 x6.Rule.Columns, .int .i64 x6.Rule.Faulty]) hs 0 rfl TI26 rfl rfl rfl rfl (ones_of rfl) rfl (fun w hs => ?_)
            refine WL.nil ⟨rfl, _, rfl, ?_⟩
            refine WA.step [5] (by kernel_rfl) (by simp) ⟨?_, trivial⟩
            refine WL.storeAll (vs := [.slice a7 x12.length c9, .int .i64 x6.Rule.Kind, .int .i64 x6.Rule.Columns, .int .i64 x6.Rule.Faulty]) hs 1 rfl TI26 rfl rfl rfl rfl (ones_of rfl) rfl (fun w hs => ?_)
            refine WL.nil ⟨rfl, _, rfl, ?_⟩
            refine WA.done (by kernel_rfl) ?_
            have hs := hs.add (it := vl t_api_View (⟨x12, (⟨x6.Rule.Kind, x6.Rule.Columns, x6.Rule.Faulty⟩ : api_Rule)⟩ : api_View) (.agg [.slice a7 x12.length c9, .int .i64 x6.Rule.Kind, .int .i64 x6.Rule.Columns, .int .i64 x6.Rule.Faulty].toArray)) fun ok hA => V_agg (show t_api_View.R ok _ _ _ from ⟨[.slice a7 x12.length c9], [.int .i64 x6.Rule.Kind, .int .i64 x6.Rule.Columns, .int .i64 x6.Rule.Faulty], rfl, (R_one (hA.get 0 rfl)), ⟨[.int .i64 x6.Rule.Kind], [.int .i64 x6.Rule.Columns, .int .i64 x6.Rule.Faulty], rfl, rfl, ⟨[.int .i64 x6.Rule.Columns], [.int .i64 x6.Rule.Faulty], rfl, rfl, rfl⟩⟩⟩) rfl
            have hs := hs.add (it := vl t_api_View (⟨x12, (⟨x6.Rule.Kind, x6.Rule.Columns, x6.Rule.Faulty⟩ : api_Rule)⟩ : api_View) (.agg [.slice a7 x12.length c9, .int .i64 x6.Rule.Kind, .int .i64 x6.Rule.Columns, .int .i64 x6.Rule.Faulty].toArray)) fun ok hA => V_agg (show t_api_View.R ok _ _ _ from ⟨[.slice a7 x12.length c9], [.int .i64 x6.Rule.Kind, .int .i64 x6.Rule.Columns, .int .i64 x6.Rule.Faulty], rfl, (R_one (hA.get 1 rfl)), ⟨[.int .i64 x6.Rule.Kind], [.int .i64 x6.Rule.Columns, .int .i64 x6.Rule.Faulty], rfl, rfl, ⟨[.int .i64 x6.Rule.Columns], [.int .i64 x6.Rule.Faulty], rfl, rfl, rfl⟩⟩⟩) rfl
            have hs := hs.add (it := vl t_api_View (⟨x12, (⟨x6.Rule.Kind, x6.Rule.Columns, x6.Rule.Faulty⟩ : api_Rule)⟩ : api_View) (.agg [.slice a7 x12.length c9, .int .i64 x6.Rule.Kind, .int .i64 x6.Rule.Columns, .int .i64 x6.Rule.Faulty].toArray)) fun ok hA => V_agg (show t_api_View.R ok _ _ _ from ⟨[.slice a7 x12.length c9], [.int .i64 x6.Rule.Kind, .int .i64 x6.Rule.Columns, .int .i64 x6.Rule.Faulty], rfl, (R_one (hA.get 2 rfl)), ⟨[.int .i64 x6.Rule.Kind], [.int .i64 x6.Rule.Columns, .int .i64 x6.Rule.Faulty], rfl, rfl, ⟨[.int .i64 x6.Rule.Columns], [.int .i64 x6.Rule.Faulty], rfl, rfl, rfl⟩⟩⟩) rfl
            have hs := hs.add (it := vl t_api_View (⟨x12, (⟨x6.Rule.Kind, x6.Rule.Columns, x6.Rule.Faulty⟩ : api_Rule)⟩ : api_View) (.agg [.slice a7 x12.length c9, .int .i64 x6.Rule.Kind, .int .i64 x6.Rule.Columns, .int .i64 x6.Rule.Faulty].toArray)) fun ok hA => V_agg (show t_api_View.R ok _ _ _ from ⟨[.slice a7 x12.length c9], [.int .i64 x6.Rule.Kind, .int .i64 x6.Rule.Columns, .int .i64 x6.Rule.Faulty], rfl, (R_one (hA.get 3 rfl)), ⟨[.int .i64 x6.Rule.Kind], [.int .i64 x6.Rule.Columns, .int .i64 x6.Rule.Faulty], rfl, rfl, ⟨[.int .i64 x6.Rule.Columns], [.int .i64 x6.Rule.Faulty], rfl, rfl, rfl⟩⟩⟩) rfl
            have hs := hs.front 1 rfl
            have hs := hs.front 1 rfl
            have hs := hs.front 2 rfl
            exact Jk241 (⟨x12, (⟨x6.Rule.Kind, x6.Rule.Columns, x6.Rule.Faulty⟩ : api_Rule)⟩ : api_View) (⟨x12, (⟨x6.Rule.Kind, x6.Rule.Columns, x6.Rule.Faulty⟩ : api_Rule)⟩ : api_View) g436 [.slice a7 x12.length c9, .int .i64 x6.Rule.Kind, .int .i64 x6.Rule.Columns, .int .i64 x6.Rule.Faulty] g435 [.slice a7 x12.length c9, .int .i64 x6.Rule.Kind, .int .i64 x6.Rule.Columns, .int .i64 x6.Rule.Faulty] _ _ rfl rfl ((hu434 2 rfl).trans h13_2) ((hu434 7 rfl).trans h13_7) rfl rfl ((hs.mask [true, true, true]).pick [4, 1, 0]) hf
          · refine WL.alloc hs ZV26 (fun g436 w hs => ?_)
            refine WL.nil ⟨rfl, _, rfl, ?_⟩
            refine WA.step [0] (by kernel_rfl) (by simp) ⟨?_, trivial⟩
            refine WL.loadN (vs := [.slice a7 x12.length c9, .int .i64 x6.Rule.Kind, .int .i64 x6.Rule.Columns, .int .i64 x6.Rule.Faulty]) hs 2 rfl TI26 ((hu434 7 rfl).trans h13_7) rfl rfl ?_
            refine WL.nil ⟨rfl, _, rfl, ?_⟩
            refine WA.step [4] (by kernel_rfl) (by simp) ⟨?_, trivial⟩
            refine WL.storeAll (vs := [.slice a7 x12.length c9, .int .i64 x6.Rule.Kind, .int .i64 x6.Rule.Columns, .int .i64 x6.Rule.Faulty]) hs 0 rfl TI26 rfl rfl rfl rfl (ones_of rfl) rfl (fun w hs => ?_)
            refine WL.nil ⟨rfl, _, rfl, ?_⟩
            refine WA.step [5] (by kernel_rfl) (by simp) ⟨?_, trivial⟩
            refine WL.storeAll (vs := [.slice a7 x12.length c9, .int .i64 x6.Rule.Kind, .int .i64 x6.Rule.Columns, .int .i64 x6.Rule.Faulty]) hs 1 rfl TI26 rfl rfl rfl rfl (ones_of rfl) rfl (fun w hs => ?_)
            refine WL.nil ⟨rfl, _, rfl, ?_⟩
            refine WA.done (by kernel_rfl) ?_
            have hs := hs.add (it := vl t_api_View (⟨x12, (⟨x6.Rule.Kind, x6.Rule.Columns, x6.Rule.Faulty⟩ : api_Rule)⟩ : api_View) (.agg [.slice a7 x12.length c9, .int .i64 x6.Rule.Kind, .int .i64 x6.Rule.Columns, .int .i64 x6.Rule.Faulty].toArray)) fun ok hA => V_agg (show t_api_View.R ok _ _ _ from ⟨[.slice a7 x12.length c9], [.int .i64 x6.Rule.Kind, .int .i64 x6.Rule.Columns, .int .i64 x6.Rule.Faulty], rfl, (R_one (hA.get 0 rfl)), ⟨[.int .i64 x6.Rule.Kind], [.int .i64 x6.Rule.Columns, .int .i64 x6.Rule.Faulty], rfl, rfl, ⟨[.int .i64 x6.Rule.Columns], [.int .i64 x6.Rule.Faulty], rfl, rfl, rfl⟩⟩⟩) rfl
            have hs := hs.add (it := vl t_api_View (⟨x12, (⟨x6.Rule.Kind, x6.Rule.Columns, x6.Rule.Faulty⟩ : api_Rule)⟩ : api_View) (.agg [.slice a7 x12.length c9, .int .i64 x6.Rule.Kind, .int .i64 x6.Rule.Columns, .int .i64 x6.Rule.Faulty].toArray)) fun ok hA => V_agg (show t_api_View.R ok _ _ _ from ⟨[.slice a7 x12.length c9], [.int .i64 x6.Rule.Kind, .int .i64 x6.Rule.Columns, .int .i64 x6.Rule.Faulty], rfl, (R_one (hA.get 1 rfl)), ⟨[.int .i64 x6.Rule.Kind], [.int .i64 x6.Rule.Columns, .int .i64 x6.Rule.Faulty], rfl, rfl, ⟨[.int .i64 x6.Rule.Columns], [.int .i64 x6.Rule.Faulty], rfl, rfl, rfl⟩⟩⟩) rfl
            have hs := hs.add (it := vl t_api_View (⟨x12, (⟨x6.Rule.Kind, x6.Rule.Columns, x6.Rule.Faulty⟩ : api_Rule)⟩ : api_View) (.agg [.slice a7 x12.length c9, .int .i64 x6.Rule.Kind, .int .i64 x6.Rule.Columns, .int .i64 x6.Rule.Faulty].toArray)) fun ok hA => V_agg (show t_api_View.R ok _ _ _ from ⟨[.slice a7 x12.length c9], [.int .i64 x6.Rule.Kind, .int .i64 x6.Rule.Columns, .int .i64 x6.Rule.Faulty], rfl, (R_one (hA.get 2 rfl)), ⟨[.int .i64 x6.Rule.Kind], [.int .i64 x6.Rule.Columns, .int .i64 x6.Rule.Faulty], rfl, rfl, ⟨[.int .i64 x6.Rule.Columns], [.int .i64 x6.Rule.Faulty], rfl, rfl, rfl⟩⟩⟩) rfl
            have hs := hs.add (it := vl t_api_View (⟨x12, (⟨x6.Rule.Kind, x6.Rule.Columns, x6.Rule.Faulty⟩ : api_Rule)⟩ : api_View) (.agg [.slice a7 x12.length c9, .int .i64 x6.Rule.Kind, .int .i64 x6.Rule.Columns, .int .i64 x6.Rule.Faulty].toArray)) fun ok hA => V_agg (show t_api_View.R ok _ _ _ from ⟨[.slice a7 x12.length c9], [.int .i64 x6.Rule.Kind, .int .i64 x6.Rule.Columns, .int .i64 x6.Rule.Faulty], rfl, (R_one (hA.get 3 rfl)), ⟨[.int .i64 x6.Rule.Kind], [.int .i64 x6.Rule.Columns, .int .i64 x6.Rule.Faulty], rfl, rfl, ⟨[.int .i64 x6.Rule.Columns], [.int .i64 x6.Rule.Faulty], rfl, rfl, rfl⟩⟩⟩) rfl
            have hs := hs.front 1 rfl
            have hs := hs.front 1 rfl
            have hs := hs.front 2 rfl
            exact Jk241 (⟨x12, (⟨x6.Rule.Kind, x6.Rule.Columns, x6.Rule.Faulty⟩ : api_Rule)⟩ : api_View) (⟨x12, (⟨x6.Rule.Kind, x6.Rule.Columns, x6.Rule.Faulty⟩ : api_Rule)⟩ : api_View) g436 [.slice a7 x12.length c9, .int .i64 x6.Rule.Kind, .int .i64 x6.Rule.Columns, .int .i64 x6.Rule.Faulty] g435 [.slice a7 x12.length c9, .int .i64 x6.Rule.Kind, .int .i64 x6.Rule.Columns, .int .i64 x6.Rule.Faulty] _ _ rfl rfl ((hu434 2 rfl).trans h13_2) ((hu434 7 rfl).trans h13_7) rfl rfl ((hs.mask [true, true, true]).pick [4, 1, 0]) hf
        · refine WL.alloc hs ZV26 (fun g436 w hs => ?_)
          refine WL.nil ⟨rfl, _, rfl, ?_⟩
          refine WA.step [0, 1] (by kernel_rfl) (by simp) ⟨?_, ?_, trivial⟩
          · refine WL.loadN (vs := [.slice a7 x12.length c9, .int .i64 x6.Rule.Kind, .int .i64 x6.Rule.Columns, .int .i64 x6.Rule.Faulty]) hs 2 rfl TI26 ((hu434 7 rfl).trans h13_7) rfl rfl ?_
            refine WL.nil ⟨rfl, _, rfl, ?_⟩
            refine WA.step [1, 4] (by kernel_rfl) (by simp) ⟨?_, ?_, trivial⟩
            · refine WL.loadN (vs := [.slice a7 x12.length c9, .int .i64 x6.Rule.Kind, .int .i64 x6.Rule.Columns, .int .i64 x6.Rule.Faulty]) hs 2 rfl TI26 ((hu434 7 rfl).trans h13_7) rfl rfl ?_
              refine WL.nil ⟨rfl, _, rfl, ?_⟩
              refine WA.step [4] (by kernel_rfl) (by simp) ⟨?_, trivial⟩
              refine WL.storeAll (vs := [.slice a7 x12.length c9, .int .i64 x6.Rule.Kind, .int .i64 x6.Rule.Columns, .int .i64 x6.Rule.Faulty]) hs 0 rfl TI26 rfl rfl rfl rfl (ones_of rfl) rfl (fun w hs => ?_)
              refine WL.nil ⟨rfl, _, rfl, ?_⟩
              refine WA.step [5] (by kernel_rfl) (by simp) ⟨?_, trivial⟩
              refine WL.storeAll (vs := [.slice a7 x12.length c9, .int .i64 x6.Rule.Kind, .int .i64 x6.Rule.Columns, .int .i64 x6.Rule.Faulty]) hs 1 rfl TI26 rfl rfl rfl rfl (ones_of rfl) rfl (fun w hs => ?_)
              refine WL.nil ⟨rfl, _, rfl, ?_⟩
              refine WA.done (by kernel_rfl) ?_
              have hs := hs.add (it := vl t_api_View (⟨x12, (⟨x6.Rule.Kind, x6.Rule.Columns, x6.Rule.Faulty⟩ : api_Rule)⟩ : api_View) (.agg [.slice a7 x12.length c9, .int .i64 x6.Rule.Kind, .int .i64 x6.Rule.Columns, .int .i64 x6.Rule.Faulty].toArray)) fun ok hA => V_agg (show t_api_View.R ok _ _ _ from ⟨[.slice a7 x12.length c9], [.int .i64 x6.Rule.Kind, .int .i64 x6.Rule.Columns, .int .i64 x6.Rule.Faulty], rfl, (R_one (hA.get 0 rfl)), ⟨[.int .i64 x6.Rule.Kind], [.int .i64 x6.Rule.Columns, .int .i64 x6.Rule.Faulty], rfl, rfl, ⟨[.int .i64 x6.Rule.Columns], [.int .i64 x6.Rule.Faulty], rfl, rfl, rfl⟩⟩⟩) rfl
              have hs := hs.add (it := vl t_api_View (⟨x12, (⟨x6.Rule.Kind, x6.Rule.Columns, x6.Rule.Faulty⟩ : api_Rule)⟩ : api_View) (.agg [.slice a7 x12.length c9, .int .i64 x6.Rule.Kind, .int .i64 x6.Rule.Columns, .int .i64 x6.Rule.Faulty].toArray)) fun ok hA => V_agg (show t_api_View.R ok _ _ _ from ⟨[.slice a7 x12.length c9], [.int .i64 x6.Rule.Kind, .int .i64 x6.Rule.Columns, .int .i64 x6.Rule.Faulty], rfl, (R_one (hA.get 1 rfl)), ⟨[.int .i64 x6.Rule.Kind], [.int .i64 x6.Rule.Columns, .int .i64 x6.Rule.Faulty], rfl, rfl, ⟨[.int .i64 x6.Rule.Columns], [.int .i64 x6.Rule.Faulty], rfl, rfl, rfl⟩⟩⟩) rfl
              have hs := hs.add (it := vl t_api_View (⟨x12, (⟨x6.Rule.Kind, x6.Rule.Columns, x6.Rule.Faulty⟩ : api_Rule)⟩ : api_View) (.agg [.slice a7 x12.length c9, .int .i64 x6.Rule.Kind, .int .i64 x6.Rule.Columns, .int .i64 x6.Rule.Faulty].toArray)) fun ok hA => V_agg (show t_api_View.R ok _ _ _ from ⟨[.slice a7 x12.length c9], [.int .i64 x6.Rule.Kind, .int .i64 x6.Rule.Columns, .int .i64 x6.Rule.Faulty], rfl, (R_one (hA.get 2 rfl)), ⟨[.int .i64 x6.Rule.Kind], [.int .i64 x6.Rule.Columns, .int .i64 x6.Rule.Faulty], rfl, rfl, ⟨[.int .i64 x6.Rule.Columns], [.int .i64 x6.Rule.Faulty], rfl, rfl, rfl⟩⟩⟩) rfl
              have hs := hs.add (it := vl t_api_View (⟨x12, (⟨x6.Rule.Kind, x6.Rule.Columns, x6.Rule.Faulty⟩ : api_Rule)⟩ : api_View) (.agg [.slice a7 x12.length c9, .int .i64 x6.Rule.Kind, .int .i64 x6.Rule.Columns, .int .i64 x6.Rule.Faulty].toArray)) fun ok hA => V_agg (show t_api_View.R ok _ _ _ from ⟨[.slice a7 x12.length c9], [.int .i64 x6.Rule.Kind, .int .i64 x6.Rule.Columns, .int .i64 x6.Rule.Faulty], rfl, (R_one (hA.get 3 rfl)), ⟨[.int .i64 x6.Rule.Kind], [.int .i64 x6.Rule.Columns, .int .i64 x6.Rule.Faulty], rfl, rfl, ⟨[.int .i64 x6.Rule.Columns], [.int .i64 x6.Rule.Faulty], rfl, rfl, rfl⟩⟩⟩) rfl
              have hs := hs.front 1 rfl
              have hs := hs.front 1 rfl
              have hs := hs.front 2 rfl
              exact Jk241 (⟨x12, (⟨x6.Rule.Kind, x6.Rule.Columns, x6.Rule.Faulty⟩ : api_Rule)⟩ : api_View) (⟨x12, (⟨x6.Rule.Kind, x6.Rule.Columns, x6.Rule.Faulty⟩ : api_Rule)⟩ : api_View) g436 [.slice a7 x12.length c9, .int .i64 x6.Rule.Kind, .int .i64 x6.Rule.Columns, .int .i64 x6.Rule.Faulty] g435 [.slice a7 x12.length c9, .int .i64 x6.Rule.Kind, .int .i64 x6.Rule.Columns, .int .i64 x6.Rule.Faulty] _ _ rfl rfl ((hu434 2 rfl).trans h13_2) ((hu434 7 rfl).trans h13_7) rfl rfl ((hs.mask [true, true, true]).pick [4, 1, 0]) hf
            · refine WL.storeAll (vs := [.slice a7 x12.length c9, .int .i64 x6.Rule.Kind, .int .i64 x6.Rule.Columns, .int .i64 x6.Rule.Faulty]) hs 0 rfl TI26 rfl rfl rfl rfl (ones_of rfl) rfl (fun w hs => ?_)
              refine WL.nil ⟨rfl, _, rfl, ?_⟩
              refine WA.step [1] (by kernel_rfl) (by simp) ⟨?_, trivial⟩
              refine WL.loadN (vs := [.slice a7 x12.length c9, .int .i64 x6.Rule.Kind, .int .i64 x6.Rule.Columns, .int .i64 x6.Rule.Faulty]) hs 2 rfl TI26 ((hu434 7 rfl).trans h13_7) rfl rfl ?_
              refine WL.nil ⟨rfl, _, rfl, ?_⟩
              refine WA.step [5] (by kernel_rfl) (by simp) ⟨?_, trivial⟩
              refine WL.storeAll (vs := [.slice a7 x12.length c9, .int .i64 x6.Rule.Kind, .int .i64 x6.Rule.Columns, .int .i64 x6.Rule.Faulty]) hs 1 rfl TI26 rfl rfl rfl rfl (ones_of rfl) rfl (fun w hs => ?_)
              refine WL.nil ⟨rfl, _, rfl, ?_⟩
              refine WA.done (by kernel_rfl) ?_
              have hs := hs.add (it := vl t_api_View (⟨x12, (⟨x6.Rule.Kind, x6.Rule.Columns, x6.Rule.Faulty⟩ : api_Rule)⟩ : api_View) (.agg [.slice a7 x12.length c9, .int .i64 x6.Rule.Kind, .int .i64 x6.Rule.Columns, .int .i64 x6.Rule.Faulty].toArray)) fun ok hA => V_agg (show t_api_View.R ok _ _ _ from ⟨[.slice a7 x12.length c9], [.int .i64 x6.Rule.Kind, .int .i64 x6.Rule.Columns, .int .i64 x6.Rule.Faulty], rfl, (R_one (hA.get 0 rfl)), ⟨[.int .i64 x6.Rule.Kind], [.int .i64 x6.Rule.Columns, .int .i64 x6.Rule.Faulty], rfl, rfl, ⟨[.int .i64 x6.Rule.Columns], [.int .i64 x6.Rule.Faulty], rfl, rfl, rfl⟩⟩⟩) rfl
              have hs := hs.add (it := vl t_api_View (⟨x12, (⟨x6.Rule.Kind, x6.Rule.Columns, x6.Rule.Faulty⟩ : api_Rule)⟩ : api_View) (.agg [.slice a7 x12.length c9, .int .i64 x6.Rule.Kind, .int .i64 x6.Rule.Columns, .int .i64 x6.Rule.Faulty].toArray)) fun ok hA => V_agg (show t_api_View.R ok _ _ _ from ⟨[.slice a7 x12.length c9], [.int .i64 x6.Rule.Kind, .int .i64 x6.Rule.Columns, .int .i64 x6.Rule.Faulty], rfl, (R_one (hA.get 1 rfl)), ⟨[.int .i64 x6.Rule.Kind], [.int .i64 x6.Rule.Columns, .int .i64 x6.Rule.Faulty], rfl, rfl, ⟨[.int .i64 x6.Rule.Columns], [.int .i64 x6.Rule.Faulty], rfl, rfl, rfl⟩⟩⟩) rfl
              have hs := hs.add (it := vl t_api_View (⟨x12, (⟨x6.Rule.Kind, x6.Rule.Columns, x6.Rule.Faulty⟩ : api_Rule)⟩ : api_View) (.agg [.slice a7 x12.length c9, .int .i64 x6.Rule.Kind, .int .i64 x6.Rule.Columns, .int .i64 x6.Rule.Faulty].toArray)) fun ok hA => V_agg (show t_api_View.R ok _ _ _ from ⟨[.slice a7 x12.length c9], [.int .i64 x6.Rule.Kind, .int .i64 x6.Rule.Columns, .int .i64 x6.Rule.Faulty], rfl, (R_one (hA.get 2 rfl)), ⟨[.int .i64 x6.Rule.Kind], [.int .i64 x6.Rule.Columns, .int .i64 x6.Rule.Faulty], rfl, rfl, ⟨[.int .i64 x6.Rule.Columns], [.int .i64 x6.Rule.Faulty], rfl, rfl, rfl⟩⟩⟩) rfl
              have hs := hs.add (it := vl t_api_View (⟨x12, (⟨x6.Rule.Kind, x6.Rule.Columns, x6.Rule.Faulty⟩ : api_Rule)⟩ : api_View) (.agg [.slice a7 x12.length c9, .int .i64 x6.Rule.Kind, .int .i64 x6.Rule.Columns, .int .i64 x6.Rule.Faulty].toArray)) fun ok hA => V_agg (show t_api_View.R ok _ _ _ from ⟨[.slice a7 x12.length c9], [.int .i64 x6.Rule.Kind, .int .i64 x6.Rule.Columns, .int .i64 x6.Rule.Faulty], rfl, (R_one (hA.get 3 rfl)), ⟨[.int .i64 x6.Rule.Kind], [.int .i64 x6.Rule.Columns, .int .i64 x6.Rule.Faulty], rfl, rfl, ⟨[.int .i64 x6.Rule.Columns], [.int .i64 x6.Rule.Faulty], rfl, rfl, rfl⟩⟩⟩) rfl
              have hs := hs.front 1 rfl
              have hs := hs.front 1 rfl
              have hs := hs.front 2 rfl
              exact Jk241 (⟨x12, (⟨x6.Rule.Kind, x6.Rule.Columns, x6.Rule.Faulty⟩ : api_Rule)⟩ : api_View) (⟨x12, (⟨x6.Rule.Kind, x6.Rule.Columns, x6.Rule.Faulty⟩ : api_Rule)⟩ : api_View) g436 [.slice a7 x12.length c9, .int .i64 x6.Rule.Kind, .int .i64 x6.Rule.Columns, .int .i64 x6.Rule.Faulty] g435 [.slice a7 x12.length c9, .int .i64 x6.Rule.Kind, .int .i64 x6.Rule.Columns, .int .i64 x6.Rule.Faulty] _ _ rfl rfl ((hu434 2 rfl).trans h13_2) ((hu434 7 rfl).trans h13_7) rfl rfl ((hs.mask [true, true, true]).pick [4, 1, 0]) hf
          · refine WL.loadN (vs := [.slice a7 x12.length c9, .int .i64 x6.Rule.Kind, .int .i64 x6.Rule.Columns, .int .i64 x6.Rule.Faulty]) hs 2 rfl TI26 ((hu434 7 rfl).trans h13_7) rfl rfl ?_
            refine WL.nil ⟨rfl, _, rfl, ?_⟩
            refine WA.step [0] (by kernel_rfl) (by simp) ⟨?_, trivial⟩
            refine WL.loadN (vs := [.slice a7 x12.length c9, .int .i64 x6.Rule.Kind, .int .i64 x6.Rule.Columns, .int .i64 x6.Rule.Faulty]) hs 2 rfl TI26 ((hu434 7 rfl).trans h13_7) rfl rfl ?_
            refine WL.nil ⟨rfl, _, rfl, ?_⟩
            refine WA.step [4] (by kernel_rfl) (by simp) ⟨?_, trivial⟩
            refine WL.storeAll (vs := [.slice a7 x12.length c9, .int .i64 x6.Rule.Kind, .int .i64 x6.Rule.Columns, .int .i64 x6.Rule.Faulty]) hs 0 rfl TI26 rfl rfl rfl rfl (ones_of rfl) rfl (fun w hs => ?_)
            refine WL.nil ⟨rfl, _, rfl, ?_⟩
            refine WA.step [5] (by kernel_rfl) (by simp) ⟨?_, trivial⟩
            refine WL.storeAll (vs := [.slice a7 x12.length c9, .int .i64 x6.Rule.Kind, .int .i64 x6.Rule.Columns, .int .i64 x6.Rule.Faulty]) hs 1 rfl TI26 rfl rfl rfl rfl (ones_of rfl) rfl (fun w hs => ?_)
            refine WL.nil ⟨rfl, _, rfl, ?_⟩
            refine WA.done (by kernel_rfl) ?_
            have hs := hs.add (it := vl t_api_View (⟨x12, (⟨x6.Rule.Kind, x6.Rule.Columns, x6.Rule.Faulty⟩ : api_Rule)⟩ : api_View) (.agg [.slice a7 x12.length c9, .int .i64 x6.Rule.Kind, .int .i64 x6.Rule.Columns, .int .i64 x6.Rule.Faulty].toArray)) fun ok hA => V_agg (show t_api_View.R ok _ _ _ from ⟨[.slice a7 x12.length c9], [.int .i64 x6.Rule.Kind, .int .i64 x6.Rule.Columns, .int .i64 x6.Rule.Faulty], rfl, (R_one (hA.get 0 rfl)), ⟨[.int .i64 x6.Rule.Kind], [.int .i64 x6.Rule.Columns, .int .i64 x6.Rule.Faulty], rfl, rfl, ⟨[.int .i64 x6.Rule.Columns], [.int .i64 x6.Rule.Faulty], rfl, rfl, rfl⟩⟩⟩) rfl
            have hs := hs.add (it := vl t_api_View (⟨x12, (⟨x6.Rule.Kind, x6.Rule.Columns, x6.Rule.Faulty⟩ : api_Rule)⟩ : api_View) (.agg [.slice a7 x12.length c9, .int .i64 x6.Rule.Kind, .int .i64 x6.Rule.Columns, .int .i64 x6.Rule.Faulty].toArray)) fun ok hA => V_agg (show t_api_View.R ok _ _ _ from ⟨[.slice a7 x12.length c9], [.int .i64 x6.Rule.Kind, .int .i64 x6.Rule.Columns, .int .i64 x6.Rule.Faulty], rfl, (R_one (hA.get 1 rfl)), ⟨[.int .i64 x6.Rule.Kind], [.int .i64 x6.Rule.Columns, .int .i64 x6.Rule.Faulty], rfl, rfl, ⟨[.int .i64 x6.Rule.Columns], [.int .i64 x6.Rule.Faulty], rfl, rfl, rfl⟩⟩⟩) rfl
            have hs := hs.add (it := vl t_api_View (⟨x12, (⟨x6.Rule.Kind, x6.Rule.Columns, x6.Rule.Faulty⟩ : api_Rule)⟩ : api_View) (.agg [.slice a7 x12.length c9, .int .i64 x6.Rule.Kind, .int .i64 x6.Rule.Columns, .int .i64 x6.Rule.Faulty].toArray)) fun ok hA => V_agg (show t_api_View.R ok _ _ _ from ⟨[.slice a7 x12.length c9], [.int .i64 x6.Rule.Kind, .int .i64 x6.Rule.Columns, .int .i64 x6.Rule.Faulty], rfl, (R_one (hA.get 2 rfl)), ⟨[.int .i64 x6.Rule.Kind], [.int .i64 x6.Rule.Columns, .int .i64 x6.Rule.Faulty], rfl, rfl, ⟨[.int .i64 x6.Rule.Columns], [.int .i64 x6.Rule.Faulty], rfl, rfl, rfl⟩⟩⟩) rfl
            have hs := hs.add (it := vl t_api_View (⟨x12, (⟨x6.Rule.Kind, x6.Rule.Columns, x6.Rule.Faulty⟩ : api_Rule)⟩ : api_View) (.agg [.slice a7 x12.length c9, .int .i64 x6.Rule.Kind, .int .i64 x6.Rule.Columns, .int .i64 x6.Rule.Faulty].toArray)) fun ok hA => V_agg (show t_api_View.R ok _ _ _ from ⟨[.slice a7 x12.length c9], [.int .i64 x6.Rule.Kind, .int .i64 x6.Rule.Columns, .int .i64 x6.Rule.Faulty], rfl, (R_one (hA.get 3 rfl)), ⟨[.int .i64 x6.Rule.Kind], [.int .i64 x6.Rule.Columns, .int .i64 x6.Rule.Faulty], rfl, rfl, ⟨[.int .i64 x6.Rule.Columns], [.int .i64 x6.Rule.Faulty], rfl, rfl, rfl⟩⟩⟩) rfl
            have hs := hs.front 1 rfl
            have hs := hs.front 1 rfl
            have hs := hs.front 2 rfl
            exact Jk241 (⟨x12, (⟨x6.Rule.Kind, x6.Rule.Columns, x6.Rule.Faulty⟩ : api_Rule)⟩ : api_View) (⟨x12, (⟨x6.Rule.Kind, x6.Rule.Columns, x6.Rule.Faulty⟩ : api_Rule)⟩ : api_View) g436 [.slice a7 x12.length c9, .int .i64 x6.Rule.Kind, .int .i64 x6.Rule.Columns, .int .i64 x6.Rule.Faulty] g435 [.slice a7 x12.length c9, .int .i64 x6.Rule.Kind, .int .i64 x6.Rule.Columns, .int .i64 x6.Rule.Faulty] _ _ rfl rfl ((hu434 2 rfl).trans h13_2) ((hu434 7 rfl).trans h13_7) rfl rfl ((hs.mask [true, true, true]).pick [4, 1, 0]) hf
  refine W.seqK fun K437 hK437 => ?_
  refine W.region ?_
  refine WL.assign (v := .int .i64 0) rfl ?_
  refine WL.nil ?_
  refine hK437 _ _ ?_
  refine W.block ?_
  obtain ⟨bs441, hbs441, hfs441⟩ := bindE hf
  refine W.loop hbs441 (fun s ρ w => match s with | (x438, x440) => ρ 1 = .int .i64 x2 ∧ ρ 2 = .int .i64 x3 ∧ ρ 7 = .pointer (some ⟨g10, 0, none⟩) ∧ ρ 8 = .int .i64 x440 ∧ St ok (bz w0) w [] [blk g10 26 [.slice a7 n8 c9, .int .i64 x6.Rule.Kind, .int .i64 x6.Rule.Columns, .int .i64 x6.Rule.Faulty], own t_api_Member 44 (.slice a7 n8 c9) x438]) ⟨rfl, rfl, rfl, rfl, (hs.mask [true, true]).pick []⟩ ?_
  intro s ρ w os441 hI hf hbbs441
  obtain ⟨x438, x440⟩ := s
  obtain ⟨h439_1, h439_2, h439_7, h439_8, hs⟩ := hI
  unfold eslaw04_QuorumWeights.l1 at hf
  refine W.seqK fun K442 hK442 => ?_
  refine W.seqK fun K443 hK443 => ?_
  refine W.region ?_
  refine WL.move (v := .int .i64 x440) h439_8 ?_
  refine WL.fieldAddr (m := 0) h439_7 FA26_0 rfl ?_
  refine WL.load1 (v := .slice a7 n8 c9) hs 0 rfl TI24 rfl rfl ?_
  refine WL.len (v := .slice a7 n8 c9) rfl (len_own hs 1 rfl UN24) ?_
  refine WL.bin (v := .bool (decide (x440 < (x438.length : Int)))) rfl rfl (ib_lss _ _ _) ?_
  refine WL.nil ?_
  refine hK443 _ _ ?_
  rcases iteE hf with ⟨hc444, hf⟩ | ⟨hc444, hf⟩
  · refine W.cond_true (bool_tr rfl hc444) ?_
    refine W.skip ?_
    refine hK442 _ _ ?_
    refine W.seqK fun K445 hK445 => ?_
    refine W.block ?_
    obtain ⟨x498, hxx498, hf⟩ := bindE hf
    obtain ⟨x499, ex499, hf⟩ := letE hf
    refine W.any (by kernel_rfl) 6 3 [true, true, true, true, true, true, false, false, false] rfl rfl (poAt [pv (.pointer (some ⟨g10, 0, none⟩)), pv (.slice a7 n8 c9), pv (.int .i64 x440), pv (.int .i64 x2), pv (.int .i64 x498), pv (.int .i64 x499)]) (Λ := [blk g10 26 [.slice a7 n8 c9, .int .i64 x6.Rule.Kind, .int .i64 x6.Rule.Columns, .int .i64 x6.Rule.Faulty], own t_api_Member 44 (.slice a7 n8 c9) x438]) hs (by kernel_rfl) (by kernel_rfl) (by kernel_rfl) ⟨⟨⟨⟨⟨⟨trivial, ?_⟩, ?_⟩, ?_⟩, ?_⟩, ?_⟩, ?_⟩ ?_
    · intro ρ w Γx Λx hs hu hp
      refine WL.fieldAddr (m := 0) ((hu 7 rfl).trans h439_7) FA26_0 rfl ?_
      exact WL.nil ⟨rfl, _, rfl, rfl, hs.cutG 0 0⟩
    · intro ρ w Γx Λx hs hu hp
      have e500 : ρ 22 = .pointer (some ⟨g10, 0, none⟩) := (hp 0 rfl).1
      refine WL.load1 (v := .slice a7 n8 c9) hs (Λx.length + 0) (getApp rfl) TI24 e500 rfl ?_
      exact WL.nil ⟨rfl, _, rfl, rfl, hs.cutG 0 0⟩
    · intro ρ w Γx Λx hs hu hp
      refine WL.move (v := .int .i64 x440) ((hu 8 rfl).trans h439_8) ?_
      exact WL.nil ⟨rfl, _, rfl, rfl, hs.cutG 0 0⟩
    · intro ρ w Γx Λx hs hu hp
      refine WL.move (v := .int .i64 x2) ((hu 1 rfl).trans h439_1) ?_
      exact WL.nil ⟨rfl, _, rfl, rfl, hs.cutG 0 0⟩
    · intro ρ w Γx Λx hs hu hp
      have e501 : ρ 25 = .int .i64 x2 := (hp 3 rfl).1
      refine WL.call (vs := [.int .i64 x2, .int .i64 9]) hs FN30 ⟨e501, ⟨rfl, trivial⟩⟩ (fun ok hA => eslaw00_Index.calls (x1 := x2) (x2 := 9) hxx498) ?_
      rintro _ w hs
      exact WL.nil ⟨rfl, _, rfl, rfl, hs.cutG 0 0⟩
    · intro ρ w Γx Λx hs hu hp
      have e502 : ρ 26 = .int .i64 x498 := (hp 4 rfl).1
      refine WL.bin (v := .int .i64 x499) rfl e502 (ib_as ex499 (ib_add _ _ _)) ?_
      exact WL.nil ⟨rfl, _, rfl, rfl, hs.cutG 0 0⟩
    · intro ρ w hs hu503 hp
      obtain ⟨⟨⟨⟨⟨⟨_, hp0_⟩, hp1_⟩, hp2_⟩, hp3_⟩, hp4_⟩, hp5_⟩ := hp
      have hs : St ok (bz w0) w [] [blk g10 26 [.slice a7 n8 c9, .int .i64 x6.Rule.Kind, .int .i64 x6.Rule.Columns, .int .i64 x6.Rule.Faulty], own t_api_Member 44 (.slice a7 n8 c9) x438] := hs
      have e504 : ρ 27 = .int .i64 x499 := hp5_
      have e505 : ρ 26 = .int .i64 x498 := hp4_
      have e506 : ρ 25 = .int .i64 x2 := hp3_
      have e507 : ρ 24 = .int .i64 x440 := hp2_
      have e508 : ρ 23 = .slice a7 n8 c9 := hp1_
      have e509 : ρ 22 = .pointer (some ⟨g10, 0, none⟩) := hp0_
      refine WA.step [6] (by kernel_rfl) (by simp) ⟨?_, trivial⟩
      obtain ⟨x510, hxx510, hf⟩ := bindE hf
      refine WL.indexAddrO hs 1 rfl UN24 TI44 e508 e507 hxx510 (fun ad511 hatad511 => ?_)
      refine WL.nil ⟨rfl, _, rfl, ?_⟩
      refine WA.step [7] (by kernel_rfl) (by simp) ⟨?_, trivial⟩
      refine WL.fieldAddrO (OwnAt.f hatad511) rfl FA44_1 rfl (fun ad512 hatad512 => ?_)
      refine WL.nil ⟨rfl, _, rfl, ?_⟩
      refine WA.step [8] (by kernel_rfl) (by simp) ⟨?_, trivial⟩
      obtain ⟨x513, exx513, hf⟩ := letE hf
      refine WL.storeOF (z := x499) (vs := [.int .i64 x499]) (zs := x513) F_api_Member_Weight hs 1 rfl TI3 hatad512 hxx510 rfl e504 rfl (fun ok hA => rfl) exx513 (fun w hs => ?_)
      refine WL.nil ⟨rfl, _, rfl, ?_⟩
      refine WA.done (by kernel_rfl) ?_
      refine hK445 _ _ ?_
      refine W.region ?_
      refine WL.move (v := .int .i64 x440) ((hu503 8 rfl).trans h439_8) ?_
      obtain ⟨x514, ex514, hf⟩ := letE hf
      refine WL.bin (v := .int .i64 x514) rfl rfl (ib_as ex514 (ib_add _ _ _)) ?_
      refine WL.assign (v := .int .i64 x514) rfl ?_
      refine WL.nil ?_
      exact ⟨_, (Option.some.inj hf).symm, ((hu503 1 rfl).trans h439_1), ((hu503 2 rfl).trans h439_2), ((hu503 7 rfl).trans h439_7), rfl, (hs.mask [true, true]).pick []⟩
  · refine W.cond_false (bool_tr rfl hc444) ?_
    refine W.exit ?_
    have hr := Option.some.inj hf; subst hr
    have hr := hbbs441 _ rfl; subst hr
    have hf := hfs441
    exact Jk14 x438 _ _ h439_2 h439_7 ((hs.mask [true, true]).pick []) hf
end Go.Proofs.Ytodebgfppmcjlaa
