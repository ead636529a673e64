import Derived.Test.YtodebgfppmcjlaaFh
import Derived.Test.YtodebgfppmcjlaaLv
import Derived.Test.YtodebgfppmcjlaaFp0
import Derived.Test.YtodebgfppmcjlaaFp3
import Derived.Test.YtodebgfppmcjlaaFp4
import Derived.Test.YtodebgfppmcjlaaFp7
import Derived.Test.YtodebgfppmcjlaaFp9
set_option linter.unusedVariables false
set_option linter.unusedSimpArgs false
namespace Go.Proofs.Ytodebgfppmcjlaa
open Go Go.RowKit Go.Proofs.YtodebgfppmcjlaaL
set_option maxRecDepth 100000
set_option maxHeartbeats 4000000
/-! elasticstore/elasticstorelaw04.QuorumMonotone: function 6 -/
theorem eslaw04_QuorumMonotone.calls {ok : Nat → Prop} {w0 : World} {x1 : Int} {x2 : Int} {x3 : List Int} {x6 : List Int} {a4 : Option Addr} {c5 : Nat} {a7 : Option Addr} {c8 : Nat} {r : Bool} (hf : eslaw04_QuorumMonotone x1 x2 x3 x6 = some r) (i0 : (vl (tSlice (tInt .i64)) x3 (.slice a4 x3.length c5)).holds ok w0) (i1 : (vl (tSlice (tInt .i64)) x6 (.slice a7 x6.length c8)).holds ok w0) :
    Calls Try.prog 6 #[.int .i64 x1, .int .i64 x2, .slice a4 x3.length c5, .slice a7 x6.length c8] w0 fun e w' => ∃ v, e = .returned v ∧ ∃ y : Unit, v = .bool r ∧ St ok (bz w0) w' [] [] := by
  unfold eslaw04_QuorumMonotone at hf
  refine calls_of_W (fn := Try.f6) (N := 94) Try.func6 rfl Try.ntmps6 rfl ?_
  have hs : St ok (bz w0) w0 [vl (tSlice (tInt .i64)) x3 (.slice a4 x3.length c5), vl (tSlice (tInt .i64)) x6 (.slice a7 x6.length c8)] [] := St.init (All.cons i0 (All.cons i1 All.nil))
  clear i0 i1
  refine W.seqK fun K9 hK9 => ?_
  refine W.region ?_
  refine WL.assign (v := .bool false) rfl ?_
  refine WL.nil ?_
  refine hK9 _ _ ?_
  refine W.seqK fun K10 hK10 => ?_
  refine W.seqK fun K11 hK11 => ?_
  have Jk14 : ∀ (x13 : Bool) (ρ : Env) (w : World), ρ 0 = .int .i64 x1 → ρ 1 = .int .i64 x2 → ρ 2 = .slice a4 x3.length c5 → ρ 3 = .slice a7 x6.length c8 → ρ 24 = .bool x13 → St ok (bz w0) w [vl (tSlice (tInt .i64)) x3 (.slice a4 x3.length c5), vl (tSlice (tInt .i64)) x6 (.slice a7 x6.length c8)] [] → eslaw04_QuorumMonotone.j7 x1 x2 x3 x6 x13 = some r → K11 ρ w := by
    intro x13 ρ w h12_0 h12_1 h12_2 h12_3 h12_24 hs hf
    refine hK11 _ _ ?_
    unfold eslaw04_QuorumMonotone.j7 at hf
    rcases iteE hf with ⟨hc15, hf⟩ | ⟨hc15, hf⟩
    · refine W.cond_true (bool_tr h12_24 hc15) ?_
      refine W.seqK fun K16 hK16 => ?_
      refine W.region ?_
      obtain ⟨x17, hxx17, hf⟩ := bindE hf
      refine WL.call (vs := []) hs FN11 trivial (fun ok hA => eslaw04_awake.calls hxx17) ?_
      rintro _ w hs
      refine WL.assign (v := .bool x17) rfl ?_
      refine WL.nil ?_
      refine hK16 _ _ ?_
      refine W.ret ?_
      have hr := Option.some.inj hf; subst hr
      exact ⟨_, resOk_one rfl rfl, (), rfl, (hs.mask []).pick []⟩
    · refine W.cond_false (bool_tr h12_24 hc15) ?_
      refine W.skip ?_
      refine hK10 _ _ ?_
      refine W.seqK fun K18 hK18 => ?_
      refine W.region ?_
      refine WL.move (v := .int .i64 x1) h12_0 ?_
      refine WL.move (v := .int .i64 x2) h12_1 ?_
      obtain ⟨x19, hxx19, hf⟩ := bindE hf
      refine WL.call (vs := [.int .i64 x1, .int .i64 x2]) hs FN22 ⟨rfl, ⟨rfl, trivial⟩⟩ (fun ok hA => eslaw04_view.calls (x1 := x1) (x2 := x2) hxx19) ?_
      rintro ⟨a20, n21, c22⟩ w hs
      refine WL.alloc hs ZV26 (fun g23 w hs => ?_)
      refine WL.storeAll (vs := [.slice a20 n21 c22, .int .i64 x19.Rule.Kind, .int .i64 x19.Rule.Columns, .int .i64 x19.Rule.Faulty]) hs 0 rfl TI26 rfl rfl rfl rfl (ones_of rfl) rfl (fun w hs => ?_)
      refine WL.nil ?_
      refine hK18 _ _ ?_
      refine W.seqK fun K24 hK24 => ?_
      refine W.region ?_
      refine WL.buildSlice0 hs UN33 TI3 (fun a25 w hs => ?_)
      refine WL.move (v := .slice a4 x3.length c5) h12_2 ?_
      have hs := hs.ownEmpty (tInt .i64) 3 a25
      obtain ⟨x26, hxx26, hf⟩ := bindE hf
      obtain ⟨hbx26, hex26⟩ := appE hxx26
      refine WL.appendS (zs := x26) hs 0 rfl 0 rfl UN33 UN33 EI3 rfl rfl hbx26 (by omega) hex26 (fun v27 w hs => ?_)
      obtain ⟨a28, n30, c29, rfl⟩ := hs.ownv3 0 rfl
      refine WL.move (v := .slice a7 x6.length c8) h12_3 ?_
      obtain ⟨x31, hxx31, hf⟩ := bindE hf
      obtain ⟨hbx31, hex31⟩ := appE hxx31
      refine WL.appendS (zs := x31) hs 0 rfl 1 rfl UN33 UN33 EI3 rfl rfl hbx31 (by omega) hex31 (fun v32 w hs => ?_)
      obtain ⟨a33, n35, c34, rfl⟩ := hs.ownv3 0 rfl
      refine WL.assign (v := .slice a33 n35 c34) rfl ?_
      refine WL.nil ?_
      refine hK24 _ _ ?_
      refine W.seqK fun K36 hK36 => ?_
      refine W.region ?_
      refine WL.loadN (vs := [.slice a20 n21 c22, .int .i64 x19.Rule.Kind, .int .i64 x19.Rule.Columns, .int .i64 x19.Rule.Faulty]) hs 1 rfl TI26 rfl rfl rfl ?_
      refine WL.move (v := .slice a4 x3.length c5) h12_2 ?_
      obtain ⟨x37, hxx37, hf⟩ := bindE hf
      refine WL.callL (vs := [.agg ([.slice a20 n21 c22, .int .i64 x19.Rule.Kind, .int .i64 x19.Rule.Columns, .int .i64 x19.Rule.Faulty] : List Value).toArray, .slice a4 x3.length c5]) hs FN18 ⟨rfl, ⟨rfl, trivial⟩⟩ (quorum_IsQuorum.calls (x1 := (⟨x19.Members, (⟨x19.Rule.Kind, x19.Rule.Columns, x19.Rule.Faulty⟩ : api_Rule)⟩ : api_View)) (x5 := x3) hxx37 (V_agg (show t_api_View.R (fun _ => True) _ (⟨x19.Members, (⟨x19.Rule.Kind, x19.Rule.Columns, x19.Rule.Faulty⟩ : api_Rule)⟩ : api_View) [.slice a20 n21 c22, .int .i64 x19.Rule.Kind, .int .i64 x19.Rule.Columns, .int .i64 x19.Rule.Faulty] from ⟨[.slice a20 n21 c22], [.int .i64 x19.Rule.Kind, .int .i64 x19.Rule.Columns, .int .i64 x19.Rule.Faulty], rfl, (R_one (hs.ownT 2 rfl)), ⟨[.int .i64 x19.Rule.Kind], [.int .i64 x19.Rule.Columns, .int .i64 x19.Rule.Faulty], rfl, rfl, ⟨[.int .i64 x19.Rule.Columns], [.int .i64 x19.Rule.Faulty], rfl, rfl, rfl⟩⟩⟩) rfl) (hs.allT.get 0 rfl)) ?_
      rintro _ w hs
      refine WL.assign (v := .bool x37) rfl ?_
      refine WL.nil ?_
      refine hK36 _ _ ?_
      refine W.seqK fun K38 hK38 => ?_
      obtain rfl := hs.ownLen 2 rfl
      have hs := hs.freezeOwn 2 rfl
      refine W.seqK fun K186 hK186 => ?_
      have Jk189 : ∀ (x188 : Bool) (ρ : Env) (w : World), ρ 2 = .slice a4 x3.length c5 → ρ 9 = .pointer (some ⟨g23, 0, none⟩) → ρ 11 = .bool x37 → ρ 54 = .bool x188 → St ok (bz w0) w [vl (tSlice (tInt .i64)) x3 (.slice a4 x3.length c5), vl (tSlice t_api_Member) x19.Members (.slice a20 (x19.Members).length c22)] [blk g23 26 [.slice a20 (x19.Members).length c22, .int .i64 x19.Rule.Kind, .int .i64 x19.Rule.Columns, .int .i64 x19.Rule.Faulty]] → eslaw04_QuorumMonotone.j6 x3 x19 x37 x188 = some r → K186 ρ w := by
        intro x188 ρ w h187_2 h187_9 h187_11 h187_54 hs hf
        refine hK186 _ _ ?_
        unfold eslaw04_QuorumMonotone.j6 at hf
        rcases iteE hf with ⟨hc190, hf⟩ | ⟨hc190, hf⟩
        · refine W.cond_true (bool_tr h187_54 hc190) ?_
          refine W.seqK fun K191 hK191 => ?_
          refine W.region ?_
          refine WL.assign (v := .bool false) rfl ?_
          refine WL.nil ?_
          refine hK191 _ _ ?_
          refine W.ret ?_
          have hr := Option.some.inj hf; subst hr
          exact ⟨_, resOk_one rfl rfl, (), rfl, (hs.mask []).pick []⟩
        · refine W.cond_false (bool_tr h187_54 hc190) ?_
          refine W.skip ?_
          refine hK38 _ _ ?_
          refine W.seqK fun K192 hK192 => ?_
          refine W.region ?_
          refine WL.assign (v := .bool false) rfl ?_
          refine WL.nil ?_
          refine hK192 _ _ ?_
          refine W.seqK fun K193 hK193 => ?_
          refine W.region ?_
          refine WL.loadN (vs := [.slice a20 (x19.Members).length c22, .int .i64 x19.Rule.Kind, .int .i64 x19.Rule.Columns, .int .i64 x19.Rule.Faulty]) hs 0 rfl TI26 h187_9 rfl rfl ?_
          have hs := hs.add (it := vl t_api_View (⟨x19.Members, (⟨x19.Rule.Kind, x19.Rule.Columns, x19.Rule.Faulty⟩ : api_Rule)⟩ : api_View) (.agg [.slice a20 (x19.Members).length c22, .int .i64 x19.Rule.Kind, .int .i64 x19.Rule.Columns, .int .i64 x19.Rule.Faulty].toArray)) fun ok hA => V_agg (show t_api_View.R ok _ _ _ from ⟨[.slice a20 (x19.Members).length c22], [.int .i64 x19.Rule.Kind, .int .i64 x19.Rule.Columns, .int .i64 x19.Rule.Faulty], rfl, (R_one (hA.get 1 rfl)), ⟨[.int .i64 x19.Rule.Kind], [.int .i64 x19.Rule.Columns, .int .i64 x19.Rule.Faulty], rfl, rfl, ⟨[.int .i64 x19.Rule.Columns], [.int .i64 x19.Rule.Faulty], rfl, rfl, rfl⟩⟩⟩) rfl
          obtain ⟨x194, hxx194, hf⟩ := bindE hf
          refine WL.call (vs := [.agg ([.slice a20 (x19.Members).length c22, .int .i64 x19.Rule.Kind, .int .i64 x19.Rule.Columns, .int .i64 x19.Rule.Faulty] : List Value).toArray]) hs FN20 ⟨rfl, trivial⟩ (fun ok hA => quorum_Minimal.calls (x1 := (⟨x19.Members, (⟨x19.Rule.Kind, x19.Rule.Columns, x19.Rule.Faulty⟩ : api_Rule)⟩ : api_View)) hxx194 (hA.get 0 rfl)) ?_
          rintro ⟨a195, n196, c197⟩ w hs
          refine WL.assign (v := .slice a195 n196 c197) rfl ?_
          refine WL.nil ?_
          refine hK193 _ _ ?_
          refine W.seqK fun K198 hK198 => ?_
          have Jk201 : ∀ (x200 : Bool) (ρ : Env) (w : World), ρ 11 = .bool x37 → ρ 12 = .bool x200 → St ok (bz w0) w [] [] → eslaw04_QuorumMonotone.j2 x37 x200 = some r → K198 ρ w := by
            intro x200 ρ w h199_11 h199_12 hs hf
            refine hK198 _ _ ?_
            unfold eslaw04_QuorumMonotone.j2 at hf
            refine W.seqK fun K202 hK202 => ?_
            have Jk205 : ∀ (x204 : Bool) (ρ : Env) (w : World), ρ 8 = .bool x204 → St ok (bz w0) w [] [] → eslaw04_QuorumMonotone.j1 x204 = some r → K202 ρ w := by
              intro x204 ρ w h203_8 hs hf
              refine hK202 _ _ ?_
              unfold eslaw04_QuorumMonotone.j1 at hf
              refine W.ret ?_
              have hr := Option.some.inj hf; subst hr
              exact ⟨_, resOk_one rfl h203_8, (), rfl, (hs.mask []).pick []⟩
            refine W.region ?_
            refine WL.move (v := .bool x200) h199_12 ?_
            refine WL.move (v := .bool x37) h199_11 ?_
            refine WL.eqB UN4 rfl rfl ?_
            refine WL.move (v := .bool (x200 == x37)) rfl ?_
            rcases iteE hf with ⟨hc206, hf⟩ | ⟨hc206, hf⟩
            · obtain ⟨x207, hxx207, hf⟩ := bindE hf
              refine WL.call (vs := []) hs FN11 trivial (fun ok hA => eslaw04_awake.calls hxx207) ?_ (hg := (wanted_of rfl rfl (bool_tr rfl hc206)).trans rfl)
              rintro _ w hs
              refine WL.pickT (v := .bool x207) (bool_tr rfl hc206) rfl ?_
              refine WL.assign (v := .bool x207) rfl ?_
              refine WL.nil ?_
              exact Jk205 x207 _ _ rfl ((hs.mask []).pick []) hf
            · refine WL.pass ((wanted_of rfl rfl (bool_tr rfl hc206)).trans rfl) rfl ?_
              refine WL.pickF (v := .bool false) (bool_tr rfl hc206) rfl ?_
              refine WL.assign (v := .bool false) rfl ?_
              refine WL.nil ?_
              exact Jk205 false _ _ rfl ((hs.mask []).pick []) hf
          refine W.seqK fun K208 hK208 => ?_
          refine W.region ?_
          refine WL.assign (v := .int .i64 0) rfl ?_
          refine WL.nil ?_
          refine hK208 _ _ ?_
          refine W.block ?_
          obtain ⟨bs212, hbs212, hfs212⟩ := bindE hf
          refine W.loop hbs212 (fun s ρ w => match s with | (x210, x211) => ρ 2 = .slice a4 x3.length c5 ∧ ρ 11 = .bool x37 ∧ ρ 12 = .bool x210 ∧ ρ 13 = .slice a195 n196 c197 ∧ ρ 14 = .int .i64 x211 ∧ St ok (bz w0) w [vl (tSlice (tInt .i64)) x3 (.slice a4 x3.length c5)] [own (tSlice (tInt .i64)) 33 (.slice a195 n196 c197) x194]) ⟨h187_2, h187_11, rfl, rfl, rfl, (hs.mask [true]).pick [1]⟩ ?_
          intro s ρ w os212 hI hf hbbs212
          obtain ⟨x210, x211⟩ := s
          obtain ⟨h209_2, h209_11, h209_12, h209_13, h209_14, hs⟩ := hI
          unfold eslaw04_QuorumMonotone.l2 at hf
          refine W.seqK fun K213 hK213 => ?_
          refine W.seqK fun K214 hK214 => ?_
          refine W.region ?_
          refine WL.move (v := .int .i64 x211) h209_14 ?_
          refine WL.move (v := .slice a195 n196 c197) h209_13 ?_
          refine WL.len (v := .slice a195 n196 c197) rfl (len_own hs 0 rfl UN36) ?_
          refine WL.bin (v := .bool (decide (x211 < (x194.length : Int)))) rfl rfl (ib_lss _ _ _) ?_
          refine WL.nil ?_
          refine hK214 _ _ ?_
          rcases iteE hf with ⟨hc215, hf⟩ | ⟨hc215, hf⟩
          · refine W.cond_true (bool_tr rfl hc215) ?_
            refine W.skip ?_
            refine hK213 _ _ ?_
            refine W.seqK fun K216 hK216 => ?_
            have Jk219 : ∀ (x218 : Bool) (ρ : Env) (w : World), ρ 2 = .slice a4 x3.length c5 → ρ 11 = .bool x37 → ρ 12 = .bool x218 → ρ 13 = .slice a195 n196 c197 → ρ 14 = .int .i64 x211 → St ok (bz w0) w [vl (tSlice (tInt .i64)) x3 (.slice a4 x3.length c5)] [own (tSlice (tInt .i64)) 33 (.slice a195 n196 c197) x194] → eslaw04_QuorumMonotone.j3 x211 x218 = some os212 → K216 ρ w := by
              intro x218 ρ w h217_2 h217_11 h217_12 h217_13 h217_14 hs hf
              refine hK216 _ _ ?_
              unfold eslaw04_QuorumMonotone.j3 at hf
              refine W.region ?_
              refine WL.move (v := .int .i64 x211) h217_14 ?_
              obtain ⟨x220, ex220, hf⟩ := letE hf
              refine WL.bin (v := .int .i64 x220) rfl rfl (ib_as ex220 (ib_add _ _ _)) ?_
              refine WL.assign (v := .int .i64 x220) rfl ?_
              refine WL.nil ?_
              exact ⟨_, (Option.some.inj hf).symm, h217_2, h217_11, h217_12, h217_13, rfl, (hs.mask [true]).pick [0]⟩
            refine W.block ?_
            refine W.seqK fun K221 hK221 => ?_
            refine W.region ?_
            refine WL.assign (v := .bool true) rfl ?_
            refine WL.nil ?_
            refine hK221 _ _ ?_
            refine W.seqK fun K222 hK222 => ?_
            have Jk225 : ∀ (x224 : Bool) (ρ : Env) (w : World), ρ 2 = .slice a4 x3.length c5 → ρ 11 = .bool x37 → ρ 12 = .bool x210 → ρ 13 = .slice a195 n196 c197 → ρ 14 = .int .i64 x211 → ρ 15 = .bool x224 → St ok (bz w0) w [vl (tSlice (tInt .i64)) x3 (.slice a4 x3.length c5)] [own (tSlice (tInt .i64)) 33 (.slice a195 n196 c197) x194] → eslaw04_QuorumMonotone.j4 x210 x211 x224 = some os212 → K222 ρ w := by
              intro x224 ρ w h223_2 h223_11 h223_12 h223_13 h223_14 h223_15 hs hf
              refine hK222 _ _ ?_
              unfold eslaw04_QuorumMonotone.j4 at hf
              refine W.region ?_
              refine WL.move (v := .bool x210) h223_12 ?_
              refine WL.move (v := .bool x210) rfl ?_
              rcases iteE hf with ⟨hc226, hf⟩ | ⟨hc226, hf⟩
              · refine WL.pass ((wanted_of rfl rfl (bool_tr rfl hc226)).trans rfl) rfl ?_
                refine WL.pickT (v := .bool true) (bool_tr rfl hc226) rfl ?_
                refine WL.assign (v := .bool true) rfl ?_
                refine WL.nil ?_
                exact Jk219 true _ _ h223_2 h223_11 rfl h223_13 h223_14 ((hs.mask [true]).pick [0]) hf
              · refine WL.move (v := .bool x224) h223_15 ?_ (hg := (wanted_of rfl rfl (bool_tr rfl hc226)).trans rfl)
                refine WL.pickF (v := .bool x224) (bool_tr rfl hc226) rfl ?_
                refine WL.assign (v := .bool x224) rfl ?_
                refine WL.nil ?_
                exact Jk219 x224 _ _ h223_2 h223_11 rfl h223_13 h223_14 ((hs.mask [true]).pick [0]) hf
            refine W.seqK fun K227 hK227 => ?_
            refine W.region ?_
            refine WL.assign (v := .int .i64 0) rfl ?_
            refine WL.nil ?_
            refine hK227 _ _ ?_
            refine W.block ?_
            obtain ⟨bs231, hbs231, hfs231⟩ := bindE hf
            refine W.loop hbs231 (fun s ρ w => match s with | (x229, x230) => ρ 2 = .slice a4 x3.length c5 ∧ ρ 11 = .bool x37 ∧ ρ 12 = .bool x210 ∧ ρ 13 = .slice a195 n196 c197 ∧ ρ 14 = .int .i64 x211 ∧ ρ 15 = .bool x229 ∧ ρ 16 = .int .i64 x230 ∧ St ok (bz w0) w [vl (tSlice (tInt .i64)) x3 (.slice a4 x3.length c5)] [own (tSlice (tInt .i64)) 33 (.slice a195 n196 c197) x194]) ⟨h209_2, h209_11, h209_12, h209_13, h209_14, rfl, rfl, (hs.mask [true]).pick [0]⟩ ?_
            intro s ρ w os231 hI hf hbbs231
            obtain ⟨x229, x230⟩ := s
            obtain ⟨h228_2, h228_11, h228_12, h228_13, h228_14, h228_15, h228_16, hs⟩ := hI
            unfold eslaw04_QuorumMonotone.l1 at hf
            refine W.seqK fun K232 hK232 => ?_
            refine W.seqK fun K233 hK233 => ?_
            refine W.region ?_
            refine WL.move (v := .int .i64 x230) h228_16 ?_
            refine WL.move (v := .slice a195 n196 c197) h228_13 ?_
            refine WL.move (v := .int .i64 x211) h228_14 ?_
            obtain ⟨x234, hxx234, hf⟩ := bindE hf
            refine WL.indexAddrO hs 0 rfl UN36 TI33 rfl rfl hxx234 (fun ad235 hatad235 => ?_)
            refine WL.loadO hs 0 rfl TI33 (.inr rfl) hatad235 hxx234 rfl (fun v236 hs => ?_)
            obtain ⟨a237, c238, rfl⟩ := hs.slice 0 rfl
            refine WL.len (v := .slice a237 x234.length c238) rfl (len_slice UN33) ?_
            refine WL.bin (v := .bool (decide (x230 < (x234.length : Int)))) rfl rfl (ib_lss _ _ _) ?_
            refine WL.nil ?_
            refine hK233 _ _ ?_
            rcases iteE hf with ⟨hc239, hf⟩ | ⟨hc239, hf⟩
            · refine W.cond_true (bool_tr rfl hc239) ?_
              refine W.skip ?_
              refine hK232 _ _ ?_
              refine W.seqK fun K240 hK240 => ?_
              have Jk243 : ∀ (x242 : Bool) (ρ : Env) (w : World), ρ 2 = .slice a4 x3.length c5 → ρ 11 = .bool x37 → ρ 12 = .bool x210 → ρ 13 = .slice a195 n196 c197 → ρ 14 = .int .i64 x211 → ρ 15 = .bool x242 → ρ 16 = .int .i64 x230 → St ok (bz w0) w [vl (tSlice (tInt .i64)) x3 (.slice a4 x3.length c5)] [own (tSlice (tInt .i64)) 33 (.slice a195 n196 c197) x194] → eslaw04_QuorumMonotone.j5 x230 x242 = some os231 → K240 ρ w := by
                intro x242 ρ w h241_2 h241_11 h241_12 h241_13 h241_14 h241_15 h241_16 hs hf
                refine hK240 _ _ ?_
                unfold eslaw04_QuorumMonotone.j5 at hf
                refine W.region ?_
                refine WL.move (v := .int .i64 x230) h241_16 ?_
                obtain ⟨x244, ex244, hf⟩ := letE hf
                refine WL.bin (v := .int .i64 x244) rfl rfl (ib_as ex244 (ib_add _ _ _)) ?_
                refine WL.assign (v := .int .i64 x244) rfl ?_
                refine WL.nil ?_
                exact ⟨_, (Option.some.inj hf).symm, h241_2, h241_11, h241_12, h241_13, h241_14, h241_15, rfl, (hs.mask [true]).pick [0]⟩
              refine W.block ?_
              refine W.region ?_
              refine WL.move (v := .bool x229) h228_15 ?_
              refine WL.move (v := .bool x229) rfl ?_
              rcases iteE hf with ⟨hc245, hf⟩ | ⟨hc245, hf⟩
              · refine WL.move (v := .slice a4 x3.length c5) h228_2 ?_ (hg := (wanted_of rfl rfl (bool_tr rfl hc245)).trans rfl)
                refine WL.move (v := .slice a195 n196 c197) h228_13 ?_ (hg := (wanted_of rfl rfl (bool_tr rfl hc245)).trans rfl)
                refine WL.move (v := .int .i64 x211) h228_14 ?_ (hg := (wanted_of rfl rfl (bool_tr rfl hc245)).trans rfl)
                obtain ⟨x246, hxx246, hf⟩ := bindE hf
                refine WL.indexAddrO hs 0 rfl UN36 TI33 rfl rfl hxx246 (fun ad247 hatad247 => ?_) (hg := (wanted_of rfl rfl (bool_tr rfl hc245)).trans rfl)
                refine WL.loadO hs 0 rfl TI33 (.inr rfl) hatad247 hxx246 rfl (fun v248 hs => ?_) (hg := (wanted_of rfl rfl (bool_tr rfl hc245)).trans rfl)
                obtain ⟨a249, c250, rfl⟩ := hs.slice 0 rfl
                refine WL.move (v := .int .i64 x230) h228_16 ?_ (hg := (wanted_of rfl rfl (bool_tr rfl hc245)).trans rfl)
                obtain ⟨x251, hxx251, hf⟩ := bindE hf
                refine WL.indexAddr hs 0 rfl UN33 TI3 rfl rfl hxx251 (fun ad252 hs => ?_) (hg := (wanted_of rfl rfl (bool_tr rfl hc245)).trans rfl)
                refine WL.loadP hs 0 rfl TI3 (.inr rfl) rfl (fun v253 hs => ?_) (hg := (wanted_of rfl rfl (bool_tr rfl hc245)).trans rfl)
                obtain rfl := hs.int 0 rfl
                obtain ⟨x254, hxx254, hf⟩ := bindE hf
                refine WL.call (vs := [.slice a4 x3.length c5, .int .i64 x251]) hs FN23 ⟨rfl, ⟨rfl, trivial⟩⟩ (fun ok hA => esref06_In.calls (x1 := x3) (x4 := x251) hxx254 (hA.get 4 rfl)) ?_ (hg := (wanted_of rfl rfl (bool_tr rfl hc245)).trans rfl)
                rintro _ w hs
                refine WL.pickT (v := .bool x254) (bool_tr rfl hc245) rfl ?_
                refine WL.assign (v := .bool x254) rfl ?_
                refine WL.nil ?_
                exact Jk243 x254 _ _ h228_2 h228_11 h228_12 h228_13 h228_14 rfl h228_16 ((hs.mask [true]).pick [4]) hf
              · refine WL.pass ((wanted_of rfl rfl (bool_tr rfl hc245)).trans rfl) rfl ?_
                refine WL.pass ((wanted_of rfl rfl (bool_tr rfl hc245)).trans rfl) rfl ?_
                refine WL.pass ((wanted_of rfl rfl (bool_tr rfl hc245)).trans rfl) rfl ?_
                refine WL.pass ((wanted_of rfl rfl (bool_tr rfl hc245)).trans rfl) rfl ?_
                refine WL.pass ((wanted_of rfl rfl (bool_tr rfl hc245)).trans rfl) rfl ?_
                refine WL.pass ((wanted_of rfl rfl (bool_tr rfl hc245)).trans rfl) rfl ?_
                refine WL.pass ((wanted_of rfl rfl (bool_tr rfl hc245)).trans rfl) rfl ?_
                refine WL.pass ((wanted_of rfl rfl (bool_tr rfl hc245)).trans rfl) rfl ?_
                refine WL.pass ((wanted_of rfl rfl (bool_tr rfl hc245)).trans rfl) rfl ?_
                refine WL.pickF (v := .bool false) (bool_tr rfl hc245) rfl ?_
                refine WL.assign (v := .bool false) rfl ?_
                refine WL.nil ?_
                exact Jk243 false _ _ h228_2 h228_11 h228_12 h228_13 h228_14 rfl h228_16 ((hs.mask [true]).pick [1]) hf
            · refine W.cond_false (bool_tr rfl hc239) ?_
              refine W.exit ?_
              have hr := Option.some.inj hf; subst hr
              have hr := hbbs231 _ rfl; subst hr
              have hf := hfs231
              exact Jk225 x229 _ _ h228_2 h228_11 h228_12 h228_13 h228_14 h228_15 ((hs.mask [true]).pick [1]) hf
          · refine W.cond_false (bool_tr rfl hc215) ?_
            refine W.exit ?_
            have hr := Option.some.inj hf; subst hr
            have hr := hbbs212 _ rfl; subst hr
            have hf := hfs212
            exact Jk201 x210 _ _ h209_11 h209_12 ((hs.mask []).pick []) hf
      obtain rfl := hs.ownLen 0 rfl
      have hs := hs.freezeOwn 0 rfl
      rcases iteE hf with ⟨hc281, hf⟩ | ⟨hc281, hf⟩
      · obtain ⟨x282, hxx282, hf⟩ := bindE hf
        rcases iteE hf with ⟨hc283, hf⟩ | ⟨hc283, hf⟩
        · refine W.any (by kernel_rfl) 18 0 [true, true, true, true, true, true, true, true, true, true, true, true, true, true, true, true, true, true] rfl rfl (poAt [pv (.bool x37), pv (.bool x37), pv (.agg ([.slice a20 (x19.Members).length c22, .int .i64 x19.Rule.Kind, .int .i64 x19.Rule.Columns, .int .i64 x19.Rule.Faulty] : List Value).toArray), pv (.slice a33 x31.length c34), pv (.bool x282), pv (.bool (!x282)), pv (.bool (!x282)), pv (.bool (!x282)), pv (undef), pv (undef), pv (undef), pv (undef), pv (undef), pv (undef), pv (undef), pv (undef), pv (undef), pv (.bool true)]) (Λ := [blk g23 26 [.slice a20 (x19.Members).length c22, .int .i64 x19.Rule.Kind, .int .i64 x19.Rule.Columns, .int .i64 x19.Rule.Faulty]]) hs (by kernel_rfl) (by kernel_rfl) (by kernel_rfl) ⟨⟨⟨⟨⟨⟨⟨⟨⟨⟨⟨⟨⟨⟨⟨⟨⟨⟨trivial, ?_⟩, ?_⟩, ?_⟩, ?_⟩, ?_⟩, ?_⟩, ?_⟩, ?_⟩, ?_⟩, ?_⟩, ?_⟩, ?_⟩, ?_⟩, ?_⟩, ?_⟩, ?_⟩, ?_⟩, ?_⟩ ?_
          · intro ρ w Γx Λx hs hu hp
            refine WL.move (v := .bool x37) (hu 11 rfl) ?_
            exact WL.nil ⟨rfl, _, rfl, rfl, hs.cutG 0 0⟩
          · intro ρ w Γx Λx hs hu hp
            have e284 : ρ 37 = .bool x37 := (hp 0 rfl).1
            refine WL.move (v := .bool x37) e284 ?_
            exact WL.nil ⟨rfl, _, rfl, rfl, hs.cutG 0 0⟩
          · intro ρ w Γx Λx hs hu hp
            have e285 : ρ 38 = .bool x37 := (hp 1 rfl).1
            refine WL.loadN (vs := [.slice a20 (x19.Members).length c22, .int .i64 x19.Rule.Kind, .int .i64 x19.Rule.Columns, .int .i64 x19.Rule.Faulty]) hs (Λx.length + 0) (getApp rfl) TI26 (hu 9 rfl) rfl rfl ?_ (hg := (wanted_of rfl rfl (bool_tr e285 hc281)).trans rfl)
            exact WL.nil ⟨rfl, _, rfl, rfl, hs.cutG 0 0⟩
          · intro ρ w Γx Λx hs hu hp
            have e286 : ρ 38 = .bool x37 := (hp 1 rfl).1
            refine WL.move (v := .slice a33 x31.length c34) (hu 10 rfl) ?_ (hg := (wanted_of rfl rfl (bool_tr e286 hc281)).trans rfl)
            exact WL.nil ⟨rfl, _, rfl, rfl, hs.cutG 0 0⟩
          · intro ρ w Γx Λx hs hu hp
            have e287 : ρ 39 = .agg ([.slice a20 (x19.Members).length c22, .int .i64 x19.Rule.Kind, .int .i64 x19.Rule.Columns, .int .i64 x19.Rule.Faulty] : List Value).toArray := (hp 2 rfl).1
            have e288 : ρ 40 = .slice a33 x31.length c34 := (hp 3 rfl).1
            have e289 : ρ 38 = .bool x37 := (hp 1 rfl).1
            have hs := hs.add (it := vl t_api_View (⟨x19.Members, (⟨x19.Rule.Kind, x19.Rule.Columns, x19.Rule.Faulty⟩ : api_Rule)⟩ : api_View) (.agg [.slice a20 (x19.Members).length c22, .int .i64 x19.Rule.Kind, .int .i64 x19.Rule.Columns, .int .i64 x19.Rule.Faulty].toArray)) fun ok hA => V_agg (show t_api_View.R ok _ _ _ from ⟨[.slice a20 (x19.Members).length c22], [.int .i64 x19.Rule.Kind, .int .i64 x19.Rule.Columns, .int .i64 x19.Rule.Faulty], rfl, (R_one (hA.get (Γx.length + 1) (getApp rfl))), ⟨[.int .i64 x19.Rule.Kind], [.int .i64 x19.Rule.Columns, .int .i64 x19.Rule.Faulty], rfl, rfl, ⟨[.int .i64 x19.Rule.Columns], [.int .i64 x19.Rule.Faulty], rfl, rfl, rfl⟩⟩⟩) rfl
            refine WL.call (vs := [.agg ([.slice a20 (x19.Members).length c22, .int .i64 x19.Rule.Kind, .int .i64 x19.Rule.Columns, .int .i64 x19.Rule.Faulty] : List Value).toArray, .slice a33 x31.length c34]) hs FN18 ⟨e287, ⟨e288, trivial⟩⟩ (fun ok hA => quorum_IsQuorum.calls (x1 := (⟨x19.Members, (⟨x19.Rule.Kind, x19.Rule.Columns, x19.Rule.Faulty⟩ : api_Rule)⟩ : api_View)) (x5 := x31) hxx282 (hA.get 0 rfl) (hA.get (Γx.length + 0 + 1) (getApp1 rfl))) ?_ (hg := (wanted_of rfl rfl (bool_tr e289 hc281)).trans rfl)
            rintro _ w hs
            exact WL.nil ⟨rfl, _, rfl, rfl, hs.cutG 0 1⟩
          · intro ρ w Γx Λx hs hu hp
            have e290 : ρ 41 = .bool x282 := (hp 4 rfl).1
            have e291 : ρ 38 = .bool x37 := (hp 1 rfl).1
            refine WL.not e290 ?_ (hg := (wanted_of rfl rfl (bool_tr e291 hc281)).trans rfl)
            exact WL.nil ⟨rfl, _, rfl, rfl, hs.cutG 0 0⟩
          · intro ρ w Γx Λx hs hu hp
            have e292 : ρ 38 = .bool x37 := (hp 1 rfl).1
            have e293 : ρ 42 = .bool (!x282) := (hp 5 rfl).1
            refine WL.pickT (v := .bool (!x282)) (bool_tr e292 hc281) e293 ?_
            exact WL.nil ⟨rfl, _, rfl, rfl, hs.cutG 0 0⟩
          · intro ρ w Γx Λx hs hu hp
            have e294 : ρ 43 = .bool (!x282) := (hp 6 rfl).1
            refine WL.move (v := .bool (!x282)) e294 ?_
            exact WL.nil ⟨rfl, _, rfl, rfl, hs.cutG 0 0⟩
          · intro ρ w Γx Λx hs hu hp
            have e295 : ρ 44 = .bool (!x282) := (hp 7 rfl).1
            refine WL.pass ((wanted_of rfl rfl (bool_tr e295 hc283)).trans rfl) rfl ?_
            exact WL.nil ⟨rfl, _, rfl, rfl, hs.cutG 0 0⟩
          · intro ρ w Γx Λx hs hu hp
            have e296 : ρ 44 = .bool (!x282) := (hp 7 rfl).1
            refine WL.pass ((wanted_of rfl rfl (bool_tr e296 hc283)).trans rfl) rfl ?_
            exact WL.nil ⟨rfl, _, rfl, rfl, hs.cutG 0 0⟩
          · intro ρ w Γx Λx hs hu hp
            have e297 : ρ 44 = .bool (!x282) := (hp 7 rfl).1
            refine WL.pass ((wanted_of rfl rfl (bool_tr e297 hc283)).trans rfl) rfl ?_
            exact WL.nil ⟨rfl, _, rfl, rfl, hs.cutG 0 0⟩
          · intro ρ w Γx Λx hs hu hp
            have e298 : ρ 46 = undef := (hp 9 rfl).1
            have e299 : ρ 47 = undef := (hp 10 rfl).1
            have e300 : ρ 44 = .bool (!x282) := (hp 7 rfl).1
            refine WL.pass ((wanted_of rfl rfl (bool_tr e300 hc283)).trans rfl) rfl ?_
            exact WL.nil ⟨rfl, _, rfl, rfl, hs.cutG 0 0⟩
          · intro ρ w Γx Λx hs hu hp
            have e301 : ρ 44 = .bool (!x282) := (hp 7 rfl).1
            refine WL.pass ((wanted_of rfl rfl (bool_tr e301 hc283)).trans rfl) rfl ?_
            exact WL.nil ⟨rfl, _, rfl, rfl, hs.cutG 0 0⟩
          · intro ρ w Γx Λx hs hu hp
            have e302 : ρ 48 = undef := (hp 11 rfl).1
            have e303 : ρ 49 = undef := (hp 12 rfl).1
            have e304 : ρ 44 = .bool (!x282) := (hp 7 rfl).1
            refine WL.pass ((wanted_of rfl rfl (bool_tr e304 hc283)).trans rfl) rfl ?_
            exact WL.nil ⟨rfl, _, rfl, rfl, hs.cutG 0 0⟩
          · intro ρ w Γx Λx hs hu hp
            have e305 : ρ 45 = undef := (hp 8 rfl).1
            have e306 : ρ 50 = undef := (hp 13 rfl).1
            have e307 : ρ 44 = .bool (!x282) := (hp 7 rfl).1
            refine WL.pass ((wanted_of rfl rfl (bool_tr e307 hc283)).trans rfl) rfl ?_
            exact WL.nil ⟨rfl, _, rfl, rfl, hs.cutG 0 0⟩
          · intro ρ w Γx Λx hs hu hp
            have e308 : ρ 44 = .bool (!x282) := (hp 7 rfl).1
            refine WL.pass ((wanted_of rfl rfl (bool_tr e308 hc283)).trans rfl) rfl ?_
            exact WL.nil ⟨rfl, _, rfl, rfl, hs.cutG 0 0⟩
          · intro ρ w Γx Λx hs hu hp
            have e309 : ρ 51 = undef := (hp 14 rfl).1
            have e310 : ρ 52 = undef := (hp 15 rfl).1
            have e311 : ρ 44 = .bool (!x282) := (hp 7 rfl).1
            refine WL.pass ((wanted_of rfl rfl (bool_tr e311 hc283)).trans rfl) rfl ?_
            exact WL.nil ⟨rfl, _, rfl, rfl, hs.cutG 0 0⟩
          · intro ρ w Γx Λx hs hu hp
            have e312 : ρ 44 = .bool (!x282) := (hp 7 rfl).1
            have e313 : ρ 53 = undef := (hp 16 rfl).1
            refine WL.pickT (v := .bool true) (bool_tr e312 hc283) rfl ?_
            exact WL.nil ⟨rfl, _, rfl, rfl, hs.cutG 0 0⟩
          · intro ρ w hs hu314 hp
            obtain ⟨⟨⟨⟨⟨⟨⟨⟨⟨⟨⟨⟨⟨⟨⟨⟨⟨⟨_, hp0_⟩, hp1_⟩, hp2_⟩, hp3_⟩, hp4_⟩, hp5_⟩, hp6_⟩, hp7_⟩, hp8_⟩, hp9_⟩, hp10_⟩, hp11_⟩, hp12_⟩, hp13_⟩, hp14_⟩, hp15_⟩, hp16_⟩, hp17_⟩ := hp
            have hs : St ok (bz w0) w [vl (tSlice (tInt .i64)) x31 (.slice a33 x31.length c34), vl (tSlice t_api_Member) x19.Members (.slice a20 (x19.Members).length c22), vl (tSlice (tInt .i64)) x3 (.slice a4 x3.length c5), vl (tSlice (tInt .i64)) x6 (.slice a7 x6.length c8)] [blk g23 26 [.slice a20 (x19.Members).length c22, .int .i64 x19.Rule.Kind, .int .i64 x19.Rule.Columns, .int .i64 x19.Rule.Faulty]] := hs
            have e315 : ρ 54 = .bool true := hp17_
            have e316 : ρ 53 = undef := hp16_
            have e317 : ρ 52 = undef := hp15_
            have e318 : ρ 51 = undef := hp14_
            have e319 : ρ 50 = undef := hp13_
            have e320 : ρ 49 = undef := hp12_
            have e321 : ρ 48 = undef := hp11_
            have e322 : ρ 47 = undef := hp10_
            have e323 : ρ 46 = undef := hp9_
            have e324 : ρ 45 = undef := hp8_
            have e325 : ρ 44 = .bool (!x282) := hp7_
            have e326 : ρ 43 = .bool (!x282) := hp6_
            have e327 : ρ 42 = .bool (!x282) := hp5_
            have e328 : ρ 41 = .bool x282 := hp4_
            have e329 : ρ 40 = .slice a33 x31.length c34 := hp3_
            have e330 : ρ 39 = .agg ([.slice a20 (x19.Members).length c22, .int .i64 x19.Rule.Kind, .int .i64 x19.Rule.Columns, .int .i64 x19.Rule.Faulty] : List Value).toArray := hp2_
            have e331 : ρ 38 = .bool x37 := hp1_
            have e332 : ρ 37 = .bool x37 := hp0_
            refine WA.done (by kernel_rfl) ?_
            exact Jk189 true _ _ ((hu314 2 rfl).trans h12_2) (hu314 9 rfl) (hu314 11 rfl) e315 ((hs.mask [true]).pick [2, 1]) hf
        · obtain ⟨x334, hxx334, hf⟩ := bindE hf
          obtain ⟨hbx334, hex334⟩ := appE hxx334
          obtain ⟨x341, hxx341, hf⟩ := bindE hf
          obtain ⟨hbx341, hex341⟩ := appE hxx341
          obtain ⟨x346, hxx346, hf⟩ := bindE hf
          refine W.anyT (by kernel_rfl) 18 0 [true, true, true, true, true, true, true, true, true, true, true, true, true, true, true, true, true, true] rfl rfl (poAt [pv (.bool x37), pv (.bool x37), pv (.agg ([.slice a20 (x19.Members).length c22, .int .i64 x19.Rule.Kind, .int .i64 x19.Rule.Columns, .int .i64 x19.Rule.Faulty] : List Value).toArray), pv (.slice a33 x31.length c34), pv (.bool x282), pv (.bool (!x282)), pv (.bool (!x282)), pv (.bool (!x282)), pv (.agg ([.slice a20 (x19.Members).length c22, .int .i64 x19.Rule.Kind, .int .i64 x19.Rule.Columns, .int .i64 x19.Rule.Faulty] : List Value).toArray), pq (fun y : Option Addr => .slice y 0 0) (fun v => []) (fun v => []), pv (.slice a4 x3.length c5), pq (fun y : (Option Addr × Nat × Nat) => .slice y.1 y.2.1 y.2.2) (fun v => []) (fun v => [own (tInt .i64) 3 v x334]), pq (fun y : (Option Addr × Nat) => .slice y.1 ([0, 99, (-1)]).length y.2) (fun v => [vl (tSlice (tInt .i64)) [0, 99, (-1)] v]) (fun v => []), pq (fun y : (Option Addr × Nat × Nat) => .slice y.1 y.2.1 y.2.2) (fun v => []) (fun v => [own (tInt .i64) 3 v x341]), pv (.bool x346), pv (.bool x37), pv (.bool (x346 != x37)), pv (.bool (x346 != x37))]) (tkAt [[], [], [], [], [], [], [], [], [], [], [], [], [], [11], [13], [], [], []]) (Λ := [blk g23 26 [.slice a20 (x19.Members).length c22, .int .i64 x19.Rule.Kind, .int .i64 x19.Rule.Columns, .int .i64 x19.Rule.Faulty]]) hs (by kernel_rfl) (by kernel_rfl) (by kernel_rfl) (by kernel_rfl) ⟨⟨⟨⟨⟨⟨⟨⟨⟨⟨⟨⟨⟨⟨⟨⟨⟨⟨trivial, ?_⟩, ?_⟩, ?_⟩, ?_⟩, ?_⟩, ?_⟩, ?_⟩, ?_⟩, ?_⟩, ?_⟩, ?_⟩, ?_⟩, ?_⟩, ?_⟩, ?_⟩, ?_⟩, ?_⟩, ?_⟩ ?_
          · intro ρ w Γx Λx hs hu hp
            refine WL.move (v := .bool x37) (hu 11 rfl) ?_
            exact WL.nil ⟨rfl, _, rfl, rfl, hs.cutG 0 0⟩
          · intro ρ w Γx Λx hs hu hp
            have e347 : ρ 37 = .bool x37 := (hp 0 rfl).1
            refine WL.move (v := .bool x37) e347 ?_
            exact WL.nil ⟨rfl, _, rfl, rfl, hs.cutG 0 0⟩
          · intro ρ w Γx Λx hs hu hp
            have e348 : ρ 38 = .bool x37 := (hp 1 rfl).1
            refine WL.loadN (vs := [.slice a20 (x19.Members).length c22, .int .i64 x19.Rule.Kind, .int .i64 x19.Rule.Columns, .int .i64 x19.Rule.Faulty]) hs (Λx.length + 0) (getApp rfl) TI26 (hu 9 rfl) rfl rfl ?_ (hg := (wanted_of rfl rfl (bool_tr e348 hc281)).trans rfl)
            exact WL.nil ⟨rfl, _, rfl, rfl, hs.cutG 0 0⟩
          · intro ρ w Γx Λx hs hu hp
            have e349 : ρ 38 = .bool x37 := (hp 1 rfl).1
            refine WL.move (v := .slice a33 x31.length c34) (hu 10 rfl) ?_ (hg := (wanted_of rfl rfl (bool_tr e349 hc281)).trans rfl)
            exact WL.nil ⟨rfl, _, rfl, rfl, hs.cutG 0 0⟩
          · intro ρ w Γx Λx hs hu hp
            have e350 : ρ 39 = .agg ([.slice a20 (x19.Members).length c22, .int .i64 x19.Rule.Kind, .int .i64 x19.Rule.Columns, .int .i64 x19.Rule.Faulty] : List Value).toArray := (hp 2 rfl).1
            have e351 : ρ 40 = .slice a33 x31.length c34 := (hp 3 rfl).1
            have e352 : ρ 38 = .bool x37 := (hp 1 rfl).1
            have hs := hs.add (it := vl t_api_View (⟨x19.Members, (⟨x19.Rule.Kind, x19.Rule.Columns, x19.Rule.Faulty⟩ : api_Rule)⟩ : api_View) (.agg [.slice a20 (x19.Members).length c22, .int .i64 x19.Rule.Kind, .int .i64 x19.Rule.Columns, .int .i64 x19.Rule.Faulty].toArray)) fun ok hA => V_agg (show t_api_View.R ok _ _ _ from ⟨[.slice a20 (x19.Members).length c22], [.int .i64 x19.Rule.Kind, .int .i64 x19.Rule.Columns, .int .i64 x19.Rule.Faulty], rfl, (R_one (hA.get (Γx.length + 1) (getApp rfl))), ⟨[.int .i64 x19.Rule.Kind], [.int .i64 x19.Rule.Columns, .int .i64 x19.Rule.Faulty], rfl, rfl, ⟨[.int .i64 x19.Rule.Columns], [.int .i64 x19.Rule.Faulty], rfl, rfl, rfl⟩⟩⟩) rfl
            refine WL.call (vs := [.agg ([.slice a20 (x19.Members).length c22, .int .i64 x19.Rule.Kind, .int .i64 x19.Rule.Columns, .int .i64 x19.Rule.Faulty] : List Value).toArray, .slice a33 x31.length c34]) hs FN18 ⟨e350, ⟨e351, trivial⟩⟩ (fun ok hA => quorum_IsQuorum.calls (x1 := (⟨x19.Members, (⟨x19.Rule.Kind, x19.Rule.Columns, x19.Rule.Faulty⟩ : api_Rule)⟩ : api_View)) (x5 := x31) hxx282 (hA.get 0 rfl) (hA.get (Γx.length + 0 + 1) (getApp1 rfl))) ?_ (hg := (wanted_of rfl rfl (bool_tr e352 hc281)).trans rfl)
            rintro _ w hs
            exact WL.nil ⟨rfl, _, rfl, rfl, hs.cutG 0 1⟩
          · intro ρ w Γx Λx hs hu hp
            have e353 : ρ 41 = .bool x282 := (hp 4 rfl).1
            have e354 : ρ 38 = .bool x37 := (hp 1 rfl).1
            refine WL.not e353 ?_ (hg := (wanted_of rfl rfl (bool_tr e354 hc281)).trans rfl)
            exact WL.nil ⟨rfl, _, rfl, rfl, hs.cutG 0 0⟩
          · intro ρ w Γx Λx hs hu hp
            have e355 : ρ 38 = .bool x37 := (hp 1 rfl).1
            have e356 : ρ 42 = .bool (!x282) := (hp 5 rfl).1
            refine WL.pickT (v := .bool (!x282)) (bool_tr e355 hc281) e356 ?_
            exact WL.nil ⟨rfl, _, rfl, rfl, hs.cutG 0 0⟩
          · intro ρ w Γx Λx hs hu hp
            have e357 : ρ 43 = .bool (!x282) := (hp 6 rfl).1
            refine WL.move (v := .bool (!x282)) e357 ?_
            exact WL.nil ⟨rfl, _, rfl, rfl, hs.cutG 0 0⟩
          · intro ρ w Γx Λx hs hu hp
            have e358 : ρ 44 = .bool (!x282) := (hp 7 rfl).1
            refine WL.loadN (vs := [.slice a20 (x19.Members).length c22, .int .i64 x19.Rule.Kind, .int .i64 x19.Rule.Columns, .int .i64 x19.Rule.Faulty]) hs (Λx.length + 0) (getApp rfl) TI26 (hu 9 rfl) rfl rfl ?_ (hg := (wanted_of rfl rfl (bool_tr e358 hc283)).trans rfl)
            exact WL.nil ⟨rfl, _, rfl, rfl, hs.cutG 0 0⟩
          · intro ρ w Γx Λx hs hu hp
            have e359 : ρ 44 = .bool (!x282) := (hp 7 rfl).1
            refine WL.buildSlice0 hs UN33 TI3 (fun a333 w hs => ?_) (hg := (wanted_of rfl rfl (bool_tr e359 hc283)).trans rfl)
            exact WL.nil ⟨rfl, _, rfl, ⟨a333, rfl⟩, hs.cutG 0 0⟩
          · intro ρ w Γx Λx hs hu hp
            have e360 : ρ 44 = .bool (!x282) := (hp 7 rfl).1
            refine WL.move (v := .slice a4 x3.length c5) ((hu 2 rfl).trans h12_2) ?_ (hg := (wanted_of rfl rfl (bool_tr e360 hc283)).trans rfl)
            exact WL.nil ⟨rfl, _, rfl, rfl, hs.cutG 0 0⟩
          · intro ρ w Γx Λx hs hu hp
            obtain ⟨⟨a361, e362r⟩, hm363⟩ := hp 9 rfl
            have e362 : ρ 46 = .slice a361 0 0 := e362r
            have e364 : ρ 47 = .slice a4 x3.length c5 := (hp 10 rfl).1
            have e365 : ρ 44 = .bool (!x282) := (hp 7 rfl).1
            have hs := hs.ownEmpty (tInt .i64) 3 a361
            refine WL.appendS (zs := x334) hs 0 rfl (Γx.length + 2) (getApp rfl) UN33 UN33 EI3 e362 e364 hbx334 (by omega) hex334 (fun v335 w hs => ?_) (hg := (wanted_of rfl rfl (bool_tr e365 hc283)).trans rfl)
            obtain ⟨a336, n338, c337, rfl⟩ := hs.ownv3 0 rfl
            exact WL.nil ⟨rfl, _, rfl, ⟨(a336, n338, c337), rfl⟩, hs.cutG 0 0⟩
          · intro ρ w Γx Λx hs hu hp
            have e366 : ρ 44 = .bool (!x282) := (hp 7 rfl).1
            refine WL.buildSliceB (ys := [0, 99, (-1)]) (n := 3) (vs := [(0, .int .i64 0), (1, .int .i64 99), (2, .int .i64 (-1))]) (cs := [.int .i64 0, .int .i64 99, .int .i64 (-1)]) hs ⟨⟨rfl, rfl⟩, ⟨⟨rfl, rfl⟩, ⟨⟨rfl, rfl⟩, trivial⟩⟩⟩ (bls PS33 (by decide) rfl) (fun ok hA => (Cells.app (Cells.one (T := tInt .i64) rfl) (Cells.app (Cells.one (T := tInt .i64) rfl) (Cells.one (T := tInt .i64) rfl)))) rfl (by decide) (fun a340 w hBl hs => ?_) (hg := (wanted_of rfl rfl (bool_tr e366 hc283)).trans rfl)
            have hs := hs.add (it := vl (tSlice (tInt .i64)) [0, 99, (-1)] (.slice a340 ([0, 99, (-1)]).length 3)) fun ok hA => hA.get 0 rfl
            exact WL.nil ⟨rfl, _, rfl, ⟨(a340, 3), rfl⟩, hs.cutG 1 1⟩
          · intro ρ w Γx Λx hs hu hp
            have hs : St ok (bz w0) w (Γx ++ [vl (tSlice (tInt .i64)) x31 (.slice a33 x31.length c34), vl (tSlice t_api_Member) x19.Members (.slice a20 (x19.Members).length c22), vl (tSlice (tInt .i64)) x3 (.slice a4 x3.length c5), vl (tSlice (tInt .i64)) x6 (.slice a7 x6.length c8)]) (Λx ++ ([own (tInt .i64) 3 ((ρ 48)) x334] ++ [blk g23 26 [.slice a20 (x19.Members).length c22, .int .i64 x19.Rule.Kind, .int .i64 x19.Rule.Columns, .int .i64 x19.Rule.Faulty]])) := hs
            obtain ⟨⟨⟨a367, n369, c368⟩, e370r⟩, hm371⟩ := hp 11 rfl
            have e370 : ρ 48 = .slice a367 n369 c368 := e370r
            rw [e370] at hs
            obtain ⟨⟨⟨a372, c373⟩, e374r⟩, hm375⟩ := hp 12 rfl
            have e374 : ρ 49 = .slice a372 ([0, 99, (-1)]).length c373 := e374r
            rw [e374r] at hm375
            have hs := hs.memo1 (it := vl (tSlice (tInt .i64)) [0, 99, (-1)] (.slice a372 ([0, 99, (-1)]).length c373)) (List.mem_append.2 (.inl (hm375 _ (List.mem_of_getElem? (i := 0) rfl))))
            have e376 : ρ 44 = .bool (!x282) := (hp 7 rfl).1
            refine WL.appendS (zs := x341) hs (Λx.length + 0) (getApp rfl) 0 rfl UN33 UN33 EI3 e370 e374 hbx341 (by omega) hex341 (fun v342 w hs => ?_) (hg := (wanted_of rfl rfl (bool_tr e376 hc283)).trans rfl)
            have hs := hs.backP
            obtain ⟨a343, n345, c344, rfl⟩ := hs.ownv3 0 rfl
            exact WL.nil ⟨rfl, _, rfl, ⟨(a343, n345, c344), rfl⟩, hs.cutG 0 1⟩
          · intro ρ w Γx Λx hs hu hp
            have hs : St ok (bz w0) w (Γx ++ [vl (tSlice (tInt .i64)) x31 (.slice a33 x31.length c34), vl (tSlice t_api_Member) x19.Members (.slice a20 (x19.Members).length c22), vl (tSlice (tInt .i64)) x3 (.slice a4 x3.length c5), vl (tSlice (tInt .i64)) x6 (.slice a7 x6.length c8)]) (Λx ++ ([own (tInt .i64) 3 ((ρ 50)) x341] ++ [blk g23 26 [.slice a20 (x19.Members).length c22, .int .i64 x19.Rule.Kind, .int .i64 x19.Rule.Columns, .int .i64 x19.Rule.Faulty]])) := hs
            have e377 : ρ 45 = .agg ([.slice a20 (x19.Members).length c22, .int .i64 x19.Rule.Kind, .int .i64 x19.Rule.Columns, .int .i64 x19.Rule.Faulty] : List Value).toArray := (hp 8 rfl).1
            obtain ⟨⟨⟨a378, n380, c379⟩, e381r⟩, hm382⟩ := hp 13 rfl
            have e381 : ρ 50 = .slice a378 n380 c379 := e381r
            rw [e381] at hs
            have e383 : ρ 44 = .bool (!x282) := (hp 7 rfl).1
            have hs := hs.add (it := vl t_api_View (⟨x19.Members, (⟨x19.Rule.Kind, x19.Rule.Columns, x19.Rule.Faulty⟩ : api_Rule)⟩ : api_View) (.agg [.slice a20 (x19.Members).length c22, .int .i64 x19.Rule.Kind, .int .i64 x19.Rule.Columns, .int .i64 x19.Rule.Faulty].toArray)) fun ok hA => V_agg (show t_api_View.R ok _ _ _ from ⟨[.slice a20 (x19.Members).length c22], [.int .i64 x19.Rule.Kind, .int .i64 x19.Rule.Columns, .int .i64 x19.Rule.Faulty], rfl, (R_one (hA.get (Γx.length + 1) (getApp rfl))), ⟨[.int .i64 x19.Rule.Kind], [.int .i64 x19.Rule.Columns, .int .i64 x19.Rule.Faulty], rfl, rfl, ⟨[.int .i64 x19.Rule.Columns], [.int .i64 x19.Rule.Faulty], rfl, rfl, rfl⟩⟩⟩) rfl
            obtain rfl := hs.ownLen (Λx.length + 0) (getApp rfl)
            have hs := hs.freezeOwn (Λx.length + 0) (getApp rfl)
            have hs := hs.backE
            refine WL.call (vs := [.agg ([.slice a20 (x19.Members).length c22, .int .i64 x19.Rule.Kind, .int .i64 x19.Rule.Columns, .int .i64 x19.Rule.Faulty] : List Value).toArray, .slice a378 x341.length c379]) hs FN18 ⟨e377, ⟨e381, trivial⟩⟩ (fun ok hA => quorum_IsQuorum.calls (x1 := (⟨x19.Members, (⟨x19.Rule.Kind, x19.Rule.Columns, x19.Rule.Faulty⟩ : api_Rule)⟩ : api_View)) (x5 := x341) hxx346 (hA.get 1 rfl) (hA.get 0 rfl)) ?_ (hg := (wanted_of rfl rfl (bool_tr e383 hc283)).trans rfl)
            rintro _ w hs
            exact WL.nil ⟨rfl, _, rfl, rfl, hs.cutG 0 2⟩
          · intro ρ w Γx Λx hs hu hp
            have e384 : ρ 44 = .bool (!x282) := (hp 7 rfl).1
            refine WL.move (v := .bool x37) (hu 11 rfl) ?_ (hg := (wanted_of rfl rfl (bool_tr e384 hc283)).trans rfl)
            exact WL.nil ⟨rfl, _, rfl, rfl, hs.cutG 0 0⟩
          · intro ρ w Γx Λx hs hu hp
            have e385 : ρ 51 = .bool x346 := (hp 14 rfl).1
            have e386 : ρ 52 = .bool x37 := (hp 15 rfl).1
            have e387 : ρ 44 = .bool (!x282) := (hp 7 rfl).1
            refine WL.neB UN4 e385 e386 ?_ (hg := (wanted_of rfl rfl (bool_tr e387 hc283)).trans rfl)
            exact WL.nil ⟨rfl, _, rfl, rfl, hs.cutG 0 0⟩
          · intro ρ w Γx Λx hs hu hp
            have e388 : ρ 44 = .bool (!x282) := (hp 7 rfl).1
            have e389 : ρ 53 = .bool (x346 != x37) := (hp 16 rfl).1
            refine WL.pickF (v := .bool (x346 != x37)) (bool_tr e388 hc283) e389 ?_
            exact WL.nil ⟨rfl, _, rfl, rfl, hs.cutG 0 0⟩
          · intro ρ w hs hu390 hp
            obtain ⟨⟨⟨⟨⟨⟨⟨⟨⟨⟨⟨⟨⟨⟨⟨⟨⟨⟨_, hp0_⟩, hp1_⟩, hp2_⟩, hp3_⟩, hp4_⟩, hp5_⟩, hp6_⟩, hp7_⟩, hp8_⟩, hp9_⟩, hp10_⟩, hp11_⟩, hp12_⟩, hp13_⟩, hp14_⟩, hp15_⟩, hp16_⟩, hp17_⟩ := hp
            have hs : St ok (bz w0) w [vl (tSlice (tInt .i64)) [0, 99, (-1)] (ρ 49), vl (tSlice (tInt .i64)) x31 (.slice a33 x31.length c34), vl (tSlice t_api_Member) x19.Members (.slice a20 (x19.Members).length c22), vl (tSlice (tInt .i64)) x3 (.slice a4 x3.length c5), vl (tSlice (tInt .i64)) x6 (.slice a7 x6.length c8)] [blk g23 26 [.slice a20 (x19.Members).length c22, .int .i64 x19.Rule.Kind, .int .i64 x19.Rule.Columns, .int .i64 x19.Rule.Faulty]] := hs
            have e391 : ρ 54 = .bool (x346 != x37) := hp17_
            have e392 : ρ 53 = .bool (x346 != x37) := hp16_
            have e393 : ρ 52 = .bool x37 := hp15_
            have e394 : ρ 51 = .bool x346 := hp14_
            obtain ⟨⟨a395, n397, c396⟩, e398⟩ := hp13_
            have e398 : ρ 50 = .slice a395 n397 c396 := e398
            try rw [e398] at hs
            obtain ⟨⟨a399, c400⟩, e401⟩ := hp12_
            have e401 : ρ 49 = .slice a399 ([0, 99, (-1)]).length c400 := e401
            try rw [e401] at hs
            obtain ⟨⟨a402, n404, c403⟩, e405⟩ := hp11_
            have e405 : ρ 48 = .slice a402 n404 c403 := e405
            try rw [e405] at hs
            have e406 : ρ 47 = .slice a4 x3.length c5 := hp10_
            obtain ⟨a407, e408⟩ := hp9_
            have e408 : ρ 46 = .slice a407 0 0 := e408
            try rw [e408] at hs
            have e409 : ρ 45 = .agg ([.slice a20 (x19.Members).length c22, .int .i64 x19.Rule.Kind, .int .i64 x19.Rule.Columns, .int .i64 x19.Rule.Faulty] : List Value).toArray := hp8_
            have e410 : ρ 44 = .bool (!x282) := hp7_
            have e411 : ρ 43 = .bool (!x282) := hp6_
            have e412 : ρ 42 = .bool (!x282) := hp5_
            have e413 : ρ 41 = .bool x282 := hp4_
            have e414 : ρ 40 = .slice a33 x31.length c34 := hp3_
            have e415 : ρ 39 = .agg ([.slice a20 (x19.Members).length c22, .int .i64 x19.Rule.Kind, .int .i64 x19.Rule.Columns, .int .i64 x19.Rule.Faulty] : List Value).toArray := hp2_
            have e416 : ρ 38 = .bool x37 := hp1_
            have e417 : ρ 37 = .bool x37 := hp0_
            refine WA.done (by kernel_rfl) ?_
            exact Jk189 (x346 != x37) _ _ ((hu390 2 rfl).trans h12_2) (hu390 9 rfl) (hu390 11 rfl) e391 ((hs.mask [true]).pick [3, 2]) hf
      · obtain ⟨x419, hxx419, hf⟩ := bindE hf
        obtain ⟨hbx419, hex419⟩ := appE hxx419
        obtain ⟨x426, hxx426, hf⟩ := bindE hf
        obtain ⟨hbx426, hex426⟩ := appE hxx426
        obtain ⟨x431, hxx431, hf⟩ := bindE hf
        refine W.anyT (by kernel_rfl) 18 0 [true, true, true, true, true, true, true, true, true, true, true, true, true, true, true, true, true, true] rfl rfl (poAt [pv (.bool x37), pv (.bool x37), pv (undef), pv (undef), pv (undef), pv (undef), pv (.bool false), pv (.bool false), pv (.agg ([.slice a20 (x19.Members).length c22, .int .i64 x19.Rule.Kind, .int .i64 x19.Rule.Columns, .int .i64 x19.Rule.Faulty] : List Value).toArray), pq (fun y : Option Addr => .slice y 0 0) (fun v => []) (fun v => []), pv (.slice a4 x3.length c5), pq (fun y : (Option Addr × Nat × Nat) => .slice y.1 y.2.1 y.2.2) (fun v => []) (fun v => [own (tInt .i64) 3 v x419]), pq (fun y : (Option Addr × Nat) => .slice y.1 ([0, 99, (-1)]).length y.2) (fun v => [vl (tSlice (tInt .i64)) [0, 99, (-1)] v]) (fun v => []), pq (fun y : (Option Addr × Nat × Nat) => .slice y.1 y.2.1 y.2.2) (fun v => []) (fun v => [own (tInt .i64) 3 v x426]), pv (.bool x431), pv (.bool x37), pv (.bool (x431 != x37)), pv (.bool (x431 != x37))]) (tkAt [[], [], [], [], [], [], [], [], [], [], [], [], [], [11], [13], [], [], []]) (Λ := [blk g23 26 [.slice a20 (x19.Members).length c22, .int .i64 x19.Rule.Kind, .int .i64 x19.Rule.Columns, .int .i64 x19.Rule.Faulty]]) hs (by kernel_rfl) (by kernel_rfl) (by kernel_rfl) (by kernel_rfl) ⟨⟨⟨⟨⟨⟨⟨⟨⟨⟨⟨⟨⟨⟨⟨⟨⟨⟨trivial, ?_⟩, ?_⟩, ?_⟩, ?_⟩, ?_⟩, ?_⟩, ?_⟩, ?_⟩, ?_⟩, ?_⟩, ?_⟩, ?_⟩, ?_⟩, ?_⟩, ?_⟩, ?_⟩, ?_⟩, ?_⟩ ?_
        · intro ρ w Γx Λx hs hu hp
          refine WL.move (v := .bool x37) (hu 11 rfl) ?_
          exact WL.nil ⟨rfl, _, rfl, rfl, hs.cutG 0 0⟩
        · intro ρ w Γx Λx hs hu hp
          have e432 : ρ 37 = .bool x37 := (hp 0 rfl).1
          refine WL.move (v := .bool x37) e432 ?_
          exact WL.nil ⟨rfl, _, rfl, rfl, hs.cutG 0 0⟩
        · intro ρ w Γx Λx hs hu hp
          have e433 : ρ 38 = .bool x37 := (hp 1 rfl).1
          refine WL.pass ((wanted_of rfl rfl (bool_tr e433 hc281)).trans rfl) rfl ?_
          exact WL.nil ⟨rfl, _, rfl, rfl, hs.cutG 0 0⟩
        · intro ρ w Γx Λx hs hu hp
          have e434 : ρ 38 = .bool x37 := (hp 1 rfl).1
          refine WL.pass ((wanted_of rfl rfl (bool_tr e434 hc281)).trans rfl) rfl ?_
          exact WL.nil ⟨rfl, _, rfl, rfl, hs.cutG 0 0⟩
        · intro ρ w Γx Λx hs hu hp
          have e435 : ρ 39 = undef := (hp 2 rfl).1
          have e436 : ρ 40 = undef := (hp 3 rfl).1
          have e437 : ρ 38 = .bool x37 := (hp 1 rfl).1
          refine WL.pass ((wanted_of rfl rfl (bool_tr e437 hc281)).trans rfl) rfl ?_
          exact WL.nil ⟨rfl, _, rfl, rfl, hs.cutG 0 0⟩
        · intro ρ w Γx Λx hs hu hp
          have e438 : ρ 41 = undef := (hp 4 rfl).1
          have e439 : ρ 38 = .bool x37 := (hp 1 rfl).1
          refine WL.pass ((wanted_of rfl rfl (bool_tr e439 hc281)).trans rfl) rfl ?_
          exact WL.nil ⟨rfl, _, rfl, rfl, hs.cutG 0 0⟩
        · intro ρ w Γx Λx hs hu hp
          have e440 : ρ 38 = .bool x37 := (hp 1 rfl).1
          have e441 : ρ 42 = undef := (hp 5 rfl).1
          refine WL.pickF (v := .bool false) (bool_tr e440 hc281) rfl ?_
          exact WL.nil ⟨rfl, _, rfl, rfl, hs.cutG 0 0⟩
        · intro ρ w Γx Λx hs hu hp
          have e442 : ρ 43 = .bool false := (hp 6 rfl).1
          refine WL.move (v := .bool false) e442 ?_
          exact WL.nil ⟨rfl, _, rfl, rfl, hs.cutG 0 0⟩
        · intro ρ w Γx Λx hs hu hp
          have e443 : ρ 44 = .bool false := (hp 7 rfl).1
          refine WL.loadN (vs := [.slice a20 (x19.Members).length c22, .int .i64 x19.Rule.Kind, .int .i64 x19.Rule.Columns, .int .i64 x19.Rule.Faulty]) hs (Λx.length + 0) (getApp rfl) TI26 (hu 9 rfl) rfl rfl ?_ (hg := (wanted_of rfl rfl e443).trans rfl)
          exact WL.nil ⟨rfl, _, rfl, rfl, hs.cutG 0 0⟩
        · intro ρ w Γx Λx hs hu hp
          have e444 : ρ 44 = .bool false := (hp 7 rfl).1
          refine WL.buildSlice0 hs UN33 TI3 (fun a418 w hs => ?_) (hg := (wanted_of rfl rfl e444).trans rfl)
          exact WL.nil ⟨rfl, _, rfl, ⟨a418, rfl⟩, hs.cutG 0 0⟩
        · intro ρ w Γx Λx hs hu hp
          have e445 : ρ 44 = .bool false := (hp 7 rfl).1
          refine WL.move (v := .slice a4 x3.length c5) ((hu 2 rfl).trans h12_2) ?_ (hg := (wanted_of rfl rfl e445).trans rfl)
          exact WL.nil ⟨rfl, _, rfl, rfl, hs.cutG 0 0⟩
        · intro ρ w Γx Λx hs hu hp
          obtain ⟨⟨a446, e447r⟩, hm448⟩ := hp 9 rfl
          have e447 : ρ 46 = .slice a446 0 0 := e447r
          have e449 : ρ 47 = .slice a4 x3.length c5 := (hp 10 rfl).1
          have e450 : ρ 44 = .bool false := (hp 7 rfl).1
          have hs := hs.ownEmpty (tInt .i64) 3 a446
          refine WL.appendS (zs := x419) hs 0 rfl (Γx.length + 2) (getApp rfl) UN33 UN33 EI3 e447 e449 hbx419 (by omega) hex419 (fun v420 w hs => ?_) (hg := (wanted_of rfl rfl e450).trans rfl)
          obtain ⟨a421, n423, c422, rfl⟩ := hs.ownv3 0 rfl
          exact WL.nil ⟨rfl, _, rfl, ⟨(a421, n423, c422), rfl⟩, hs.cutG 0 0⟩
        · intro ρ w Γx Λx hs hu hp
          have e451 : ρ 44 = .bool false := (hp 7 rfl).1
          refine WL.buildSliceB (ys := [0, 99, (-1)]) (n := 3) (vs := [(0, .int .i64 0), (1, .int .i64 99), (2, .int .i64 (-1))]) (cs := [.int .i64 0, .int .i64 99, .int .i64 (-1)]) hs ⟨⟨rfl, rfl⟩, ⟨⟨rfl, rfl⟩, ⟨⟨rfl, rfl⟩, trivial⟩⟩⟩ (bls PS33 (by decide) rfl) (fun ok hA => (Cells.app (Cells.one (T := tInt .i64) rfl) (Cells.app (Cells.one (T := tInt .i64) rfl) (Cells.one (T := tInt .i64) rfl)))) rfl (by decide) (fun a425 w hBl hs => ?_) (hg := (wanted_of rfl rfl e451).trans rfl)
          have hs := hs.add (it := vl (tSlice (tInt .i64)) [0, 99, (-1)] (.slice a425 ([0, 99, (-1)]).length 3)) fun ok hA => hA.get 0 rfl
          exact WL.nil ⟨rfl, _, rfl, ⟨(a425, 3), rfl⟩, hs.cutG 1 1⟩
        · intro ρ w Γx Λx hs hu hp
          have hs : St ok (bz w0) w (Γx ++ [vl (tSlice (tInt .i64)) x31 (.slice a33 x31.length c34), vl (tSlice t_api_Member) x19.Members (.slice a20 (x19.Members).length c22), vl (tSlice (tInt .i64)) x3 (.slice a4 x3.length c5), vl (tSlice (tInt .i64)) x6 (.slice a7 x6.length c8)]) (Λx ++ ([own (tInt .i64) 3 ((ρ 48)) x419] ++ [blk g23 26 [.slice a20 (x19.Members).length c22, .int .i64 x19.Rule.Kind, .int .i64 x19.Rule.Columns, .int .i64 x19.Rule.Faulty]])) := hs
          obtain ⟨⟨⟨a452, n454, c453⟩, e455r⟩, hm456⟩ := hp 11 rfl
          have e455 : ρ 48 = .slice a452 n454 c453 := e455r
          rw [e455] at hs
          obtain ⟨⟨⟨a457, c458⟩, e459r⟩, hm460⟩ := hp 12 rfl
          have e459 : ρ 49 = .slice a457 ([0, 99, (-1)]).length c458 := e459r
          rw [e459r] at hm460
          have hs := hs.memo1 (it := vl (tSlice (tInt .i64)) [0, 99, (-1)] (.slice a457 ([0, 99, (-1)]).length c458)) (List.mem_append.2 (.inl (hm460 _ (List.mem_of_getElem? (i := 0) rfl))))
          have e461 : ρ 44 = .bool false := (hp 7 rfl).1
          refine WL.appendS (zs := x426) hs (Λx.length + 0) (getApp rfl) 0 rfl UN33 UN33 EI3 e455 e459 hbx426 (by omega) hex426 (fun v427 w hs => ?_) (hg := (wanted_of rfl rfl e461).trans rfl)
          have hs := hs.backP
          obtain ⟨a428, n430, c429, rfl⟩ := hs.ownv3 0 rfl
          exact WL.nil ⟨rfl, _, rfl, ⟨(a428, n430, c429), rfl⟩, hs.cutG 0 1⟩
        · intro ρ w Γx Λx hs hu hp
          have hs : St ok (bz w0) w (Γx ++ [vl (tSlice (tInt .i64)) x31 (.slice a33 x31.length c34), vl (tSlice t_api_Member) x19.Members (.slice a20 (x19.Members).length c22), vl (tSlice (tInt .i64)) x3 (.slice a4 x3.length c5), vl (tSlice (tInt .i64)) x6 (.slice a7 x6.length c8)]) (Λx ++ ([own (tInt .i64) 3 ((ρ 50)) x426] ++ [blk g23 26 [.slice a20 (x19.Members).length c22, .int .i64 x19.Rule.Kind, .int .i64 x19.Rule.Columns, .int .i64 x19.Rule.Faulty]])) := hs
          have e462 : ρ 45 = .agg ([.slice a20 (x19.Members).length c22, .int .i64 x19.Rule.Kind, .int .i64 x19.Rule.Columns, .int .i64 x19.Rule.Faulty] : List Value).toArray := (hp 8 rfl).1
          obtain ⟨⟨⟨a463, n465, c464⟩, e466r⟩, hm467⟩ := hp 13 rfl
          have e466 : ρ 50 = .slice a463 n465 c464 := e466r
          rw [e466] at hs
          have e468 : ρ 44 = .bool false := (hp 7 rfl).1
          have hs := hs.add (it := vl t_api_View (⟨x19.Members, (⟨x19.Rule.Kind, x19.Rule.Columns, x19.Rule.Faulty⟩ : api_Rule)⟩ : api_View) (.agg [.slice a20 (x19.Members).length c22, .int .i64 x19.Rule.Kind, .int .i64 x19.Rule.Columns, .int .i64 x19.Rule.Faulty].toArray)) fun ok hA => V_agg (show t_api_View.R ok _ _ _ from ⟨[.slice a20 (x19.Members).length c22], [.int .i64 x19.Rule.Kind, .int .i64 x19.Rule.Columns, .int .i64 x19.Rule.Faulty], rfl, (R_one (hA.get (Γx.length + 1) (getApp rfl))), ⟨[.int .i64 x19.Rule.Kind], [.int .i64 x19.Rule.Columns, .int .i64 x19.Rule.Faulty], rfl, rfl, ⟨[.int .i64 x19.Rule.Columns], [.int .i64 x19.Rule.Faulty], rfl, rfl, rfl⟩⟩⟩) rfl
          obtain rfl := hs.ownLen (Λx.length + 0) (getApp rfl)
          have hs := hs.freezeOwn (Λx.length + 0) (getApp rfl)
          have hs := hs.backE
          refine WL.call (vs := [.agg ([.slice a20 (x19.Members).length c22, .int .i64 x19.Rule.Kind, .int .i64 x19.Rule.Columns, .int .i64 x19.Rule.Faulty] : List Value).toArray, .slice a463 x426.length c464]) hs FN18 ⟨e462, ⟨e466, trivial⟩⟩ (fun ok hA => quorum_IsQuorum.calls (x1 := (⟨x19.Members, (⟨x19.Rule.Kind, x19.Rule.Columns, x19.Rule.Faulty⟩ : api_Rule)⟩ : api_View)) (x5 := x426) hxx431 (hA.get 1 rfl) (hA.get 0 rfl)) ?_ (hg := (wanted_of rfl rfl e468).trans rfl)
          rintro _ w hs
          exact WL.nil ⟨rfl, _, rfl, rfl, hs.cutG 0 2⟩
        · intro ρ w Γx Λx hs hu hp
          have e469 : ρ 44 = .bool false := (hp 7 rfl).1
          refine WL.move (v := .bool x37) (hu 11 rfl) ?_ (hg := (wanted_of rfl rfl e469).trans rfl)
          exact WL.nil ⟨rfl, _, rfl, rfl, hs.cutG 0 0⟩
        · intro ρ w Γx Λx hs hu hp
          have e470 : ρ 51 = .bool x431 := (hp 14 rfl).1
          have e471 : ρ 52 = .bool x37 := (hp 15 rfl).1
          have e472 : ρ 44 = .bool false := (hp 7 rfl).1
          refine WL.neB UN4 e470 e471 ?_ (hg := (wanted_of rfl rfl e472).trans rfl)
          exact WL.nil ⟨rfl, _, rfl, rfl, hs.cutG 0 0⟩
        · intro ρ w Γx Λx hs hu hp
          have e473 : ρ 44 = .bool false := (hp 7 rfl).1
          have e474 : ρ 53 = .bool (x431 != x37) := (hp 16 rfl).1
          refine WL.pickF (v := .bool (x431 != x37)) e473 e474 ?_
          exact WL.nil ⟨rfl, _, rfl, rfl, hs.cutG 0 0⟩
        · intro ρ w hs hu475 hp
          obtain ⟨⟨⟨⟨⟨⟨⟨⟨⟨⟨⟨⟨⟨⟨⟨⟨⟨⟨_, hp0_⟩, hp1_⟩, hp2_⟩, hp3_⟩, hp4_⟩, hp5_⟩, hp6_⟩, hp7_⟩, hp8_⟩, hp9_⟩, hp10_⟩, hp11_⟩, hp12_⟩, hp13_⟩, hp14_⟩, hp15_⟩, hp16_⟩, hp17_⟩ := hp
          have hs : St ok (bz w0) w [vl (tSlice (tInt .i64)) [0, 99, (-1)] (ρ 49), vl (tSlice (tInt .i64)) x31 (.slice a33 x31.length c34), vl (tSlice t_api_Member) x19.Members (.slice a20 (x19.Members).length c22), vl (tSlice (tInt .i64)) x3 (.slice a4 x3.length c5), vl (tSlice (tInt .i64)) x6 (.slice a7 x6.length c8)] [blk g23 26 [.slice a20 (x19.Members).length c22, .int .i64 x19.Rule.Kind, .int .i64 x19.Rule.Columns, .int .i64 x19.Rule.Faulty]] := hs
          have e476 : ρ 54 = .bool (x431 != x37) := hp17_
          have e477 : ρ 53 = .bool (x431 != x37) := hp16_
          have e478 : ρ 52 = .bool x37 := hp15_
          have e479 : ρ 51 = .bool x431 := hp14_
          obtain ⟨⟨a480, n482, c481⟩, e483⟩ := hp13_
          have e483 : ρ 50 = .slice a480 n482 c481 := e483
          try rw [e483] at hs
          obtain ⟨⟨a484, c485⟩, e486⟩ := hp12_
          have e486 : ρ 49 = .slice a484 ([0, 99, (-1)]).length c485 := e486
          try rw [e486] at hs
          obtain ⟨⟨a487, n489, c488⟩, e490⟩ := hp11_
          have e490 : ρ 48 = .slice a487 n489 c488 := e490
          try rw [e490] at hs
          have e491 : ρ 47 = .slice a4 x3.length c5 := hp10_
          obtain ⟨a492, e493⟩ := hp9_
          have e493 : ρ 46 = .slice a492 0 0 := e493
          try rw [e493] at hs
          have e494 : ρ 45 = .agg ([.slice a20 (x19.Members).length c22, .int .i64 x19.Rule.Kind, .int .i64 x19.Rule.Columns, .int .i64 x19.Rule.Faulty] : List Value).toArray := hp8_
          have e495 : ρ 44 = .bool false := hp7_
          have e496 : ρ 43 = .bool false := hp6_
          have e497 : ρ 42 = undef := hp5_
          have e498 : ρ 41 = undef := hp4_
          have e499 : ρ 40 = undef := hp3_
          have e500 : ρ 39 = undef := hp2_
          have e501 : ρ 38 = .bool x37 := hp1_
          have e502 : ρ 37 = .bool x37 := hp0_
          refine WA.done (by kernel_rfl) ?_
          exact Jk189 (x431 != x37) _ _ ((hu475 2 rfl).trans h12_2) (hu475 9 rfl) (hu475 11 rfl) e476 ((hs.mask [true]).pick [3, 2]) hf
  refine W.region ?_
  refine WL.move (v := .slice a4 x3.length c5) rfl ?_
  refine WL.len (v := .slice a4 x3.length c5) rfl (len_slice UN33) ?_
  refine WL.bin (v := .bool (decide (30 < (x3.length : Int)))) rfl rfl (ib_gtr _ _ _) ?_
  refine WL.move (v := .bool (decide (30 < (x3.length : Int)))) rfl ?_
  rcases iteE hf with ⟨hc503, hf⟩ | ⟨hc503, hf⟩
  · refine WL.pass ((wanted_of rfl rfl (bool_tr rfl hc503)).trans rfl) rfl ?_
    refine WL.pass ((wanted_of rfl rfl (bool_tr rfl hc503)).trans rfl) rfl ?_
    refine WL.pass ((wanted_of rfl rfl (bool_tr rfl hc503)).trans rfl) rfl ?_
    refine WL.pickT (v := .bool true) (bool_tr rfl hc503) rfl ?_
    refine WL.nil ?_
    exact Jk14 true _ _ rfl rfl rfl rfl rfl ((hs.mask []).pick [0, 1]) hf
  · refine WL.move (v := .slice a7 x6.length c8) rfl ?_ (hg := (wanted_of rfl rfl (bool_tr rfl hc503)).trans rfl)
    refine WL.len (v := .slice a7 x6.length c8) rfl (len_slice UN33) ?_ (hg := (wanted_of rfl rfl (bool_tr rfl hc503)).trans rfl)
    refine WL.bin (v := .bool (decide (30 < (x6.length : Int)))) rfl rfl (ib_gtr _ _ _) ?_ (hg := (wanted_of rfl rfl (bool_tr rfl hc503)).trans rfl)
    refine WL.pickF (v := .bool (decide (30 < (x6.length : Int)))) (bool_tr rfl hc503) rfl ?_
    refine WL.nil ?_
    exact Jk14 (decide (30 < (x6.length : Int))) _ _ rfl rfl rfl rfl rfl ((hs.mask []).pick [0, 1]) hf
end Go.Proofs.Ytodebgfppmcjlaa
