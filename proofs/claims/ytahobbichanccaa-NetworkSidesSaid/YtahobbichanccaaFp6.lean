import Derived.Test.YtahobbichanccaaFh
import Derived.Test.YtahobbichanccaaFp0
import Derived.Test.YtahobbichanccaaFp1
import Derived.Test.YtahobbichanccaaFp2
import Derived.Test.YtahobbichanccaaFp3
import Derived.Test.YtahobbichanccaaFp4
import Derived.Test.YtahobbichanccaaFp5
set_option linter.unusedVariables false
set_option linter.unusedSimpArgs false
namespace Go.Proofs.Ytahobbichanccaa
open Go Go.RowKit Go.Proofs.YtahobbichanccaaL
set_option maxRecDepth 100000
set_option maxHeartbeats 400000
/-! elasticstore/elasticstoreref14.EqualMessage: function 24 -/
theorem esref14_EqualMessage.calls {ok : Nat → Prop} {w0 : World} {x1 : api_Message} {x5 : api_Message} {v2 : Value} {v6 : Value} {r : Bool} (hf : esref14_EqualMessage x1 x5 = some r) (i0 : (vl t_api_Message x1 v2).holds ok w0) (i1 : (vl t_api_Message x5 v6).holds ok w0) :
    Calls Try.prog 24 #[v2, v6] w0 fun e w' => ∃ v, e = .returned v ∧ ∃ y : Unit, v = .bool r ∧ St ok (bz w0) w' [] [] := by
  unfold esref14_EqualMessage at hf
  refine calls_of_W (fn := Try.f24) (N := 99) Try.func24 rfl Try.ntmps24 rfl ?_
  have hs : St ok (bz w0) w0 [vl t_api_Message x1 v2, vl t_api_Message x5 v6] [] := St.init (All.cons i0 (All.cons i1 All.nil))
  clear i0 i1
  obtain ⟨cs3, hl4, rfl⟩ := hs.aggv (n := 18) 0 rfl rfl rfl
  obtain ⟨cs7, hl8, rfl⟩ := hs.aggv (n := 18) 1 rfl rfl rfl
  refine W.seqK fun K9 hK9 => ?_
  refine W.region ?_
  refine WL.box (vs := cs3) hs rfl rfl (fun g10 w hs => ?_)
  refine WL.box (vs := cs7) hs rfl rfl (fun g11 w hs => ?_)
  refine WL.assign (v := .bool false) rfl ?_
  refine WL.nil ?_
  refine hK9 _ _ ?_
  refine W.seqK fun K12 hK12 => ?_
  refine W.seqK fun K13 hK13 => ?_
  have Jk16 : ∀ (x15 : Bool) (ρ : Env) (w : World), ρ 2 = .pointer (some ⟨g10, 0, none⟩) → ρ 3 = .pointer (some ⟨g11, 0, none⟩) → ρ 58 = .bool x15 → St ok (bz w0) w [vl t_api_Message x5 (.agg cs7.toArray), vl t_api_Message x1 (.agg cs3.toArray)] [blk g11 49 cs7, blk g10 49 cs3] → esref14_EqualMessage.j2 x1 x5 x15 = some r → K13 ρ w := by
    intro x15 ρ w h14_2 h14_3 h14_58 hs hf
    refine hK13 _ _ ?_
    unfold esref14_EqualMessage.j2 at hf
    rcases iteE hf with ⟨hc17, hf⟩ | ⟨hc17, hf⟩
    · refine W.cond_true (bool_tr h14_58 hc17) ?_
      refine W.seqK fun K18 hK18 => ?_
      refine W.region ?_
      refine WL.assign (v := .bool false) rfl ?_
      refine WL.nil ?_
      refine hK18 _ _ ?_
      refine W.ret ?_
      have hr := Option.some.inj hf; subst hr
      exact ⟨_, resOk_one rfl rfl, (), rfl, (hs.mask []).pick []⟩
    · refine W.cond_false (bool_tr h14_58 hc17) ?_
      refine W.skip ?_
      refine hK12 _ _ ?_
      refine W.seqK fun K19 hK19 => ?_
      have Jk22 : ∀ (x21 : Bool) (ρ : Env) (w : World), ρ 4 = .bool x21 → St ok (bz w0) w [] [] → esref14_EqualMessage.j1 x21 = some r → K19 ρ w := by
        intro x21 ρ w h20_4 hs hf
        refine hK19 _ _ ?_
        unfold esref14_EqualMessage.j1 at hf
        refine W.ret ?_
        have hr := Option.some.inj hf; subst hr
        exact ⟨_, resOk_one rfl h20_4, (), rfl, (hs.mask []).pick []⟩
      refine W.region ?_
      refine WL.fieldAddr (m := 7) h14_2 FA49_6 rfl ?_
      refine WL.loadF (z := x1.Cert) F_api_Message_Cert hs 1 rfl 1 rfl rfl TI43 (.inl rfl) rfl rfl (fun v23 hs => ?_)
      obtain ⟨cs24, hl25, rfl⟩ := hs.aggv (n := 2) 0 rfl rfl rfl
      refine WL.fieldAddr (m := 7) h14_3 FA49_6 rfl ?_
      refine WL.loadF (z := x5.Cert) F_api_Message_Cert hs 0 rfl 1 rfl rfl TI43 (.inl rfl) rfl rfl (fun v26 hs => ?_)
      obtain ⟨cs27, hl28, rfl⟩ := hs.aggv (n := 2) 0 rfl rfl rfl
      obtain ⟨x29, hxx29, hf⟩ := bindE hf
      refine WL.call (vs := [.agg cs24.toArray, .agg cs27.toArray]) hs FN42 ⟨rfl, ⟨rfl, trivial⟩⟩ (fun ok hA => esref14_EqualCert.calls (x1 := x1.Cert) (x5 := x5.Cert) hxx29 (hA.get 1 rfl) (hA.get 0 rfl)) ?_
      rintro _ w hs
      refine WL.move (v := .bool x29) rfl ?_
      rcases iteE hf with ⟨hc30, hf⟩ | ⟨hc30, hf⟩
      · refine WL.fieldAddr (m := 9) h14_2 FA49_7 rfl ?_ (hg := (wanted_of rfl rfl (bool_tr rfl hc30)).trans rfl)
        refine WL.loadF (z := x1.Base) F_api_Message_Base hs 1 rfl 3 rfl rfl TI43 (.inl rfl) rfl rfl (fun v31 hs => ?_) (hg := (wanted_of rfl rfl (bool_tr rfl hc30)).trans rfl)
        obtain ⟨cs32, hl33, rfl⟩ := hs.aggv (n := 2) 0 rfl rfl rfl
        refine WL.fieldAddr (m := 9) h14_3 FA49_7 rfl ?_ (hg := (wanted_of rfl rfl (bool_tr rfl hc30)).trans rfl)
        refine WL.loadF (z := x5.Base) F_api_Message_Base hs 0 rfl 3 rfl rfl TI43 (.inl rfl) rfl rfl (fun v34 hs => ?_) (hg := (wanted_of rfl rfl (bool_tr rfl hc30)).trans rfl)
        obtain ⟨cs35, hl36, rfl⟩ := hs.aggv (n := 2) 0 rfl rfl rfl
        obtain ⟨x37, hxx37, hf⟩ := bindE hf
        refine WL.call (vs := [.agg cs32.toArray, .agg cs35.toArray]) hs FN42 ⟨rfl, ⟨rfl, trivial⟩⟩ (fun ok hA => esref14_EqualCert.calls (x1 := x1.Base) (x5 := x5.Base) hxx37 (hA.get 1 rfl) (hA.get 0 rfl)) ?_ (hg := (wanted_of rfl rfl (bool_tr rfl hc30)).trans rfl)
        rintro _ w hs
        refine WL.pickT (v := .bool x37) (bool_tr rfl hc30) rfl ?_
        refine WL.move (v := .bool x37) rfl ?_
        rcases iteE hf with ⟨hc38, hf⟩ | ⟨hc38, hf⟩
        · refine WL.fieldAddr (m := 12) h14_2 FA49_9 rfl ?_ (hg := (wanted_of rfl rfl (bool_tr rfl hc38)).trans rfl)
          refine WL.loadF (z := x1.Established) F_api_Message_Established hs 1 rfl 5 rfl rfl TI43 (.inl rfl) rfl rfl (fun v39 hs => ?_) (hg := (wanted_of rfl rfl (bool_tr rfl hc38)).trans rfl)
          obtain ⟨cs40, hl41, rfl⟩ := hs.aggv (n := 2) 0 rfl rfl rfl
          refine WL.fieldAddr (m := 12) h14_3 FA49_9 rfl ?_ (hg := (wanted_of rfl rfl (bool_tr rfl hc38)).trans rfl)
          refine WL.loadF (z := x5.Established) F_api_Message_Established hs 0 rfl 5 rfl rfl TI43 (.inl rfl) rfl rfl (fun v42 hs => ?_) (hg := (wanted_of rfl rfl (bool_tr rfl hc38)).trans rfl)
          obtain ⟨cs43, hl44, rfl⟩ := hs.aggv (n := 2) 0 rfl rfl rfl
          obtain ⟨x45, hxx45, hf⟩ := bindE hf
          refine WL.call (vs := [.agg cs40.toArray, .agg cs43.toArray]) hs FN42 ⟨rfl, ⟨rfl, trivial⟩⟩ (fun ok hA => esref14_EqualCert.calls (x1 := x1.Established) (x5 := x5.Established) hxx45 (hA.get 1 rfl) (hA.get 0 rfl)) ?_ (hg := (wanted_of rfl rfl (bool_tr rfl hc38)).trans rfl)
          rintro _ w hs
          refine WL.pickT (v := .bool x45) (bool_tr rfl hc38) rfl ?_
          refine WL.move (v := .bool x45) rfl ?_
          rcases iteE hf with ⟨hc46, hf⟩ | ⟨hc46, hf⟩
          · refine WL.fieldAddr (m := 14) h14_2 FA49_10 rfl ?_ (hg := (wanted_of rfl rfl (bool_tr rfl hc46)).trans rfl)
            refine WL.loadF (z := x1.Config) F_api_Message_Config hs 1 rfl 7 rfl rfl TI41 (.inr rfl) rfl rfl (fun v47 hs => ?_) (hg := (wanted_of rfl rfl (bool_tr rfl hc46)).trans rfl)
            obtain ⟨a48, c49, rfl⟩ := hs.slice 0 rfl
            refine WL.fieldAddr (m := 14) h14_3 FA49_10 rfl ?_ (hg := (wanted_of rfl rfl (bool_tr rfl hc46)).trans rfl)
            refine WL.loadF (z := x5.Config) F_api_Message_Config hs 0 rfl 7 rfl rfl TI41 (.inr rfl) rfl rfl (fun v50 hs => ?_) (hg := (wanted_of rfl rfl (bool_tr rfl hc46)).trans rfl)
            obtain ⟨a51, c52, rfl⟩ := hs.slice 0 rfl
            obtain ⟨x53, hxx53, hf⟩ := bindE hf
            refine WL.call (vs := [.slice a48 (x1.Config).length c49, .slice a51 (x5.Config).length c52]) hs FN43 ⟨rfl, ⟨rfl, trivial⟩⟩ (fun ok hA => esref06_EqualConfig.calls (x1 := x1.Config) (x4 := x5.Config) hxx53 (hA.get 1 rfl) (hA.get 0 rfl)) ?_ (hg := (wanted_of rfl rfl (bool_tr rfl hc46)).trans rfl)
            rintro _ w hs
            refine WL.pickT (v := .bool x53) (bool_tr rfl hc46) rfl ?_
            refine WL.move (v := .bool x53) rfl ?_
            rcases iteE hf with ⟨hc54, hf⟩ | ⟨hc54, hf⟩
            · refine WL.fieldAddr (m := 15) h14_2 FA49_11 rfl ?_ (hg := (wanted_of rfl rfl (bool_tr rfl hc54)).trans rfl)
              refine WL.loadF (z := x1.State) F_api_Message_State hs 1 rfl 9 rfl rfl TI45 (.inr rfl) rfl rfl (fun v55 hs => ?_) (hg := (wanted_of rfl rfl (bool_tr rfl hc54)).trans rfl)
              obtain ⟨a56, c57, rfl⟩ := hs.slice 0 rfl
              refine WL.fieldAddr (m := 15) h14_3 FA49_11 rfl ?_ (hg := (wanted_of rfl rfl (bool_tr rfl hc54)).trans rfl)
              refine WL.loadF (z := x5.State) F_api_Message_State hs 0 rfl 9 rfl rfl TI45 (.inr rfl) rfl rfl (fun v58 hs => ?_) (hg := (wanted_of rfl rfl (bool_tr rfl hc54)).trans rfl)
              obtain ⟨a59, c60, rfl⟩ := hs.slice 0 rfl
              obtain ⟨x61, hxx61, hf⟩ := bindE hf
              refine WL.call (vs := [.slice a56 (x1.State).length c57, .slice a59 (x5.State).length c60]) hs FN44 ⟨rfl, ⟨rfl, trivial⟩⟩ (fun ok hA => esref14_EqualState.calls (x1 := x1.State) (x4 := x5.State) hxx61 (hA.get 1 rfl) (hA.get 0 rfl)) ?_ (hg := (wanted_of rfl rfl (bool_tr rfl hc54)).trans rfl)
              rintro _ w hs
              refine WL.pickT (v := .bool x61) (bool_tr rfl hc54) rfl ?_
              refine WL.move (v := .bool x61) rfl ?_
              rcases iteE hf with ⟨hc62, hf⟩ | ⟨hc62, hf⟩
              · refine WL.fieldAddr (m := 16) h14_2 FA49_12 rfl ?_ (hg := (wanted_of rfl rfl (bool_tr rfl hc62)).trans rfl)
                refine WL.loadF (z := x1.Have) F_api_Message_Have hs 1 rfl 11 rfl rfl TI47 (.inr rfl) rfl rfl (fun v63 hs => ?_) (hg := (wanted_of rfl rfl (bool_tr rfl hc62)).trans rfl)
                obtain ⟨a64, c65, rfl⟩ := hs.slice 0 rfl
                refine WL.fieldAddr (m := 16) h14_3 FA49_12 rfl ?_ (hg := (wanted_of rfl rfl (bool_tr rfl hc62)).trans rfl)
                refine WL.loadF (z := x5.Have) F_api_Message_Have hs 0 rfl 11 rfl rfl TI47 (.inr rfl) rfl rfl (fun v66 hs => ?_) (hg := (wanted_of rfl rfl (bool_tr rfl hc62)).trans rfl)
                obtain ⟨a67, c68, rfl⟩ := hs.slice 0 rfl
                obtain ⟨x69, hxx69, hf⟩ := bindE hf
                refine WL.call (vs := [.slice a64 (x1.Have).length c65, .slice a67 (x5.Have).length c68]) hs FN45 ⟨rfl, ⟨rfl, trivial⟩⟩ (fun ok hA => esref03_EqualVector.calls (x1 := x1.Have) (x4 := x5.Have) hxx69 (hA.get 1 rfl) (hA.get 0 rfl)) ?_ (hg := (wanted_of rfl rfl (bool_tr rfl hc62)).trans rfl)
                rintro _ w hs
                refine WL.pickT (v := .bool x69) (bool_tr rfl hc62) rfl ?_
                refine WL.assign (v := .bool x69) rfl ?_
                refine WL.nil ?_
                exact Jk22 x69 _ _ rfl ((hs.mask []).pick []) hf
              · refine WL.pass ((wanted_of rfl rfl (bool_tr rfl hc62)).trans rfl) rfl ?_
                refine WL.pass ((wanted_of rfl rfl (bool_tr rfl hc62)).trans rfl) rfl ?_
                refine WL.pass ((wanted_of rfl rfl (bool_tr rfl hc62)).trans rfl) rfl ?_
                refine WL.pass ((wanted_of rfl rfl (bool_tr rfl hc62)).trans rfl) rfl ?_
                refine WL.pass ((wanted_of rfl rfl (bool_tr rfl hc62)).trans rfl) rfl ?_
                refine WL.pickF (v := .bool false) (bool_tr rfl hc62) rfl ?_
                refine WL.assign (v := .bool false) rfl ?_
                refine WL.nil ?_
                exact Jk22 false _ _ rfl ((hs.mask []).pick []) hf
            · refine WL.pass ((wanted_of rfl rfl (bool_tr rfl hc54)).trans rfl) rfl ?_
              refine WL.pass ((wanted_of rfl rfl (bool_tr rfl hc54)).trans rfl) rfl ?_
              refine WL.pass ((wanted_of rfl rfl (bool_tr rfl hc54)).trans rfl) rfl ?_
              refine WL.pass ((wanted_of rfl rfl (bool_tr rfl hc54)).trans rfl) rfl ?_
              refine WL.pass ((wanted_of rfl rfl (bool_tr rfl hc54)).trans rfl) rfl ?_
              refine WL.pickF (v := .bool false) (bool_tr rfl hc54) rfl ?_
              refine WL.move (v := .bool false) rfl ?_
              refine WL.pass ((wanted_of rfl rfl rfl).trans rfl) rfl ?_
              refine WL.pass ((wanted_of rfl rfl rfl).trans rfl) rfl ?_
              refine WL.pass ((wanted_of rfl rfl rfl).trans rfl) rfl ?_
              refine WL.pass ((wanted_of rfl rfl rfl).trans rfl) rfl ?_
              refine WL.pass ((wanted_of rfl rfl rfl).trans rfl) rfl ?_
              refine WL.pickF (v := .bool false) rfl rfl ?_
              refine WL.assign (v := .bool false) rfl ?_
              refine WL.nil ?_
              exact Jk22 false _ _ rfl ((hs.mask []).pick []) hf
          · refine WL.pass ((wanted_of rfl rfl (bool_tr rfl hc46)).trans rfl) rfl ?_
            refine WL.pass ((wanted_of rfl rfl (bool_tr rfl hc46)).trans rfl) rfl ?_
            refine WL.pass ((wanted_of rfl rfl (bool_tr rfl hc46)).trans rfl) rfl ?_
            refine WL.pass ((wanted_of rfl rfl (bool_tr rfl hc46)).trans rfl) rfl ?_
            refine WL.pass ((wanted_of rfl rfl (bool_tr rfl hc46)).trans rfl) rfl ?_
            refine WL.pickF (v := .bool false) (bool_tr rfl hc46) rfl ?_
            refine WL.move (v := .bool false) rfl ?_
            refine WL.pass ((wanted_of rfl rfl rfl).trans rfl) rfl ?_
            refine WL.pass ((wanted_of rfl rfl rfl).trans rfl) rfl ?_
            refine WL.pass ((wanted_of rfl rfl rfl).trans rfl) rfl ?_
            refine WL.pass ((wanted_of rfl rfl rfl).trans rfl) rfl ?_
            refine WL.pass ((wanted_of rfl rfl rfl).trans rfl) rfl ?_
            refine WL.pickF (v := .bool false) rfl rfl ?_
            refine WL.move (v := .bool false) rfl ?_
            refine WL.pass ((wanted_of rfl rfl rfl).trans rfl) rfl ?_
            refine WL.pass ((wanted_of rfl rfl rfl).trans rfl) rfl ?_
            refine WL.pass ((wanted_of rfl rfl rfl).trans rfl) rfl ?_
            refine WL.pass ((wanted_of rfl rfl rfl).trans rfl) rfl ?_
            refine WL.pass ((wanted_of rfl rfl rfl).trans rfl) rfl ?_
            refine WL.pickF (v := .bool false) rfl rfl ?_
            refine WL.assign (v := .bool false) rfl ?_
            refine WL.nil ?_
            exact Jk22 false _ _ rfl ((hs.mask []).pick []) hf
        · refine WL.pass ((wanted_of rfl rfl (bool_tr rfl hc38)).trans rfl) rfl ?_
          refine WL.pass ((wanted_of rfl rfl (bool_tr rfl hc38)).trans rfl) rfl ?_
          refine WL.pass ((wanted_of rfl rfl (bool_tr rfl hc38)).trans rfl) rfl ?_
          refine WL.pass ((wanted_of rfl rfl (bool_tr rfl hc38)).trans rfl) rfl ?_
          refine WL.pass ((wanted_of rfl rfl (bool_tr rfl hc38)).trans rfl) rfl ?_
          refine WL.pickF (v := .bool false) (bool_tr rfl hc38) rfl ?_
          refine WL.move (v := .bool false) rfl ?_
          refine WL.pass ((wanted_of rfl rfl rfl).trans rfl) rfl ?_
          refine WL.pass ((wanted_of rfl rfl rfl).trans rfl) rfl ?_
          refine WL.pass ((wanted_of rfl rfl rfl).trans rfl) rfl ?_
          refine WL.pass ((wanted_of rfl rfl rfl).trans rfl) rfl ?_
          refine WL.pass ((wanted_of rfl rfl rfl).trans rfl) rfl ?_
          refine WL.pickF (v := .bool false) rfl rfl ?_
          refine WL.move (v := .bool false) rfl ?_
          refine WL.pass ((wanted_of rfl rfl rfl).trans rfl) rfl ?_
          refine WL.pass ((wanted_of rfl rfl rfl).trans rfl) rfl ?_
          refine WL.pass ((wanted_of rfl rfl rfl).trans rfl) rfl ?_
          refine WL.pass ((wanted_of rfl rfl rfl).trans rfl) rfl ?_
          refine WL.pass ((wanted_of rfl rfl rfl).trans rfl) rfl ?_
          refine WL.pickF (v := .bool false) rfl rfl ?_
          refine WL.move (v := .bool false) rfl ?_
          refine WL.pass ((wanted_of rfl rfl rfl).trans rfl) rfl ?_
          refine WL.pass ((wanted_of rfl rfl rfl).trans rfl) rfl ?_
          refine WL.pass ((wanted_of rfl rfl rfl).trans rfl) rfl ?_
          refine WL.pass ((wanted_of rfl rfl rfl).trans rfl) rfl ?_
          refine WL.pass ((wanted_of rfl rfl rfl).trans rfl) rfl ?_
          refine WL.pickF (v := .bool false) rfl rfl ?_
          refine WL.assign (v := .bool false) rfl ?_
          refine WL.nil ?_
          exact Jk22 false _ _ rfl ((hs.mask []).pick []) hf
      · refine WL.pass ((wanted_of rfl rfl (bool_tr rfl hc30)).trans rfl) rfl ?_
        refine WL.pass ((wanted_of rfl rfl (bool_tr rfl hc30)).trans rfl) rfl ?_
        refine WL.pass ((wanted_of rfl rfl (bool_tr rfl hc30)).trans rfl) rfl ?_
        refine WL.pass ((wanted_of rfl rfl (bool_tr rfl hc30)).trans rfl) rfl ?_
        refine WL.pass ((wanted_of rfl rfl (bool_tr rfl hc30)).trans rfl) rfl ?_
        refine WL.pickF (v := .bool false) (bool_tr rfl hc30) rfl ?_
        refine WL.move (v := .bool false) rfl ?_
        refine WL.pass ((wanted_of rfl rfl rfl).trans rfl) rfl ?_
        refine WL.pass ((wanted_of rfl rfl rfl).trans rfl) rfl ?_
        refine WL.pass ((wanted_of rfl rfl rfl).trans rfl) rfl ?_
        refine WL.pass ((wanted_of rfl rfl rfl).trans rfl) rfl ?_
        refine WL.pass ((wanted_of rfl rfl rfl).trans rfl) rfl ?_
        refine WL.pickF (v := .bool false) rfl rfl ?_
        refine WL.move (v := .bool false) rfl ?_
        refine WL.pass ((wanted_of rfl rfl rfl).trans rfl) rfl ?_
        refine WL.pass ((wanted_of rfl rfl rfl).trans rfl) rfl ?_
        refine WL.pass ((wanted_of rfl rfl rfl).trans rfl) rfl ?_
        refine WL.pass ((wanted_of rfl rfl rfl).trans rfl) rfl ?_
        refine WL.pass ((wanted_of rfl rfl rfl).trans rfl) rfl ?_
        refine WL.pickF (v := .bool false) rfl rfl ?_
        refine WL.move (v := .bool false) rfl ?_
        refine WL.pass ((wanted_of rfl rfl rfl).trans rfl) rfl ?_
        refine WL.pass ((wanted_of rfl rfl rfl).trans rfl) rfl ?_
        refine WL.pass ((wanted_of rfl rfl rfl).trans rfl) rfl ?_
        refine WL.pass ((wanted_of rfl rfl rfl).trans rfl) rfl ?_
        refine WL.pass ((wanted_of rfl rfl rfl).trans rfl) rfl ?_
        refine WL.pickF (v := .bool false) rfl rfl ?_
        refine WL.move (v := .bool false) rfl ?_
        refine WL.pass ((wanted_of rfl rfl rfl).trans rfl) rfl ?_
        refine WL.pass ((wanted_of rfl rfl rfl).trans rfl) rfl ?_
        refine WL.pass ((wanted_of rfl rfl rfl).trans rfl) rfl ?_
        refine WL.pass ((wanted_of rfl rfl rfl).trans rfl) rfl ?_
        refine WL.pass ((wanted_of rfl rfl rfl).trans rfl) rfl ?_
        refine WL.pickF (v := .bool false) rfl rfl ?_
        refine WL.assign (v := .bool false) rfl ?_
        refine WL.nil ?_
        exact Jk22 false _ _ rfl ((hs.mask []).pick []) hf
  refine W.region ?_
  refine WL.fieldAddr (m := 0) rfl FA49_0 rfl ?_
  refine WL.loadF (z := x1.Kind) F_api_Message_Kind hs 1 rfl 0 rfl rfl TI3 (.inr rfl) rfl rfl (fun v70 hs => ?_)
  obtain rfl := hs.int 0 rfl
  refine WL.fieldAddr (m := 0) rfl FA49_0 rfl ?_
  refine WL.loadF (z := x5.Kind) F_api_Message_Kind hs 0 rfl 2 rfl rfl TI3 (.inr rfl) rfl rfl (fun v71 hs => ?_)
  obtain rfl := hs.int 0 rfl
  refine WL.bin (v := .bool (x1.Kind != x5.Kind)) rfl rfl (ib_neq _ _ _) ?_
  refine WL.move (v := .bool (x1.Kind != x5.Kind)) rfl ?_
  rcases iteE hf with ⟨hc72, hf⟩ | ⟨hc72, hf⟩
  · refine WL.pass ((wanted_of rfl rfl (bool_tr rfl hc72)).trans rfl) rfl ?_
    refine WL.pass ((wanted_of rfl rfl (bool_tr rfl hc72)).trans rfl) rfl ?_
    refine WL.pass ((wanted_of rfl rfl (bool_tr rfl hc72)).trans rfl) rfl ?_
    refine WL.pass ((wanted_of rfl rfl (bool_tr rfl hc72)).trans rfl) rfl ?_
    refine WL.pass ((wanted_of rfl rfl (bool_tr rfl hc72)).trans rfl) rfl ?_
    refine WL.pickT (v := .bool true) (bool_tr rfl hc72) rfl ?_
    refine WL.move (v := .bool true) rfl ?_
    refine WL.pass ((wanted_of rfl rfl rfl).trans rfl) rfl ?_
    refine WL.pass ((wanted_of rfl rfl rfl).trans rfl) rfl ?_
    refine WL.pass ((wanted_of rfl rfl rfl).trans rfl) rfl ?_
    refine WL.pass ((wanted_of rfl rfl rfl).trans rfl) rfl ?_
    refine WL.pass ((wanted_of rfl rfl rfl).trans rfl) rfl ?_
    refine WL.pickT (v := .bool true) rfl rfl ?_
    refine WL.move (v := .bool true) rfl ?_
    refine WL.pass ((wanted_of rfl rfl rfl).trans rfl) rfl ?_
    refine WL.pass ((wanted_of rfl rfl rfl).trans rfl) rfl ?_
    refine WL.pass ((wanted_of rfl rfl rfl).trans rfl) rfl ?_
    refine WL.pass ((wanted_of rfl rfl rfl).trans rfl) rfl ?_
    refine WL.pass ((wanted_of rfl rfl rfl).trans rfl) rfl ?_
    refine WL.pickT (v := .bool true) rfl rfl ?_
    refine WL.move (v := .bool true) rfl ?_
    refine WL.pass ((wanted_of rfl rfl rfl).trans rfl) rfl ?_
    refine WL.pass ((wanted_of rfl rfl rfl).trans rfl) rfl ?_
    refine WL.pass ((wanted_of rfl rfl rfl).trans rfl) rfl ?_
    refine WL.pass ((wanted_of rfl rfl rfl).trans rfl) rfl ?_
    refine WL.pass ((wanted_of rfl rfl rfl).trans rfl) rfl ?_
    refine WL.pickT (v := .bool true) rfl rfl ?_
    refine WL.move (v := .bool true) rfl ?_
    refine WL.pass ((wanted_of rfl rfl rfl).trans rfl) rfl ?_
    refine WL.pass ((wanted_of rfl rfl rfl).trans rfl) rfl ?_
    refine WL.pass ((wanted_of rfl rfl rfl).trans rfl) rfl ?_
    refine WL.pass ((wanted_of rfl rfl rfl).trans rfl) rfl ?_
    refine WL.pass ((wanted_of rfl rfl rfl).trans rfl) rfl ?_
    refine WL.pickT (v := .bool true) rfl rfl ?_
    refine WL.move (v := .bool true) rfl ?_
    refine WL.pass ((wanted_of rfl rfl rfl).trans rfl) rfl ?_
    refine WL.pass ((wanted_of rfl rfl rfl).trans rfl) rfl ?_
    refine WL.pass ((wanted_of rfl rfl rfl).trans rfl) rfl ?_
    refine WL.pass ((wanted_of rfl rfl rfl).trans rfl) rfl ?_
    refine WL.pass ((wanted_of rfl rfl rfl).trans rfl) rfl ?_
    refine WL.pickT (v := .bool true) rfl rfl ?_
    refine WL.move (v := .bool true) rfl ?_
    refine WL.pass ((wanted_of rfl rfl rfl).trans rfl) rfl ?_
    refine WL.pass ((wanted_of rfl rfl rfl).trans rfl) rfl ?_
    refine WL.pass ((wanted_of rfl rfl rfl).trans rfl) rfl ?_
    refine WL.pass ((wanted_of rfl rfl rfl).trans rfl) rfl ?_
    refine WL.pass ((wanted_of rfl rfl rfl).trans rfl) rfl ?_
    refine WL.pickT (v := .bool true) rfl rfl ?_
    refine WL.nil ?_
    exact Jk16 true _ _ rfl rfl rfl ((hs.mask [true, true]).pick [3, 2]) hf
  · refine WL.fieldAddr (m := 1) rfl FA49_1 rfl ?_ (hg := (wanted_of rfl rfl (bool_tr rfl hc72)).trans rfl)
    refine WL.loadF (z := x1.From) F_api_Message_From hs 1 rfl 2 rfl rfl TI3 (.inr rfl) rfl rfl (fun v73 hs => ?_) (hg := (wanted_of rfl rfl (bool_tr rfl hc72)).trans rfl)
    obtain rfl := hs.int 0 rfl
    refine WL.fieldAddr (m := 1) rfl FA49_1 rfl ?_ (hg := (wanted_of rfl rfl (bool_tr rfl hc72)).trans rfl)
    refine WL.loadF (z := x5.From) F_api_Message_From hs 0 rfl 4 rfl rfl TI3 (.inr rfl) rfl rfl (fun v74 hs => ?_) (hg := (wanted_of rfl rfl (bool_tr rfl hc72)).trans rfl)
    obtain rfl := hs.int 0 rfl
    refine WL.bin (v := .bool (x1.From != x5.From)) rfl rfl (ib_neq _ _ _) ?_ (hg := (wanted_of rfl rfl (bool_tr rfl hc72)).trans rfl)
    refine WL.pickF (v := .bool (x1.From != x5.From)) (bool_tr rfl hc72) rfl ?_
    refine WL.move (v := .bool (x1.From != x5.From)) rfl ?_
    rcases iteE hf with ⟨hc75, hf⟩ | ⟨hc75, hf⟩
    · refine WL.pass ((wanted_of rfl rfl (bool_tr rfl hc75)).trans rfl) rfl ?_
      refine WL.pass ((wanted_of rfl rfl (bool_tr rfl hc75)).trans rfl) rfl ?_
      refine WL.pass ((wanted_of rfl rfl (bool_tr rfl hc75)).trans rfl) rfl ?_
      refine WL.pass ((wanted_of rfl rfl (bool_tr rfl hc75)).trans rfl) rfl ?_
      refine WL.pass ((wanted_of rfl rfl (bool_tr rfl hc75)).trans rfl) rfl ?_
      refine WL.pickT (v := .bool true) (bool_tr rfl hc75) rfl ?_
      refine WL.move (v := .bool true) rfl ?_
      refine WL.pass ((wanted_of rfl rfl rfl).trans rfl) rfl ?_
      refine WL.pass ((wanted_of rfl rfl rfl).trans rfl) rfl ?_
      refine WL.pass ((wanted_of rfl rfl rfl).trans rfl) rfl ?_
      refine WL.pass ((wanted_of rfl rfl rfl).trans rfl) rfl ?_
      refine WL.pass ((wanted_of rfl rfl rfl).trans rfl) rfl ?_
      refine WL.pickT (v := .bool true) rfl rfl ?_
      refine WL.move (v := .bool true) rfl ?_
      refine WL.pass ((wanted_of rfl rfl rfl).trans rfl) rfl ?_
      refine WL.pass ((wanted_of rfl rfl rfl).trans rfl) rfl ?_
      refine WL.pass ((wanted_of rfl rfl rfl).trans rfl) rfl ?_
      refine WL.pass ((wanted_of rfl rfl rfl).trans rfl) rfl ?_
      refine WL.pass ((wanted_of rfl rfl rfl).trans rfl) rfl ?_
      refine WL.pickT (v := .bool true) rfl rfl ?_
      refine WL.move (v := .bool true) rfl ?_
      refine WL.pass ((wanted_of rfl rfl rfl).trans rfl) rfl ?_
      refine WL.pass ((wanted_of rfl rfl rfl).trans rfl) rfl ?_
      refine WL.pass ((wanted_of rfl rfl rfl).trans rfl) rfl ?_
      refine WL.pass ((wanted_of rfl rfl rfl).trans rfl) rfl ?_
      refine WL.pass ((wanted_of rfl rfl rfl).trans rfl) rfl ?_
      refine WL.pickT (v := .bool true) rfl rfl ?_
      refine WL.move (v := .bool true) rfl ?_
      refine WL.pass ((wanted_of rfl rfl rfl).trans rfl) rfl ?_
      refine WL.pass ((wanted_of rfl rfl rfl).trans rfl) rfl ?_
      refine WL.pass ((wanted_of rfl rfl rfl).trans rfl) rfl ?_
      refine WL.pass ((wanted_of rfl rfl rfl).trans rfl) rfl ?_
      refine WL.pass ((wanted_of rfl rfl rfl).trans rfl) rfl ?_
      refine WL.pickT (v := .bool true) rfl rfl ?_
      refine WL.move (v := .bool true) rfl ?_
      refine WL.pass ((wanted_of rfl rfl rfl).trans rfl) rfl ?_
      refine WL.pass ((wanted_of rfl rfl rfl).trans rfl) rfl ?_
      refine WL.pass ((wanted_of rfl rfl rfl).trans rfl) rfl ?_
      refine WL.pass ((wanted_of rfl rfl rfl).trans rfl) rfl ?_
      refine WL.pass ((wanted_of rfl rfl rfl).trans rfl) rfl ?_
      refine WL.pickT (v := .bool true) rfl rfl ?_
      refine WL.nil ?_
      exact Jk16 true _ _ rfl rfl rfl ((hs.mask [true, true]).pick [5, 4]) hf
    · refine WL.fieldAddr (m := 2) rfl FA49_2 rfl ?_ (hg := (wanted_of rfl rfl (bool_tr rfl hc75)).trans rfl)
      refine WL.loadF (z := x1.To) F_api_Message_To hs 1 rfl 4 rfl rfl TI3 (.inr rfl) rfl rfl (fun v76 hs => ?_) (hg := (wanted_of rfl rfl (bool_tr rfl hc75)).trans rfl)
      obtain rfl := hs.int 0 rfl
      refine WL.fieldAddr (m := 2) rfl FA49_2 rfl ?_ (hg := (wanted_of rfl rfl (bool_tr rfl hc75)).trans rfl)
      refine WL.loadF (z := x5.To) F_api_Message_To hs 0 rfl 6 rfl rfl TI3 (.inr rfl) rfl rfl (fun v77 hs => ?_) (hg := (wanted_of rfl rfl (bool_tr rfl hc75)).trans rfl)
      obtain rfl := hs.int 0 rfl
      refine WL.bin (v := .bool (x1.To != x5.To)) rfl rfl (ib_neq _ _ _) ?_ (hg := (wanted_of rfl rfl (bool_tr rfl hc75)).trans rfl)
      refine WL.pickF (v := .bool (x1.To != x5.To)) (bool_tr rfl hc75) rfl ?_
      refine WL.move (v := .bool (x1.To != x5.To)) rfl ?_
      rcases iteE hf with ⟨hc78, hf⟩ | ⟨hc78, hf⟩
      · refine WL.pass ((wanted_of rfl rfl (bool_tr rfl hc78)).trans rfl) rfl ?_
        refine WL.pass ((wanted_of rfl rfl (bool_tr rfl hc78)).trans rfl) rfl ?_
        refine WL.pass ((wanted_of rfl rfl (bool_tr rfl hc78)).trans rfl) rfl ?_
        refine WL.pass ((wanted_of rfl rfl (bool_tr rfl hc78)).trans rfl) rfl ?_
        refine WL.pass ((wanted_of rfl rfl (bool_tr rfl hc78)).trans rfl) rfl ?_
        refine WL.pickT (v := .bool true) (bool_tr rfl hc78) rfl ?_
        refine WL.move (v := .bool true) rfl ?_
        refine WL.pass ((wanted_of rfl rfl rfl).trans rfl) rfl ?_
        refine WL.pass ((wanted_of rfl rfl rfl).trans rfl) rfl ?_
        refine WL.pass ((wanted_of rfl rfl rfl).trans rfl) rfl ?_
        refine WL.pass ((wanted_of rfl rfl rfl).trans rfl) rfl ?_
        refine WL.pass ((wanted_of rfl rfl rfl).trans rfl) rfl ?_
        refine WL.pickT (v := .bool true) rfl rfl ?_
        refine WL.move (v := .bool true) rfl ?_
        refine WL.pass ((wanted_of rfl rfl rfl).trans rfl) rfl ?_
        refine WL.pass ((wanted_of rfl rfl rfl).trans rfl) rfl ?_
        refine WL.pass ((wanted_of rfl rfl rfl).trans rfl) rfl ?_
        refine WL.pass ((wanted_of rfl rfl rfl).trans rfl) rfl ?_
        refine WL.pass ((wanted_of rfl rfl rfl).trans rfl) rfl ?_
        refine WL.pickT (v := .bool true) rfl rfl ?_
        refine WL.move (v := .bool true) rfl ?_
        refine WL.pass ((wanted_of rfl rfl rfl).trans rfl) rfl ?_
        refine WL.pass ((wanted_of rfl rfl rfl).trans rfl) rfl ?_
        refine WL.pass ((wanted_of rfl rfl rfl).trans rfl) rfl ?_
        refine WL.pass ((wanted_of rfl rfl rfl).trans rfl) rfl ?_
        refine WL.pass ((wanted_of rfl rfl rfl).trans rfl) rfl ?_
        refine WL.pickT (v := .bool true) rfl rfl ?_
        refine WL.move (v := .bool true) rfl ?_
        refine WL.pass ((wanted_of rfl rfl rfl).trans rfl) rfl ?_
        refine WL.pass ((wanted_of rfl rfl rfl).trans rfl) rfl ?_
        refine WL.pass ((wanted_of rfl rfl rfl).trans rfl) rfl ?_
        refine WL.pass ((wanted_of rfl rfl rfl).trans rfl) rfl ?_
        refine WL.pass ((wanted_of rfl rfl rfl).trans rfl) rfl ?_
        refine WL.pickT (v := .bool true) rfl rfl ?_
        refine WL.nil ?_
        exact Jk16 true _ _ rfl rfl rfl ((hs.mask [true, true]).pick [7, 6]) hf
      · refine WL.fieldAddr (m := 3) rfl FA49_3 rfl ?_ (hg := (wanted_of rfl rfl (bool_tr rfl hc78)).trans rfl)
        refine WL.loadF (z := x1.Access) F_api_Message_Access hs 1 rfl 6 rfl rfl TI39 (.inl rfl) rfl rfl (fun v79 hs => ?_) (hg := (wanted_of rfl rfl (bool_tr rfl hc78)).trans rfl)
        obtain ⟨cs80, hl81, rfl⟩ := hs.aggv (n := 2) 0 rfl rfl rfl
        refine WL.fieldAddr (m := 3) rfl FA49_3 rfl ?_ (hg := (wanted_of rfl rfl (bool_tr rfl hc78)).trans rfl)
        refine WL.loadF (z := x5.Access) F_api_Message_Access hs 0 rfl 8 rfl rfl TI39 (.inl rfl) rfl rfl (fun v82 hs => ?_) (hg := (wanted_of rfl rfl (bool_tr rfl hc78)).trans rfl)
        obtain ⟨cs83, hl84, rfl⟩ := hs.aggv (n := 2) 0 rfl rfl rfl
        obtain rfl := open_api_AccessID hs 1 rfl
        obtain rfl := open_api_AccessID hs 0 rfl
        refine WL.eqA rfl rfl EG39 (NQ39 (⟨x1.Access.Process, x1.Access.Number⟩ : api_AccessID) (⟨x5.Access.Process, x5.Access.Number⟩ : api_AccessID)) ?_ (hg := (wanted_of rfl rfl (bool_tr rfl hc78)).trans rfl)
        refine WL.pickF (v := .bool (!decide ((⟨x1.Access.Process, x1.Access.Number⟩ : api_AccessID) = (⟨x5.Access.Process, x5.Access.Number⟩ : api_AccessID)))) (bool_tr rfl hc78) rfl ?_
        refine WL.move (v := .bool (!decide ((⟨x1.Access.Process, x1.Access.Number⟩ : api_AccessID) = (⟨x5.Access.Process, x5.Access.Number⟩ : api_AccessID)))) rfl ?_
        rcases iteE hf with ⟨hc85, hf⟩ | ⟨hc85, hf⟩
        · refine WL.pass ((wanted_of rfl rfl (bool_tr rfl hc85)).trans rfl) rfl ?_
          refine WL.pass ((wanted_of rfl rfl (bool_tr rfl hc85)).trans rfl) rfl ?_
          refine WL.pass ((wanted_of rfl rfl (bool_tr rfl hc85)).trans rfl) rfl ?_
          refine WL.pass ((wanted_of rfl rfl (bool_tr rfl hc85)).trans rfl) rfl ?_
          refine WL.pass ((wanted_of rfl rfl (bool_tr rfl hc85)).trans rfl) rfl ?_
          refine WL.pickT (v := .bool true) (bool_tr rfl hc85) rfl ?_
          refine WL.move (v := .bool true) rfl ?_
          refine WL.pass ((wanted_of rfl rfl rfl).trans rfl) rfl ?_
          refine WL.pass ((wanted_of rfl rfl rfl).trans rfl) rfl ?_
          refine WL.pass ((wanted_of rfl rfl rfl).trans rfl) rfl ?_
          refine WL.pass ((wanted_of rfl rfl rfl).trans rfl) rfl ?_
          refine WL.pass ((wanted_of rfl rfl rfl).trans rfl) rfl ?_
          refine WL.pickT (v := .bool true) rfl rfl ?_
          refine WL.move (v := .bool true) rfl ?_
          refine WL.pass ((wanted_of rfl rfl rfl).trans rfl) rfl ?_
          refine WL.pass ((wanted_of rfl rfl rfl).trans rfl) rfl ?_
          refine WL.pass ((wanted_of rfl rfl rfl).trans rfl) rfl ?_
          refine WL.pass ((wanted_of rfl rfl rfl).trans rfl) rfl ?_
          refine WL.pass ((wanted_of rfl rfl rfl).trans rfl) rfl ?_
          refine WL.pickT (v := .bool true) rfl rfl ?_
          refine WL.move (v := .bool true) rfl ?_
          refine WL.pass ((wanted_of rfl rfl rfl).trans rfl) rfl ?_
          refine WL.pass ((wanted_of rfl rfl rfl).trans rfl) rfl ?_
          refine WL.pass ((wanted_of rfl rfl rfl).trans rfl) rfl ?_
          refine WL.pass ((wanted_of rfl rfl rfl).trans rfl) rfl ?_
          refine WL.pass ((wanted_of rfl rfl rfl).trans rfl) rfl ?_
          refine WL.pickT (v := .bool true) rfl rfl ?_
          refine WL.nil ?_
          exact Jk16 true _ _ rfl rfl rfl ((hs.mask [true, true]).pick [9, 8]) hf
        · refine WL.fieldAddr (m := 5) rfl FA49_4 rfl ?_ (hg := (wanted_of rfl rfl (bool_tr rfl hc85)).trans rfl)
          refine WL.loadF (z := x1.Round) F_api_Message_Round hs 1 rfl 8 rfl rfl TI3 (.inr rfl) rfl rfl (fun v86 hs => ?_) (hg := (wanted_of rfl rfl (bool_tr rfl hc85)).trans rfl)
          obtain rfl := hs.int 0 rfl
          refine WL.fieldAddr (m := 5) rfl FA49_4 rfl ?_ (hg := (wanted_of rfl rfl (bool_tr rfl hc85)).trans rfl)
          refine WL.loadF (z := x5.Round) F_api_Message_Round hs 0 rfl 10 rfl rfl TI3 (.inr rfl) rfl rfl (fun v87 hs => ?_) (hg := (wanted_of rfl rfl (bool_tr rfl hc85)).trans rfl)
          obtain rfl := hs.int 0 rfl
          refine WL.bin (v := .bool (x1.Round != x5.Round)) rfl rfl (ib_neq _ _ _) ?_ (hg := (wanted_of rfl rfl (bool_tr rfl hc85)).trans rfl)
          refine WL.pickF (v := .bool (x1.Round != x5.Round)) (bool_tr rfl hc85) rfl ?_
          refine WL.move (v := .bool (x1.Round != x5.Round)) rfl ?_
          rcases iteE hf with ⟨hc88, hf⟩ | ⟨hc88, hf⟩
          · refine WL.pass ((wanted_of rfl rfl (bool_tr rfl hc88)).trans rfl) rfl ?_
            refine WL.pass ((wanted_of rfl rfl (bool_tr rfl hc88)).trans rfl) rfl ?_
            refine WL.pass ((wanted_of rfl rfl (bool_tr rfl hc88)).trans rfl) rfl ?_
            refine WL.pass ((wanted_of rfl rfl (bool_tr rfl hc88)).trans rfl) rfl ?_
            refine WL.pass ((wanted_of rfl rfl (bool_tr rfl hc88)).trans rfl) rfl ?_
            refine WL.pickT (v := .bool true) (bool_tr rfl hc88) rfl ?_
            refine WL.move (v := .bool true) rfl ?_
            refine WL.pass ((wanted_of rfl rfl rfl).trans rfl) rfl ?_
            refine WL.pass ((wanted_of rfl rfl rfl).trans rfl) rfl ?_
            refine WL.pass ((wanted_of rfl rfl rfl).trans rfl) rfl ?_
            refine WL.pass ((wanted_of rfl rfl rfl).trans rfl) rfl ?_
            refine WL.pass ((wanted_of rfl rfl rfl).trans rfl) rfl ?_
            refine WL.pickT (v := .bool true) rfl rfl ?_
            refine WL.move (v := .bool true) rfl ?_
            refine WL.pass ((wanted_of rfl rfl rfl).trans rfl) rfl ?_
            refine WL.pass ((wanted_of rfl rfl rfl).trans rfl) rfl ?_
            refine WL.pass ((wanted_of rfl rfl rfl).trans rfl) rfl ?_
            refine WL.pass ((wanted_of rfl rfl rfl).trans rfl) rfl ?_
            refine WL.pass ((wanted_of rfl rfl rfl).trans rfl) rfl ?_
            refine WL.pickT (v := .bool true) rfl rfl ?_
            refine WL.nil ?_
            exact Jk16 true _ _ rfl rfl rfl ((hs.mask [true, true]).pick [11, 10]) hf
          · refine WL.fieldAddr (m := 6) rfl FA49_5 rfl ?_ (hg := (wanted_of rfl rfl (bool_tr rfl hc88)).trans rfl)
            refine WL.loadF (z := x1.Mode) F_api_Message_Mode hs 1 rfl 10 rfl rfl TI3 (.inr rfl) rfl rfl (fun v89 hs => ?_) (hg := (wanted_of rfl rfl (bool_tr rfl hc88)).trans rfl)
            obtain rfl := hs.int 0 rfl
            refine WL.fieldAddr (m := 6) rfl FA49_5 rfl ?_ (hg := (wanted_of rfl rfl (bool_tr rfl hc88)).trans rfl)
            refine WL.loadF (z := x5.Mode) F_api_Message_Mode hs 0 rfl 12 rfl rfl TI3 (.inr rfl) rfl rfl (fun v90 hs => ?_) (hg := (wanted_of rfl rfl (bool_tr rfl hc88)).trans rfl)
            obtain rfl := hs.int 0 rfl
            refine WL.bin (v := .bool (x1.Mode != x5.Mode)) rfl rfl (ib_neq _ _ _) ?_ (hg := (wanted_of rfl rfl (bool_tr rfl hc88)).trans rfl)
            refine WL.pickF (v := .bool (x1.Mode != x5.Mode)) (bool_tr rfl hc88) rfl ?_
            refine WL.move (v := .bool (x1.Mode != x5.Mode)) rfl ?_
            rcases iteE hf with ⟨hc91, hf⟩ | ⟨hc91, hf⟩
            · refine WL.pass ((wanted_of rfl rfl (bool_tr rfl hc91)).trans rfl) rfl ?_
              refine WL.pass ((wanted_of rfl rfl (bool_tr rfl hc91)).trans rfl) rfl ?_
              refine WL.pass ((wanted_of rfl rfl (bool_tr rfl hc91)).trans rfl) rfl ?_
              refine WL.pass ((wanted_of rfl rfl (bool_tr rfl hc91)).trans rfl) rfl ?_
              refine WL.pass ((wanted_of rfl rfl (bool_tr rfl hc91)).trans rfl) rfl ?_
              refine WL.pickT (v := .bool true) (bool_tr rfl hc91) rfl ?_
              refine WL.move (v := .bool true) rfl ?_
              refine WL.pass ((wanted_of rfl rfl rfl).trans rfl) rfl ?_
              refine WL.pass ((wanted_of rfl rfl rfl).trans rfl) rfl ?_
              refine WL.pass ((wanted_of rfl rfl rfl).trans rfl) rfl ?_
              refine WL.pass ((wanted_of rfl rfl rfl).trans rfl) rfl ?_
              refine WL.pass ((wanted_of rfl rfl rfl).trans rfl) rfl ?_
              refine WL.pickT (v := .bool true) rfl rfl ?_
              refine WL.nil ?_
              exact Jk16 true _ _ rfl rfl rfl ((hs.mask [true, true]).pick [13, 12]) hf
            · refine WL.fieldAddr (m := 11) rfl FA49_8 rfl ?_ (hg := (wanted_of rfl rfl (bool_tr rfl hc91)).trans rfl)
              refine WL.loadF (z := x1.HasBase) F_api_Message_HasBase hs 1 rfl 12 rfl rfl TI4 (.inr rfl) rfl rfl (fun v92 hs => ?_) (hg := (wanted_of rfl rfl (bool_tr rfl hc91)).trans rfl)
              obtain rfl := hs.bool 0 rfl
              refine WL.fieldAddr (m := 11) rfl FA49_8 rfl ?_ (hg := (wanted_of rfl rfl (bool_tr rfl hc91)).trans rfl)
              refine WL.loadF (z := x5.HasBase) F_api_Message_HasBase hs 0 rfl 14 rfl rfl TI4 (.inr rfl) rfl rfl (fun v93 hs => ?_) (hg := (wanted_of rfl rfl (bool_tr rfl hc91)).trans rfl)
              obtain rfl := hs.bool 0 rfl
              refine WL.neB UN4 rfl rfl ?_ (hg := (wanted_of rfl rfl (bool_tr rfl hc91)).trans rfl)
              refine WL.pickF (v := .bool (x1.HasBase != x5.HasBase)) (bool_tr rfl hc91) rfl ?_
              refine WL.move (v := .bool (x1.HasBase != x5.HasBase)) rfl ?_
              rcases iteE hf with ⟨hc94, hf⟩ | ⟨hc94, hf⟩
              · refine WL.pass ((wanted_of rfl rfl (bool_tr rfl hc94)).trans rfl) rfl ?_
                refine WL.pass ((wanted_of rfl rfl (bool_tr rfl hc94)).trans rfl) rfl ?_
                refine WL.pass ((wanted_of rfl rfl (bool_tr rfl hc94)).trans rfl) rfl ?_
                refine WL.pass ((wanted_of rfl rfl (bool_tr rfl hc94)).trans rfl) rfl ?_
                refine WL.pass ((wanted_of rfl rfl (bool_tr rfl hc94)).trans rfl) rfl ?_
                refine WL.pickT (v := .bool true) (bool_tr rfl hc94) rfl ?_
                refine WL.nil ?_
                exact Jk16 true _ _ rfl rfl rfl ((hs.mask [true, true]).pick [15, 14]) hf
              · refine WL.fieldAddr (m := 17) rfl FA49_13 rfl ?_ (hg := (wanted_of rfl rfl (bool_tr rfl hc94)).trans rfl)
                refine WL.loadF (z := x1.More) F_api_Message_More hs 1 rfl 14 rfl rfl TI4 (.inr rfl) rfl rfl (fun v95 hs => ?_) (hg := (wanted_of rfl rfl (bool_tr rfl hc94)).trans rfl)
                obtain rfl := hs.bool 0 rfl
                refine WL.fieldAddr (m := 17) rfl FA49_13 rfl ?_ (hg := (wanted_of rfl rfl (bool_tr rfl hc94)).trans rfl)
                refine WL.loadF (z := x5.More) F_api_Message_More hs 0 rfl 16 rfl rfl TI4 (.inr rfl) rfl rfl (fun v96 hs => ?_) (hg := (wanted_of rfl rfl (bool_tr rfl hc94)).trans rfl)
                obtain rfl := hs.bool 0 rfl
                refine WL.neB UN4 rfl rfl ?_ (hg := (wanted_of rfl rfl (bool_tr rfl hc94)).trans rfl)
                refine WL.pickF (v := .bool (x1.More != x5.More)) (bool_tr rfl hc94) rfl ?_
                refine WL.nil ?_
                exact Jk16 (x1.More != x5.More) _ _ rfl rfl rfl ((hs.mask [true, true]).pick [17, 16]) hf
end Go.Proofs.Ytahobbichanccaa
