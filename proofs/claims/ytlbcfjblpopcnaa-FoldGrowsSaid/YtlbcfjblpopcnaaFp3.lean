import Derived.Test.YtlbcfjblpopcnaaFh
import Derived.Test.YtlbcfjblpopcnaaLz
import Derived.Test.YtlbcfjblpopcnaaFp2
set_option linter.unusedVariables false
set_option linter.unusedSimpArgs false
namespace Go.Proofs.Ytlbcfjblpopcnaa
open Go Go.RowKit Go.Proofs.YtlbcfjblpopcnaaL
set_option maxRecDepth 100000
set_option maxHeartbeats 4000000
/-! elasticstore/fold.equalFields: function 70 -/
theorem fold_equalFields.calls {ok : Nat → Prop} {w0 : World} {x1 : fold_Field} {x5 : fold_Field} {v2 : Value} {v6 : Value} {r : Bool} (hf : fold_equalFields x1 x5 = some r) (i0 : (vl t_fold_Field x1 v2).holds ok w0) (i1 : (vl t_fold_Field x5 v6).holds ok w0) :
    Calls Try.prog 70 #[v2, v6] w0 fun e w' => ∃ v, e = .returned v ∧ ∃ y : Unit, v = .bool r ∧ St ok (bz w0) w' [] [] := by
  unfold fold_equalFields at hf
  refine calls_of_W (fn := Try.f70) (N := 52) Try.func70 rfl Try.ntmps70 rfl ?_
  have hs : St ok (bz w0) w0 [vl t_fold_Field x1 v2, vl t_fold_Field x5 v6] [] := St.init (All.cons i0 (All.cons i1 All.nil))
  clear i0 i1
  obtain ⟨cs3, hl4, rfl⟩ := hs.aggv (n := 12) 0 rfl rfl rfl
  obtain ⟨cs7, hl8, rfl⟩ := hs.aggv (n := 12) 1 rfl rfl rfl
  refine W.seqK fun K9 hK9 => ?_
  refine W.region ?_
  refine WL.box (vs := cs3) hs rfl rfl (fun g10 w hs => ?_)
  refine WL.box (vs := cs7) hs rfl rfl (fun g11 w hs => ?_)
  refine WL.assign (v := .bool false) rfl ?_
  refine WL.nil ?_
  refine hK9 _ _ ?_
  refine W.seqK fun K12 hK12 => ?_
  have Jk15 : ∀ (x14 : Bool) (ρ : Env) (w : World), ρ 4 = .bool x14 → St ok (bz w0) w [] [] → fold_equalFields.j1 x14 = some r → K12 ρ w := by
    intro x14 ρ w h13_4 hs hf
    refine hK12 _ _ ?_
    unfold fold_equalFields.j1 at hf
    refine W.ret ?_
    have hr := Option.some.inj hf; subst hr
    exact ⟨_, resOk_one rfl h13_4, (), rfl, (hs.mask []).pick []⟩
  refine W.region ?_
  refine WL.fieldAddr (m := 0) rfl FA57_0 rfl ?_
  refine WL.loadF (z := x1.Name) F_fold_Field_Name hs 1 rfl 0 rfl rfl TI9 (.inr rfl) rfl rfl (fun v16 hs => ?_)
  obtain rfl := hs.str 0 rfl
  refine WL.fieldAddr (m := 0) rfl FA57_0 rfl ?_
  refine WL.loadF (z := x5.Name) F_fold_Field_Name hs 0 rfl 2 rfl rfl TI9 (.inr rfl) rfl rfl (fun v17 hs => ?_)
  obtain rfl := hs.str 0 rfl
  refine WL.binS (v := .bool (x1.Name == x5.Name)) rfl rfl (sb_eql _ _) ?_
  refine WL.move (v := .bool (x1.Name == x5.Name)) rfl ?_
  rcases iteE hf with ⟨hc18, hf⟩ | ⟨hc18, hf⟩
  · refine WL.fieldAddr (m := 1) rfl FA57_1 rfl ?_ (hg := (wanted_of rfl rfl (bool_tr rfl hc18)).trans rfl)
    refine WL.loadF (z := x1.Register) F_fold_Field_Register hs 1 rfl 2 rfl rfl TI54 (.inl rfl) rfl rfl (fun v19 hs => ?_) (hg := (wanted_of rfl rfl (bool_tr rfl hc18)).trans rfl)
    obtain ⟨cs20, hl21, rfl⟩ := hs.aggv (n := 6) 0 rfl rfl rfl
    refine WL.fieldAddr (m := 1) rfl FA57_1 rfl ?_ (hg := (wanted_of rfl rfl (bool_tr rfl hc18)).trans rfl)
    refine WL.loadF (z := x5.Register) F_fold_Field_Register hs 0 rfl 4 rfl rfl TI54 (.inl rfl) rfl rfl (fun v22 hs => ?_) (hg := (wanted_of rfl rfl (bool_tr rfl hc18)).trans rfl)
    obtain ⟨cs23, hl24, rfl⟩ := hs.aggv (n := 6) 0 rfl rfl rfl
    obtain rfl := open_fold_Register hs 1 rfl
    obtain rfl := open_fold_Register hs 0 rfl
    refine WL.eqA rfl rfl EG54 (EQ54 (⟨x1.Register.Set, x1.Register.Tag, x1.Register.Client, x1.Register.Seq, x1.Register.N, x1.Register.S⟩ : fold_Register) (⟨x5.Register.Set, x5.Register.Tag, x5.Register.Client, x5.Register.Seq, x5.Register.N, x5.Register.S⟩ : fold_Register)) ?_ (hg := (wanted_of rfl rfl (bool_tr rfl hc18)).trans rfl)
    refine WL.pickT (v := .bool (decide ((⟨x1.Register.Set, x1.Register.Tag, x1.Register.Client, x1.Register.Seq, x1.Register.N, x1.Register.S⟩ : fold_Register) = (⟨x5.Register.Set, x5.Register.Tag, x5.Register.Client, x5.Register.Seq, x5.Register.N, x5.Register.S⟩ : fold_Register)))) (bool_tr rfl hc18) rfl ?_
    refine WL.move (v := .bool (decide ((⟨x1.Register.Set, x1.Register.Tag, x1.Register.Client, x1.Register.Seq, x1.Register.N, x1.Register.S⟩ : fold_Register) = (⟨x5.Register.Set, x5.Register.Tag, x5.Register.Client, x5.Register.Seq, x5.Register.N, x5.Register.S⟩ : fold_Register)))) rfl ?_
    rcases iteE hf with ⟨hc25, hf⟩ | ⟨hc25, hf⟩
    · refine WL.fieldAddr (m := 7) rfl FA57_2 rfl ?_ (hg := (wanted_of rfl rfl (bool_tr rfl hc25)).trans rfl)
      refine WL.loadF (z := x1.HasMax) F_fold_Field_HasMax hs 1 rfl 4 rfl rfl TI4 (.inr rfl) rfl rfl (fun v26 hs => ?_) (hg := (wanted_of rfl rfl (bool_tr rfl hc25)).trans rfl)
      obtain rfl := hs.bool 0 rfl
      refine WL.fieldAddr (m := 7) rfl FA57_2 rfl ?_ (hg := (wanted_of rfl rfl (bool_tr rfl hc25)).trans rfl)
      refine WL.loadF (z := x5.HasMax) F_fold_Field_HasMax hs 0 rfl 6 rfl rfl TI4 (.inr rfl) rfl rfl (fun v27 hs => ?_) (hg := (wanted_of rfl rfl (bool_tr rfl hc25)).trans rfl)
      obtain rfl := hs.bool 0 rfl
      refine WL.eqB UN4 rfl rfl ?_ (hg := (wanted_of rfl rfl (bool_tr rfl hc25)).trans rfl)
      refine WL.pickT (v := .bool (x1.HasMax == x5.HasMax)) (bool_tr rfl hc25) rfl ?_
      refine WL.move (v := .bool (x1.HasMax == x5.HasMax)) rfl ?_
      rcases iteE hf with ⟨hc28, hf⟩ | ⟨hc28, hf⟩
      · refine WL.fieldAddr (m := 8) rfl FA57_3 rfl ?_ (hg := (wanted_of rfl rfl (bool_tr rfl hc28)).trans rfl)
        refine WL.loadF (z := x1.Max) F_fold_Field_Max hs 1 rfl 6 rfl rfl TI2 (.inr rfl) rfl rfl (fun v29 hs => ?_) (hg := (wanted_of rfl rfl (bool_tr rfl hc28)).trans rfl)
        obtain rfl := hs.int 0 rfl
        refine WL.fieldAddr (m := 8) rfl FA57_3 rfl ?_ (hg := (wanted_of rfl rfl (bool_tr rfl hc28)).trans rfl)
        refine WL.loadF (z := x5.Max) F_fold_Field_Max hs 0 rfl 8 rfl rfl TI2 (.inr rfl) rfl rfl (fun v30 hs => ?_) (hg := (wanted_of rfl rfl (bool_tr rfl hc28)).trans rfl)
        obtain rfl := hs.int 0 rfl
        refine WL.bin (v := .bool (x1.Max == x5.Max)) rfl rfl (ib_eql _ _ _) ?_ (hg := (wanted_of rfl rfl (bool_tr rfl hc28)).trans rfl)
        refine WL.pickT (v := .bool (x1.Max == x5.Max)) (bool_tr rfl hc28) rfl ?_
        refine WL.move (v := .bool (x1.Max == x5.Max)) rfl ?_
        rcases iteE hf with ⟨hc31, hf⟩ | ⟨hc31, hf⟩
        · refine WL.fieldAddr (m := 9) rfl FA57_4 rfl ?_ (hg := (wanted_of rfl rfl (bool_tr rfl hc31)).trans rfl)
          refine WL.loadF (z := x1.Sum) F_fold_Field_Sum hs 1 rfl 8 rfl rfl TI2 (.inr rfl) rfl rfl (fun v32 hs => ?_) (hg := (wanted_of rfl rfl (bool_tr rfl hc31)).trans rfl)
          obtain rfl := hs.int 0 rfl
          refine WL.fieldAddr (m := 9) rfl FA57_4 rfl ?_ (hg := (wanted_of rfl rfl (bool_tr rfl hc31)).trans rfl)
          refine WL.loadF (z := x5.Sum) F_fold_Field_Sum hs 0 rfl 10 rfl rfl TI2 (.inr rfl) rfl rfl (fun v33 hs => ?_) (hg := (wanted_of rfl rfl (bool_tr rfl hc31)).trans rfl)
          obtain rfl := hs.int 0 rfl
          refine WL.bin (v := .bool (x1.Sum == x5.Sum)) rfl rfl (ib_eql _ _ _) ?_ (hg := (wanted_of rfl rfl (bool_tr rfl hc31)).trans rfl)
          refine WL.pickT (v := .bool (x1.Sum == x5.Sum)) (bool_tr rfl hc31) rfl ?_
          refine WL.move (v := .bool (x1.Sum == x5.Sum)) rfl ?_
          rcases iteE hf with ⟨hc34, hf⟩ | ⟨hc34, hf⟩
          · refine WL.fieldAddr (m := 10) rfl FA57_5 rfl ?_ (hg := (wanted_of rfl rfl (bool_tr rfl hc34)).trans rfl)
            refine WL.loadF (z := x1.Elems) F_fold_Field_Elems hs 1 rfl 10 rfl rfl TI55 (.inr rfl) rfl rfl (fun v35 hs => ?_) (hg := (wanted_of rfl rfl (bool_tr rfl hc34)).trans rfl)
            obtain ⟨a36, c37, rfl⟩ := hs.slice 0 rfl
            refine WL.fieldAddr (m := 10) rfl FA57_5 rfl ?_ (hg := (wanted_of rfl rfl (bool_tr rfl hc34)).trans rfl)
            refine WL.loadF (z := x5.Elems) F_fold_Field_Elems hs 0 rfl 12 rfl rfl TI55 (.inr rfl) rfl rfl (fun v38 hs => ?_) (hg := (wanted_of rfl rfl (bool_tr rfl hc34)).trans rfl)
            obtain ⟨a39, c40, rfl⟩ := hs.slice 0 rfl
            obtain ⟨x41, hxx41, hf⟩ := bindE hf
            refine WL.call (vs := [.slice a36 (x1.Elems).length c37, .slice a39 (x5.Elems).length c40]) hs FN82 ⟨rfl, ⟨rfl, trivial⟩⟩ (fun ok hA => slices_Equal_string.calls (x1 := x1.Elems) (x4 := x5.Elems) hxx41 (hA.get 1 rfl) (hA.get 0 rfl)) ?_ (hg := (wanted_of rfl rfl (bool_tr rfl hc34)).trans rfl)
            rintro _ w hs
            refine WL.pickT (v := .bool x41) (bool_tr rfl hc34) rfl ?_
            refine WL.move (v := .bool x41) rfl ?_
            rcases iteE hf with ⟨hc42, hf⟩ | ⟨hc42, hf⟩
            · refine WL.fieldAddr (m := 11) rfl FA57_6 rfl ?_ (hg := (wanted_of rfl rfl (bool_tr rfl hc42)).trans rfl)
              refine WL.loadF (z := x1.Flag) F_fold_Field_Flag hs 1 rfl 12 rfl rfl TI4 (.inr rfl) rfl rfl (fun v43 hs => ?_) (hg := (wanted_of rfl rfl (bool_tr rfl hc42)).trans rfl)
              obtain rfl := hs.bool 0 rfl
              refine WL.fieldAddr (m := 11) rfl FA57_6 rfl ?_ (hg := (wanted_of rfl rfl (bool_tr rfl hc42)).trans rfl)
              refine WL.loadF (z := x5.Flag) F_fold_Field_Flag hs 0 rfl 14 rfl rfl TI4 (.inr rfl) rfl rfl (fun v44 hs => ?_) (hg := (wanted_of rfl rfl (bool_tr rfl hc42)).trans rfl)
              obtain rfl := hs.bool 0 rfl
              refine WL.eqB UN4 rfl rfl ?_ (hg := (wanted_of rfl rfl (bool_tr rfl hc42)).trans rfl)
              refine WL.pickT (v := .bool (x1.Flag == x5.Flag)) (bool_tr rfl hc42) rfl ?_
              refine WL.assign (v := .bool (x1.Flag == x5.Flag)) rfl ?_
              refine WL.nil ?_
              exact Jk15 (x1.Flag == x5.Flag) _ _ rfl ((hs.mask []).pick []) hf
            · refine WL.pass ((wanted_of rfl rfl (bool_tr rfl hc42)).trans rfl) rfl ?_
              refine WL.pass ((wanted_of rfl rfl (bool_tr rfl hc42)).trans rfl) rfl ?_
              refine WL.pass ((wanted_of rfl rfl (bool_tr rfl hc42)).trans rfl) rfl ?_
              refine WL.pass ((wanted_of rfl rfl (bool_tr rfl hc42)).trans rfl) rfl ?_
              refine WL.pass ((wanted_of rfl rfl (bool_tr rfl hc42)).trans rfl) rfl ?_
              refine WL.pickF (v := .bool false) (bool_tr rfl hc42) rfl ?_
              refine WL.assign (v := .bool false) rfl ?_
              refine WL.nil ?_
              exact Jk15 false _ _ rfl ((hs.mask []).pick []) hf
          · refine WL.pass ((wanted_of rfl rfl (bool_tr rfl hc34)).trans rfl) rfl ?_
            refine WL.pass ((wanted_of rfl rfl (bool_tr rfl hc34)).trans rfl) rfl ?_
            refine WL.pass ((wanted_of rfl rfl (bool_tr rfl hc34)).trans rfl) rfl ?_
            refine WL.pass ((wanted_of rfl rfl (bool_tr rfl hc34)).trans rfl) rfl ?_
            refine WL.pass ((wanted_of rfl rfl (bool_tr rfl hc34)).trans rfl) rfl ?_
            refine WL.pickF (v := .bool false) (bool_tr rfl hc34) rfl ?_
            refine WL.move (v := .bool false) rfl ?_
            refine WL.pass ((wanted_of rfl rfl rfl).trans rfl) rfl ?_
            refine WL.pass ((wanted_of rfl rfl rfl).trans rfl) rfl ?_
            refine WL.pass ((wanted_of rfl rfl rfl).trans rfl) rfl ?_
            refine WL.pass ((wanted_of rfl rfl rfl).trans rfl) rfl ?_
            refine WL.pass ((wanted_of rfl rfl rfl).trans rfl) rfl ?_
            refine WL.pickF (v := .bool false) rfl rfl ?_
            refine WL.assign (v := .bool false) rfl ?_
            refine WL.nil ?_
            exact Jk15 false _ _ rfl ((hs.mask []).pick []) hf
        · refine WL.pass ((wanted_of rfl rfl (bool_tr rfl hc31)).trans rfl) rfl ?_
          refine WL.pass ((wanted_of rfl rfl (bool_tr rfl hc31)).trans rfl) rfl ?_
          refine WL.pass ((wanted_of rfl rfl (bool_tr rfl hc31)).trans rfl) rfl ?_
          refine WL.pass ((wanted_of rfl rfl (bool_tr rfl hc31)).trans rfl) rfl ?_
          refine WL.pass ((wanted_of rfl rfl (bool_tr rfl hc31)).trans rfl) rfl ?_
          refine WL.pickF (v := .bool false) (bool_tr rfl hc31) rfl ?_
          refine WL.move (v := .bool false) rfl ?_
          refine WL.pass ((wanted_of rfl rfl rfl).trans rfl) rfl ?_
          refine WL.pass ((wanted_of rfl rfl rfl).trans rfl) rfl ?_
          refine WL.pass ((wanted_of rfl rfl rfl).trans rfl) rfl ?_
          refine WL.pass ((wanted_of rfl rfl rfl).trans rfl) rfl ?_
          refine WL.pass ((wanted_of rfl rfl rfl).trans rfl) rfl ?_
          refine WL.pickF (v := .bool false) rfl rfl ?_
          refine WL.move (v := .bool false) rfl ?_
          refine WL.pass ((wanted_of rfl rfl rfl).trans rfl) rfl ?_
          refine WL.pass ((wanted_of rfl rfl rfl).trans rfl) rfl ?_
          refine WL.pass ((wanted_of rfl rfl rfl).trans rfl) rfl ?_
          refine WL.pass ((wanted_of rfl rfl rfl).trans rfl) rfl ?_
          refine WL.pass ((wanted_of rfl rfl rfl).trans rfl) rfl ?_
          refine WL.pickF (v := .bool false) rfl rfl ?_
          refine WL.assign (v := .bool false) rfl ?_
          refine WL.nil ?_
          exact Jk15 false _ _ rfl ((hs.mask []).pick []) hf
      · refine WL.pass ((wanted_of rfl rfl (bool_tr rfl hc28)).trans rfl) rfl ?_
        refine WL.pass ((wanted_of rfl rfl (bool_tr rfl hc28)).trans rfl) rfl ?_
        refine WL.pass ((wanted_of rfl rfl (bool_tr rfl hc28)).trans rfl) rfl ?_
        refine WL.pass ((wanted_of rfl rfl (bool_tr rfl hc28)).trans rfl) rfl ?_
        refine WL.pass ((wanted_of rfl rfl (bool_tr rfl hc28)).trans rfl) rfl ?_
        refine WL.pickF (v := .bool false) (bool_tr rfl hc28) rfl ?_
        refine WL.move (v := .bool false) rfl ?_
        refine WL.pass ((wanted_of rfl rfl rfl).trans rfl) rfl ?_
        refine WL.pass ((wanted_of rfl rfl rfl).trans rfl) rfl ?_
        refine WL.pass ((wanted_of rfl rfl rfl).trans rfl) rfl ?_
        refine WL.pass ((wanted_of rfl rfl rfl).trans rfl) rfl ?_
        refine WL.pass ((wanted_of rfl rfl rfl).trans rfl) rfl ?_
        refine WL.pickF (v := .bool false) rfl rfl ?_
        refine WL.move (v := .bool false) rfl ?_
        refine WL.pass ((wanted_of rfl rfl rfl).trans rfl) rfl ?_
        refine WL.pass ((wanted_of rfl rfl rfl).trans rfl) rfl ?_
        refine WL.pass ((wanted_of rfl rfl rfl).trans rfl) rfl ?_
        refine WL.pass ((wanted_of rfl rfl rfl).trans rfl) rfl ?_
        refine WL.pass ((wanted_of rfl rfl rfl).trans rfl) rfl ?_
        refine WL.pickF (v := .bool false) rfl rfl ?_
        refine WL.move (v := .bool false) rfl ?_
        refine WL.pass ((wanted_of rfl rfl rfl).trans rfl) rfl ?_
        refine WL.pass ((wanted_of rfl rfl rfl).trans rfl) rfl ?_
        refine WL.pass ((wanted_of rfl rfl rfl).trans rfl) rfl ?_
        refine WL.pass ((wanted_of rfl rfl rfl).trans rfl) rfl ?_
        refine WL.pass ((wanted_of rfl rfl rfl).trans rfl) rfl ?_
        refine WL.pickF (v := .bool false) rfl rfl ?_
        refine WL.assign (v := .bool false) rfl ?_
        refine WL.nil ?_
        exact Jk15 false _ _ rfl ((hs.mask []).pick []) hf
    · refine WL.pass ((wanted_of rfl rfl (bool_tr rfl hc25)).trans rfl) rfl ?_
      refine WL.pass ((wanted_of rfl rfl (bool_tr rfl hc25)).trans rfl) rfl ?_
      refine WL.pass ((wanted_of rfl rfl (bool_tr rfl hc25)).trans rfl) rfl ?_
      refine WL.pass ((wanted_of rfl rfl (bool_tr rfl hc25)).trans rfl) rfl ?_
      refine WL.pass ((wanted_of rfl rfl (bool_tr rfl hc25)).trans rfl) rfl ?_
      refine WL.pickF (v := .bool false) (bool_tr rfl hc25) rfl ?_
      refine WL.move (v := .bool false) rfl ?_
      refine WL.pass ((wanted_of rfl rfl rfl).trans rfl) rfl ?_
      refine WL.pass ((wanted_of rfl rfl rfl).trans rfl) rfl ?_
      refine WL.pass ((wanted_of rfl rfl rfl).trans rfl) rfl ?_
      refine WL.pass ((wanted_of rfl rfl rfl).trans rfl) rfl ?_
      refine WL.pass ((wanted_of rfl rfl rfl).trans rfl) rfl ?_
      refine WL.pickF (v := .bool false) rfl rfl ?_
      refine WL.move (v := .bool false) rfl ?_
      refine WL.pass ((wanted_of rfl rfl rfl).trans rfl) rfl ?_
      refine WL.pass ((wanted_of rfl rfl rfl).trans rfl) rfl ?_
      refine WL.pass ((wanted_of rfl rfl rfl).trans rfl) rfl ?_
      refine WL.pass ((wanted_of rfl rfl rfl).trans rfl) rfl ?_
      refine WL.pass ((wanted_of rfl rfl rfl).trans rfl) rfl ?_
      refine WL.pickF (v := .bool false) rfl rfl ?_
      refine WL.move (v := .bool false) rfl ?_
      refine WL.pass ((wanted_of rfl rfl rfl).trans rfl) rfl ?_
      refine WL.pass ((wanted_of rfl rfl rfl).trans rfl) rfl ?_
      refine WL.pass ((wanted_of rfl rfl rfl).trans rfl) rfl ?_
      refine WL.pass ((wanted_of rfl rfl rfl).trans rfl) rfl ?_
      refine WL.pass ((wanted_of rfl rfl rfl).trans rfl) rfl ?_
      refine WL.pickF (v := .bool false) rfl rfl ?_
      refine WL.move (v := .bool false) rfl ?_
      refine WL.pass ((wanted_of rfl rfl rfl).trans rfl) rfl ?_
      refine WL.pass ((wanted_of rfl rfl rfl).trans rfl) rfl ?_
      refine WL.pass ((wanted_of rfl rfl rfl).trans rfl) rfl ?_
      refine WL.pass ((wanted_of rfl rfl rfl).trans rfl) rfl ?_
      refine WL.pass ((wanted_of rfl rfl rfl).trans rfl) rfl ?_
      refine WL.pickF (v := .bool false) rfl rfl ?_
      refine WL.assign (v := .bool false) rfl ?_
      refine WL.nil ?_
      exact Jk15 false _ _ rfl ((hs.mask []).pick []) hf
  · refine WL.pass ((wanted_of rfl rfl (bool_tr rfl hc18)).trans rfl) rfl ?_
    refine WL.pass ((wanted_of rfl rfl (bool_tr rfl hc18)).trans rfl) rfl ?_
    refine WL.pass ((wanted_of rfl rfl (bool_tr rfl hc18)).trans rfl) rfl ?_
    refine WL.pass ((wanted_of rfl rfl (bool_tr rfl hc18)).trans rfl) rfl ?_
    refine WL.pass ((wanted_of rfl rfl (bool_tr rfl hc18)).trans rfl) rfl ?_
    refine WL.pickF (v := .bool false) (bool_tr rfl hc18) rfl ?_
    refine WL.move (v := .bool false) rfl ?_
    refine WL.pass ((wanted_of rfl rfl rfl).trans rfl) rfl ?_
    refine WL.pass ((wanted_of rfl rfl rfl).trans rfl) rfl ?_
    refine WL.pass ((wanted_of rfl rfl rfl).trans rfl) rfl ?_
    refine WL.pass ((wanted_of rfl rfl rfl).trans rfl) rfl ?_
    refine WL.pass ((wanted_of rfl rfl rfl).trans rfl) rfl ?_
    refine WL.pickF (v := .bool false) rfl rfl ?_
    refine WL.move (v := .bool false) rfl ?_
    refine WL.pass ((wanted_of rfl rfl rfl).trans rfl) rfl ?_
    refine WL.pass ((wanted_of rfl rfl rfl).trans rfl) rfl ?_
    refine WL.pass ((wanted_of rfl rfl rfl).trans rfl) rfl ?_
    refine WL.pass ((wanted_of rfl rfl rfl).trans rfl) rfl ?_
    refine WL.pass ((wanted_of rfl rfl rfl).trans rfl) rfl ?_
    refine WL.pickF (v := .bool false) rfl rfl ?_
    refine WL.move (v := .bool false) rfl ?_
    refine WL.pass ((wanted_of rfl rfl rfl).trans rfl) rfl ?_
    refine WL.pass ((wanted_of rfl rfl rfl).trans rfl) rfl ?_
    refine WL.pass ((wanted_of rfl rfl rfl).trans rfl) rfl ?_
    refine WL.pass ((wanted_of rfl rfl rfl).trans rfl) rfl ?_
    refine WL.pass ((wanted_of rfl rfl rfl).trans rfl) rfl ?_
    refine WL.pickF (v := .bool false) rfl rfl ?_
    refine WL.move (v := .bool false) rfl ?_
    refine WL.pass ((wanted_of rfl rfl rfl).trans rfl) rfl ?_
    refine WL.pass ((wanted_of rfl rfl rfl).trans rfl) rfl ?_
    refine WL.pass ((wanted_of rfl rfl rfl).trans rfl) rfl ?_
    refine WL.pass ((wanted_of rfl rfl rfl).trans rfl) rfl ?_
    refine WL.pass ((wanted_of rfl rfl rfl).trans rfl) rfl ?_
    refine WL.pickF (v := .bool false) rfl rfl ?_
    refine WL.move (v := .bool false) rfl ?_
    refine WL.pass ((wanted_of rfl rfl rfl).trans rfl) rfl ?_
    refine WL.pass ((wanted_of rfl rfl rfl).trans rfl) rfl ?_
    refine WL.pass ((wanted_of rfl rfl rfl).trans rfl) rfl ?_
    refine WL.pass ((wanted_of rfl rfl rfl).trans rfl) rfl ?_
    refine WL.pass ((wanted_of rfl rfl rfl).trans rfl) rfl ?_
    refine WL.pickF (v := .bool false) rfl rfl ?_
    refine WL.assign (v := .bool false) rfl ?_
    refine WL.nil ?_
    exact Jk15 false _ _ rfl ((hs.mask []).pick []) hf
/-! elasticstore/fold.equalObjects: function 54 -/
theorem fold_equalObjects.calls {ok : Nat → Prop} {w0 : World} {x1 : fold_Object} {x5 : fold_Object} {v2 : Value} {v6 : Value} {r : Bool} (hf : fold_equalObjects x1 x5 = some r) (i0 : (vl t_fold_Object x1 v2).holds ok w0) (i1 : (vl t_fold_Object x5 v6).holds ok w0) :
    Calls Try.prog 54 #[v2, v6] w0 fun e w' => ∃ v, e = .returned v ∧ ∃ y : Unit, v = .bool r ∧ St ok (bz w0) w' [] [] := by
  unfold fold_equalObjects at hf
  refine calls_of_W (fn := Try.f54) (N := 17) Try.func54 rfl Try.ntmps54 rfl ?_
  have hs : St ok (bz w0) w0 [vl t_fold_Object x1 v2, vl t_fold_Object x5 v6] [] := St.init (All.cons i0 (All.cons i1 All.nil))
  clear i0 i1
  obtain ⟨cs3, hl4, rfl⟩ := hs.aggv (n := 2) 0 rfl rfl rfl
  obtain ⟨cs7, hl8, rfl⟩ := hs.aggv (n := 2) 1 rfl rfl rfl
  refine W.seqK fun K9 hK9 => ?_
  refine W.region ?_
  refine WL.box (vs := cs3) hs rfl rfl (fun g10 w hs => ?_)
  refine WL.box (vs := cs7) hs rfl rfl (fun g11 w hs => ?_)
  refine WL.assign (v := .bool false) rfl ?_
  refine WL.nil ?_
  refine hK9 _ _ ?_
  refine W.seqK fun K12 hK12 => ?_
  have Jk15 : ∀ (x14 : Bool) (ρ : Env) (w : World), ρ 4 = .bool x14 → St ok (bz w0) w [] [] → fold_equalObjects.j1 x14 = some r → K12 ρ w := by
    intro x14 ρ w h13_4 hs hf
    refine hK12 _ _ ?_
    unfold fold_equalObjects.j1 at hf
    refine W.ret ?_
    have hr := Option.some.inj hf; subst hr
    exact ⟨_, resOk_one rfl h13_4, (), rfl, (hs.mask []).pick []⟩
  refine W.region ?_
  refine WL.fieldAddr (m := 0) rfl FA51_0 rfl ?_
  refine WL.loadF (z := x1.Name) F_fold_Object_Name hs 1 rfl 0 rfl rfl TI9 (.inr rfl) rfl rfl (fun v16 hs => ?_)
  obtain rfl := hs.str 0 rfl
  refine WL.fieldAddr (m := 0) rfl FA51_0 rfl ?_
  refine WL.loadF (z := x5.Name) F_fold_Object_Name hs 0 rfl 2 rfl rfl TI9 (.inr rfl) rfl rfl (fun v17 hs => ?_)
  obtain rfl := hs.str 0 rfl
  refine WL.binS (v := .bool (x1.Name == x5.Name)) rfl rfl (sb_eql _ _) ?_
  refine WL.move (v := .bool (x1.Name == x5.Name)) rfl ?_
  rcases iteE hf with ⟨hc18, hf⟩ | ⟨hc18, hf⟩
  · refine WL.fieldAddr (m := 1) rfl FA51_1 rfl ?_ (hg := (wanted_of rfl rfl (bool_tr rfl hc18)).trans rfl)
    refine WL.loadF (z := x1.Fields) F_fold_Object_Fields hs 1 rfl 2 rfl rfl TI49 (.inr rfl) rfl rfl (fun v19 hs => ?_) (hg := (wanted_of rfl rfl (bool_tr rfl hc18)).trans rfl)
    obtain ⟨a20, c21, rfl⟩ := hs.slice 0 rfl
    refine WL.fieldAddr (m := 1) rfl FA51_1 rfl ?_ (hg := (wanted_of rfl rfl (bool_tr rfl hc18)).trans rfl)
    refine WL.loadF (z := x5.Fields) F_fold_Object_Fields hs 0 rfl 4 rfl rfl TI49 (.inr rfl) rfl rfl (fun v22 hs => ?_) (hg := (wanted_of rfl rfl (bool_tr rfl hc18)).trans rfl)
    obtain ⟨a23, c24, rfl⟩ := hs.slice 0 rfl
    have hs := hs.add (it := vl (tFun Try.prog (argK2 t_fold_Field t_fold_Field) (fun r : Bool => .bool r)) (fun p : fold_Field × fold_Field => fold_equalFields p.1 p.2) (.func (.func 70) #[] #[])) fun ok hA => tFun_V.2 ⟨70, _, rfl, FN70, fun ok' w' hm p r vs hF har => by
      obtain ⟨u1, u2, rfl, h1, h2⟩ := har
      exact (fold_equalFields.calls (x1 := p.1) (x5 := p.2) hF h1 h2).mono (by rintro e w2 ⟨v, h1, y, h2, h3⟩; exact ⟨v, h1, h2, h3⟩)⟩
    obtain ⟨x25, hxx25, hf⟩ := bindE hf
    refine WL.call (vs := [.slice a20 (x1.Fields).length c21, .slice a23 (x5.Fields).length c24, (.func (.func 70) #[] #[])]) hs FN69 ⟨rfl, ⟨rfl, ⟨rfl, trivial⟩⟩⟩ (fun ok hA => slices_EqualFunc_Field.calls (x1 := x1.Fields) (x4 := x5.Fields) (x7 := (fun p : fold_Field × fold_Field => fold_equalFields p.1 p.2)) hxx25 (hA.get 2 rfl) (hA.get 1 rfl) (hA.get 0 rfl)) ?_ (hg := (wanted_of rfl rfl (bool_tr rfl hc18)).trans rfl)
    rintro _ w hs
    refine WL.pickT (v := .bool x25) (bool_tr rfl hc18) rfl ?_
    refine WL.assign (v := .bool x25) rfl ?_
    refine WL.nil ?_
    exact Jk15 x25 _ _ rfl ((hs.mask []).pick []) hf
  · refine WL.pass ((wanted_of rfl rfl (bool_tr rfl hc18)).trans rfl) rfl ?_
    refine WL.pass ((wanted_of rfl rfl (bool_tr rfl hc18)).trans rfl) rfl ?_
    refine WL.pass ((wanted_of rfl rfl (bool_tr rfl hc18)).trans rfl) rfl ?_
    refine WL.pass ((wanted_of rfl rfl (bool_tr rfl hc18)).trans rfl) rfl ?_
    refine WL.pass ((wanted_of rfl rfl (bool_tr rfl hc18)).trans rfl) rfl ?_
    refine WL.pickF (v := .bool false) (bool_tr rfl hc18) rfl ?_
    refine WL.assign (v := .bool false) rfl ?_
    refine WL.nil ?_
    exact Jk15 false _ _ rfl ((hs.mask []).pick []) hf
/-! elasticstore/fold.Equal: function 26 -/
theorem fold_Equal.calls {ok : Nat → Prop} {w0 : World} {x1 : fold_Store} {x5 : fold_Store} {v2 : Value} {v6 : Value} {r : Bool} (hf : fold_Equal x1 x5 = some r) (i0 : (vl t_fold_Store x1 v2).holds ok w0) (i1 : (vl t_fold_Store x5 v6).holds ok w0) :
    Calls Try.prog 26 #[v2, v6] w0 fun e w' => ∃ v, e = .returned v ∧ ∃ y : Unit, v = .bool r ∧ St ok (bz w0) w' [] [] := by
  unfold fold_Equal at hf
  refine calls_of_W (fn := Try.f26) (N := 10) Try.func26 rfl Try.ntmps26 rfl ?_
  have hs : St ok (bz w0) w0 [vl t_fold_Store x1 v2, vl t_fold_Store x5 v6] [] := St.init (All.cons i0 (All.cons i1 All.nil))
  clear i0 i1
  obtain ⟨cs3, hl4, rfl⟩ := hs.aggv (n := 1) 0 rfl rfl rfl
  obtain ⟨cs7, hl8, rfl⟩ := hs.aggv (n := 1) 1 rfl rfl rfl
  refine W.seqK fun K9 hK9 => ?_
  refine W.region ?_
  refine WL.box (vs := cs3) hs rfl rfl (fun g10 w hs => ?_)
  refine WL.box (vs := cs7) hs rfl rfl (fun g11 w hs => ?_)
  refine WL.assign (v := .bool false) rfl ?_
  refine WL.nil ?_
  refine hK9 _ _ ?_
  refine W.seqK fun K12 hK12 => ?_
  refine W.region ?_
  refine WL.fieldAddr (m := 0) rfl FA29_0 rfl ?_
  refine WL.loadF (z := x1.Objects) F_fold_Store_Objects hs 1 rfl 0 rfl rfl TI27 (.inr rfl) rfl rfl (fun v13 hs => ?_)
  obtain ⟨a14, c15, rfl⟩ := hs.slice 0 rfl
  refine WL.fieldAddr (m := 0) rfl FA29_0 rfl ?_
  refine WL.loadF (z := x5.Objects) F_fold_Store_Objects hs 0 rfl 2 rfl rfl TI27 (.inr rfl) rfl rfl (fun v16 hs => ?_)
  obtain ⟨a17, c18, rfl⟩ := hs.slice 0 rfl
  have hs := hs.add (it := vl (tFun Try.prog (argK2 t_fold_Object t_fold_Object) (fun r : Bool => .bool r)) (fun p : fold_Object × fold_Object => fold_equalObjects p.1 p.2) (.func (.func 54) #[] #[])) fun ok hA => tFun_V.2 ⟨54, _, rfl, FN54, fun ok' w' hm p r vs hF har => by
    obtain ⟨u1, u2, rfl, h1, h2⟩ := har
    exact (fold_equalObjects.calls (x1 := p.1) (x5 := p.2) hF h1 h2).mono (by rintro e w2 ⟨v, h1, y, h2, h3⟩; exact ⟨v, h1, h2, h3⟩)⟩
  obtain ⟨x19, hxx19, hf⟩ := bindE hf
  refine WL.call (vs := [.slice a14 (x1.Objects).length c15, .slice a17 (x5.Objects).length c18, (.func (.func 54) #[] #[])]) hs FN53 ⟨rfl, ⟨rfl, ⟨rfl, trivial⟩⟩⟩ (fun ok hA => slices_EqualFunc_Object.calls (x1 := x1.Objects) (x4 := x5.Objects) (x7 := (fun p : fold_Object × fold_Object => fold_equalObjects p.1 p.2)) hxx19 (hA.get 2 rfl) (hA.get 1 rfl) (hA.get 0 rfl)) ?_
  rintro _ w hs
  refine WL.assign (v := .bool x19) rfl ?_
  refine WL.nil ?_
  refine hK12 _ _ ?_
  refine W.ret ?_
  have hr := Option.some.inj hf; subst hr
  exact ⟨_, resOk_one rfl rfl, (), rfl, (hs.mask []).pick []⟩
/-! elasticstore/wire.AppendUint: function 65 -/
theorem wire_AppendUint.calls {ok : Nat → Prop} {w0 : World} {x1 : List Int} {x4 : Int} {a2 : Option Addr} {c3 : Nat} {r : List Int} (hf : wire_AppendUint x1 x4 = some r) (i0 : (vl (tSlice (tInt .u8)) x1 (.slice a2 x1.length c3)).holds ok w0) :
    Calls Try.prog 65 #[.slice a2 x1.length c3, .int .u64 x4] w0 fun e w' => ∃ v, e = .returned v ∧ ∃ y : (Option Addr × Nat × Nat), v = .slice y.1 y.2.1 y.2.2 ∧ St ok (bz w0) w' [] [own (tInt .u8) 5 (.slice y.1 y.2.1 y.2.2) r] := by
  unfold wire_AppendUint at hf
  refine calls_of_W (fn := Try.f65) (N := 29) Try.func65 rfl Try.ntmps65 rfl ?_
  have hs : St ok (bz w0) w0 [vl (tSlice (tInt .u8)) x1 (.slice a2 x1.length c3)] [] := St.init (All.cons i0 All.nil)
  clear i0
  refine W.seqK fun K5 hK5 => ?_
  refine W.region ?_
  refine WL.assign (v := .slice none 0 0) rfl ?_
  refine WL.nil ?_
  refine hK5 _ _ ?_
  refine W.seqK fun K6 hK6 => ?_
  refine W.region ?_
  refine WL.assign (v := .slice none 0 0) rfl ?_
  refine WL.nil ?_
  refine hK6 _ _ ?_
  refine W.seqK fun K7 hK7 => ?_
  have hs := hs.ownNil (tInt .u8) 5
  have Jk14 : ∀ (x9 : Int) (x10 : List Int) (a11 : Option Addr) (c12 : Nat) (n13 : Nat) (ρ : Env) (w : World), ρ 0 = .slice a2 x1.length c3 → ρ 1 = .int .u64 x9 → ρ 5 = .slice a11 n13 c12 → St ok (bz w0) w [vl (tSlice (tInt .u8)) x1 (.slice a2 x1.length c3)] [own (tInt .u8) 5 (.slice a11 n13 c12) x10] → wire_AppendUint.j1 x1 x9 x10 = some r → K7 ρ w := by
    intro x9 x10 a11 c12 n13 ρ w h8_0 h8_1 h8_5 hs hf
    refine hK7 _ _ ?_
    unfold wire_AppendUint.j1 at hf
    refine W.seqK fun K15 hK15 => ?_
    refine W.region ?_
    refine WL.move (v := .slice a11 n13 c12) h8_5 ?_
    refine WL.move (v := .int .u64 x9) h8_1 ?_
    refine WL.convI UN32 UN5 rfl ?_
    refine WL.buildSlice (n := 1) (vs := [(0, .int .u8 (IntKind.u8.wrap x9))]) (cs := [.int .u8 (IntKind.u8.wrap x9)]) hs ⟨⟨rfl, rfl⟩, trivial⟩ (bls PS72 (by decide) rfl) (fun g16 w hs => ?_)
    obtain ⟨x17, hxx17, hf⟩ := bindE hf
    obtain ⟨hbx17, hex17⟩ := appE hxx17
    refine WL.append (ys := [(IntKind.u8.wrap x9)]) (zs := x17) hs 1 rfl 0 rfl UN72 EI5 rfl rfl (fun ok hA => (Cells.one (T := tInt .u8) rfl)) hbx17 (by omega) hex17 (fun v18 w hs => ?_)
    obtain ⟨a19, n21, c20, rfl⟩ := hs.ownv3 1 rfl
    refine WL.assign (v := .slice a19 n21 c20) rfl ?_
    refine WL.nil ?_
    refine hK15 _ _ ?_
    refine W.seqK fun K22 hK22 => ?_
    refine W.region ?_
    refine WL.move (v := .slice a2 x1.length c3) h8_0 ?_
    refine WL.move (v := .slice a2 x1.length c3) h8_0 ?_
    refine WL.len (v := .slice a2 x1.length c3) rfl (len_slice UN72) ?_
    refine WL.move (v := .slice a2 x1.length c3) h8_0 ?_
    refine WL.len (v := .slice a2 x1.length c3) rfl (len_slice UN72) ?_
    obtain ⟨x23, hxx23, hf⟩ := bindE hf
    refine WL.slice_hm hs 0 rfl UN72 TI5 rfl rfl rfl rfl hxx23 (fun a24 hs => ?_)
    refine WL.move (v := .slice a19 n21 c20) rfl ?_
    obtain rfl := hs.ownLen 1 rfl
    have hs := hs.freezeOwn 1 rfl
    obtain ⟨hy28, hf⟩ := guardE hf
    obtain ⟨x25, hxx25, hf⟩ := bindE hf
    obtain ⟨hbx25, hex25⟩ := appE hxx25
    refine WL.appendFSO (zs := x25) hs 1 rfl 0 rfl UN72 UN72 EI5 rfl rfl hbx25 (by omega) hex25 hy28 (fun a26 c27 w hs => ?_)
    refine WL.assign (v := .slice a26 x25.length c27) rfl ?_
    refine WL.nil ?_
    refine hK22 _ _ ?_
    refine W.ret ?_
    have hr := Option.some.inj hf; subst hr
    exact ⟨_, resOk_one rfl rfl, (a26, x25.length, c27), rfl, (hs.mask [true]).pick []⟩
  refine W.block ?_
  obtain ⟨bs35, hbs35, hfs35⟩ := bindE hf
  refine W.loop hbs35 (fun s ρ w => match s with | (x30, x31) => ∃ (a32 : Option Addr), ∃ (c33 : Nat), ∃ (n34 : Nat), ρ 0 = .slice a2 x1.length c3 ∧ ρ 1 = .int .u64 x30 ∧ ρ 5 = .slice a32 n34 c33 ∧ St ok (bz w0) w [vl (tSlice (tInt .u8)) x1 (.slice a2 x1.length c3)] [own (tInt .u8) 5 (.slice a32 n34 c33) x31]) ⟨none, 0, 0, rfl, rfl, rfl, (hs.mask [true]).pick [0]⟩ ?_
  intro s ρ w os35 hI hf hbbs35
  obtain ⟨x30, x31⟩ := s
  obtain ⟨a32, c33, n34, h29_0, h29_1, h29_5, hs⟩ := hI
  unfold wire_AppendUint.l1 at hf
  refine W.seqK fun K36 hK36 => ?_
  refine W.seqK fun K37 hK37 => ?_
  refine W.region ?_
  refine WL.move (v := .int .u64 x30) h29_1 ?_
  refine WL.bin (v := .bool (decide (128 ≤ x30))) rfl rfl (ib_geq _ _ _) ?_
  refine WL.nil ?_
  refine hK37 _ _ ?_
  rcases iteE hf with ⟨hc38, hf⟩ | ⟨hc38, hf⟩
  · refine W.cond_true (bool_tr rfl hc38) ?_
    refine W.skip ?_
    refine hK36 _ _ ?_
    refine W.block ?_
    refine W.seqK fun K39 hK39 => ?_
    refine W.region ?_
    refine WL.move (v := .slice a32 n34 c33) h29_5 ?_
    refine WL.move (v := .int .u64 x30) h29_1 ?_
    refine WL.convI UN32 UN5 rfl ?_
    obtain ⟨x40, ex40, hf⟩ := letE hf
    refine WL.bin (v := .int .u8 x40) rfl rfl (ib_as ex40 (ib_or _ _ _)) ?_
    refine WL.buildSlice (n := 1) (vs := [(0, .int .u8 x40)]) (cs := [.int .u8 x40]) hs ⟨⟨rfl, rfl⟩, trivial⟩ (bls PS72 (by decide) rfl) (fun g41 w hs => ?_)
    obtain ⟨x42, hxx42, hf⟩ := bindE hf
    obtain ⟨hbx42, hex42⟩ := appE hxx42
    refine WL.append (ys := [x40]) (zs := x42) hs 1 rfl 0 rfl UN72 EI5 rfl rfl (fun ok hA => (Cells.one (T := tInt .u8) rfl)) hbx42 (by omega) hex42 (fun v43 w hs => ?_)
    obtain ⟨a44, n46, c45, rfl⟩ := hs.ownv3 1 rfl
    refine WL.assign (v := .slice a44 n46 c45) rfl ?_
    refine WL.nil ?_
    refine hK39 _ _ ?_
    refine W.region ?_
    refine WL.move (v := .int .u64 x30) h29_1 ?_
    refine WL.shr rfl rfl (by decide) ?_
    refine WL.assign (v := .int .u64 (shrI .u64 x30 7)) rfl ?_
    refine WL.nil ?_
    exact ⟨_, (Option.some.inj hf).symm, a44, c45, n46, h29_0, rfl, rfl, (hs.mask [false, true]).pick [0]⟩
  · refine W.cond_false (bool_tr rfl hc38) ?_
    refine W.exit ?_
    have hr := Option.some.inj hf; subst hr
    have hr := hbbs35 _ rfl; subst hr
    have hf := hfs35
    exact Jk14 x30 x31 a32 c33 n34 _ _ h29_0 h29_1 h29_5 ((hs.mask [true]).pick [0]) hf
theorem wire_AppendUint.callc {ok : Nat → Prop} {w0 : World} {x1 : List Int} {x4 : Int} {a2 : Option Addr} {c3 : Nat} {r : List Int} (hf : wire_AppendUint x1 x4 = some r) (i0 : (vl (tSlice (tInt .u8)) x1 (.slice a2 x1.length c3)).holds ok w0) :
    Calls Try.prog 65 #[.slice a2 x1.length c3, .int .u64 x4] w0 fun e w' => ∃ v, e = .returned v ∧ ∃ y : (Option Addr × Nat), v = .slice y.1 r.length y.2 ∧ St ok (bz w0) w' [vl (tSlice (tInt .u8)) r (.slice y.1 r.length y.2)] [] := by
  refine (wire_AppendUint.calls (ok := ok) (w0 := w0) (x1 := x1) (x4 := x4) hf i0).mono ?_
  rintro e w' ⟨v, rfl, ⟨a50, n51, c52⟩, rfl, hs⟩
  obtain rfl := hs.ownLen 0 rfl
  have hs := hs.freezeOwn 0 rfl
  exact ⟨_, rfl, (a50, c52), rfl, hs.pick [0]⟩
/-! elasticstore/wire.AppendString: function 63 -/
theorem wire_AppendString.calls {ok : Nat → Prop} {w0 : World} {x1 : List Int} {x4 : List UInt8} {a2 : Option Addr} {c3 : Nat} {r : List Int} (hf : wire_AppendString x1 x4 = some r) (i0 : (vl (tSlice (tInt .u8)) x1 (.slice a2 x1.length c3)).holds ok w0) :
    Calls Try.prog 63 #[.slice a2 x1.length c3, bstr x4] w0 fun e w' => ∃ v, e = .returned v ∧ ∃ y : (Option Addr × Nat × Nat), v = .slice y.1 y.2.1 y.2.2 ∧ St ok (bz w0) w' [] [own (tInt .u8) 5 (.slice y.1 y.2.1 y.2.2) r] := by
  unfold wire_AppendString at hf
  refine calls_of_W (fn := Try.f63) (N := 12) Try.func63 rfl Try.ntmps63 rfl ?_
  have hs : St ok (bz w0) w0 [vl (tSlice (tInt .u8)) x1 (.slice a2 x1.length c3)] [] := St.init (All.cons i0 All.nil)
  clear i0
  refine W.seqK fun K5 hK5 => ?_
  refine W.region ?_
  refine WL.assign (v := .slice none 0 0) rfl ?_
  refine WL.nil ?_
  refine hK5 _ _ ?_
  refine W.seqK fun K6 hK6 => ?_
  refine W.region ?_
  refine WL.move (v := .slice a2 x1.length c3) rfl ?_
  refine WL.move (v := bstr x4) rfl ?_
  refine WL.len (v := bstr x4) rfl (len_string UN9) ?_
  obtain ⟨x7, ex7, hf⟩ := letE hf
  refine WL.convI_ UN3 UN32 rfl ex7 ?_
  obtain ⟨x8, hxx8, hf⟩ := bindE hf
  refine WL.call (vs := [.slice a2 x1.length c3, .int .u64 x7]) hs FN65 ⟨rfl, ⟨rfl, trivial⟩⟩ (fun ok hA => wire_AppendUint.calls (x1 := x1) (x4 := x7) hxx8 (hA.get 0 rfl)) ?_
  rintro ⟨a9, n10, c11⟩ w hs
  refine WL.move (v := bstr x4) rfl ?_
  obtain ⟨x12, hxx12, hf⟩ := bindE hf
  obtain ⟨hbx12, hex12⟩ := appE hxx12
  refine WL.appendStr (zs := x12) hs 0 rfl UN72 UN9 EI5 rfl rfl hbx12 (by omega) hex12 (fun v13 w hs => ?_)
  obtain ⟨a14, n16, c15, rfl⟩ := hs.ownv3 0 rfl
  refine WL.assign (v := .slice a14 n16 c15) rfl ?_
  refine WL.nil ?_
  refine hK6 _ _ ?_
  refine W.ret ?_
  have hr := Option.some.inj hf; subst hr
  exact ⟨_, resOk_one rfl rfl, (a14, n16, c15), rfl, (hs.mask [true]).pick []⟩
theorem wire_AppendString.callc {ok : Nat → Prop} {w0 : World} {x1 : List Int} {x4 : List UInt8} {a2 : Option Addr} {c3 : Nat} {r : List Int} (hf : wire_AppendString x1 x4 = some r) (i0 : (vl (tSlice (tInt .u8)) x1 (.slice a2 x1.length c3)).holds ok w0) :
    Calls Try.prog 63 #[.slice a2 x1.length c3, bstr x4] w0 fun e w' => ∃ v, e = .returned v ∧ ∃ y : (Option Addr × Nat), v = .slice y.1 r.length y.2 ∧ St ok (bz w0) w' [vl (tSlice (tInt .u8)) r (.slice y.1 r.length y.2)] [] := by
  refine (wire_AppendString.calls (ok := ok) (w0 := w0) (x1 := x1) (x4 := x4) hf i0).mono ?_
  rintro e w' ⟨v, rfl, ⟨a17, n18, c19⟩, rfl, hs⟩
  obtain rfl := hs.ownLen 0 rfl
  have hs := hs.freezeOwn 0 rfl
  exact ⟨_, rfl, (a17, c19), rfl, hs.pick [0]⟩
/-! elasticstore/wire.AppendBool: function 64 -/
theorem wire_AppendBool.calls {ok : Nat → Prop} {w0 : World} {x1 : List Int} {x4 : Bool} {a2 : Option Addr} {c3 : Nat} {r : List Int} (hf : wire_AppendBool x1 x4 = some r) (i0 : (vl (tSlice (tInt .u8)) x1 (.slice a2 x1.length c3)).holds ok w0) :
    Calls Try.prog 64 #[.slice a2 x1.length c3, .bool x4] w0 fun e w' => ∃ v, e = .returned v ∧ ∃ y : (Option Addr × Nat × Nat), v = .slice y.1 y.2.1 y.2.2 ∧ St ok (bz w0) w' [] [own (tInt .u8) 5 (.slice y.1 y.2.1 y.2.2) r] := by
  unfold wire_AppendBool at hf
  refine calls_of_W (fn := Try.f64) (N := 22) Try.func64 rfl Try.ntmps64 rfl ?_
  have hs : St ok (bz w0) w0 [vl (tSlice (tInt .u8)) x1 (.slice a2 x1.length c3)] [] := St.init (All.cons i0 All.nil)
  clear i0
  refine W.seqK fun K5 hK5 => ?_
  refine W.region ?_
  refine WL.assign (v := .slice none 0 0) rfl ?_
  refine WL.nil ?_
  refine hK5 _ _ ?_
  refine W.seqK fun K6 hK6 => ?_
  refine W.seqK fun K7 hK7 => ?_
  refine W.region ?_
  refine WL.move (v := .bool x4) rfl ?_
  refine WL.nil ?_
  refine hK7 _ _ ?_
  rcases iteE hf with ⟨hc8, hf⟩ | ⟨hc8, hf⟩
  · refine W.cond_true (bool_tr rfl hc8) ?_
    refine W.seqK fun K9 hK9 => ?_
    refine W.region ?_
    refine WL.move (v := .slice a2 x1.length c3) rfl ?_
    refine WL.move (v := .slice a2 x1.length c3) rfl ?_
    refine WL.len (v := .slice a2 x1.length c3) rfl (len_slice UN72) ?_
    refine WL.move (v := .slice a2 x1.length c3) rfl ?_
    refine WL.len (v := .slice a2 x1.length c3) rfl (len_slice UN72) ?_
    obtain ⟨x10, hxx10, hf⟩ := bindE hf
    refine WL.slice_hm hs 0 rfl UN72 TI5 rfl rfl rfl rfl hxx10 (fun a11 hs => ?_)
    refine WL.buildSlice (n := 1) (vs := [(0, .int .u8 1)]) (cs := [.int .u8 1]) hs ⟨⟨rfl, rfl⟩, trivial⟩ (bls PS72 (by decide) rfl) (fun g12 w hs => ?_)
    obtain ⟨x13, hxx13, hf⟩ := bindE hf
    obtain ⟨hbx13, hex13⟩ := appE hxx13
    refine WL.appendFO (ys := [1]) (zs := x13) hs 0 rfl 0 rfl UN72 EI5 rfl rfl (fun ok hA => (Cells.one (T := tInt .u8) rfl)) hbx13 (by omega) hex13 (Nat.zero_lt_succ _) (fun a14 c15 w hs => ?_)
    refine WL.assign (v := .slice a14 x13.length c15) rfl ?_
    refine WL.nil ?_
    refine hK9 _ _ ?_
    refine W.ret ?_
    have hr := Option.some.inj hf; subst hr
    exact ⟨_, resOk_one rfl rfl, (a14, x13.length, c15), rfl, (hs.mask [true]).pick []⟩
  · refine W.cond_false (bool_tr rfl hc8) ?_
    refine W.skip ?_
    refine hK6 _ _ ?_
    refine W.seqK fun K16 hK16 => ?_
    refine W.region ?_
    refine WL.move (v := .slice a2 x1.length c3) rfl ?_
    refine WL.move (v := .slice a2 x1.length c3) rfl ?_
    refine WL.len (v := .slice a2 x1.length c3) rfl (len_slice UN72) ?_
    refine WL.move (v := .slice a2 x1.length c3) rfl ?_
    refine WL.len (v := .slice a2 x1.length c3) rfl (len_slice UN72) ?_
    obtain ⟨x17, hxx17, hf⟩ := bindE hf
    refine WL.slice_hm hs 0 rfl UN72 TI5 rfl rfl rfl rfl hxx17 (fun a18 hs => ?_)
    refine WL.buildSlice (n := 1) (vs := [(0, .int .u8 0)]) (cs := [.int .u8 0]) hs ⟨⟨rfl, rfl⟩, trivial⟩ (bls PS72 (by decide) rfl) (fun g19 w hs => ?_)
    obtain ⟨x20, hxx20, hf⟩ := bindE hf
    obtain ⟨hbx20, hex20⟩ := appE hxx20
    refine WL.appendFO (ys := [0]) (zs := x20) hs 0 rfl 0 rfl UN72 EI5 rfl rfl (fun ok hA => (Cells.one (T := tInt .u8) rfl)) hbx20 (by omega) hex20 (Nat.zero_lt_succ _) (fun a21 c22 w hs => ?_)
    refine WL.assign (v := .slice a21 x20.length c22) rfl ?_
    refine WL.nil ?_
    refine hK16 _ _ ?_
    refine W.ret ?_
    have hr := Option.some.inj hf; subst hr
    exact ⟨_, resOk_one rfl rfl, (a21, x20.length, c22), rfl, (hs.mask [true]).pick []⟩
theorem wire_AppendBool.callc {ok : Nat → Prop} {w0 : World} {x1 : List Int} {x4 : Bool} {a2 : Option Addr} {c3 : Nat} {r : List Int} (hf : wire_AppendBool x1 x4 = some r) (i0 : (vl (tSlice (tInt .u8)) x1 (.slice a2 x1.length c3)).holds ok w0) :
    Calls Try.prog 64 #[.slice a2 x1.length c3, .bool x4] w0 fun e w' => ∃ v, e = .returned v ∧ ∃ y : (Option Addr × Nat), v = .slice y.1 r.length y.2 ∧ St ok (bz w0) w' [vl (tSlice (tInt .u8)) r (.slice y.1 r.length y.2)] [] := by
  refine (wire_AppendBool.calls (ok := ok) (w0 := w0) (x1 := x1) (x4 := x4) hf i0).mono ?_
  rintro e w' ⟨v, rfl, ⟨a23, n24, c25⟩, rfl, hs⟩
  obtain rfl := hs.ownLen 0 rfl
  have hs := hs.freezeOwn 0 rfl
  exact ⟨_, rfl, (a23, c25), rfl, hs.pick [0]⟩
/-! elasticstore/wire.AppendInt: function 66 -/
theorem wire_AppendInt.calls {ok : Nat → Prop} {w0 : World} {x1 : List Int} {x4 : Int} {a2 : Option Addr} {c3 : Nat} {r : List Int} (hf : wire_AppendInt x1 x4 = some r) (i0 : (vl (tSlice (tInt .u8)) x1 (.slice a2 x1.length c3)).holds ok w0) :
    Calls Try.prog 66 #[.slice a2 x1.length c3, .int .i64 x4] w0 fun e w' => ∃ v, e = .returned v ∧ ∃ y : (Option Addr × Nat × Nat), v = .slice y.1 y.2.1 y.2.2 ∧ St ok (bz w0) w' [] [own (tInt .u8) 5 (.slice y.1 y.2.1 y.2.2) r] := by
  unfold wire_AppendInt at hf
  refine calls_of_W (fn := Try.f66) (N := 14) Try.func66 rfl Try.ntmps66 rfl ?_
  have hs : St ok (bz w0) w0 [vl (tSlice (tInt .u8)) x1 (.slice a2 x1.length c3)] [] := St.init (All.cons i0 All.nil)
  clear i0
  refine W.seqK fun K5 hK5 => ?_
  refine W.region ?_
  refine WL.assign (v := .slice none 0 0) rfl ?_
  refine WL.nil ?_
  refine hK5 _ _ ?_
  refine W.seqK fun K6 hK6 => ?_
  refine W.region ?_
  refine WL.move (v := .slice a2 x1.length c3) rfl ?_
  refine WL.move (v := .int .i64 x4) rfl ?_
  refine WL.convI UN2 UN32 rfl ?_
  obtain ⟨x8, ex8, hf⟩ := letE hf
  refine WL.shl_ (e := x8) rfl rfl (by decide) ex8 ?_
  refine WL.move (v := .int .i64 x4) rfl ?_
  refine WL.shr rfl rfl (by decide) ?_
  obtain ⟨x10, ex10, hf⟩ := letE hf
  refine WL.convI_ UN2 UN32 rfl ex10 ?_
  obtain ⟨x11, ex11, hf⟩ := letE hf
  refine WL.bin (v := .int .u64 x11) rfl rfl (ib_as ex11 (ib_xor _ _ _)) ?_
  obtain ⟨x12, hxx12, hf⟩ := bindE hf
  refine WL.call (vs := [.slice a2 x1.length c3, .int .u64 x11]) hs FN65 ⟨rfl, ⟨rfl, trivial⟩⟩ (fun ok hA => wire_AppendUint.calls (x1 := x1) (x4 := x11) hxx12 (hA.get 0 rfl)) ?_
  rintro ⟨a13, n14, c15⟩ w hs
  refine WL.assign (v := .slice a13 n14 c15) rfl ?_
  refine WL.nil ?_
  refine hK6 _ _ ?_
  refine W.ret ?_
  have hr := Option.some.inj hf; subst hr
  exact ⟨_, resOk_one rfl rfl, (a13, n14, c15), rfl, (hs.mask [true]).pick []⟩
theorem wire_AppendInt.callc {ok : Nat → Prop} {w0 : World} {x1 : List Int} {x4 : Int} {a2 : Option Addr} {c3 : Nat} {r : List Int} (hf : wire_AppendInt x1 x4 = some r) (i0 : (vl (tSlice (tInt .u8)) x1 (.slice a2 x1.length c3)).holds ok w0) :
    Calls Try.prog 66 #[.slice a2 x1.length c3, .int .i64 x4] w0 fun e w' => ∃ v, e = .returned v ∧ ∃ y : (Option Addr × Nat), v = .slice y.1 r.length y.2 ∧ St ok (bz w0) w' [vl (tSlice (tInt .u8)) r (.slice y.1 r.length y.2)] [] := by
  refine (wire_AppendInt.calls (ok := ok) (w0 := w0) (x1 := x1) (x4 := x4) hf i0).mono ?_
  rintro e w' ⟨v, rfl, ⟨a16, n17, c18⟩, rfl, hs⟩
  obtain rfl := hs.ownLen 0 rfl
  have hs := hs.freezeOwn 0 rfl
  exact ⟨_, rfl, (a16, c18), rfl, hs.pick [0]⟩
end Go.Proofs.Ytlbcfjblpopcnaa
