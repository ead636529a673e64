/- What the row leans on, as few texts. -/
import Derived.Test.YtlbcfjblpopcnaaQFU2
import Derived.Test.YtlbcfjblpopcnaaQFU3
import Derived.Test.YtlbcfjblpopcnaaQFU0
import Derived.Test.YtlbcfjblpopcnaaQFU4
set_option linter.unusedVariables false
set_option linter.unusedSimpArgs false
namespace Go.Proofs.Ytlbcfjblpopcnaa
open Go Go.RowKit Go.Proofs.YtlbcfjblpopcnaaL
set_option maxRecDepth 100000
set_option maxHeartbeats 4000000
theorem esref32_EqualObject.calls {ok : Nat → Prop} {w0 : World} {x1 : fold_Object} {x5 : fold_Object} {v2 : Value} {v6 : Value} {r : Bool} (hf : esref32_EqualObject x1 x5 = some r) (i0 : (vl t_fold_Object x1 v2).holds ok w0) (i1 : (vl t_fold_Object x5 v6).holds ok w0) :
    Calls Try.prog 31 #[v2, v6] w0 fun e w' => ∃ v, e = .returned v ∧ ∃ y : Unit, v = .bool r ∧ St ok (bz w0) w' [] [] := by
  unfold esref32_EqualObject at hf
  refine calls_of_W (fn := Try.f31) (N := 39) Try.func31 rfl Try.ntmps31 rfl ?_
  have hs : St ok (bz w0) w0 [vl t_fold_Object x1 v2, vl t_fold_Object x5 v6] [] := St.init (All.cons i0 (All.cons i1 All.nil))
  clear i0 i1
  obtain ⟨cs3, hl4, rfl⟩ := hs.aggv (n := 2) 0 rfl rfl rfl
  obtain ⟨cs7, hl8, rfl⟩ := hs.aggv (n := 2) 1 rfl rfl rfl
  refine W.seqK fun K9 hK9 => ?_
  refine W.region ?_
  refine WL.box (vs := cs3) hs rfl rfl (fun g10 w hs => ?_)
  refine WL.box (vs := cs7) hs rfl rfl (fun g11 w hs => ?_)
  refine WL.assign (v := .bool false) rfl ?_
  refine WL.nil ?_
  refine hK9 _ _ ?_
  refine W.seqK fun K12 hK12 => ?_
  refine W.seqK fun K13 hK13 => ?_
  have Jk16 : ∀ (x15 : Bool) (ρ : Env) (w : World), ρ 2 = .pointer (some ⟨g10, 0, none⟩) → ρ 3 = .pointer (some ⟨g11, 0, none⟩) → ρ 19 = .bool x15 → St ok (bz w0) w [vl t_fold_Object x5 (.agg cs7.toArray), vl t_fold_Object x1 (.agg cs3.toArray)] [blk g11 51 cs7, blk g10 51 cs3] → esref32_EqualObject.j2 x1 x5 x15 = some r → K13 ρ w := by
    intro x15 ρ w h14_2 h14_3 h14_19 hs hf
    refine hK13 _ _ ?_
    unfold esref32_EqualObject.j2 at hf
    rcases iteE hf with ⟨hc17, hf⟩ | ⟨hc17, hf⟩
    {
    refine W.cond_true (bool_tr h14_19 hc17) ?_
    refine W.seqK fun K18 hK18 => ?_
    refine W.region ?_
    refine WL.assign (v := .bool false) rfl ?_
    refine WL.nil ?_
    refine hK18 _ _ ?_
    refine W.ret ?_
    have hr := Option.some.inj hf; subst hr
    exact ⟨_, resOk_one rfl rfl, (), rfl, (hs.mask []).pick []⟩ }
    {
    refine W.cond_false (bool_tr h14_19 hc17) ?_
    refine W.skip ?_
    refine hK12 _ _ ?_
    refine W.seqK fun K19 hK19 => ?_
    have Jk21 : ∀  (ρ : Env) (w : World), St ok (bz w0) w [] [] → esref32_EqualObject.j1 = some r → K19 ρ w := by
      intro  ρ w  hs hf
      refine hK19 _ _ ?_
      unfold esref32_EqualObject.j1 at hf
      refine W.seqK fun K22 hK22 => ?_
      refine W.region ?_
      refine WL.assign (v := .bool true) rfl ?_
      refine WL.nil ?_
      refine hK22 _ _ ?_
      refine W.ret ?_
      have hr := Option.some.inj hf; subst hr
      exact ⟨_, resOk_one rfl rfl, (), rfl, (hs.mask []).pick []⟩
    refine W.seqK fun K23 hK23 => ?_
    refine W.region ?_
    refine WL.assign (v := .int .i64 0) rfl ?_
    refine WL.nil ?_
    refine hK23 _ _ ?_
    refine W.block ?_
    obtain ⟨bs26, hbs26, hfs26⟩ := bindE hf
    refine W.loop hbs26 (fun s ρ w => match s with | x25 => ρ 2 = .pointer (some ⟨g10, 0, none⟩) ∧ ρ 3 = .pointer (some ⟨g11, 0, none⟩) ∧ ρ 5 = .int .i64 x25 ∧ St ok (bz w0) w [vl t_fold_Object x5 (.agg cs7.toArray), vl t_fold_Object x1 (.agg cs3.toArray)] [blk g11 51 cs7, blk g10 51 cs3]) ⟨h14_2, h14_3, rfl, (hs.mask [true, true]).pick [0, 1]⟩ ?_
    intro x25 ρ w os26 hI hf hbbs26
    obtain ⟨h24_2, h24_3, h24_5, hs⟩ := hI
    unfold esref32_EqualObject.l1 at hf
    refine W.seqK fun K27 hK27 => ?_
    refine W.seqK fun K28 hK28 => ?_
    refine W.region ?_
    refine WL.move (v := .int .i64 x25) h24_5 ?_
    refine WL.fieldAddr (m := 1) h24_2 FA51_1 rfl ?_
    refine WL.loadF (z := x1.Fields) F_fold_Object_Fields hs 1 rfl 1 rfl rfl TI49 (.inr rfl) rfl rfl (fun v29 hs => ?_)
    obtain ⟨a30, c31, rfl⟩ := hs.slice 0 rfl
    refine WL.len (v := .slice a30 (x1.Fields).length c31) rfl (len_slice UN49) ?_
    refine WL.bin (v := .bool (decide (x25 < ((x1.Fields).length : Int)))) rfl rfl (ib_lss _ _ _) ?_
    refine WL.nil ?_
    refine hK28 _ _ ?_
    rcases iteE hf with ⟨hc32, hf⟩ | ⟨hc32, hf⟩
    {
    refine W.cond_true (bool_tr rfl hc32) ?_
    refine W.skip ?_
    refine hK27 _ _ ?_
    refine W.seqK fun K33 hK33 => ?_
    refine W.block ?_
    refine W.seqK fun K34 hK34 => ?_
    obtain ⟨x38, hxx38, hf⟩ := bindE hf
    obtain ⟨x46, hxx46, hf⟩ := bindE hf
    obtain ⟨x51, hxx51, hf⟩ := bindE hf
    refine W.any (by kernel_rfl) 12 0 [true, true, true, true, true, true, true, true, true, true, true, true] rfl rfl (poAt [pv (.pointer (some ⟨g10, 1, none⟩)), pq (fun y : (Option Addr × Nat) => .slice y.1 (x1.Fields).length y.2) (fun v => [vl (tSlice t_fold_Field) x1.Fields v]) (fun v => []), pv (.int .i64 x25), pq (fun y : Addr => .pointer (some y)) (fun v => [pl t_fold_Field x38 (adOf v)]) (fun v => []), pq (fun y : List Value => .agg y.toArray) (fun v => [vl t_fold_Field x38 v]) (fun v => []), pv (.pointer (some ⟨g11, 1, none⟩)), pq (fun y : (Option Addr × Nat) => .slice y.1 (x5.Fields).length y.2) (fun v => [vl (tSlice t_fold_Field) x5.Fields v]) (fun v => []), pv (.int .i64 x25), pq (fun y : Addr => .pointer (some y)) (fun v => [pl t_fold_Field x46 (adOf v)]) (fun v => []), pq (fun y : List Value => .agg y.toArray) (fun v => [vl t_fold_Field x46 v]) (fun v => []), pv (.bool x51), pv (.bool (!x51))]) (Λ := [blk g11 51 cs7, blk g10 51 cs3]) hs (by kernel_rfl) (by kernel_rfl) (by kernel_rfl) ⟨⟨⟨⟨⟨⟨⟨⟨⟨⟨⟨⟨trivial, ?_⟩, ?_⟩, ?_⟩, ?_⟩, ?_⟩, ?_⟩, ?_⟩, ?_⟩, ?_⟩, ?_⟩, ?_⟩, ?_⟩ ?_
    {
    intro ρ w Γx Λx hs hu hp
    refine WL.fieldAddr (m := 1) ((hu 2 rfl).trans h24_2) FA51_1 rfl ?_
    exact WL.nil ⟨rfl, _, rfl, rfl, hs.cutG 0 0⟩ }
    {
    intro ρ w Γx Λx hs hu hp
    have e52 : ρ 27 = .pointer (some ⟨g10, 1, none⟩) := (hp 0 rfl).1
    refine WL.loadF (z := x1.Fields) F_fold_Object_Fields hs (Λx.length + 1) (getApp rfl) (Γx.length + 2) (getApp rfl) rfl TI49 (.inr rfl) e52 rfl (fun v35 hs => ?_)
    obtain ⟨a36, c37, rfl⟩ := hs.slice 0 rfl
    have hs := hs.add (it := vl (tSlice t_fold_Field) x1.Fields (.slice a36 (x1.Fields).length c37)) fun ok hA => hA.get 0 rfl
    exact WL.nil ⟨rfl, _, rfl, ⟨(a36, c37), rfl⟩, hs.cutG 1 1⟩ }
    {
    intro ρ w Γx Λx hs hu hp
    refine WL.move (v := .int .i64 x25) ((hu 5 rfl).trans h24_5) ?_
    exact WL.nil ⟨rfl, _, rfl, rfl, hs.cutG 0 0⟩ }
    {
    intro ρ w Γx Λx hs hu hp
    obtain ⟨⟨⟨a53, c54⟩, e55r⟩, hm56⟩ := hp 1 rfl
    have e55 : ρ 28 = .slice a53 (x1.Fields).length c54 := e55r
    rw [e55r] at hm56
    have hs := hs.memo1 (it := vl (tSlice t_fold_Field) x1.Fields (.slice a53 (x1.Fields).length c54)) (List.mem_append.2 (.inl (hm56 _ (List.mem_of_getElem? (i := 0) rfl))))
    have e57 : ρ 29 = .int .i64 x25 := (hp 2 rfl).1
    refine WL.indexAddr hs 0 rfl UN49 TI57 e55 e57 hxx38 (fun ad39 hs => ?_)
    have hs := hs.add (it := pl t_fold_Field x38 ad39) fun ok hA => hA.get 0 rfl
    exact WL.nil ⟨rfl, _, rfl, ⟨ad39, rfl⟩, hs.cutG 1 2⟩ }
    {
    intro ρ w Γx Λx hs hu hp
    obtain ⟨⟨ad58, e59r⟩, hm60⟩ := hp 3 rfl
    have e59 : ρ 30 = .pointer (some ad58) := e59r
    rw [e59r] at hm60
    have hs := hs.memo1 (it := pl t_fold_Field x38 ad58) (List.mem_append.2 (.inl (hm60 _ (List.mem_of_getElem? (i := 0) rfl))))
    refine WL.loadP hs 0 rfl TI57 (.inl rfl) e59 (fun v40 hs => ?_)
    obtain ⟨cs41, hl42, rfl⟩ := hs.aggv (n := 12) 0 rfl rfl rfl
    have hs := hs.add (it := vl t_fold_Field x38 (.agg cs41.toArray)) fun ok hA => hA.get 0 rfl
    exact WL.nil ⟨rfl, _, rfl, ⟨cs41, rfl⟩, hs.cutG 1 2⟩ }
    {
    intro ρ w Γx Λx hs hu hp
    refine WL.fieldAddr (m := 1) ((hu 3 rfl).trans h24_3) FA51_1 rfl ?_
    exact WL.nil ⟨rfl, _, rfl, rfl, hs.cutG 0 0⟩ }
    {
    intro ρ w Γx Λx hs hu hp
    have e61 : ρ 32 = .pointer (some ⟨g11, 1, none⟩) := (hp 5 rfl).1
    refine WL.loadF (z := x5.Fields) F_fold_Object_Fields hs (Λx.length + 0) (getApp rfl) (Γx.length + 1) (getApp rfl) rfl TI49 (.inr rfl) e61 rfl (fun v43 hs => ?_)
    obtain ⟨a44, c45, rfl⟩ := hs.slice 0 rfl
    have hs := hs.add (it := vl (tSlice t_fold_Field) x5.Fields (.slice a44 (x5.Fields).length c45)) fun ok hA => hA.get 0 rfl
    exact WL.nil ⟨rfl, _, rfl, ⟨(a44, c45), rfl⟩, hs.cutG 1 1⟩ }
    {
    intro ρ w Γx Λx hs hu hp
    refine WL.move (v := .int .i64 x25) ((hu 5 rfl).trans h24_5) ?_
    exact WL.nil ⟨rfl, _, rfl, rfl, hs.cutG 0 0⟩ }
    {
    intro ρ w Γx Λx hs hu hp
    obtain ⟨⟨⟨a62, c63⟩, e64r⟩, hm65⟩ := hp 6 rfl
    have e64 : ρ 33 = .slice a62 (x5.Fields).length c63 := e64r
    rw [e64r] at hm65
    have hs := hs.memo1 (it := vl (tSlice t_fold_Field) x5.Fields (.slice a62 (x5.Fields).length c63)) (List.mem_append.2 (.inl (hm65 _ (List.mem_of_getElem? (i := 0) rfl))))
    have e66 : ρ 34 = .int .i64 x25 := (hp 7 rfl).1
    refine WL.indexAddr hs 0 rfl UN49 TI57 e64 e66 hxx46 (fun ad47 hs => ?_)
    have hs := hs.add (it := pl t_fold_Field x46 ad47) fun ok hA => hA.get 0 rfl
    exact WL.nil ⟨rfl, _, rfl, ⟨ad47, rfl⟩, hs.cutG 1 2⟩ }
    {
    intro ρ w Γx Λx hs hu hp
    obtain ⟨⟨ad67, e68r⟩, hm69⟩ := hp 8 rfl
    have e68 : ρ 35 = .pointer (some ad67) := e68r
    rw [e68r] at hm69
    have hs := hs.memo1 (it := pl t_fold_Field x46 ad67) (List.mem_append.2 (.inl (hm69 _ (List.mem_of_getElem? (i := 0) rfl))))
    refine WL.loadP hs 0 rfl TI57 (.inl rfl) e68 (fun v48 hs => ?_)
    obtain ⟨cs49, hl50, rfl⟩ := hs.aggv (n := 12) 0 rfl rfl rfl
    have hs := hs.add (it := vl t_fold_Field x46 (.agg cs49.toArray)) fun ok hA => hA.get 0 rfl
    exact WL.nil ⟨rfl, _, rfl, ⟨cs49, rfl⟩, hs.cutG 1 2⟩ }
    {
    intro ρ w Γx Λx hs hu hp
    obtain ⟨⟨cs70, e72r⟩, hm73⟩ := hp 4 rfl
    have e72 : ρ 31 = .agg cs70.toArray := e72r
    rw [e72r] at hm73
    have hs := hs.memo1 (it := vl t_fold_Field x38 (.agg cs70.toArray)) (List.mem_append.2 (.inl (hm73 _ (List.mem_of_getElem? (i := 0) rfl))))
    have hl71 := hs.agglen (n := 12) 0 rfl rfl rfl
    obtain ⟨⟨cs74, e76r⟩, hm77⟩ := hp 9 rfl
    have e76 : ρ 36 = .agg cs74.toArray := e76r
    rw [e76r] at hm77
    have hs := hs.memo1 (it := vl t_fold_Field x46 (.agg cs74.toArray)) (List.mem_cons_of_mem _ (List.mem_append.2 (.inl (hm77 _ (List.mem_of_getElem? (i := 0) rfl)))))
    have hl75 := hs.agglen (n := 12) 0 rfl rfl rfl
    refine WL.call (vs := [.agg cs70.toArray, .agg cs74.toArray]) hs FN33 ⟨e72, ⟨e76, trivial⟩⟩ (fun ok hA => esref32_EqualField.calls (x1 := x38) (x5 := x46) hxx51 (hA.get 1 rfl) (hA.get 0 rfl)) ?_
    rintro _ w hs
    exact WL.nil ⟨rfl, _, rfl, rfl, hs.cutG 0 2⟩ }
    {
    intro ρ w Γx Λx hs hu hp
    have e78 : ρ 37 = .bool x51 := (hp 10 rfl).1
    refine WL.not e78 ?_
    exact WL.nil ⟨rfl, _, rfl, rfl, hs.cutG 0 0⟩ }
    {
    intro ρ w hs hu79 hp
    obtain ⟨⟨⟨⟨⟨⟨⟨⟨⟨⟨⟨⟨_, hp0_⟩, hp1_⟩, hp2_⟩, hp3_⟩, hp4_⟩, hp5_⟩, hp6_⟩, hp7_⟩, hp8_⟩, hp9_⟩, hp10_⟩, hp11_⟩ := hp
    have hs : St ok (bz w0) w [vl t_fold_Field x46 (ρ 36), pl t_fold_Field x46 (adOf (ρ 35)), vl (tSlice t_fold_Field) x5.Fields (ρ 33), vl t_fold_Field x38 (ρ 31), pl t_fold_Field x38 (adOf (ρ 30)), vl (tSlice t_fold_Field) x1.Fields (ρ 28), vl (tSlice t_fold_Field) x1.Fields (.slice a30 (x1.Fields).length c31), vl t_fold_Object x5 (.agg cs7.toArray), vl t_fold_Object x1 (.agg cs3.toArray)] [blk g11 51 cs7, blk g10 51 cs3] := hs
    have e80 : ρ 38 = .bool (!x51) := hp11_
    have e81 : ρ 37 = .bool x51 := hp10_
    obtain ⟨cs82, e84⟩ := hp9_
    have e84 : ρ 36 = .agg cs82.toArray := e84
    try rw [e84] at hs
    obtain ⟨ad85, e86⟩ := hp8_
    have e86 : ρ 35 = .pointer (some ad85) := e86
    try rw [e86] at hs
    have e87 : ρ 34 = .int .i64 x25 := hp7_
    obtain ⟨⟨a88, c89⟩, e90⟩ := hp6_
    have e90 : ρ 33 = .slice a88 (x5.Fields).length c89 := e90
    try rw [e90] at hs
    have e91 : ρ 32 = .pointer (some ⟨g11, 1, none⟩) := hp5_
    obtain ⟨cs92, e94⟩ := hp4_
    have e94 : ρ 31 = .agg cs92.toArray := e94
    try rw [e94] at hs
    obtain ⟨ad95, e96⟩ := hp3_
    have e96 : ρ 30 = .pointer (some ad95) := e96
    try rw [e96] at hs
    have e97 : ρ 29 = .int .i64 x25 := hp2_
    obtain ⟨⟨a98, c99⟩, e100⟩ := hp1_
    have e100 : ρ 28 = .slice a98 (x1.Fields).length c99 := e100
    try rw [e100] at hs
    have e101 : ρ 27 = .pointer (some ⟨g10, 1, none⟩) := hp0_
    have hl93 := hs.agglen (n := 12) 3 rfl rfl rfl
    have hl83 := hs.agglen (n := 12) 0 rfl rfl rfl
    refine WA.done (by kernel_rfl) ?_
    refine hK34 _ _ ?_
    rcases iteE hf with ⟨hc102, hf⟩ | ⟨hc102, hf⟩
    {
    refine W.cond_true (bool_tr e80 hc102) ?_
    refine W.seqK fun K103 hK103 => ?_
    refine W.region ?_
    refine WL.assign (v := .bool false) rfl ?_
    refine WL.nil ?_
    refine hK103 _ _ ?_
    refine W.ret ?_
    have hr := Option.some.inj hf; subst hr
    have hr := hbbs26 _ rfl; subst hr
    have hf := hfs26
    have hr := Option.some.inj hf; subst hr
    exact ⟨_, resOk_one rfl rfl, (), rfl, (hs.mask []).pick []⟩ }
    {
    refine W.cond_false (bool_tr e80 hc102) ?_
    refine W.skip ?_
    refine hK33 _ _ ?_
    refine W.region ?_
    refine WL.move (v := .int .i64 x25) ((hu79 5 rfl).trans h24_5) ?_
    obtain ⟨x104, ex104, hf⟩ := letE hf
    refine WL.bin (v := .int .i64 x104) rfl rfl (ib_as ex104 (ib_add _ _ _)) ?_
    refine WL.assign (v := .int .i64 x104) rfl ?_
    refine WL.nil ?_
    exact ⟨_, (Option.some.inj hf).symm, ((hu79 2 rfl).trans h24_2), ((hu79 3 rfl).trans h24_3), rfl, (hs.mask [true, true]).pick [7, 8]⟩ } } }
    {
    refine W.cond_false (bool_tr rfl hc32) ?_
    refine W.exit ?_
    have hr := Option.some.inj hf; subst hr
    have hr := hbbs26 _ rfl; subst hr
    have hf := hfs26
    exact Jk21  _ _  ((hs.mask []).pick []) hf } }
  refine W.region ?_
  refine WL.fieldAddr (m := 0) rfl FA51_0 rfl ?_
  refine WL.loadF (z := x1.Name) F_fold_Object_Name hs 1 rfl 0 rfl rfl TI9 (.inr rfl) rfl rfl (fun v106 hs => ?_)
  obtain rfl := hs.str 0 rfl
  refine WL.fieldAddr (m := 0) rfl FA51_0 rfl ?_
  refine WL.loadF (z := x5.Name) F_fold_Object_Name hs 0 rfl 2 rfl rfl TI9 (.inr rfl) rfl rfl (fun v107 hs => ?_)
  obtain rfl := hs.str 0 rfl
  refine WL.binS (v := .bool (x1.Name != x5.Name)) rfl rfl (sb_neq _ _) ?_
  refine WL.move (v := .bool (x1.Name != x5.Name)) rfl ?_
  rcases iteE hf with ⟨hc108, hf⟩ | ⟨hc108, hf⟩
  {
  refine WL.pass ((wanted_of rfl rfl (bool_tr rfl hc108)).trans rfl) rfl ?_
  refine WL.pass ((wanted_of rfl rfl (bool_tr rfl hc108)).trans rfl) rfl ?_
  refine WL.pass ((wanted_of rfl rfl (bool_tr rfl hc108)).trans rfl) rfl ?_
  refine WL.pass ((wanted_of rfl rfl (bool_tr rfl hc108)).trans rfl) rfl ?_
  refine WL.pass ((wanted_of rfl rfl (bool_tr rfl hc108)).trans rfl) rfl ?_
  refine WL.pass ((wanted_of rfl rfl (bool_tr rfl hc108)).trans rfl) rfl ?_
  refine WL.pass ((wanted_of rfl rfl (bool_tr rfl hc108)).trans rfl) rfl ?_
  refine WL.pickT (v := .bool true) (bool_tr rfl hc108) rfl ?_
  refine WL.nil ?_
  exact Jk16 true _ _ rfl rfl rfl ((hs.mask [true, true]).pick [3, 2]) hf }
  {
  refine WL.fieldAddr (m := 1) rfl FA51_1 rfl ?_ (hg := (wanted_of rfl rfl (bool_tr rfl hc108)).trans rfl)
  refine WL.loadF (z := x1.Fields) F_fold_Object_Fields hs 1 rfl 2 rfl rfl TI49 (.inr rfl) rfl rfl (fun v109 hs => ?_) (hg := (wanted_of rfl rfl (bool_tr rfl hc108)).trans rfl)
  obtain ⟨a110, c111, rfl⟩ := hs.slice 0 rfl
  refine WL.len (v := .slice a110 (x1.Fields).length c111) rfl (len_slice UN49) ?_ (hg := (wanted_of rfl rfl (bool_tr rfl hc108)).trans rfl)
  refine WL.fieldAddr (m := 1) rfl FA51_1 rfl ?_ (hg := (wanted_of rfl rfl (bool_tr rfl hc108)).trans rfl)
  refine WL.loadF (z := x5.Fields) F_fold_Object_Fields hs 0 rfl 4 rfl rfl TI49 (.inr rfl) rfl rfl (fun v112 hs => ?_) (hg := (wanted_of rfl rfl (bool_tr rfl hc108)).trans rfl)
  obtain ⟨a113, c114, rfl⟩ := hs.slice 0 rfl
  refine WL.len (v := .slice a113 (x5.Fields).length c114) rfl (len_slice UN49) ?_ (hg := (wanted_of rfl rfl (bool_tr rfl hc108)).trans rfl)
  refine WL.bin (v := .bool (((x1.Fields).length : Int) != ((x5.Fields).length : Int))) rfl rfl (ib_neq _ _ _) ?_ (hg := (wanted_of rfl rfl (bool_tr rfl hc108)).trans rfl)
  refine WL.pickF (v := .bool (((x1.Fields).length : Int) != ((x5.Fields).length : Int))) (bool_tr rfl hc108) rfl ?_
  refine WL.nil ?_
  exact Jk16 (((x1.Fields).length : Int) != ((x5.Fields).length : Int)) _ _ rfl rfl rfl ((hs.mask [true, true]).pick [5, 4]) hf }
theorem esref32_Equal.calls {ok : Nat → Prop} {w0 : World} {x1 : fold_Store} {x5 : fold_Store} {v2 : Value} {v6 : Value} {r : Bool} (hf : esref32_Equal x1 x5 = some r) (i0 : (vl t_fold_Store x1 v2).holds ok w0) (i1 : (vl t_fold_Store x5 v6).holds ok w0) :
    Calls Try.prog 14 #[v2, v6] w0 fun e w' => ∃ v, e = .returned v ∧ ∃ y : Unit, v = .bool r ∧ St ok (bz w0) w' [] [] := by
  unfold esref32_Equal at hf
  refine calls_of_W (fn := Try.f14) (N := 32) Try.func14 rfl Try.ntmps14 rfl ?_
  have hs : St ok (bz w0) w0 [vl t_fold_Store x1 v2, vl t_fold_Store x5 v6] [] := St.init (All.cons i0 (All.cons i1 All.nil))
  clear i0 i1
  obtain ⟨cs3, hl4, rfl⟩ := hs.aggv (n := 1) 0 rfl rfl rfl
  obtain ⟨cs7, hl8, rfl⟩ := hs.aggv (n := 1) 1 rfl rfl rfl
  refine W.seqK fun K9 hK9 => ?_
  refine W.region ?_
  refine WL.box (vs := cs3) hs rfl rfl (fun g10 w hs => ?_)
  refine WL.box (vs := cs7) hs rfl rfl (fun g11 w hs => ?_)
  refine WL.assign (v := .bool false) rfl ?_
  refine WL.nil ?_
  refine hK9 _ _ ?_
  refine W.seqK fun K12 hK12 => ?_
  refine W.seqK fun K13 hK13 => ?_
  refine W.region ?_
  refine WL.fieldAddr (m := 0) rfl FA29_0 rfl ?_
  refine WL.loadF (z := x1.Objects) F_fold_Store_Objects hs 1 rfl 0 rfl rfl TI27 (.inr rfl) rfl rfl (fun v14 hs => ?_)
  obtain ⟨a15, c16, rfl⟩ := hs.slice 0 rfl
  refine WL.len (v := .slice a15 (x1.Objects).length c16) rfl (len_slice UN27) ?_
  refine WL.fieldAddr (m := 0) rfl FA29_0 rfl ?_
  refine WL.loadF (z := x5.Objects) F_fold_Store_Objects hs 0 rfl 2 rfl rfl TI27 (.inr rfl) rfl rfl (fun v17 hs => ?_)
  obtain ⟨a18, c19, rfl⟩ := hs.slice 0 rfl
  refine WL.len (v := .slice a18 (x5.Objects).length c19) rfl (len_slice UN27) ?_
  refine WL.bin (v := .bool (((x1.Objects).length : Int) != ((x5.Objects).length : Int))) rfl rfl (ib_neq _ _ _) ?_
  refine WL.nil ?_
  refine hK13 _ _ ?_
  rcases iteE hf with ⟨hc20, hf⟩ | ⟨hc20, hf⟩
  {
  refine W.cond_true (bool_tr rfl hc20) ?_
  refine W.seqK fun K21 hK21 => ?_
  refine W.region ?_
  refine WL.assign (v := .bool false) rfl ?_
  refine WL.nil ?_
  refine hK21 _ _ ?_
  refine W.ret ?_
  have hr := Option.some.inj hf; subst hr
  exact ⟨_, resOk_one rfl rfl, (), rfl, (hs.mask []).pick []⟩ }
  {
  refine W.cond_false (bool_tr rfl hc20) ?_
  refine W.skip ?_
  refine hK12 _ _ ?_
  refine W.seqK fun K22 hK22 => ?_
  have Jk24 : ∀  (ρ : Env) (w : World), St ok (bz w0) w [] [] → esref32_Equal.j1 = some r → K22 ρ w := by
    intro  ρ w  hs hf
    refine hK22 _ _ ?_
    unfold esref32_Equal.j1 at hf
    refine W.seqK fun K25 hK25 => ?_
    refine W.region ?_
    refine WL.assign (v := .bool true) rfl ?_
    refine WL.nil ?_
    refine hK25 _ _ ?_
    refine W.ret ?_
    have hr := Option.some.inj hf; subst hr
    exact ⟨_, resOk_one rfl rfl, (), rfl, (hs.mask []).pick []⟩
  refine W.seqK fun K26 hK26 => ?_
  refine W.region ?_
  refine WL.assign (v := .int .i64 0) rfl ?_
  refine WL.nil ?_
  refine hK26 _ _ ?_
  refine W.block ?_
  obtain ⟨bs29, hbs29, hfs29⟩ := bindE hf
  refine W.loop hbs29 (fun s ρ w => match s with | x28 => ρ 2 = .pointer (some ⟨g10, 0, none⟩) ∧ ρ 3 = .pointer (some ⟨g11, 0, none⟩) ∧ ρ 5 = .int .i64 x28 ∧ St ok (bz w0) w [vl t_fold_Store x5 (.agg cs7.toArray), vl t_fold_Store x1 (.agg cs3.toArray)] [blk g11 29 cs7, blk g10 29 cs3]) ⟨rfl, rfl, rfl, (hs.mask [true, true]).pick [3, 2]⟩ ?_
  intro x28 ρ w os29 hI hf hbbs29
  obtain ⟨h27_2, h27_3, h27_5, hs⟩ := hI
  unfold esref32_Equal.l1 at hf
  refine W.seqK fun K30 hK30 => ?_
  refine W.seqK fun K31 hK31 => ?_
  refine W.region ?_
  refine WL.move (v := .int .i64 x28) h27_5 ?_
  refine WL.fieldAddr (m := 0) h27_2 FA29_0 rfl ?_
  refine WL.loadF (z := x1.Objects) F_fold_Store_Objects hs 1 rfl 1 rfl rfl TI27 (.inr rfl) rfl rfl (fun v32 hs => ?_)
  obtain ⟨a33, c34, rfl⟩ := hs.slice 0 rfl
  refine WL.len (v := .slice a33 (x1.Objects).length c34) rfl (len_slice UN27) ?_
  refine WL.bin (v := .bool (decide (x28 < ((x1.Objects).length : Int)))) rfl rfl (ib_lss _ _ _) ?_
  refine WL.nil ?_
  refine hK31 _ _ ?_
  rcases iteE hf with ⟨hc35, hf⟩ | ⟨hc35, hf⟩
  {
  refine W.cond_true (bool_tr rfl hc35) ?_
  refine W.skip ?_
  refine hK30 _ _ ?_
  refine W.seqK fun K36 hK36 => ?_
  refine W.block ?_
  refine W.seqK fun K37 hK37 => ?_
  obtain ⟨x41, hxx41, hf⟩ := bindE hf
  obtain ⟨x49, hxx49, hf⟩ := bindE hf
  obtain ⟨x54, hxx54, hf⟩ := bindE hf
  refine W.any (by kernel_rfl) 12 0 [true, true, true, true, true, true, true, true, true, true, true, true] rfl rfl (poAt [pv (.pointer (some ⟨g10, 0, none⟩)), pq (fun y : (Option Addr × Nat) => .slice y.1 (x1.Objects).length y.2) (fun v => [vl (tSlice t_fold_Object) x1.Objects v]) (fun v => []), pv (.int .i64 x28), pq (fun y : Addr => .pointer (some y)) (fun v => [pl t_fold_Object x41 (adOf v)]) (fun v => []), pq (fun y : List Value => .agg y.toArray) (fun v => [vl t_fold_Object x41 v]) (fun v => []), pv (.pointer (some ⟨g11, 0, none⟩)), pq (fun y : (Option Addr × Nat) => .slice y.1 (x5.Objects).length y.2) (fun v => [vl (tSlice t_fold_Object) x5.Objects v]) (fun v => []), pv (.int .i64 x28), pq (fun y : Addr => .pointer (some y)) (fun v => [pl t_fold_Object x49 (adOf v)]) (fun v => []), pq (fun y : List Value => .agg y.toArray) (fun v => [vl t_fold_Object x49 v]) (fun v => []), pv (.bool x54), pv (.bool (!x54))]) (Λ := [blk g11 29 cs7, blk g10 29 cs3]) hs (by kernel_rfl) (by kernel_rfl) (by kernel_rfl) ⟨⟨⟨⟨⟨⟨⟨⟨⟨⟨⟨⟨trivial, ?_⟩, ?_⟩, ?_⟩, ?_⟩, ?_⟩, ?_⟩, ?_⟩, ?_⟩, ?_⟩, ?_⟩, ?_⟩, ?_⟩ ?_
  {
  intro ρ w Γx Λx hs hu hp
  refine WL.fieldAddr (m := 0) ((hu 2 rfl).trans h27_2) FA29_0 rfl ?_
  exact WL.nil ⟨rfl, _, rfl, rfl, hs.cutG 0 0⟩ }
  {
  intro ρ w Γx Λx hs hu hp
  have e55 : ρ 20 = .pointer (some ⟨g10, 0, none⟩) := (hp 0 rfl).1
  refine WL.loadF (z := x1.Objects) F_fold_Store_Objects hs (Λx.length + 1) (getApp rfl) (Γx.length + 2) (getApp rfl) rfl TI27 (.inr rfl) e55 rfl (fun v38 hs => ?_)
  obtain ⟨a39, c40, rfl⟩ := hs.slice 0 rfl
  have hs := hs.add (it := vl (tSlice t_fold_Object) x1.Objects (.slice a39 (x1.Objects).length c40)) fun ok hA => hA.get 0 rfl
  exact WL.nil ⟨rfl, _, rfl, ⟨(a39, c40), rfl⟩, hs.cutG 1 1⟩ }
  {
  intro ρ w Γx Λx hs hu hp
  refine WL.move (v := .int .i64 x28) ((hu 5 rfl).trans h27_5) ?_
  exact WL.nil ⟨rfl, _, rfl, rfl, hs.cutG 0 0⟩ }
  {
  intro ρ w Γx Λx hs hu hp
  obtain ⟨⟨⟨a56, c57⟩, e58r⟩, hm59⟩ := hp 1 rfl
  have e58 : ρ 21 = .slice a56 (x1.Objects).length c57 := e58r
  rw [e58r] at hm59
  have hs := hs.memo1 (it := vl (tSlice t_fold_Object) x1.Objects (.slice a56 (x1.Objects).length c57)) (List.mem_append.2 (.inl (hm59 _ (List.mem_of_getElem? (i := 0) rfl))))
  have e60 : ρ 22 = .int .i64 x28 := (hp 2 rfl).1
  refine WL.indexAddr hs 0 rfl UN27 TI51 e58 e60 hxx41 (fun ad42 hs => ?_)
  have hs := hs.add (it := pl t_fold_Object x41 ad42) fun ok hA => hA.get 0 rfl
  exact WL.nil ⟨rfl, _, rfl, ⟨ad42, rfl⟩, hs.cutG 1 2⟩ }
  {
  intro ρ w Γx Λx hs hu hp
  obtain ⟨⟨ad61, e62r⟩, hm63⟩ := hp 3 rfl
  have e62 : ρ 23 = .pointer (some ad61) := e62r
  rw [e62r] at hm63
  have hs := hs.memo1 (it := pl t_fold_Object x41 ad61) (List.mem_append.2 (.inl (hm63 _ (List.mem_of_getElem? (i := 0) rfl))))
  refine WL.loadP hs 0 rfl TI51 (.inl rfl) e62 (fun v43 hs => ?_)
  obtain ⟨cs44, hl45, rfl⟩ := hs.aggv (n := 2) 0 rfl rfl rfl
  have hs := hs.add (it := vl t_fold_Object x41 (.agg cs44.toArray)) fun ok hA => hA.get 0 rfl
  exact WL.nil ⟨rfl, _, rfl, ⟨cs44, rfl⟩, hs.cutG 1 2⟩ }
  {
  intro ρ w Γx Λx hs hu hp
  refine WL.fieldAddr (m := 0) ((hu 3 rfl).trans h27_3) FA29_0 rfl ?_
  exact WL.nil ⟨rfl, _, rfl, rfl, hs.cutG 0 0⟩ }
  {
  intro ρ w Γx Λx hs hu hp
  have e64 : ρ 25 = .pointer (some ⟨g11, 0, none⟩) := (hp 5 rfl).1
  refine WL.loadF (z := x5.Objects) F_fold_Store_Objects hs (Λx.length + 0) (getApp rfl) (Γx.length + 1) (getApp rfl) rfl TI27 (.inr rfl) e64 rfl (fun v46 hs => ?_)
  obtain ⟨a47, c48, rfl⟩ := hs.slice 0 rfl
  have hs := hs.add (it := vl (tSlice t_fold_Object) x5.Objects (.slice a47 (x5.Objects).length c48)) fun ok hA => hA.get 0 rfl
  exact WL.nil ⟨rfl, _, rfl, ⟨(a47, c48), rfl⟩, hs.cutG 1 1⟩ }
  {
  intro ρ w Γx Λx hs hu hp
  refine WL.move (v := .int .i64 x28) ((hu 5 rfl).trans h27_5) ?_
  exact WL.nil ⟨rfl, _, rfl, rfl, hs.cutG 0 0⟩ }
  {
  intro ρ w Γx Λx hs hu hp
  obtain ⟨⟨⟨a65, c66⟩, e67r⟩, hm68⟩ := hp 6 rfl
  have e67 : ρ 26 = .slice a65 (x5.Objects).length c66 := e67r
  rw [e67r] at hm68
  have hs := hs.memo1 (it := vl (tSlice t_fold_Object) x5.Objects (.slice a65 (x5.Objects).length c66)) (List.mem_append.2 (.inl (hm68 _ (List.mem_of_getElem? (i := 0) rfl))))
  have e69 : ρ 27 = .int .i64 x28 := (hp 7 rfl).1
  refine WL.indexAddr hs 0 rfl UN27 TI51 e67 e69 hxx49 (fun ad50 hs => ?_)
  have hs := hs.add (it := pl t_fold_Object x49 ad50) fun ok hA => hA.get 0 rfl
  exact WL.nil ⟨rfl, _, rfl, ⟨ad50, rfl⟩, hs.cutG 1 2⟩ }
  {
  intro ρ w Γx Λx hs hu hp
  obtain ⟨⟨ad70, e71r⟩, hm72⟩ := hp 8 rfl
  have e71 : ρ 28 = .pointer (some ad70) := e71r
  rw [e71r] at hm72
  have hs := hs.memo1 (it := pl t_fold_Object x49 ad70) (List.mem_append.2 (.inl (hm72 _ (List.mem_of_getElem? (i := 0) rfl))))
  refine WL.loadP hs 0 rfl TI51 (.inl rfl) e71 (fun v51 hs => ?_)
  obtain ⟨cs52, hl53, rfl⟩ := hs.aggv (n := 2) 0 rfl rfl rfl
  have hs := hs.add (it := vl t_fold_Object x49 (.agg cs52.toArray)) fun ok hA => hA.get 0 rfl
  exact WL.nil ⟨rfl, _, rfl, ⟨cs52, rfl⟩, hs.cutG 1 2⟩ }
  {
  intro ρ w Γx Λx hs hu hp
  obtain ⟨⟨cs73, e75r⟩, hm76⟩ := hp 4 rfl
  have e75 : ρ 24 = .agg cs73.toArray := e75r
  rw [e75r] at hm76
  have hs := hs.memo1 (it := vl t_fold_Object x41 (.agg cs73.toArray)) (List.mem_append.2 (.inl (hm76 _ (List.mem_of_getElem? (i := 0) rfl))))
  have hl74 := hs.agglen (n := 2) 0 rfl rfl rfl
  obtain ⟨⟨cs77, e79r⟩, hm80⟩ := hp 9 rfl
  have e79 : ρ 29 = .agg cs77.toArray := e79r
  rw [e79r] at hm80
  have hs := hs.memo1 (it := vl t_fold_Object x49 (.agg cs77.toArray)) (List.mem_cons_of_mem _ (List.mem_append.2 (.inl (hm80 _ (List.mem_of_getElem? (i := 0) rfl)))))
  have hl78 := hs.agglen (n := 2) 0 rfl rfl rfl
  refine WL.call (vs := [.agg cs73.toArray, .agg cs77.toArray]) hs FN31 ⟨e75, ⟨e79, trivial⟩⟩ (fun ok hA => esref32_EqualObject.calls (x1 := x41) (x5 := x49) hxx54 (hA.get 1 rfl) (hA.get 0 rfl)) ?_
  rintro _ w hs
  exact WL.nil ⟨rfl, _, rfl, rfl, hs.cutG 0 2⟩ }
  {
  intro ρ w Γx Λx hs hu hp
  have e81 : ρ 30 = .bool x54 := (hp 10 rfl).1
  refine WL.not e81 ?_
  exact WL.nil ⟨rfl, _, rfl, rfl, hs.cutG 0 0⟩ }
  {
  intro ρ w hs hu82 hp
  obtain ⟨⟨⟨⟨⟨⟨⟨⟨⟨⟨⟨⟨_, hp0_⟩, hp1_⟩, hp2_⟩, hp3_⟩, hp4_⟩, hp5_⟩, hp6_⟩, hp7_⟩, hp8_⟩, hp9_⟩, hp10_⟩, hp11_⟩ := hp
  have hs : St ok (bz w0) w [vl t_fold_Object x49 (ρ 29), pl t_fold_Object x49 (adOf (ρ 28)), vl (tSlice t_fold_Object) x5.Objects (ρ 26), vl t_fold_Object x41 (ρ 24), pl t_fold_Object x41 (adOf (ρ 23)), vl (tSlice t_fold_Object) x1.Objects (ρ 21), vl (tSlice t_fold_Object) x1.Objects (.slice a33 (x1.Objects).length c34), vl t_fold_Store x5 (.agg cs7.toArray), vl t_fold_Store x1 (.agg cs3.toArray)] [blk g11 29 cs7, blk g10 29 cs3] := hs
  have e83 : ρ 31 = .bool (!x54) := hp11_
  have e84 : ρ 30 = .bool x54 := hp10_
  obtain ⟨cs85, e87⟩ := hp9_
  have e87 : ρ 29 = .agg cs85.toArray := e87
  try rw [e87] at hs
  obtain ⟨ad88, e89⟩ := hp8_
  have e89 : ρ 28 = .pointer (some ad88) := e89
  try rw [e89] at hs
  have e90 : ρ 27 = .int .i64 x28 := hp7_
  obtain ⟨⟨a91, c92⟩, e93⟩ := hp6_
  have e93 : ρ 26 = .slice a91 (x5.Objects).length c92 := e93
  try rw [e93] at hs
  have e94 : ρ 25 = .pointer (some ⟨g11, 0, none⟩) := hp5_
  obtain ⟨cs95, e97⟩ := hp4_
  have e97 : ρ 24 = .agg cs95.toArray := e97
  try rw [e97] at hs
  obtain ⟨ad98, e99⟩ := hp3_
  have e99 : ρ 23 = .pointer (some ad98) := e99
  try rw [e99] at hs
  have e100 : ρ 22 = .int .i64 x28 := hp2_
  obtain ⟨⟨a101, c102⟩, e103⟩ := hp1_
  have e103 : ρ 21 = .slice a101 (x1.Objects).length c102 := e103
  try rw [e103] at hs
  have e104 : ρ 20 = .pointer (some ⟨g10, 0, none⟩) := hp0_
  have hl96 := hs.agglen (n := 2) 3 rfl rfl rfl
  have hl86 := hs.agglen (n := 2) 0 rfl rfl rfl
  refine WA.done (by kernel_rfl) ?_
  refine hK37 _ _ ?_
  rcases iteE hf with ⟨hc105, hf⟩ | ⟨hc105, hf⟩
  {
  refine W.cond_true (bool_tr e83 hc105) ?_
  refine W.seqK fun K106 hK106 => ?_
  refine W.region ?_
  refine WL.assign (v := .bool false) rfl ?_
  refine WL.nil ?_
  refine hK106 _ _ ?_
  refine W.ret ?_
  have hr := Option.some.inj hf; subst hr
  have hr := hbbs29 _ rfl; subst hr
  have hf := hfs29
  have hr := Option.some.inj hf; subst hr
  exact ⟨_, resOk_one rfl rfl, (), rfl, (hs.mask []).pick []⟩ }
  {
  refine W.cond_false (bool_tr e83 hc105) ?_
  refine W.skip ?_
  refine hK36 _ _ ?_
  refine W.region ?_
  refine WL.move (v := .int .i64 x28) ((hu82 5 rfl).trans h27_5) ?_
  obtain ⟨x107, ex107, hf⟩ := letE hf
  refine WL.bin (v := .int .i64 x107) rfl rfl (ib_as ex107 (ib_add _ _ _)) ?_
  refine WL.assign (v := .int .i64 x107) rfl ?_
  refine WL.nil ?_
  exact ⟨_, (Option.some.inj hf).symm, ((hu82 2 rfl).trans h27_2), ((hu82 3 rfl).trans h27_3), rfl, (hs.mask [true, true]).pick [7, 8]⟩ } } }
  {
  refine W.cond_false (bool_tr rfl hc35) ?_
  refine W.exit ?_
  have hr := Option.some.inj hf; subst hr
  have hr := hbbs29 _ rfl; subst hr
  have hf := hfs29
  exact Jk24  _ _  ((hs.mask []).pick []) hf } }
theorem esref03_AppendUint.calls {ok : Nat → Prop} {w0 : World} {x1 : List Int} {x4 : Int} {a2 : Option Addr} {c3 : Nat} {r : List Int} (hf : esref03_AppendUint x1 x4 = some r) (i0 : (vl (tSlice (tInt .u8)) x1 (.slice a2 x1.length c3)).holds ok w0) :
    Calls Try.prog 42 #[.slice a2 x1.length c3, .int .u64 x4] w0 fun e w' => ∃ v, e = .returned v ∧ ∃ y : (Option Addr × Nat × Nat), v = .slice y.1 y.2.1 y.2.2 ∧ St ok (bz w0) w' [] [own (tInt .u8) 5 (.slice y.1 y.2.1 y.2.2) r] := by
  unfold esref03_AppendUint at hf
  refine calls_of_W (fn := Try.f42) (N := 25) Try.func42 rfl Try.ntmps42 rfl ?_
  have hs : St ok (bz w0) w0 [vl (tSlice (tInt .u8)) x1 (.slice a2 x1.length c3)] [] := St.init (All.cons i0 All.nil)
  clear i0
  refine W.seqK fun K5 hK5 => ?_
  refine W.region ?_
  refine WL.assign (v := .slice none 0 0) rfl ?_
  refine WL.nil ?_
  refine hK5 _ _ ?_
  refine W.seqK fun K6 hK6 => ?_
  refine W.region ?_
  refine WL.buildSlice0 hs UN72 TI5 (fun a7 w hs => ?_)
  refine WL.move (v := .slice a2 x1.length c3) rfl ?_
  have hs := hs.ownEmpty (tInt .u8) 5 a7
  obtain ⟨x8, hxx8, hf⟩ := bindE hf
  obtain ⟨hbx8, hex8⟩ := appE hxx8
  refine WL.appendS (zs := x8) hs 0 rfl 0 rfl UN72 UN72 EI5 rfl rfl hbx8 (by omega) hex8 (fun v9 w hs => ?_)
  obtain ⟨a10, n12, c11, rfl⟩ := hs.ownv3 0 rfl
  refine WL.assign (v := .slice a10 n12 c11) rfl ?_
  refine WL.nil ?_
  refine hK6 _ _ ?_
  refine W.seqK fun K13 hK13 => ?_
  have Jk20 : ∀ (x15 : Int) (x16 : List Int) (a17 : Option Addr) (c18 : Nat) (n19 : Nat) (ρ : Env) (w : World), ρ 1 = .int .u64 x15 → ρ 5 = .slice a17 n19 c18 → St ok (bz w0) w [] [own (tInt .u8) 5 (.slice a17 n19 c18) x16] → esref03_AppendUint.j1 x15 x16 = some r → K13 ρ w := by
    intro x15 x16 a17 c18 n19 ρ w h14_1 h14_5 hs hf
    refine hK13 _ _ ?_
    unfold esref03_AppendUint.j1 at hf
    refine W.seqK fun K21 hK21 => ?_
    refine W.region ?_
    refine WL.move (v := .slice a17 n19 c18) h14_5 ?_
    refine WL.move (v := .int .u64 x15) h14_1 ?_
    refine WL.convI UN32 UN5 rfl ?_
    refine WL.buildSlice (n := 1) (vs := [(0, .int .u8 (IntKind.u8.wrap x15))]) (cs := [.int .u8 (IntKind.u8.wrap x15)]) hs ⟨⟨rfl, rfl⟩, trivial⟩ (bls PS72 (by decide) rfl) (fun g22 w hs => ?_)
    obtain ⟨x23, hxx23, hf⟩ := bindE hf
    obtain ⟨hbx23, hex23⟩ := appE hxx23
    refine WL.append (ys := [(IntKind.u8.wrap x15)]) (zs := x23) hs 1 rfl 0 rfl UN72 EI5 rfl rfl (fun ok hA => (Cells.one (T := tInt .u8) rfl)) hbx23 (by omega) hex23 (fun v24 w hs => ?_)
    obtain ⟨a25, n27, c26, rfl⟩ := hs.ownv3 1 rfl
    refine WL.assign (v := .slice a25 n27 c26) rfl ?_
    refine WL.nil ?_
    refine hK21 _ _ ?_
    refine W.ret ?_
    have hr := Option.some.inj hf; subst hr
    exact ⟨_, resOk_one rfl rfl, (a25, n27, c26), rfl, (hs.mask [false, true]).pick []⟩
  refine W.block ?_
  obtain ⟨bs34, hbs34, hfs34⟩ := bindE hf
  refine W.loop hbs34 (fun s ρ w => match s with | (x29, x30) => ∃ (a31 : Option Addr), ∃ (c32 : Nat), ∃ (n33 : Nat), ρ 1 = .int .u64 x29 ∧ ρ 5 = .slice a31 n33 c32 ∧ St ok (bz w0) w [] [own (tInt .u8) 5 (.slice a31 n33 c32) x30]) ⟨a10, c11, n12, rfl, rfl, (hs.mask [true]).pick []⟩ ?_
  intro s ρ w os34 hI hf hbbs34
  obtain ⟨x29, x30⟩ := s
  obtain ⟨a31, c32, n33, h28_1, h28_5, hs⟩ := hI
  unfold esref03_AppendUint.l1 at hf
  refine W.seqK fun K35 hK35 => ?_
  refine W.seqK fun K36 hK36 => ?_
  refine W.region ?_
  refine WL.move (v := .int .u64 x29) h28_1 ?_
  refine WL.bin (v := .bool (decide (128 ≤ x29))) rfl rfl (ib_geq _ _ _) ?_
  refine WL.nil ?_
  refine hK36 _ _ ?_
  rcases iteE hf with ⟨hc37, hf⟩ | ⟨hc37, hf⟩
  {
  refine W.cond_true (bool_tr rfl hc37) ?_
  refine W.skip ?_
  refine hK35 _ _ ?_
  refine W.block ?_
  refine W.seqK fun K38 hK38 => ?_
  refine W.region ?_
  refine WL.move (v := .slice a31 n33 c32) h28_5 ?_
  refine WL.move (v := .int .u64 x29) h28_1 ?_
  refine WL.bin (v := .int .u64 (Int.tmod x29 128)) rfl rfl (ib_rem _ _ _ (by decide)) ?_
  obtain ⟨x39, ex39, hf⟩ := letE hf
  refine WL.convI_ UN32 UN5 rfl ex39 ?_
  obtain ⟨x40, ex40, hf⟩ := letE hf
  refine WL.bin (v := .int .u8 x40) rfl rfl (ib_as ex40 (ib_add _ _ _)) ?_
  refine WL.buildSlice (n := 1) (vs := [(0, .int .u8 x40)]) (cs := [.int .u8 x40]) hs ⟨⟨rfl, rfl⟩, trivial⟩ (bls PS72 (by decide) rfl) (fun g41 w hs => ?_)
  obtain ⟨x42, hxx42, hf⟩ := bindE hf
  obtain ⟨hbx42, hex42⟩ := appE hxx42
  refine WL.append (ys := [x40]) (zs := x42) hs 1 rfl 0 rfl UN72 EI5 rfl rfl (fun ok hA => (Cells.one (T := tInt .u8) rfl)) hbx42 (by omega) hex42 (fun v43 w hs => ?_)
  obtain ⟨a44, n46, c45, rfl⟩ := hs.ownv3 1 rfl
  refine WL.assign (v := .slice a44 n46 c45) rfl ?_
  refine WL.nil ?_
  refine hK38 _ _ ?_
  refine W.region ?_
  refine WL.move (v := .int .u64 x29) h28_1 ?_
  obtain ⟨x47, ex47, hf⟩ := letE hf
  refine WL.bin (v := .int .u64 x47) rfl rfl (ib_as ex47 (ib_quo _ _ _ (by decide))) ?_
  refine WL.assign (v := .int .u64 x47) rfl ?_
  refine WL.nil ?_
  exact ⟨_, (Option.some.inj hf).symm, a44, c45, n46, rfl, rfl, (hs.mask [false, true]).pick []⟩ }
  {
  refine W.cond_false (bool_tr rfl hc37) ?_
  refine W.exit ?_
  have hr := Option.some.inj hf; subst hr
  have hr := hbbs34 _ rfl; subst hr
  have hf := hfs34
  exact Jk20 x29 x30 a31 c32 n33 _ _ h28_1 h28_5 ((hs.mask [true]).pick []) hf }
theorem esref03_AppendString.calls {ok : Nat → Prop} {w0 : World} {x1 : List Int} {x4 : List UInt8} {a2 : Option Addr} {c3 : Nat} {r : List Int} (hf : esref03_AppendString x1 x4 = some r) (i0 : (vl (tSlice (tInt .u8)) x1 (.slice a2 x1.length c3)).holds ok w0) :
    Calls Try.prog 40 #[.slice a2 x1.length c3, bstr x4] w0 fun e w' => ∃ v, e = .returned v ∧ ∃ y : (Option Addr × Nat × Nat), v = .slice y.1 y.2.1 y.2.2 ∧ St ok (bz w0) w' [] [own (tInt .u8) 5 (.slice y.1 y.2.1 y.2.2) r] := by
  unfold esref03_AppendString at hf
  refine calls_of_W (fn := Try.f40) (N := 12) Try.func40 rfl Try.ntmps40 rfl ?_
  have hs : St ok (bz w0) w0 [vl (tSlice (tInt .u8)) x1 (.slice a2 x1.length c3)] [] := St.init (All.cons i0 All.nil)
  clear i0
  refine W.seqK fun K5 hK5 => ?_
  refine W.region ?_
  refine WL.assign (v := .slice none 0 0) rfl ?_
  refine WL.nil ?_
  refine hK5 _ _ ?_
  refine W.seqK fun K6 hK6 => ?_
  refine W.region ?_
  refine WL.move (v := .slice a2 x1.length c3) rfl ?_
  refine WL.move (v := bstr x4) rfl ?_
  refine WL.len (v := bstr x4) rfl (len_string UN9) ?_
  obtain ⟨x7, ex7, hf⟩ := letE hf
  refine WL.convI_ UN3 UN32 rfl ex7 ?_
  obtain ⟨x8, hxx8, hf⟩ := bindE hf
  refine WL.call (vs := [.slice a2 x1.length c3, .int .u64 x7]) hs FN42 ⟨rfl, ⟨rfl, trivial⟩⟩ (fun ok hA => esref03_AppendUint.calls (x1 := x1) (x4 := x7) hxx8 (hA.get 0 rfl)) ?_
  rintro ⟨a9, n10, c11⟩ w hs
  refine WL.move (v := bstr x4) rfl ?_
  obtain ⟨x12, hxx12, hf⟩ := bindE hf
  obtain ⟨hbx12, hex12⟩ := appE hxx12
  refine WL.appendStr (zs := x12) hs 0 rfl UN72 UN9 EI5 rfl rfl hbx12 (by omega) hex12 (fun v13 w hs => ?_)
  obtain ⟨a14, n16, c15, rfl⟩ := hs.ownv3 0 rfl
  refine WL.assign (v := .slice a14 n16 c15) rfl ?_
  refine WL.nil ?_
  refine hK6 _ _ ?_
  refine W.ret ?_
  have hr := Option.some.inj hf; subst hr
  exact ⟨_, resOk_one rfl rfl, (a14, n16, c15), rfl, (hs.mask [true]).pick []⟩
theorem esref03_AppendBool.calls {ok : Nat → Prop} {w0 : World} {x1 : List Int} {x4 : Bool} {a2 : Option Addr} {c3 : Nat} {r : List Int} (hf : esref03_AppendBool x1 x4 = some r) (i0 : (vl (tSlice (tInt .u8)) x1 (.slice a2 x1.length c3)).holds ok w0) :
    Calls Try.prog 41 #[.slice a2 x1.length c3, .bool x4] w0 fun e w' => ∃ v, e = .returned v ∧ ∃ y : (Option Addr × Nat × Nat), v = .slice y.1 y.2.1 y.2.2 ∧ St ok (bz w0) w' [] [own (tInt .u8) 5 (.slice y.1 y.2.1 y.2.2) r] := by
  unfold esref03_AppendBool at hf
  refine calls_of_W (fn := Try.f41) (N := 16) Try.func41 rfl Try.ntmps41 rfl ?_
  have hs : St ok (bz w0) w0 [vl (tSlice (tInt .u8)) x1 (.slice a2 x1.length c3)] [] := St.init (All.cons i0 All.nil)
  clear i0
  refine W.seqK fun K5 hK5 => ?_
  refine W.region ?_
  refine WL.assign (v := .slice none 0 0) rfl ?_
  refine WL.nil ?_
  refine hK5 _ _ ?_
  refine W.seqK fun K6 hK6 => ?_
  refine W.seqK fun K7 hK7 => ?_
  refine W.region ?_
  refine WL.move (v := .bool x4) rfl ?_
  refine WL.nil ?_
  refine hK7 _ _ ?_
  rcases iteE hf with ⟨hc8, hf⟩ | ⟨hc8, hf⟩
  {
  refine W.cond_true (bool_tr rfl hc8) ?_
  refine W.seqK fun K9 hK9 => ?_
  refine W.region ?_
  refine WL.buildSlice0 hs UN72 TI5 (fun a10 w hs => ?_)
  refine WL.move (v := .slice a2 x1.length c3) rfl ?_
  have hs := hs.ownEmpty (tInt .u8) 5 a10
  obtain ⟨x11, hxx11, hf⟩ := bindE hf
  obtain ⟨hbx11, hex11⟩ := appE hxx11
  refine WL.appendS (zs := x11) hs 0 rfl 0 rfl UN72 UN72 EI5 rfl rfl hbx11 (by omega) hex11 (fun v12 w hs => ?_)
  obtain ⟨a13, n15, c14, rfl⟩ := hs.ownv3 0 rfl
  refine WL.buildSlice (n := 1) (vs := [(0, .int .u8 1)]) (cs := [.int .u8 1]) hs ⟨⟨rfl, rfl⟩, trivial⟩ (bls PS72 (by decide) rfl) (fun g16 w hs => ?_)
  obtain ⟨x17, hxx17, hf⟩ := bindE hf
  obtain ⟨hbx17, hex17⟩ := appE hxx17
  refine WL.append (ys := [1]) (zs := x17) hs 1 rfl 0 rfl UN72 EI5 rfl rfl (fun ok hA => (Cells.one (T := tInt .u8) rfl)) hbx17 (by omega) hex17 (fun v18 w hs => ?_)
  obtain ⟨a19, n21, c20, rfl⟩ := hs.ownv3 1 rfl
  refine WL.assign (v := .slice a19 n21 c20) rfl ?_
  refine WL.nil ?_
  refine hK9 _ _ ?_
  refine W.ret ?_
  have hr := Option.some.inj hf; subst hr
  exact ⟨_, resOk_one rfl rfl, (a19, n21, c20), rfl, (hs.mask [false, true]).pick []⟩ }
  {
  refine W.cond_false (bool_tr rfl hc8) ?_
  refine W.skip ?_
  refine hK6 _ _ ?_
  refine W.seqK fun K22 hK22 => ?_
  refine W.region ?_
  refine WL.buildSlice0 hs UN72 TI5 (fun a23 w hs => ?_)
  refine WL.move (v := .slice a2 x1.length c3) rfl ?_
  have hs := hs.ownEmpty (tInt .u8) 5 a23
  obtain ⟨x24, hxx24, hf⟩ := bindE hf
  obtain ⟨hbx24, hex24⟩ := appE hxx24
  refine WL.appendS (zs := x24) hs 0 rfl 0 rfl UN72 UN72 EI5 rfl rfl hbx24 (by omega) hex24 (fun v25 w hs => ?_)
  obtain ⟨a26, n28, c27, rfl⟩ := hs.ownv3 0 rfl
  refine WL.buildSlice (n := 1) (vs := [(0, .int .u8 0)]) (cs := [.int .u8 0]) hs ⟨⟨rfl, rfl⟩, trivial⟩ (bls PS72 (by decide) rfl) (fun g29 w hs => ?_)
  obtain ⟨x30, hxx30, hf⟩ := bindE hf
  obtain ⟨hbx30, hex30⟩ := appE hxx30
  refine WL.append (ys := [0]) (zs := x30) hs 1 rfl 0 rfl UN72 EI5 rfl rfl (fun ok hA => (Cells.one (T := tInt .u8) rfl)) hbx30 (by omega) hex30 (fun v31 w hs => ?_)
  obtain ⟨a32, n34, c33, rfl⟩ := hs.ownv3 1 rfl
  refine WL.assign (v := .slice a32 n34 c33) rfl ?_
  refine WL.nil ?_
  refine hK22 _ _ ?_
  refine W.ret ?_
  have hr := Option.some.inj hf; subst hr
  exact ⟨_, resOk_one rfl rfl, (a32, n34, c33), rfl, (hs.mask [false, true]).pick []⟩ }
theorem esref03_Zigzag.calls {ok : Nat → Prop} {w0 : World} {x1 : Int}  {r : Int} (hf : esref03_Zigzag x1 = some r)  :
    Calls Try.prog 67 #[.int .i64 x1] w0 fun e w' => ∃ v, e = .returned v ∧ ∃ y : Unit, v = .int .u64 r ∧ St ok (bz w0) w' [] [] := by
  unfold esref03_Zigzag at hf
  refine calls_of_W (fn := Try.f67) (N := 14) Try.func67 rfl Try.ntmps67 rfl ?_
  have hs : St ok (bz w0) w0 [] [] := St.init All.nil
  refine W.seqK fun K2 hK2 => ?_
  refine W.region ?_
  refine WL.assign (v := .int .u64 0) rfl ?_
  refine WL.nil ?_
  refine hK2 _ _ ?_
  refine W.seqK fun K3 hK3 => ?_
  refine W.seqK fun K4 hK4 => ?_
  refine W.region ?_
  refine WL.move (v := .int .i64 x1) rfl ?_
  refine WL.bin (v := .bool (decide (0 ≤ x1))) rfl rfl (ib_geq _ _ _) ?_
  refine WL.nil ?_
  refine hK4 _ _ ?_
  rcases iteE hf with ⟨hc5, hf⟩ | ⟨hc5, hf⟩
  {
  refine W.cond_true (bool_tr rfl hc5) ?_
  refine W.seqK fun K6 hK6 => ?_
  refine W.region ?_
  refine WL.move (v := .int .i64 x1) rfl ?_
  refine WL.convI UN2 UN32 rfl ?_
  obtain ⟨x7, ex7, hf⟩ := letE hf
  refine WL.bin (v := .int .u64 x7) rfl rfl (ib_as ex7 (ib_mul _ _ _)) ?_
  refine WL.assign (v := .int .u64 x7) rfl ?_
  refine WL.nil ?_
  refine hK6 _ _ ?_
  refine W.ret ?_
  have hr := Option.some.inj hf; subst hr
  exact ⟨_, resOk_one rfl rfl, (), rfl, (hs.mask []).pick []⟩ }
  {
  refine W.cond_false (bool_tr rfl hc5) ?_
  refine W.skip ?_
  refine hK3 _ _ ?_
  refine W.seqK fun K8 hK8 => ?_
  refine W.region ?_
  refine WL.move (v := .int .i64 x1) rfl ?_
  obtain ⟨x9, ex9, hf⟩ := letE hf
  refine WL.bin (v := .int .i64 x9) rfl rfl (ib_as ex9 (ib_add _ _ _)) ?_
  refine WL.neg rfl ?_
  obtain ⟨x10, ex10, hf⟩ := letE hf
  refine WL.convI_ UN2 UN32 rfl ex10 ?_
  obtain ⟨x11, ex11, hf⟩ := letE hf
  refine WL.bin (v := .int .u64 x11) rfl rfl (ib_as ex11 (ib_mul _ _ _)) ?_
  obtain ⟨x12, ex12, hf⟩ := letE hf
  refine WL.bin (v := .int .u64 x12) rfl rfl (ib_as ex12 (ib_add _ _ _)) ?_
  refine WL.assign (v := .int .u64 x12) rfl ?_
  refine WL.nil ?_
  refine hK8 _ _ ?_
  refine W.ret ?_
  have hr := Option.some.inj hf; subst hr
  exact ⟨_, resOk_one rfl rfl, (), rfl, (hs.mask []).pick []⟩ }
theorem esref03_AppendInt.calls {ok : Nat → Prop} {w0 : World} {x1 : List Int} {x4 : Int} {a2 : Option Addr} {c3 : Nat} {r : List Int} (hf : esref03_AppendInt x1 x4 = some r) (i0 : (vl (tSlice (tInt .u8)) x1 (.slice a2 x1.length c3)).holds ok w0) :
    Calls Try.prog 43 #[.slice a2 x1.length c3, .int .i64 x4] w0 fun e w' => ∃ v, e = .returned v ∧ ∃ y : (Option Addr × Nat × Nat), v = .slice y.1 y.2.1 y.2.2 ∧ St ok (bz w0) w' [] [own (tInt .u8) 5 (.slice y.1 y.2.1 y.2.2) r] := by
  unfold esref03_AppendInt at hf
  refine calls_of_W (fn := Try.f43) (N := 9) Try.func43 rfl Try.ntmps43 rfl ?_
  have hs : St ok (bz w0) w0 [vl (tSlice (tInt .u8)) x1 (.slice a2 x1.length c3)] [] := St.init (All.cons i0 All.nil)
  clear i0
  refine W.seqK fun K5 hK5 => ?_
  refine W.region ?_
  refine WL.assign (v := .slice none 0 0) rfl ?_
  refine WL.nil ?_
  refine hK5 _ _ ?_
  refine W.seqK fun K6 hK6 => ?_
  refine W.region ?_
  refine WL.move (v := .slice a2 x1.length c3) rfl ?_
  refine WL.move (v := .int .i64 x4) rfl ?_
  obtain ⟨x7, hxx7, hf⟩ := bindE hf
  refine WL.call (vs := [.int .i64 x4]) hs FN67 ⟨rfl, trivial⟩ (fun ok hA => esref03_Zigzag.calls (x1 := x4) hxx7) ?_
  rintro _ w hs
  obtain ⟨x8, hxx8, hf⟩ := bindE hf
  refine WL.call (vs := [.slice a2 x1.length c3, .int .u64 x7]) hs FN42 ⟨rfl, ⟨rfl, trivial⟩⟩ (fun ok hA => esref03_AppendUint.calls (x1 := x1) (x4 := x7) hxx8 (hA.get 0 rfl)) ?_
  rintro ⟨a9, n10, c11⟩ w hs
  refine WL.assign (v := .slice a9 n10 c11) rfl ?_
  refine WL.nil ?_
  refine hK6 _ _ ?_
  refine W.ret ?_
  have hr := Option.some.inj hf; subst hr
  exact ⟨_, resOk_one rfl rfl, (a9, n10, c11), rfl, (hs.mask [true]).pick []⟩
end Go.Proofs.Ytlbcfjblpopcnaa
set_option linter.unusedVariables false
set_option linter.unusedSimpArgs false
namespace Go.Proofs.Ytlbcfjblpopcnaa
open Go Go.RowKit Go.Proofs.YtlbcfjblpopcnaaL
set_option maxRecDepth 100000
set_option maxHeartbeats 4000000
theorem esref32_Hash.calls {ok : Nat → Prop} {w0 : World} {x1 : fold_Store} {v2 : Value} {r : Int} (hf : esref32_Hash x1 = some r) (i0 : (vl t_fold_Store x1 v2).holds ok w0) :
    Calls Try.prog 17 #[v2] w0 fun e w' => ∃ v, e = .returned v ∧ ∃ y : Unit, v = .int .u64 r ∧ St ok (bz w0) w' [] [] := by
  unfold esref32_Hash at hf
  refine calls_of_W (fn := Try.f17) (N := 127) Try.func17 rfl Try.ntmps17 rfl ?_
  have hs : St ok (bz w0) w0 [vl t_fold_Store x1 v2] [] := St.init (All.cons i0 All.nil)
  clear i0
  obtain ⟨cs3, hl4, rfl⟩ := hs.aggv (n := 1) 0 rfl rfl rfl
  refine W.seqK fun K5 hK5 => ?_
  refine W.region ?_
  refine WL.box (vs := cs3) hs rfl rfl (fun g6 w hs => ?_)
  refine WL.assign (v := .int .u64 0) rfl ?_
  refine WL.nil ?_
  refine hK5 _ _ ?_
  refine W.seqK fun K7 hK7 => ?_
  refine W.region ?_
  refine WL.assign (v := .slice none 0 0) rfl ?_
  refine WL.nil ?_
  refine hK7 _ _ ?_
  refine W.seqK fun K8 hK8 => ?_
  have Jk13 : ∀ (x10 : List Int) (a11 : Option Addr) (c12 : Nat) (ρ : Env) (w : World), ρ 3 = .slice a11 x10.length c12 → St ok (bz w0) w [vl (tSlice (tInt .u8)) x10 (.slice a11 x10.length c12)] [] → esref32_Hash.j2 x10 = some r → K8 ρ w := by
    intro x10 a11 c12 ρ w h9_3 hs hf
    refine hK8 _ _ ?_
    unfold esref32_Hash.j2 at hf
    refine W.seqK fun K14 hK14 => ?_
    refine W.region ?_
    refine WL.assign (v := .int .u64 14695981039346656037) rfl ?_
    refine WL.nil ?_
    refine hK14 _ _ ?_
    refine W.seqK fun K15 hK15 => ?_
    have Jk18 : ∀ (x17 : Int) (ρ : Env) (w : World), ρ 9 = .int .u64 x17 → St ok (bz w0) w [] [] → esref32_Hash.j1 x17 = some r → K15 ρ w := by
      intro x17 ρ w h16_9 hs hf
      refine hK15 _ _ ?_
      unfold esref32_Hash.j1 at hf
      refine W.seqK fun K19 hK19 => ?_
      refine W.region ?_
      refine WL.move (v := .int .u64 x17) h16_9 ?_
      refine WL.assign (v := .int .u64 x17) rfl ?_
      refine WL.nil ?_
      refine hK19 _ _ ?_
      refine W.ret ?_
      have hr := Option.some.inj hf; subst hr
      exact ⟨_, resOk_one rfl rfl, (), rfl, (hs.mask []).pick []⟩
    refine W.seqK fun K20 hK20 => ?_
    refine W.region ?_
    refine WL.assign (v := .int .i64 0) rfl ?_
    refine WL.nil ?_
    refine hK20 _ _ ?_
    refine W.block ?_
    obtain ⟨bs24, hbs24, hfs24⟩ := bindE hf
    refine W.loop hbs24 (fun s ρ w => match s with | (x22, x23) => ρ 3 = .slice a11 x10.length c12 ∧ ρ 9 = .int .u64 x22 ∧ ρ 10 = .int .i64 x23 ∧ St ok (bz w0) w [vl (tSlice (tInt .u8)) x10 (.slice a11 x10.length c12)] []) ⟨h9_3, rfl, rfl, (hs.mask []).pick [0]⟩ ?_
    intro s ρ w os24 hI hf hbbs24
    obtain ⟨x22, x23⟩ := s
    obtain ⟨h21_3, h21_9, h21_10, hs⟩ := hI
    unfold esref32_Hash.l1 at hf
    refine W.seqK fun K25 hK25 => ?_
    refine W.seqK fun K26 hK26 => ?_
    refine W.region ?_
    refine WL.move (v := .int .i64 x23) h21_10 ?_
    refine WL.move (v := .slice a11 x10.length c12) h21_3 ?_
    refine WL.len (v := .slice a11 x10.length c12) rfl (len_slice UN72) ?_
    refine WL.bin (v := .bool (decide (x23 < (x10.length : Int)))) rfl rfl (ib_lss _ _ _) ?_
    refine WL.nil ?_
    refine hK26 _ _ ?_
    rcases iteE hf with ⟨hc27, hf⟩ | ⟨hc27, hf⟩
    {
    refine W.cond_true (bool_tr rfl hc27) ?_
    refine W.skip ?_
    refine hK25 _ _ ?_
    refine W.seqK fun K28 hK28 => ?_
    refine W.block ?_
    refine W.region ?_
    refine WL.move (v := .int .u64 x22) h21_9 ?_
    refine WL.move (v := .slice a11 x10.length c12) h21_3 ?_
    refine WL.move (v := .int .i64 x23) h21_10 ?_
    obtain ⟨x29, hxx29, hf⟩ := bindE hf
    refine WL.indexAddr hs 0 rfl UN72 TI5 rfl rfl hxx29 (fun ad30 hs => ?_)
    refine WL.loadP hs 0 rfl TI5 (.inr rfl) rfl (fun v31 hs => ?_)
    obtain rfl := hs.int 0 rfl
    refine WL.convI UN5 UN32 rfl ?_
    obtain ⟨x32, ex32, hf⟩ := letE hf
    refine WL.bin (v := .int .u64 x32) rfl rfl (ib_as ex32 (ib_xor _ _ _)) ?_
    obtain ⟨x33, ex33, hf⟩ := letE hf
    refine WL.bin (v := .int .u64 x33) rfl rfl (ib_as ex33 (ib_mul _ _ _)) ?_
    refine WL.assign (v := .int .u64 x33) rfl ?_
    refine WL.nil ?_
    refine hK28 _ _ ?_
    refine W.region ?_
    refine WL.move (v := .int .i64 x23) h21_10 ?_
    obtain ⟨x34, ex34, hf⟩ := letE hf
    refine WL.bin (v := .int .i64 x34) rfl rfl (ib_as ex34 (ib_add _ _ _)) ?_
    refine WL.assign (v := .int .i64 x34) rfl ?_
    refine WL.nil ?_
    exact ⟨_, (Option.some.inj hf).symm, h21_3, rfl, rfl, (hs.mask []).pick [2]⟩ }
    {
    refine W.cond_false (bool_tr rfl hc27) ?_
    refine W.exit ?_
    have hr := Option.some.inj hf; subst hr
    have hr := hbbs24 _ rfl; subst hr
    have hf := hfs24
    exact Jk18 x22 _ _ h21_9 ((hs.mask []).pick []) hf }
  refine W.seqK fun K36 hK36 => ?_
  refine W.region ?_
  refine WL.assign (v := .int .i64 0) rfl ?_
  refine WL.nil ?_
  refine hK36 _ _ ?_
  refine W.block ?_
  obtain ⟨bs42, hbs42, hfs42⟩ := bindE hf
  have hs := hs.add (it := vl (tSlice (tInt .u8)) [] (.slice none 0 0)) fun ok hA => V_nil
  refine W.loop hbs42 (fun s ρ w => match s with | (x38, x41) => ∃ (a39 : Option Addr), ∃ (c40 : Nat), ρ 1 = .pointer (some ⟨g6, 0, none⟩) ∧ ρ 3 = .slice a39 x38.length c40 ∧ ρ 4 = .int .i64 x41 ∧ St ok (bz w0) w [vl (tSlice (tInt .u8)) x38 (.slice a39 x38.length c40), vl t_fold_Store x1 (.agg cs3.toArray)] [blk g6 29 cs3]) ⟨none, 0, rfl, rfl, rfl, (hs.mask [true]).pick [0, 1]⟩ ?_
  intro s ρ w os42 hI hf hbbs42
  obtain ⟨x38, x41⟩ := s
  obtain ⟨a39, c40, h37_1, h37_3, h37_4, hs⟩ := hI
  unfold esref32_Hash.l4 at hf
  refine W.seqK fun K43 hK43 => ?_
  refine W.seqK fun K44 hK44 => ?_
  refine W.region ?_
  refine WL.move (v := .int .i64 x41) h37_4 ?_
  refine WL.fieldAddr (m := 0) h37_1 FA29_0 rfl ?_
  refine WL.loadF (z := x1.Objects) F_fold_Store_Objects hs 0 rfl 1 rfl rfl TI27 (.inr rfl) rfl rfl (fun v45 hs => ?_)
  obtain ⟨a46, c47, rfl⟩ := hs.slice 0 rfl
  refine WL.len (v := .slice a46 (x1.Objects).length c47) rfl (len_slice UN27) ?_
  refine WL.bin (v := .bool (decide (x41 < ((x1.Objects).length : Int)))) rfl rfl (ib_lss _ _ _) ?_
  refine WL.nil ?_
  refine hK44 _ _ ?_
  rcases iteE hf with ⟨hc48, hf⟩ | ⟨hc48, hf⟩
  {
  refine W.cond_true (bool_tr rfl hc48) ?_
  refine W.skip ?_
  refine hK43 _ _ ?_
  refine W.seqK fun K49 hK49 => ?_
  have Jk54 : ∀ (x51 : List Int) (a52 : Option Addr) (c53 : Nat) (ρ : Env) (w : World), ρ 1 = .pointer (some ⟨g6, 0, none⟩) → ρ 3 = .slice a52 x51.length c53 → ρ 4 = .int .i64 x41 → St ok (bz w0) w [vl (tSlice (tInt .u8)) x51 (.slice a52 x51.length c53), vl t_fold_Store x1 (.agg cs3.toArray)] [blk g6 29 cs3] → esref32_Hash.j3 x41 x51 = some os42 → K49 ρ w := by
    intro x51 a52 c53 ρ w h50_1 h50_3 h50_4 hs hf
    refine hK49 _ _ ?_
    unfold esref32_Hash.j3 at hf
    refine W.region ?_
    refine WL.move (v := .int .i64 x41) h50_4 ?_
    obtain ⟨x55, ex55, hf⟩ := letE hf
    refine WL.bin (v := .int .i64 x55) rfl rfl (ib_as ex55 (ib_add _ _ _)) ?_
    refine WL.assign (v := .int .i64 x55) rfl ?_
    refine WL.nil ?_
    exact ⟨_, (Option.some.inj hf).symm, a52, c53, h50_1, h50_3, rfl, (hs.mask [true]).pick [0, 1]⟩
  refine W.block ?_
  refine W.seqK fun K56 hK56 => ?_
  refine W.region ?_
  refine WL.fieldAddr (m := 0) h37_1 FA29_0 rfl ?_
  refine WL.loadF (z := x1.Objects) F_fold_Store_Objects hs 0 rfl 2 rfl rfl TI27 (.inr rfl) rfl rfl (fun v57 hs => ?_)
  obtain ⟨a58, c59, rfl⟩ := hs.slice 0 rfl
  refine WL.move (v := .int .i64 x41) h37_4 ?_
  obtain ⟨x60, hxx60, hf⟩ := bindE hf
  refine WL.indexAddr hs 0 rfl UN27 TI51 rfl rfl hxx60 (fun ad61 hs => ?_)
  refine WL.loadP hs 0 rfl TI51 (.inl rfl) rfl (fun v62 hs => ?_)
  obtain ⟨cs63, hl64, rfl⟩ := hs.aggv (n := 2) 0 rfl rfl rfl
  refine WL.alloc hs ZV51 (fun g65 w hs => ?_)
  refine WL.storeAll (vs := cs63) hs 0 rfl TI51 rfl rfl rfl hl64 (hs.ones 0 rfl rfl) rfl (fun w hs => ?_)
  refine WL.nil ?_
  refine hK56 _ _ ?_
  refine W.seqK fun K66 hK66 => ?_
  refine W.region ?_
  refine WL.assign (v := .int .i64 0) rfl ?_
  refine WL.nil ?_
  refine hK66 _ _ ?_
  refine W.block ?_
  obtain ⟨bs72, hbs72, hfs72⟩ := bindE hf
  refine W.loop hbs72 (fun s ρ w => match s with | (x68, x71) => ∃ (a69 : Option Addr), ∃ (c70 : Nat), ρ 1 = .pointer (some ⟨g6, 0, none⟩) ∧ ρ 3 = .slice a69 x68.length c70 ∧ ρ 4 = .int .i64 x41 ∧ ρ 5 = .pointer (some ⟨g65, 0, none⟩) ∧ ρ 6 = .int .i64 x71 ∧ St ok (bz w0) w [vl (tSlice (tInt .u8)) x68 (.slice a69 x68.length c70), vl t_fold_Object x60 (.agg cs63.toArray), vl t_fold_Store x1 (.agg cs3.toArray)] [blk g65 51 cs63, blk g6 29 cs3]) ⟨a39, c40, h37_1, h37_3, h37_4, rfl, rfl, (hs.mask [true, true]).pick [4, 0, 5]⟩ ?_
  intro s ρ w os72 hI hf hbbs72
  obtain ⟨x68, x71⟩ := s
  obtain ⟨a69, c70, h67_1, h67_3, h67_4, h67_5, h67_6, hs⟩ := hI
  unfold esref32_Hash.l3 at hf
  refine W.seqK fun K73 hK73 => ?_
  refine W.seqK fun K74 hK74 => ?_
  refine W.region ?_
  refine WL.move (v := .int .i64 x71) h67_6 ?_
  refine WL.fieldAddr (m := 1) h67_5 FA51_1 rfl ?_
  refine WL.loadF (z := x60.Fields) F_fold_Object_Fields hs 0 rfl 1 rfl rfl TI49 (.inr rfl) rfl rfl (fun v75 hs => ?_)
  obtain ⟨a76, c77, rfl⟩ := hs.slice 0 rfl
  refine WL.len (v := .slice a76 (x60.Fields).length c77) rfl (len_slice UN49) ?_
  refine WL.bin (v := .bool (decide (x71 < ((x60.Fields).length : Int)))) rfl rfl (ib_lss _ _ _) ?_
  refine WL.nil ?_
  refine hK74 _ _ ?_
  rcases iteE hf with ⟨hc78, hf⟩ | ⟨hc78, hf⟩
  {
  refine W.cond_true (bool_tr rfl hc78) ?_
  refine W.skip ?_
  refine hK73 _ _ ?_
  refine W.seqK fun K79 hK79 => ?_
  have Jk84 : ∀ (x81 : List Int) (a82 : Option Addr) (c83 : Nat) (ρ : Env) (w : World), ρ 1 = .pointer (some ⟨g6, 0, none⟩) → ρ 3 = .slice a82 x81.length c83 → ρ 4 = .int .i64 x41 → ρ 5 = .pointer (some ⟨g65, 0, none⟩) → ρ 6 = .int .i64 x71 → St ok (bz w0) w [vl (tSlice (tInt .u8)) x81 (.slice a82 x81.length c83), vl t_fold_Object x60 (.agg cs63.toArray), vl t_fold_Store x1 (.agg cs3.toArray)] [blk g65 51 cs63, blk g6 29 cs3] → esref32_Hash.j4 x71 x81 = some os72 → K79 ρ w := by
    intro x81 a82 c83 ρ w h80_1 h80_3 h80_4 h80_5 h80_6 hs hf
    refine hK79 _ _ ?_
    unfold esref32_Hash.j4 at hf
    refine W.region ?_
    refine WL.move (v := .int .i64 x71) h80_6 ?_
    obtain ⟨x85, ex85, hf⟩ := letE hf
    refine WL.bin (v := .int .i64 x85) rfl rfl (ib_as ex85 (ib_add _ _ _)) ?_
    refine WL.assign (v := .int .i64 x85) rfl ?_
    refine WL.nil ?_
    exact ⟨_, (Option.some.inj hf).symm, a82, c83, h80_1, h80_3, h80_4, h80_5, rfl, (hs.mask [true, true]).pick [0, 1, 2]⟩
  refine W.block ?_
  refine W.seqK fun K86 hK86 => ?_
  refine W.region ?_
  refine WL.fieldAddr (m := 1) h67_5 FA51_1 rfl ?_
  refine WL.loadF (z := x60.Fields) F_fold_Object_Fields hs 0 rfl 2 rfl rfl TI49 (.inr rfl) rfl rfl (fun v87 hs => ?_)
  obtain ⟨a88, c89, rfl⟩ := hs.slice 0 rfl
  refine WL.move (v := .int .i64 x71) h67_6 ?_
  obtain ⟨x90, hxx90, hf⟩ := bindE hf
  refine WL.indexAddr hs 0 rfl UN49 TI57 rfl rfl hxx90 (fun ad91 hs => ?_)
  refine WL.loadP hs 0 rfl TI57 (.inl rfl) rfl (fun v92 hs => ?_)
  obtain ⟨cs93, hl94, rfl⟩ := hs.aggv (n := 12) 0 rfl rfl rfl
  refine WL.alloc hs ZV57 (fun g95 w hs => ?_)
  refine WL.storeAll (vs := cs93) hs 0 rfl TI57 rfl rfl rfl hl94 (hs.ones 0 rfl rfl) rfl (fun w hs => ?_)
  refine WL.nil ?_
  refine hK86 _ _ ?_
  refine W.seqK fun K96 hK96 => ?_
  refine W.region ?_
  refine WL.move (v := .slice a69 x68.length c70) h67_3 ?_
  refine WL.fieldAddr (m := 0) h67_5 FA51_0 rfl ?_
  refine WL.loadF (z := x60.Name) F_fold_Object_Name hs 1 rfl 5 rfl rfl TI9 (.inr rfl) rfl rfl (fun v97 hs => ?_)
  obtain rfl := hs.str 0 rfl
  obtain ⟨x98, hxx98, hf⟩ := bindE hf
  refine WL.call (vs := [.slice a69 x68.length c70, bstr x60.Name]) hs FN40 ⟨rfl, ⟨rfl, trivial⟩⟩ (fun ok hA => esref03_AppendString.calls (x1 := x68) (x4 := x60.Name) hxx98 (hA.get 5 rfl)) ?_
  rintro ⟨a99, n100, c101⟩ w hs
  refine WL.assign (v := .slice a99 n100 c101) rfl ?_
  refine WL.nil ?_
  refine hK96 _ _ ?_
  refine W.seqK fun K102 hK102 => ?_
  refine W.region ?_
  refine WL.move (v := .slice a99 n100 c101) rfl ?_
  refine WL.fieldAddr (m := 0) rfl FA57_0 rfl ?_
  refine WL.loadF (z := x90.Name) F_fold_Field_Name hs 1 rfl 1 rfl rfl TI9 (.inr rfl) rfl rfl (fun v103 hs => ?_)
  obtain rfl := hs.str 0 rfl
  obtain rfl := hs.ownLen 0 rfl
  have hs := hs.freezeOwn 0 rfl
  obtain ⟨x104, hxx104, hf⟩ := bindE hf
  refine WL.call (vs := [.slice a99 x98.length c101, bstr x90.Name]) hs FN40 ⟨rfl, ⟨rfl, trivial⟩⟩ (fun ok hA => esref03_AppendString.calls (x1 := x98) (x4 := x90.Name) hxx104 (hA.get 0 rfl)) ?_
  rintro ⟨a105, n106, c107⟩ w hs
  refine WL.assign (v := .slice a105 n106 c107) rfl ?_
  refine WL.nil ?_
  refine hK102 _ _ ?_
  refine W.seqK fun K108 hK108 => ?_
  refine W.region ?_
  refine WL.move (v := .slice a105 n106 c107) rfl ?_
  refine WL.fieldAddr (m := 1) rfl FA57_1 rfl ?_
  refine WL.fieldAddr (m := 1) rfl FA54_0 rfl ?_
  refine WL.loadF (z := x90.Register.Set) (F_fold_Field_Register.comp F_fold_Register_Set) hs 1 rfl 3 rfl rfl TI4 (.inr rfl) rfl rfl (fun v109 hs => ?_)
  obtain rfl := hs.bool 0 rfl
  obtain rfl := hs.ownLen 0 rfl
  have hs := hs.freezeOwn 0 rfl
  obtain ⟨x110, hxx110, hf⟩ := bindE hf
  refine WL.call (vs := [.slice a105 x104.length c107, .bool x90.Register.Set]) hs FN41 ⟨rfl, ⟨rfl, trivial⟩⟩ (fun ok hA => esref03_AppendBool.calls (x1 := x104) (x4 := x90.Register.Set) hxx110 (hA.get 0 rfl)) ?_
  rintro ⟨a111, n112, c113⟩ w hs
  refine WL.assign (v := .slice a111 n112 c113) rfl ?_
  refine WL.nil ?_
  refine hK108 _ _ ?_
  refine W.seqK fun K114 hK114 => ?_
  refine W.region ?_
  refine WL.move (v := .slice a111 n112 c113) rfl ?_
  refine WL.fieldAddr (m := 1) rfl FA57_1 rfl ?_
  refine WL.fieldAddr (m := 2) rfl FA54_1 rfl ?_
  refine WL.loadF (z := x90.Register.Tag) (F_fold_Field_Register.comp F_fold_Register_Tag) hs 1 rfl 5 rfl rfl TI3 (.inr rfl) rfl rfl (fun v115 hs => ?_)
  obtain rfl := hs.int 0 rfl
  obtain ⟨x116, ex116, hf⟩ := letE hf
  refine WL.convI_ UN3 UN32 rfl ex116 ?_
  obtain rfl := hs.ownLen 0 rfl
  have hs := hs.freezeOwn 0 rfl
  obtain ⟨x117, hxx117, hf⟩ := bindE hf
  refine WL.call (vs := [.slice a111 x110.length c113, .int .u64 x116]) hs FN42 ⟨rfl, ⟨rfl, trivial⟩⟩ (fun ok hA => esref03_AppendUint.calls (x1 := x110) (x4 := x116) hxx117 (hA.get 0 rfl)) ?_
  rintro ⟨a118, n119, c120⟩ w hs
  refine WL.assign (v := .slice a118 n119 c120) rfl ?_
  refine WL.nil ?_
  refine hK114 _ _ ?_
  refine W.seqK fun K121 hK121 => ?_
  refine W.region ?_
  refine WL.move (v := .slice a118 n119 c120) rfl ?_
  refine WL.fieldAddr (m := 1) rfl FA57_1 rfl ?_
  refine WL.fieldAddr (m := 3) rfl FA54_2 rfl ?_
  refine WL.loadF (z := x90.Register.Client) (F_fold_Field_Register.comp F_fold_Register_Client) hs 1 rfl 7 rfl rfl TI3 (.inr rfl) rfl rfl (fun v122 hs => ?_)
  obtain rfl := hs.int 0 rfl
  obtain ⟨x123, ex123, hf⟩ := letE hf
  refine WL.convI_ UN3 UN32 rfl ex123 ?_
  obtain rfl := hs.ownLen 0 rfl
  have hs := hs.freezeOwn 0 rfl
  obtain ⟨x124, hxx124, hf⟩ := bindE hf
  refine WL.call (vs := [.slice a118 x117.length c120, .int .u64 x123]) hs FN42 ⟨rfl, ⟨rfl, trivial⟩⟩ (fun ok hA => esref03_AppendUint.calls (x1 := x117) (x4 := x123) hxx124 (hA.get 0 rfl)) ?_
  rintro ⟨a125, n126, c127⟩ w hs
  refine WL.assign (v := .slice a125 n126 c127) rfl ?_
  refine WL.nil ?_
  refine hK121 _ _ ?_
  refine W.seqK fun K128 hK128 => ?_
  refine W.region ?_
  refine WL.move (v := .slice a125 n126 c127) rfl ?_
  refine WL.fieldAddr (m := 1) rfl FA57_1 rfl ?_
  refine WL.fieldAddr (m := 4) rfl FA54_3 rfl ?_
  refine WL.loadF (z := x90.Register.Seq) (F_fold_Field_Register.comp F_fold_Register_Seq) hs 1 rfl 9 rfl rfl TI3 (.inr rfl) rfl rfl (fun v129 hs => ?_)
  obtain rfl := hs.int 0 rfl
  obtain ⟨x130, ex130, hf⟩ := letE hf
  refine WL.convI_ UN3 UN32 rfl ex130 ?_
  obtain rfl := hs.ownLen 0 rfl
  have hs := hs.freezeOwn 0 rfl
  obtain ⟨x131, hxx131, hf⟩ := bindE hf
  refine WL.call (vs := [.slice a125 x124.length c127, .int .u64 x130]) hs FN42 ⟨rfl, ⟨rfl, trivial⟩⟩ (fun ok hA => esref03_AppendUint.calls (x1 := x124) (x4 := x130) hxx131 (hA.get 0 rfl)) ?_
  rintro ⟨a132, n133, c134⟩ w hs
  refine WL.assign (v := .slice a132 n133 c134) rfl ?_
  refine WL.nil ?_
  refine hK128 _ _ ?_
  refine W.seqK fun K135 hK135 => ?_
  refine W.region ?_
  refine WL.move (v := .slice a132 n133 c134) rfl ?_
  refine WL.fieldAddr (m := 1) rfl FA57_1 rfl ?_
  refine WL.fieldAddr (m := 5) rfl FA54_4 rfl ?_
  refine WL.loadF (z := x90.Register.N) (F_fold_Field_Register.comp F_fold_Register_N) hs 1 rfl 11 rfl rfl TI2 (.inr rfl) rfl rfl (fun v136 hs => ?_)
  obtain rfl := hs.int 0 rfl
  obtain rfl := hs.ownLen 0 rfl
  have hs := hs.freezeOwn 0 rfl
  obtain ⟨x137, hxx137, hf⟩ := bindE hf
  refine WL.call (vs := [.slice a132 x131.length c134, .int .i64 x90.Register.N]) hs FN43 ⟨rfl, ⟨rfl, trivial⟩⟩ (fun ok hA => esref03_AppendInt.calls (x1 := x131) (x4 := x90.Register.N) hxx137 (hA.get 0 rfl)) ?_
  rintro ⟨a138, n139, c140⟩ w hs
  refine WL.assign (v := .slice a138 n139 c140) rfl ?_
  refine WL.nil ?_
  refine hK135 _ _ ?_
  refine W.seqK fun K141 hK141 => ?_
  refine W.region ?_
  refine WL.move (v := .slice a138 n139 c140) rfl ?_
  refine WL.fieldAddr (m := 1) rfl FA57_1 rfl ?_
  refine WL.fieldAddr (m := 6) rfl FA54_5 rfl ?_
  refine WL.loadF (z := x90.Register.S) (F_fold_Field_Register.comp F_fold_Register_S) hs 1 rfl 13 rfl rfl TI9 (.inr rfl) rfl rfl (fun v142 hs => ?_)
  obtain rfl := hs.str 0 rfl
  obtain rfl := hs.ownLen 0 rfl
  have hs := hs.freezeOwn 0 rfl
  obtain ⟨x143, hxx143, hf⟩ := bindE hf
  refine WL.call (vs := [.slice a138 x137.length c140, bstr x90.Register.S]) hs FN40 ⟨rfl, ⟨rfl, trivial⟩⟩ (fun ok hA => esref03_AppendString.calls (x1 := x137) (x4 := x90.Register.S) hxx143 (hA.get 0 rfl)) ?_
  rintro ⟨a144, n145, c146⟩ w hs
  refine WL.assign (v := .slice a144 n145 c146) rfl ?_
  refine WL.nil ?_
  refine hK141 _ _ ?_
  refine W.seqK fun K147 hK147 => ?_
  refine W.region ?_
  refine WL.move (v := .slice a144 n145 c146) rfl ?_
  refine WL.fieldAddr (m := 7) rfl FA57_2 rfl ?_
  refine WL.loadF (z := x90.HasMax) F_fold_Field_HasMax hs 1 rfl 15 rfl rfl TI4 (.inr rfl) rfl rfl (fun v148 hs => ?_)
  obtain rfl := hs.bool 0 rfl
  obtain rfl := hs.ownLen 0 rfl
  have hs := hs.freezeOwn 0 rfl
  obtain ⟨x149, hxx149, hf⟩ := bindE hf
  refine WL.call (vs := [.slice a144 x143.length c146, .bool x90.HasMax]) hs FN41 ⟨rfl, ⟨rfl, trivial⟩⟩ (fun ok hA => esref03_AppendBool.calls (x1 := x143) (x4 := x90.HasMax) hxx149 (hA.get 0 rfl)) ?_
  rintro ⟨a150, n151, c152⟩ w hs
  refine WL.assign (v := .slice a150 n151 c152) rfl ?_
  refine WL.nil ?_
  refine hK147 _ _ ?_
  refine W.seqK fun K153 hK153 => ?_
  refine W.region ?_
  refine WL.move (v := .slice a150 n151 c152) rfl ?_
  refine WL.fieldAddr (m := 8) rfl FA57_3 rfl ?_
  refine WL.loadF (z := x90.Max) F_fold_Field_Max hs 1 rfl 17 rfl rfl TI2 (.inr rfl) rfl rfl (fun v154 hs => ?_)
  obtain rfl := hs.int 0 rfl
  obtain rfl := hs.ownLen 0 rfl
  have hs := hs.freezeOwn 0 rfl
  obtain ⟨x155, hxx155, hf⟩ := bindE hf
  refine WL.call (vs := [.slice a150 x149.length c152, .int .i64 x90.Max]) hs FN43 ⟨rfl, ⟨rfl, trivial⟩⟩ (fun ok hA => esref03_AppendInt.calls (x1 := x149) (x4 := x90.Max) hxx155 (hA.get 0 rfl)) ?_
  rintro ⟨a156, n157, c158⟩ w hs
  refine WL.assign (v := .slice a156 n157 c158) rfl ?_
  refine WL.nil ?_
  refine hK153 _ _ ?_
  refine W.seqK fun K159 hK159 => ?_
  refine W.region ?_
  refine WL.move (v := .slice a156 n157 c158) rfl ?_
  refine WL.fieldAddr (m := 9) rfl FA57_4 rfl ?_
  refine WL.loadF (z := x90.Sum) F_fold_Field_Sum hs 1 rfl 19 rfl rfl TI2 (.inr rfl) rfl rfl (fun v160 hs => ?_)
  obtain rfl := hs.int 0 rfl
  obtain rfl := hs.ownLen 0 rfl
  have hs := hs.freezeOwn 0 rfl
  obtain ⟨x161, hxx161, hf⟩ := bindE hf
  refine WL.call (vs := [.slice a156 x155.length c158, .int .i64 x90.Sum]) hs FN43 ⟨rfl, ⟨rfl, trivial⟩⟩ (fun ok hA => esref03_AppendInt.calls (x1 := x155) (x4 := x90.Sum) hxx161 (hA.get 0 rfl)) ?_
  rintro ⟨a162, n163, c164⟩ w hs
  refine WL.assign (v := .slice a162 n163 c164) rfl ?_
  refine WL.nil ?_
  refine hK159 _ _ ?_
  refine W.seqK fun K165 hK165 => ?_
  refine W.region ?_
  refine WL.move (v := .slice a162 n163 c164) rfl ?_
  refine WL.fieldAddr (m := 10) rfl FA57_5 rfl ?_
  refine WL.loadF (z := x90.Elems) F_fold_Field_Elems hs 1 rfl 21 rfl rfl TI55 (.inr rfl) rfl rfl (fun v166 hs => ?_)
  obtain ⟨a167, c168, rfl⟩ := hs.slice 0 rfl
  refine WL.len (v := .slice a167 (x90.Elems).length c168) rfl (len_slice UN55) ?_
  obtain ⟨x169, ex169, hf⟩ := letE hf
  refine WL.convI_ UN3 UN32 rfl ex169 ?_
  obtain rfl := hs.ownLen 0 rfl
  have hs := hs.freezeOwn 0 rfl
  obtain ⟨x170, hxx170, hf⟩ := bindE hf
  refine WL.call (vs := [.slice a162 x161.length c164, .int .u64 x169]) hs FN42 ⟨rfl, ⟨rfl, trivial⟩⟩ (fun ok hA => esref03_AppendUint.calls (x1 := x161) (x4 := x169) hxx170 (hA.get 0 rfl)) ?_
  rintro ⟨a171, n172, c173⟩ w hs
  refine WL.assign (v := .slice a171 n172 c173) rfl ?_
  refine WL.nil ?_
  refine hK165 _ _ ?_
  refine W.seqK fun K174 hK174 => ?_
  have Jk179 : ∀ (x176 : List Int) (a177 : Option Addr) (c178 : Nat) (ρ : Env) (w : World), ρ 1 = .pointer (some ⟨g6, 0, none⟩) → ρ 3 = .slice a177 x176.length c178 → ρ 4 = .int .i64 x41 → ρ 5 = .pointer (some ⟨g65, 0, none⟩) → ρ 6 = .int .i64 x71 → ρ 7 = .pointer (some ⟨g95, 0, none⟩) → St ok (bz w0) w [vl (tSlice (tInt .u8)) x176 (.slice a177 x176.length c178), vl t_fold_Field x90 (.agg cs93.toArray), vl t_fold_Object x60 (.agg cs63.toArray), vl t_fold_Store x1 (.agg cs3.toArray)] [blk g95 57 cs93, blk g65 51 cs63, blk g6 29 cs3] → esref32_Hash.j5 x71 x90 x176 = some os72 → K174 ρ w := by
    intro x176 a177 c178 ρ w h175_1 h175_3 h175_4 h175_5 h175_6 h175_7 hs hf
    refine hK174 _ _ ?_
    unfold esref32_Hash.j5 at hf
    refine W.region ?_
    refine WL.move (v := .slice a177 x176.length c178) h175_3 ?_
    refine WL.fieldAddr (m := 11) h175_7 FA57_6 rfl ?_
    refine WL.loadF (z := x90.Flag) F_fold_Field_Flag hs 0 rfl 1 rfl rfl TI4 (.inr rfl) rfl rfl (fun v180 hs => ?_)
    obtain rfl := hs.bool 0 rfl
    obtain ⟨x181, hxx181, hf⟩ := bindE hf
    refine WL.call (vs := [.slice a177 x176.length c178, .bool x90.Flag]) hs FN41 ⟨rfl, ⟨rfl, trivial⟩⟩ (fun ok hA => esref03_AppendBool.calls (x1 := x176) (x4 := x90.Flag) hxx181 (hA.get 1 rfl)) ?_
    rintro ⟨a182, n183, c184⟩ w hs
    refine WL.assign (v := .slice a182 n183 c184) rfl ?_
    refine WL.nil ?_
    obtain rfl := hs.ownLen 0 rfl
    have hs := hs.freezeOwn 0 rfl
    exact Jk84 x181 a182 c184 _ _ h175_1 rfl h175_4 h175_5 h175_6 ((hs.mask [false, true, true]).pick [0, 4, 5]) hf
  refine W.seqK fun K185 hK185 => ?_
  refine W.region ?_
  refine WL.assign (v := .int .i64 0) rfl ?_
  refine WL.nil ?_
  refine hK185 _ _ ?_
  refine W.block ?_
  obtain ⟨bs191, hbs191, hfs191⟩ := bindE hf
  obtain rfl := hs.ownLen 0 rfl
  have hs := hs.freezeOwn 0 rfl
  refine W.loop hbs191 (fun s ρ w => match s with | (x187, x190) => ∃ (a188 : Option Addr), ∃ (c189 : Nat), ρ 1 = .pointer (some ⟨g6, 0, none⟩) ∧ ρ 3 = .slice a188 x187.length c189 ∧ ρ 4 = .int .i64 x41 ∧ ρ 5 = .pointer (some ⟨g65, 0, none⟩) ∧ ρ 6 = .int .i64 x71 ∧ ρ 7 = .pointer (some ⟨g95, 0, none⟩) ∧ ρ 8 = .int .i64 x190 ∧ St ok (bz w0) w [vl (tSlice (tInt .u8)) x187 (.slice a188 x187.length c189), vl t_fold_Field x90 (.agg cs93.toArray), vl t_fold_Object x60 (.agg cs63.toArray), vl t_fold_Store x1 (.agg cs3.toArray)] [blk g95 57 cs93, blk g65 51 cs63, blk g6 29 cs3]) ⟨a171, c173, h67_1, rfl, h67_4, h67_5, h67_6, rfl, rfl, (hs.mask [true, true, true]).pick [0, 24, 29, 30]⟩ ?_
  intro s ρ w os191 hI hf hbbs191
  obtain ⟨x187, x190⟩ := s
  obtain ⟨a188, c189, h186_1, h186_3, h186_4, h186_5, h186_6, h186_7, h186_8, hs⟩ := hI
  unfold esref32_Hash.l2 at hf
  refine W.seqK fun K192 hK192 => ?_
  refine W.seqK fun K193 hK193 => ?_
  refine W.region ?_
  refine WL.move (v := .int .i64 x190) h186_8 ?_
  refine WL.fieldAddr (m := 10) h186_7 FA57_5 rfl ?_
  refine WL.loadF (z := x90.Elems) F_fold_Field_Elems hs 0 rfl 1 rfl rfl TI55 (.inr rfl) rfl rfl (fun v194 hs => ?_)
  obtain ⟨a195, c196, rfl⟩ := hs.slice 0 rfl
  refine WL.len (v := .slice a195 (x90.Elems).length c196) rfl (len_slice UN55) ?_
  refine WL.bin (v := .bool (decide (x190 < ((x90.Elems).length : Int)))) rfl rfl (ib_lss _ _ _) ?_
  refine WL.nil ?_
  refine hK193 _ _ ?_
  rcases iteE hf with ⟨hc197, hf⟩ | ⟨hc197, hf⟩
  {
  refine W.cond_true (bool_tr rfl hc197) ?_
  refine W.skip ?_
  refine hK192 _ _ ?_
  refine W.seqK fun K198 hK198 => ?_
  refine W.block ?_
  refine W.region ?_
  refine WL.move (v := .slice a188 x187.length c189) h186_3 ?_
  refine WL.fieldAddr (m := 10) h186_7 FA57_5 rfl ?_
  refine WL.loadF (z := x90.Elems) F_fold_Field_Elems hs 0 rfl 2 rfl rfl TI55 (.inr rfl) rfl rfl (fun v199 hs => ?_)
  obtain ⟨a200, c201, rfl⟩ := hs.slice 0 rfl
  refine WL.move (v := .int .i64 x190) h186_8 ?_
  obtain ⟨x202, hxx202, hf⟩ := bindE hf
  refine WL.indexAddr hs 0 rfl UN55 TI9 rfl rfl hxx202 (fun ad203 hs => ?_)
  refine WL.loadP hs 0 rfl TI9 (.inr rfl) rfl (fun v204 hs => ?_)
  obtain rfl := hs.str 0 rfl
  obtain ⟨x205, hxx205, hf⟩ := bindE hf
  refine WL.call (vs := [.slice a188 x187.length c189, bstr x202]) hs FN40 ⟨rfl, ⟨rfl, trivial⟩⟩ (fun ok hA => esref03_AppendString.calls (x1 := x187) (x4 := x202) hxx205 (hA.get 4 rfl)) ?_
  rintro ⟨a206, n207, c208⟩ w hs
  refine WL.assign (v := .slice a206 n207 c208) rfl ?_
  refine WL.nil ?_
  refine hK198 _ _ ?_
  refine W.region ?_
  refine WL.move (v := .int .i64 x190) h186_8 ?_
  obtain ⟨x209, ex209, hf⟩ := letE hf
  refine WL.bin (v := .int .i64 x209) rfl rfl (ib_as ex209 (ib_add _ _ _)) ?_
  refine WL.assign (v := .int .i64 x209) rfl ?_
  refine WL.nil ?_
  obtain rfl := hs.ownLen 0 rfl
  have hs := hs.freezeOwn 0 rfl
  exact ⟨_, (Option.some.inj hf).symm, a206, c208, h186_1, rfl, h186_4, h186_5, h186_6, h186_7, rfl, (hs.mask [true, true, true]).pick [0, 6, 7, 8]⟩ }
  {
  refine W.cond_false (bool_tr rfl hc197) ?_
  refine W.exit ?_
  have hr := Option.some.inj hf; subst hr
  have hr := hbbs191 _ rfl; subst hr
  have hf := hfs191
  exact Jk179 x187 a188 c189 _ _ h186_1 h186_3 h186_4 h186_5 h186_6 h186_7 ((hs.mask [true, true, true]).pick [1, 2, 3, 4]) hf } }
  {
  refine W.cond_false (bool_tr rfl hc78) ?_
  refine W.exit ?_
  have hr := Option.some.inj hf; subst hr
  have hr := hbbs72 _ rfl; subst hr
  have hf := hfs72
  exact Jk54 x68 a69 c70 _ _ h67_1 h67_3 h67_4 ((hs.mask [false, true]).pick [1, 3]) hf } }
  {
  refine W.cond_false (bool_tr rfl hc48) ?_
  refine W.exit ?_
  have hr := Option.some.inj hf; subst hr
  have hr := hbbs42 _ rfl; subst hr
  have hf := hfs42
  exact Jk13 x38 a39 c40 _ _ h37_3 ((hs.mask []).pick [1]) hf }
theorem esref06_Client.calls {ok : Nat → Prop} {w0 : World} {x1 : Int}  {r : Bool} (hf : esref06_Client x1 = some r)  :
    Calls Try.prog 46 #[.int .i64 x1] w0 fun e w' => ∃ v, e = .returned v ∧ ∃ y : Unit, v = .bool r ∧ St ok (bz w0) w' [] [] := by
  unfold esref06_Client at hf
  refine calls_of_W (fn := Try.f46) (N := 9) Try.func46 rfl Try.ntmps46 rfl ?_
  have hs : St ok (bz w0) w0 [] [] := St.init All.nil
  refine W.seqK fun K2 hK2 => ?_
  refine W.region ?_
  refine WL.assign (v := .bool false) rfl ?_
  refine WL.nil ?_
  refine hK2 _ _ ?_
  refine W.seqK fun K3 hK3 => ?_
  have Jk6 : ∀ (x5 : Bool) (ρ : Env) (w : World), ρ 2 = .bool x5 → St ok (bz w0) w [] [] → esref06_Client.j1 x5 = some r → K3 ρ w := by
    intro x5 ρ w h4_2 hs hf
    refine hK3 _ _ ?_
    unfold esref06_Client.j1 at hf
    refine W.ret ?_
    have hr := Option.some.inj hf; subst hr
    exact ⟨_, resOk_one rfl h4_2, (), rfl, (hs.mask []).pick []⟩
  refine W.region ?_
  refine WL.move (v := .int .i64 x1) rfl ?_
  refine WL.bin (v := .bool (decide (101 ≤ x1))) rfl rfl (ib_geq _ _ _) ?_
  refine WL.move (v := .bool (decide (101 ≤ x1))) rfl ?_
  rcases iteE hf with ⟨hc7, hf⟩ | ⟨hc7, hf⟩
  {
  refine WL.move (v := .int .i64 x1) rfl ?_ (hg := (wanted_of rfl rfl (bool_tr rfl hc7)).trans rfl)
  refine WL.bin (v := .bool (decide (x1 < 107))) rfl rfl (ib_lss _ _ _) ?_ (hg := (wanted_of rfl rfl (bool_tr rfl hc7)).trans rfl)
  refine WL.pickT (v := .bool (decide (x1 < 107))) (bool_tr rfl hc7) rfl ?_
  refine WL.assign (v := .bool (decide (x1 < 107))) rfl ?_
  refine WL.nil ?_
  exact Jk6 (decide (x1 < 107)) _ _ rfl ((hs.mask []).pick []) hf }
  {
  refine WL.pass ((wanted_of rfl rfl (bool_tr rfl hc7)).trans rfl) rfl ?_
  refine WL.pass ((wanted_of rfl rfl (bool_tr rfl hc7)).trans rfl) rfl ?_
  refine WL.pickF (v := .bool false) (bool_tr rfl hc7) rfl ?_
  refine WL.assign (v := .bool false) rfl ?_
  refine WL.nil ?_
  exact Jk6 false _ _ rfl ((hs.mask []).pick []) hf }
end Go.Proofs.Ytlbcfjblpopcnaa
set_option linter.unusedVariables false
set_option linter.unusedSimpArgs false
namespace Go.Proofs.Ytlbcfjblpopcnaa
open Go Go.RowKit Go.Proofs.YtlbcfjblpopcnaaL
set_option maxRecDepth 100000
set_option maxHeartbeats 4000000
theorem esref14_ValidateEffect.calls {ok : Nat → Prop} {w0 : World} {x1 : api_Effect} {v2 : Value} {r : Int} (hf : esref14_ValidateEffect x1 = some r) (i0 : (vl t_api_Effect x1 v2).holds ok w0) :
    Calls Try.prog 47 #[v2] w0 fun e w' => ∃ v, e = .returned v ∧ ∃ y : Unit, v = .int .i64 r ∧ St ok (bz w0) w' [] [] := by
  unfold esref14_ValidateEffect at hf
  refine calls_of_W (fn := Try.f47) (N := 85) Try.func47 rfl Try.ntmps47 rfl ?_
  have hs : St ok (bz w0) w0 [vl t_api_Effect x1 v2] [] := St.init (All.cons i0 All.nil)
  clear i0
  obtain ⟨cs3, hl4, rfl⟩ := hs.aggv (n := 5) 0 rfl rfl rfl
  refine W.seqK fun K5 hK5 => ?_
  refine W.region ?_
  refine WL.box (vs := cs3) hs rfl rfl (fun g6 w hs => ?_)
  refine WL.assign (v := .int .i64 0) rfl ?_
  refine WL.nil ?_
  refine hK5 _ _ ?_
  refine W.seqK fun K7 hK7 => ?_
  refine W.block ?_
  refine W.seqK fun K8 hK8 => ?_
  have Jk11 : ∀ (x10 : Bool) (ρ : Env) (w : World), ρ 1 = .pointer (some ⟨g6, 0, none⟩) → ρ 3 = .bool x10 → St ok (bz w0) w [vl t_api_Effect x1 (.agg cs3.toArray)] [blk g6 67 cs3] → esref14_ValidateEffect.j6 x1 x10 = some r → K8 ρ w := by
    intro x10 ρ w h9_1 h9_3 hs hf
    refine hK8 _ _ ?_
    unfold esref14_ValidateEffect.j6 at hf
    rcases iteE hf with ⟨hc12, hf⟩ | ⟨hc12, hf⟩
    {
    refine W.cond_true (bool_tr h9_3 hc12) ?_
    refine W.seqK fun K13 hK13 => ?_
    refine W.region ?_
    refine WL.assign (v := .int .i64 10) rfl ?_
    refine WL.nil ?_
    refine hK13 _ _ ?_
    refine W.ret ?_
    have hr := Option.some.inj hf; subst hr
    exact ⟨_, resOk_one rfl rfl, (), rfl, (hs.mask []).pick []⟩ }
    {
    refine W.cond_false (bool_tr h9_3 hc12) ?_
    refine W.seqK fun K14 hK14 => ?_
    have Jk17 : ∀ (x16 : Bool) (ρ : Env) (w : World), ρ 1 = .pointer (some ⟨g6, 0, none⟩) → ρ 12 = .bool x16 → St ok (bz w0) w [vl t_api_Effect x1 (.agg cs3.toArray)] [blk g6 67 cs3] → esref14_ValidateEffect.j5 x1 x16 = some r → K14 ρ w := by
      intro x16 ρ w h15_1 h15_12 hs hf
      refine hK14 _ _ ?_
      unfold esref14_ValidateEffect.j5 at hf
      rcases iteE hf with ⟨hc18, hf⟩ | ⟨hc18, hf⟩
      {
      refine W.cond_true (bool_tr h15_12 hc18) ?_
      refine W.seqK fun K19 hK19 => ?_
      refine W.region ?_
      refine WL.assign (v := .int .i64 2) rfl ?_
      refine WL.nil ?_
      refine hK19 _ _ ?_
      refine W.ret ?_
      have hr := Option.some.inj hf; subst hr
      exact ⟨_, resOk_one rfl rfl, (), rfl, (hs.mask []).pick []⟩ }
      {
      refine W.cond_false (bool_tr h15_12 hc18) ?_
      refine W.seqK fun K20 hK20 => ?_
      have Jk23 : ∀ (x22 : Bool) (ρ : Env) (w : World), ρ 1 = .pointer (some ⟨g6, 0, none⟩) → ρ 21 = .bool x22 → St ok (bz w0) w [vl t_api_Effect x1 (.agg cs3.toArray)] [blk g6 67 cs3] → esref14_ValidateEffect.j4 x1 x22 = some r → K20 ρ w := by
        intro x22 ρ w h21_1 h21_21 hs hf
        refine hK20 _ _ ?_
        unfold esref14_ValidateEffect.j4 at hf
        rcases iteE hf with ⟨hc24, hf⟩ | ⟨hc24, hf⟩
        {
        refine W.cond_true (bool_tr h21_21 hc24) ?_
        refine W.seqK fun K25 hK25 => ?_
        refine W.region ?_
        refine WL.assign (v := .int .i64 3) rfl ?_
        refine WL.nil ?_
        refine hK25 _ _ ?_
        refine W.ret ?_
        have hr := Option.some.inj hf; subst hr
        exact ⟨_, resOk_one rfl rfl, (), rfl, (hs.mask []).pick []⟩ }
        {
        refine W.cond_false (bool_tr h21_21 hc24) ?_
        refine W.seqK fun K26 hK26 => ?_
        have Jk29 : ∀ (x28 : Bool) (ρ : Env) (w : World), ρ 1 = .pointer (some ⟨g6, 0, none⟩) → ρ 38 = .bool x28 → St ok (bz w0) w [vl t_api_Effect x1 (.agg cs3.toArray)] [blk g6 67 cs3] → esref14_ValidateEffect.j3 x1 x28 = some r → K26 ρ w := by
          intro x28 ρ w h27_1 h27_38 hs hf
          refine hK26 _ _ ?_
          unfold esref14_ValidateEffect.j3 at hf
          rcases iteE hf with ⟨hc30, hf⟩ | ⟨hc30, hf⟩
          {
          refine W.cond_true (bool_tr h27_38 hc30) ?_
          refine W.seqK fun K31 hK31 => ?_
          refine W.region ?_
          refine WL.assign (v := .int .i64 9) rfl ?_
          refine WL.nil ?_
          refine hK31 _ _ ?_
          refine W.ret ?_
          have hr := Option.some.inj hf; subst hr
          exact ⟨_, resOk_one rfl rfl, (), rfl, (hs.mask []).pick []⟩ }
          {
          refine W.cond_false (bool_tr h27_38 hc30) ?_
          refine W.seqK fun K32 hK32 => ?_
          have Jk35 : ∀ (x34 : Bool) (ρ : Env) (w : World), ρ 1 = .pointer (some ⟨g6, 0, none⟩) → ρ 52 = .bool x34 → St ok (bz w0) w [vl t_api_Effect x1 (.agg cs3.toArray)] [blk g6 67 cs3] → esref14_ValidateEffect.j2 x1 x34 = some r → K32 ρ w := by
            intro x34 ρ w h33_1 h33_52 hs hf
            refine hK32 _ _ ?_
            unfold esref14_ValidateEffect.j2 at hf
            rcases iteE hf with ⟨hc36, hf⟩ | ⟨hc36, hf⟩
            {
            refine W.cond_true (bool_tr h33_52 hc36) ?_
            refine W.seqK fun K37 hK37 => ?_
            refine W.region ?_
            refine WL.assign (v := .int .i64 9) rfl ?_
            refine WL.nil ?_
            refine hK37 _ _ ?_
            refine W.ret ?_
            have hr := Option.some.inj hf; subst hr
            exact ⟨_, resOk_one rfl rfl, (), rfl, (hs.mask []).pick []⟩ }
            {
            refine W.cond_false (bool_tr h33_52 hc36) ?_
            refine W.seqK fun K38 hK38 => ?_
            have Jk41 : ∀ (x40 : Bool) (ρ : Env) (w : World), ρ 66 = .bool x40 → St ok (bz w0) w [] [] → esref14_ValidateEffect.j1 x40 = some r → K38 ρ w := by
              intro x40 ρ w h39_66 hs hf
              refine hK38 _ _ ?_
              unfold esref14_ValidateEffect.j1 at hf
              rcases iteE hf with ⟨hc42, hf⟩ | ⟨hc42, hf⟩
              {
              refine W.cond_true (bool_tr h39_66 hc42) ?_
              refine W.seqK fun K43 hK43 => ?_
              refine W.region ?_
              refine WL.assign (v := .int .i64 2) rfl ?_
              refine WL.nil ?_
              refine hK43 _ _ ?_
              refine W.ret ?_
              have hr := Option.some.inj hf; subst hr
              exact ⟨_, resOk_one rfl rfl, (), rfl, (hs.mask []).pick []⟩ }
              {
              refine W.cond_false (bool_tr h39_66 hc42) ?_
              refine W.skip ?_
              refine hK7 _ _ ?_
              refine W.seqK fun K44 hK44 => ?_
              refine W.region ?_
              refine WL.assign (v := .int .i64 0) rfl ?_
              refine WL.nil ?_
              refine hK44 _ _ ?_
              refine W.ret ?_
              have hr := Option.some.inj hf; subst hr
              exact ⟨_, resOk_one rfl rfl, (), rfl, (hs.mask []).pick []⟩ }
            refine W.region ?_
            refine WL.fieldAddr (m := 0) h33_1 FA67_0 rfl ?_
            refine WL.loadF (z := x1.Kind) F_api_Effect_Kind hs 0 rfl 0 rfl rfl TI3 (.inr rfl) rfl rfl (fun v45 hs => ?_)
            obtain rfl := hs.int 0 rfl
            refine WL.bin (v := .bool (x1.Kind == 2)) rfl rfl (ib_eql _ _ _) ?_
            refine WL.move (v := .bool (x1.Kind == 2)) rfl ?_
            rcases iteE hf with ⟨hc46, hf⟩ | ⟨hc46, hf⟩
            {
            refine WL.pass ((wanted_of rfl rfl (bool_tr rfl hc46)).trans rfl) rfl ?_
            refine WL.pass ((wanted_of rfl rfl (bool_tr rfl hc46)).trans rfl) rfl ?_
            refine WL.pass ((wanted_of rfl rfl (bool_tr rfl hc46)).trans rfl) rfl ?_
            refine WL.pickT (v := .bool true) (bool_tr rfl hc46) rfl ?_
            refine WL.move (v := .bool true) rfl ?_
            refine WL.pass ((wanted_of rfl rfl rfl).trans rfl) rfl ?_
            refine WL.pass ((wanted_of rfl rfl rfl).trans rfl) rfl ?_
            refine WL.pass ((wanted_of rfl rfl rfl).trans rfl) rfl ?_
            refine WL.pickT (v := .bool true) rfl rfl ?_
            refine WL.move (v := .bool true) rfl ?_
            refine WL.fieldAddr (m := 4) h33_1 FA67_4 rfl ?_ (hg := (wanted_of rfl rfl rfl).trans rfl)
            refine WL.loadF (z := x1.S) F_api_Effect_S hs 0 rfl 1 rfl rfl TI9 (.inr rfl) rfl rfl (fun v47 hs => ?_) (hg := (wanted_of rfl rfl rfl).trans rfl)
            obtain rfl := hs.str 0 rfl
            refine WL.binS (v := .bool (x1.S != ([] : List UInt8))) rfl rfl (sb_neq _ _) ?_ (hg := (wanted_of rfl rfl rfl).trans rfl)
            refine WL.pickT (v := .bool (x1.S != ([] : List UInt8))) rfl rfl ?_
            refine WL.assign (v := .bool (x1.S != ([] : List UInt8))) rfl ?_
            refine WL.nil ?_
            exact Jk41 (x1.S != ([] : List UInt8)) _ _ rfl ((hs.mask []).pick []) hf }
            {
            refine WL.fieldAddr (m := 0) h33_1 FA67_0 rfl ?_ (hg := (wanted_of rfl rfl (bool_tr rfl hc46)).trans rfl)
            refine WL.loadF (z := x1.Kind) F_api_Effect_Kind hs 0 rfl 1 rfl rfl TI3 (.inr rfl) rfl rfl (fun v48 hs => ?_) (hg := (wanted_of rfl rfl (bool_tr rfl hc46)).trans rfl)
            obtain rfl := hs.int 0 rfl
            refine WL.bin (v := .bool (x1.Kind == 3)) rfl rfl (ib_eql _ _ _) ?_ (hg := (wanted_of rfl rfl (bool_tr rfl hc46)).trans rfl)
            refine WL.pickF (v := .bool (x1.Kind == 3)) (bool_tr rfl hc46) rfl ?_
            refine WL.move (v := .bool (x1.Kind == 3)) rfl ?_
            rcases iteE hf with ⟨hc49, hf⟩ | ⟨hc49, hf⟩
            {
            refine WL.pass ((wanted_of rfl rfl (bool_tr rfl hc49)).trans rfl) rfl ?_
            refine WL.pass ((wanted_of rfl rfl (bool_tr rfl hc49)).trans rfl) rfl ?_
            refine WL.pass ((wanted_of rfl rfl (bool_tr rfl hc49)).trans rfl) rfl ?_
            refine WL.pickT (v := .bool true) (bool_tr rfl hc49) rfl ?_
            refine WL.move (v := .bool true) rfl ?_
            refine WL.fieldAddr (m := 4) h33_1 FA67_4 rfl ?_ (hg := (wanted_of rfl rfl rfl).trans rfl)
            refine WL.loadF (z := x1.S) F_api_Effect_S hs 0 rfl 2 rfl rfl TI9 (.inr rfl) rfl rfl (fun v50 hs => ?_) (hg := (wanted_of rfl rfl rfl).trans rfl)
            obtain rfl := hs.str 0 rfl
            refine WL.binS (v := .bool (x1.S != ([] : List UInt8))) rfl rfl (sb_neq _ _) ?_ (hg := (wanted_of rfl rfl rfl).trans rfl)
            refine WL.pickT (v := .bool (x1.S != ([] : List UInt8))) rfl rfl ?_
            refine WL.assign (v := .bool (x1.S != ([] : List UInt8))) rfl ?_
            refine WL.nil ?_
            exact Jk41 (x1.S != ([] : List UInt8)) _ _ rfl ((hs.mask []).pick []) hf }
            {
            refine WL.fieldAddr (m := 0) h33_1 FA67_0 rfl ?_ (hg := (wanted_of rfl rfl (bool_tr rfl hc49)).trans rfl)
            refine WL.loadF (z := x1.Kind) F_api_Effect_Kind hs 0 rfl 2 rfl rfl TI3 (.inr rfl) rfl rfl (fun v51 hs => ?_) (hg := (wanted_of rfl rfl (bool_tr rfl hc49)).trans rfl)
            obtain rfl := hs.int 0 rfl
            refine WL.bin (v := .bool (x1.Kind == 5)) rfl rfl (ib_eql _ _ _) ?_ (hg := (wanted_of rfl rfl (bool_tr rfl hc49)).trans rfl)
            refine WL.pickF (v := .bool (x1.Kind == 5)) (bool_tr rfl hc49) rfl ?_
            refine WL.move (v := .bool (x1.Kind == 5)) rfl ?_
            rcases iteE hf with ⟨hc52, hf⟩ | ⟨hc52, hf⟩
            {
            refine WL.fieldAddr (m := 4) h33_1 FA67_4 rfl ?_ (hg := (wanted_of rfl rfl (bool_tr rfl hc52)).trans rfl)
            refine WL.loadF (z := x1.S) F_api_Effect_S hs 0 rfl 3 rfl rfl TI9 (.inr rfl) rfl rfl (fun v53 hs => ?_) (hg := (wanted_of rfl rfl (bool_tr rfl hc52)).trans rfl)
            obtain rfl := hs.str 0 rfl
            refine WL.binS (v := .bool (x1.S != ([] : List UInt8))) rfl rfl (sb_neq _ _) ?_ (hg := (wanted_of rfl rfl (bool_tr rfl hc52)).trans rfl)
            refine WL.pickT (v := .bool (x1.S != ([] : List UInt8))) (bool_tr rfl hc52) rfl ?_
            refine WL.assign (v := .bool (x1.S != ([] : List UInt8))) rfl ?_
            refine WL.nil ?_
            exact Jk41 (x1.S != ([] : List UInt8)) _ _ rfl ((hs.mask []).pick []) hf }
            {
            refine WL.pass ((wanted_of rfl rfl (bool_tr rfl hc52)).trans rfl) rfl ?_
            refine WL.pass ((wanted_of rfl rfl (bool_tr rfl hc52)).trans rfl) rfl ?_
            refine WL.pass ((wanted_of rfl rfl (bool_tr rfl hc52)).trans rfl) rfl ?_
            refine WL.pickF (v := .bool false) (bool_tr rfl hc52) rfl ?_
            refine WL.assign (v := .bool false) rfl ?_
            refine WL.nil ?_
            exact Jk41 false _ _ rfl ((hs.mask []).pick []) hf } } } }
          refine W.region ?_
          refine WL.fieldAddr (m := 0) h27_1 FA67_0 rfl ?_
          refine WL.loadF (z := x1.Kind) F_api_Effect_Kind hs 0 rfl 0 rfl rfl TI3 (.inr rfl) rfl rfl (fun v54 hs => ?_)
          obtain rfl := hs.int 0 rfl
          refine WL.bin (v := .bool (x1.Kind == 4)) rfl rfl (ib_eql _ _ _) ?_
          refine WL.move (v := .bool (x1.Kind == 4)) rfl ?_
          rcases iteE hf with ⟨hc55, hf⟩ | ⟨hc55, hf⟩
          {
          refine WL.pass ((wanted_of rfl rfl (bool_tr rfl hc55)).trans rfl) rfl ?_
          refine WL.pass ((wanted_of rfl rfl (bool_tr rfl hc55)).trans rfl) rfl ?_
          refine WL.pass ((wanted_of rfl rfl (bool_tr rfl hc55)).trans rfl) rfl ?_
          refine WL.pickT (v := .bool true) (bool_tr rfl hc55) rfl ?_
          refine WL.move (v := .bool true) rfl ?_
          refine WL.fieldAddr (m := 3) h27_1 FA67_3 rfl ?_ (hg := (wanted_of rfl rfl rfl).trans rfl)
          refine WL.loadF (z := x1.N) F_api_Effect_N hs 0 rfl 1 rfl rfl TI2 (.inr rfl) rfl rfl (fun v56 hs => ?_) (hg := (wanted_of rfl rfl rfl).trans rfl)
          obtain rfl := hs.int 0 rfl
          refine WL.bin (v := .bool (x1.N != 0)) rfl rfl (ib_neq _ _ _) ?_ (hg := (wanted_of rfl rfl rfl).trans rfl)
          refine WL.pickT (v := .bool (x1.N != 0)) rfl rfl ?_
          refine WL.assign (v := .bool (x1.N != 0)) rfl ?_
          refine WL.nil ?_
          exact Jk35 (x1.N != 0) _ _ h27_1 rfl ((hs.mask [true]).pick [2]) hf }
          {
          refine WL.fieldAddr (m := 0) h27_1 FA67_0 rfl ?_ (hg := (wanted_of rfl rfl (bool_tr rfl hc55)).trans rfl)
          refine WL.loadF (z := x1.Kind) F_api_Effect_Kind hs 0 rfl 1 rfl rfl TI3 (.inr rfl) rfl rfl (fun v57 hs => ?_) (hg := (wanted_of rfl rfl (bool_tr rfl hc55)).trans rfl)
          obtain rfl := hs.int 0 rfl
          refine WL.bin (v := .bool (x1.Kind == 5)) rfl rfl (ib_eql _ _ _) ?_ (hg := (wanted_of rfl rfl (bool_tr rfl hc55)).trans rfl)
          refine WL.pickF (v := .bool (x1.Kind == 5)) (bool_tr rfl hc55) rfl ?_
          refine WL.move (v := .bool (x1.Kind == 5)) rfl ?_
          rcases iteE hf with ⟨hc58, hf⟩ | ⟨hc58, hf⟩
          {
          refine WL.fieldAddr (m := 3) h27_1 FA67_3 rfl ?_ (hg := (wanted_of rfl rfl (bool_tr rfl hc58)).trans rfl)
          refine WL.loadF (z := x1.N) F_api_Effect_N hs 0 rfl 2 rfl rfl TI2 (.inr rfl) rfl rfl (fun v59 hs => ?_) (hg := (wanted_of rfl rfl (bool_tr rfl hc58)).trans rfl)
          obtain rfl := hs.int 0 rfl
          refine WL.bin (v := .bool (x1.N != 0)) rfl rfl (ib_neq _ _ _) ?_ (hg := (wanted_of rfl rfl (bool_tr rfl hc58)).trans rfl)
          refine WL.pickT (v := .bool (x1.N != 0)) (bool_tr rfl hc58) rfl ?_
          refine WL.assign (v := .bool (x1.N != 0)) rfl ?_
          refine WL.nil ?_
          exact Jk35 (x1.N != 0) _ _ h27_1 rfl ((hs.mask [true]).pick [3]) hf }
          {
          refine WL.pass ((wanted_of rfl rfl (bool_tr rfl hc58)).trans rfl) rfl ?_
          refine WL.pass ((wanted_of rfl rfl (bool_tr rfl hc58)).trans rfl) rfl ?_
          refine WL.pass ((wanted_of rfl rfl (bool_tr rfl hc58)).trans rfl) rfl ?_
          refine WL.pickF (v := .bool false) (bool_tr rfl hc58) rfl ?_
          refine WL.assign (v := .bool false) rfl ?_
          refine WL.nil ?_
          exact Jk35 false _ _ h27_1 rfl ((hs.mask [true]).pick [2]) hf } } }
        refine W.region ?_
        refine WL.fieldAddr (m := 0) h21_1 FA67_0 rfl ?_
        refine WL.loadF (z := x1.Kind) F_api_Effect_Kind hs 0 rfl 0 rfl rfl TI3 (.inr rfl) rfl rfl (fun v60 hs => ?_)
        obtain rfl := hs.int 0 rfl
        refine WL.bin (v := .bool (x1.Kind == 3)) rfl rfl (ib_eql _ _ _) ?_
        refine WL.move (v := .bool (x1.Kind == 3)) rfl ?_
        rcases iteE hf with ⟨hc61, hf⟩ | ⟨hc61, hf⟩
        {
        refine WL.fieldAddr (m := 3) h21_1 FA67_3 rfl ?_ (hg := (wanted_of rfl rfl (bool_tr rfl hc61)).trans rfl)
        refine WL.loadF (z := x1.N) F_api_Effect_N hs 0 rfl 1 rfl rfl TI2 (.inr rfl) rfl rfl (fun v62 hs => ?_) (hg := (wanted_of rfl rfl (bool_tr rfl hc61)).trans rfl)
        obtain rfl := hs.int 0 rfl
        refine WL.bin (v := .bool (decide (x1.N < (-1000000)))) rfl rfl (ib_lss _ _ _) ?_ (hg := (wanted_of rfl rfl (bool_tr rfl hc61)).trans rfl)
        refine WL.move (v := .bool (decide (x1.N < (-1000000)))) rfl ?_ (hg := (wanted_of rfl rfl (bool_tr rfl hc61)).trans rfl)
        rcases iteE hf with ⟨hc63, hf⟩ | ⟨hc63, hf⟩
        {
        refine WL.pass ((wanted_of rfl rfl (bool_tr rfl hc63)).trans rfl) rfl ?_
        refine WL.pass ((wanted_of rfl rfl (bool_tr rfl hc63)).trans rfl) rfl ?_
        refine WL.pass ((wanted_of rfl rfl (bool_tr rfl hc63)).trans rfl) rfl ?_
        refine WL.pickT (v := .bool true) (bool_tr rfl hc63) rfl ?_ (hg := (wanted_of rfl rfl (bool_tr rfl hc61)).trans rfl)
        refine WL.pickT (v := .bool true) (bool_tr rfl hc61) rfl ?_
        refine WL.assign (v := .bool true) rfl ?_
        refine WL.nil ?_
        exact Jk29 true _ _ h21_1 rfl ((hs.mask [true]).pick [2]) hf }
        {
        refine WL.fieldAddr (m := 3) h21_1 FA67_3 rfl ?_ (hg := (wanted_of rfl rfl (bool_tr rfl hc63)).trans rfl)
        refine WL.loadF (z := x1.N) F_api_Effect_N hs 0 rfl 2 rfl rfl TI2 (.inr rfl) rfl rfl (fun v64 hs => ?_) (hg := (wanted_of rfl rfl (bool_tr rfl hc63)).trans rfl)
        obtain rfl := hs.int 0 rfl
        refine WL.bin (v := .bool (decide (1000000 < x1.N))) rfl rfl (ib_gtr _ _ _) ?_ (hg := (wanted_of rfl rfl (bool_tr rfl hc63)).trans rfl)
        refine WL.pickF (v := .bool (decide (1000000 < x1.N))) (bool_tr rfl hc63) rfl ?_ (hg := (wanted_of rfl rfl (bool_tr rfl hc61)).trans rfl)
        refine WL.pickT (v := .bool (decide (1000000 < x1.N))) (bool_tr rfl hc61) rfl ?_
        refine WL.assign (v := .bool (decide (1000000 < x1.N))) rfl ?_
        refine WL.nil ?_
        exact Jk29 (decide (1000000 < x1.N)) _ _ h21_1 rfl ((hs.mask [true]).pick [3]) hf } }
        {
        refine WL.pass ((wanted_of rfl rfl (bool_tr rfl hc61)).trans rfl) rfl ?_
        refine WL.pass ((wanted_of rfl rfl (bool_tr rfl hc61)).trans rfl) rfl ?_
        refine WL.pass ((wanted_of rfl rfl (bool_tr rfl hc61)).trans rfl) rfl ?_
        refine WL.pass ((wanted_of rfl rfl (bool_tr rfl hc61)).trans rfl) rfl ?_
        refine WL.pass (wanted_undef rfl rfl rfl) rfl ?_
        refine WL.pass (wanted_undef rfl rfl rfl) rfl ?_
        refine WL.pass (wanted_undef rfl rfl rfl) rfl ?_
        refine WL.pass ((wanted_of rfl rfl (bool_tr rfl hc61)).trans rfl) rfl ?_
        refine WL.pickF (v := .bool false) (bool_tr rfl hc61) rfl ?_
        refine WL.assign (v := .bool false) rfl ?_
        refine WL.nil ?_
        exact Jk29 false _ _ h21_1 rfl ((hs.mask [true]).pick [1]) hf } }
      refine W.region ?_
      refine WL.fieldAddr (m := 1) h15_1 FA67_1 rfl ?_
      refine WL.loadF (z := x1.Object) F_api_Effect_Object hs 0 rfl 0 rfl rfl TI9 (.inr rfl) rfl rfl (fun v65 hs => ?_)
      obtain rfl := hs.str 0 rfl
      refine WL.len (v := bstr x1.Object) rfl (len_string UN9) ?_
      refine WL.bin (v := .bool (decide (16 < ((x1.Object).length : Int)))) rfl rfl (ib_gtr _ _ _) ?_
      refine WL.move (v := .bool (decide (16 < ((x1.Object).length : Int)))) rfl ?_
      rcases iteE hf with ⟨hc66, hf⟩ | ⟨hc66, hf⟩
      {
      refine WL.pass ((wanted_of rfl rfl (bool_tr rfl hc66)).trans rfl) rfl ?_
      refine WL.pass ((wanted_of rfl rfl (bool_tr rfl hc66)).trans rfl) rfl ?_
      refine WL.pass ((wanted_of rfl rfl (bool_tr rfl hc66)).trans rfl) rfl ?_
      refine WL.pass ((wanted_of rfl rfl (bool_tr rfl hc66)).trans rfl) rfl ?_
      refine WL.pickT (v := .bool true) (bool_tr rfl hc66) rfl ?_
      refine WL.move (v := .bool true) rfl ?_
      refine WL.pass ((wanted_of rfl rfl rfl).trans rfl) rfl ?_
      refine WL.pass ((wanted_of rfl rfl rfl).trans rfl) rfl ?_
      refine WL.pass ((wanted_of rfl rfl rfl).trans rfl) rfl ?_
      refine WL.pass ((wanted_of rfl rfl rfl).trans rfl) rfl ?_
      refine WL.pickT (v := .bool true) rfl rfl ?_
      refine WL.assign (v := .bool true) rfl ?_
      refine WL.nil ?_
      exact Jk23 true _ _ h15_1 rfl ((hs.mask [true]).pick [1]) hf }
      {
      refine WL.fieldAddr (m := 2) h15_1 FA67_2 rfl ?_ (hg := (wanted_of rfl rfl (bool_tr rfl hc66)).trans rfl)
      refine WL.loadF (z := x1.Field) F_api_Effect_Field hs 0 rfl 1 rfl rfl TI9 (.inr rfl) rfl rfl (fun v67 hs => ?_) (hg := (wanted_of rfl rfl (bool_tr rfl hc66)).trans rfl)
      obtain rfl := hs.str 0 rfl
      refine WL.len (v := bstr x1.Field) rfl (len_string UN9) ?_ (hg := (wanted_of rfl rfl (bool_tr rfl hc66)).trans rfl)
      refine WL.bin (v := .bool (decide (16 < ((x1.Field).length : Int)))) rfl rfl (ib_gtr _ _ _) ?_ (hg := (wanted_of rfl rfl (bool_tr rfl hc66)).trans rfl)
      refine WL.pickF (v := .bool (decide (16 < ((x1.Field).length : Int)))) (bool_tr rfl hc66) rfl ?_
      refine WL.move (v := .bool (decide (16 < ((x1.Field).length : Int)))) rfl ?_
      rcases iteE hf with ⟨hc68, hf⟩ | ⟨hc68, hf⟩
      {
      refine WL.pass ((wanted_of rfl rfl (bool_tr rfl hc68)).trans rfl) rfl ?_
      refine WL.pass ((wanted_of rfl rfl (bool_tr rfl hc68)).trans rfl) rfl ?_
      refine WL.pass ((wanted_of rfl rfl (bool_tr rfl hc68)).trans rfl) rfl ?_
      refine WL.pass ((wanted_of rfl rfl (bool_tr rfl hc68)).trans rfl) rfl ?_
      refine WL.pickT (v := .bool true) (bool_tr rfl hc68) rfl ?_
      refine WL.assign (v := .bool true) rfl ?_
      refine WL.nil ?_
      exact Jk23 true _ _ h15_1 rfl ((hs.mask [true]).pick [2]) hf }
      {
      refine WL.fieldAddr (m := 4) h15_1 FA67_4 rfl ?_ (hg := (wanted_of rfl rfl (bool_tr rfl hc68)).trans rfl)
      refine WL.loadF (z := x1.S) F_api_Effect_S hs 0 rfl 2 rfl rfl TI9 (.inr rfl) rfl rfl (fun v69 hs => ?_) (hg := (wanted_of rfl rfl (bool_tr rfl hc68)).trans rfl)
      obtain rfl := hs.str 0 rfl
      refine WL.len (v := bstr x1.S) rfl (len_string UN9) ?_ (hg := (wanted_of rfl rfl (bool_tr rfl hc68)).trans rfl)
      refine WL.bin (v := .bool (decide (32 < ((x1.S).length : Int)))) rfl rfl (ib_gtr _ _ _) ?_ (hg := (wanted_of rfl rfl (bool_tr rfl hc68)).trans rfl)
      refine WL.pickF (v := .bool (decide (32 < ((x1.S).length : Int)))) (bool_tr rfl hc68) rfl ?_
      refine WL.assign (v := .bool (decide (32 < ((x1.S).length : Int)))) rfl ?_
      refine WL.nil ?_
      exact Jk23 (decide (32 < ((x1.S).length : Int))) _ _ h15_1 rfl ((hs.mask [true]).pick [3]) hf } } }
    refine W.region ?_
    refine WL.fieldAddr (m := 1) h9_1 FA67_1 rfl ?_
    refine WL.loadF (z := x1.Object) F_api_Effect_Object hs 0 rfl 0 rfl rfl TI9 (.inr rfl) rfl rfl (fun v70 hs => ?_)
    obtain rfl := hs.str 0 rfl
    refine WL.binS (v := .bool (x1.Object == ([] : List UInt8))) rfl rfl (sb_eql _ _) ?_
    refine WL.move (v := .bool (x1.Object == ([] : List UInt8))) rfl ?_
    rcases iteE hf with ⟨hc71, hf⟩ | ⟨hc71, hf⟩
    {
    refine WL.pass ((wanted_of rfl rfl (bool_tr rfl hc71)).trans rfl) rfl ?_
    refine WL.pass ((wanted_of rfl rfl (bool_tr rfl hc71)).trans rfl) rfl ?_
    refine WL.pass ((wanted_of rfl rfl (bool_tr rfl hc71)).trans rfl) rfl ?_
    refine WL.pickT (v := .bool true) (bool_tr rfl hc71) rfl ?_
    refine WL.assign (v := .bool true) rfl ?_
    refine WL.nil ?_
    exact Jk17 true _ _ h9_1 rfl ((hs.mask [true]).pick [1]) hf }
    {
    refine WL.fieldAddr (m := 2) h9_1 FA67_2 rfl ?_ (hg := (wanted_of rfl rfl (bool_tr rfl hc71)).trans rfl)
    refine WL.loadF (z := x1.Field) F_api_Effect_Field hs 0 rfl 1 rfl rfl TI9 (.inr rfl) rfl rfl (fun v72 hs => ?_) (hg := (wanted_of rfl rfl (bool_tr rfl hc71)).trans rfl)
    obtain rfl := hs.str 0 rfl
    refine WL.binS (v := .bool (x1.Field == ([] : List UInt8))) rfl rfl (sb_eql _ _) ?_ (hg := (wanted_of rfl rfl (bool_tr rfl hc71)).trans rfl)
    refine WL.pickF (v := .bool (x1.Field == ([] : List UInt8))) (bool_tr rfl hc71) rfl ?_
    refine WL.assign (v := .bool (x1.Field == ([] : List UInt8))) rfl ?_
    refine WL.nil ?_
    exact Jk17 (x1.Field == ([] : List UInt8)) _ _ h9_1 rfl ((hs.mask [true]).pick [2]) hf } }
  refine W.region ?_
  refine WL.fieldAddr (m := 0) rfl FA67_0 rfl ?_
  refine WL.loadF (z := x1.Kind) F_api_Effect_Kind hs 0 rfl 0 rfl rfl TI3 (.inr rfl) rfl rfl (fun v73 hs => ?_)
  obtain rfl := hs.int 0 rfl
  refine WL.bin (v := .bool (decide (x1.Kind < 1))) rfl rfl (ib_lss _ _ _) ?_
  refine WL.move (v := .bool (decide (x1.Kind < 1))) rfl ?_
  rcases iteE hf with ⟨hc74, hf⟩ | ⟨hc74, hf⟩
  {
  refine WL.pass ((wanted_of rfl rfl (bool_tr rfl hc74)).trans rfl) rfl ?_
  refine WL.pass ((wanted_of rfl rfl (bool_tr rfl hc74)).trans rfl) rfl ?_
  refine WL.pass ((wanted_of rfl rfl (bool_tr rfl hc74)).trans rfl) rfl ?_
  refine WL.pickT (v := .bool true) (bool_tr rfl hc74) rfl ?_
  refine WL.assign (v := .bool true) rfl ?_
  refine WL.nil ?_
  exact Jk11 true _ _ rfl rfl ((hs.mask [true]).pick [1]) hf }
  {
  refine WL.fieldAddr (m := 0) rfl FA67_0 rfl ?_ (hg := (wanted_of rfl rfl (bool_tr rfl hc74)).trans rfl)
  refine WL.loadF (z := x1.Kind) F_api_Effect_Kind hs 0 rfl 1 rfl rfl TI3 (.inr rfl) rfl rfl (fun v75 hs => ?_) (hg := (wanted_of rfl rfl (bool_tr rfl hc74)).trans rfl)
  obtain rfl := hs.int 0 rfl
  refine WL.bin (v := .bool (decide (5 < x1.Kind))) rfl rfl (ib_gtr _ _ _) ?_ (hg := (wanted_of rfl rfl (bool_tr rfl hc74)).trans rfl)
  refine WL.pickF (v := .bool (decide (5 < x1.Kind))) (bool_tr rfl hc74) rfl ?_
  refine WL.assign (v := .bool (decide (5 < x1.Kind))) rfl ?_
  refine WL.nil ?_
  exact Jk11 (decide (5 < x1.Kind)) _ _ rfl rfl ((hs.mask [true]).pick [2]) hf }
theorem esref14_Commutes.calls {ok : Nat → Prop} {w0 : World} {x1 : api_Update} {v2 : Value} {r : Bool} (hf : esref14_Commutes x1 = some r) (i0 : (vl t_api_Update x1 v2).holds ok w0) :
    Calls Try.prog 48 #[v2] w0 fun e w' => ∃ v, e = .returned v ∧ ∃ y : Unit, v = .bool r ∧ St ok (bz w0) w' [] [] := by
  unfold esref14_Commutes at hf
  refine calls_of_W (fn := Try.f48) (N := 18) Try.func48 rfl Try.ntmps48 rfl ?_
  have hs : St ok (bz w0) w0 [vl t_api_Update x1 v2] [] := St.init (All.cons i0 All.nil)
  clear i0
  obtain ⟨cs3, hl4, rfl⟩ := hs.aggv (n := 4) 0 rfl rfl rfl
  refine W.seqK fun K5 hK5 => ?_
  refine W.region ?_
  refine WL.box (vs := cs3) hs rfl rfl (fun g6 w hs => ?_)
  refine WL.assign (v := .bool false) rfl ?_
  refine WL.nil ?_
  refine hK5 _ _ ?_
  refine W.seqK fun K7 hK7 => ?_
  have Jk9 : ∀  (ρ : Env) (w : World), St ok (bz w0) w [] [] → esref14_Commutes.j1 = some r → K7 ρ w := by
    intro  ρ w  hs hf
    refine hK7 _ _ ?_
    unfold esref14_Commutes.j1 at hf
    refine W.seqK fun K10 hK10 => ?_
    refine W.region ?_
    refine WL.assign (v := .bool true) rfl ?_
    refine WL.nil ?_
    refine hK10 _ _ ?_
    refine W.ret ?_
    have hr := Option.some.inj hf; subst hr
    exact ⟨_, resOk_one rfl rfl, (), rfl, (hs.mask []).pick []⟩
  refine W.seqK fun K11 hK11 => ?_
  refine W.region ?_
  refine WL.assign (v := .int .i64 0) rfl ?_
  refine WL.nil ?_
  refine hK11 _ _ ?_
  refine W.block ?_
  obtain ⟨bs14, hbs14, hfs14⟩ := bindE hf
  refine W.loop hbs14 (fun s ρ w => match s with | x13 => ρ 1 = .pointer (some ⟨g6, 0, none⟩) ∧ ρ 3 = .int .i64 x13 ∧ St ok (bz w0) w [vl t_api_Update x1 (.agg cs3.toArray)] [blk g6 41 cs3]) ⟨rfl, rfl, (hs.mask [true]).pick [0]⟩ ?_
  intro x13 ρ w os14 hI hf hbbs14
  obtain ⟨h12_1, h12_3, hs⟩ := hI
  unfold esref14_Commutes.l1 at hf
  refine W.seqK fun K15 hK15 => ?_
  refine W.seqK fun K16 hK16 => ?_
  refine W.region ?_
  refine WL.move (v := .int .i64 x13) h12_3 ?_
  refine WL.fieldAddr (m := 3) h12_1 FA41_3 rfl ?_
  refine WL.loadF (z := x1.Effects) F_api_Update_Effects hs 0 rfl 0 rfl rfl TI39 (.inr rfl) rfl rfl (fun v17 hs => ?_)
  obtain ⟨a18, c19, rfl⟩ := hs.slice 0 rfl
  refine WL.len (v := .slice a18 (x1.Effects).length c19) rfl (len_slice UN39) ?_
  refine WL.bin (v := .bool (decide (x13 < ((x1.Effects).length : Int)))) rfl rfl (ib_lss _ _ _) ?_
  refine WL.nil ?_
  refine hK16 _ _ ?_
  rcases iteE hf with ⟨hc20, hf⟩ | ⟨hc20, hf⟩
  {
  refine W.cond_true (bool_tr rfl hc20) ?_
  refine W.skip ?_
  refine hK15 _ _ ?_
  refine W.seqK fun K21 hK21 => ?_
  refine W.block ?_
  refine W.seqK fun K22 hK22 => ?_
  refine W.region ?_
  refine WL.fieldAddr (m := 3) h12_1 FA41_3 rfl ?_
  refine WL.loadF (z := x1.Effects) F_api_Update_Effects hs 0 rfl 1 rfl rfl TI39 (.inr rfl) rfl rfl (fun v23 hs => ?_)
  obtain ⟨a24, c25, rfl⟩ := hs.slice 0 rfl
  refine WL.move (v := .int .i64 x13) h12_3 ?_
  obtain ⟨x26, hxx26, hf⟩ := bindE hf
  refine WL.indexAddr hs 0 rfl UN39 TI67 rfl rfl hxx26 (fun ad27 hs => ?_)
  refine WL.fieldAddrP (z := x26.Kind) F_api_Effect_Kind hs 0 rfl rfl FA67_0 rfl (fun ad28 hs => ?_)
  refine WL.loadP hs 0 rfl TI3 (.inr rfl) rfl (fun v29 hs => ?_)
  obtain rfl := hs.int 0 rfl
  refine WL.bin (v := .bool (x26.Kind == 1)) rfl rfl (ib_eql _ _ _) ?_
  refine WL.nil ?_
  refine hK22 _ _ ?_
  rcases iteE hf with ⟨hc30, hf⟩ | ⟨hc30, hf⟩
  {
  refine W.cond_true (bool_tr rfl hc30) ?_
  refine W.seqK fun K31 hK31 => ?_
  refine W.region ?_
  refine WL.assign (v := .bool false) rfl ?_
  refine WL.nil ?_
  refine hK31 _ _ ?_
  refine W.ret ?_
  have hr := Option.some.inj hf; subst hr
  have hr := hbbs14 _ rfl; subst hr
  have hf := hfs14
  have hr := Option.some.inj hf; subst hr
  exact ⟨_, resOk_one rfl rfl, (), rfl, (hs.mask []).pick []⟩ }
  {
  refine W.cond_false (bool_tr rfl hc30) ?_
  refine W.skip ?_
  refine hK21 _ _ ?_
  refine W.region ?_
  refine WL.move (v := .int .i64 x13) h12_3 ?_
  obtain ⟨x32, ex32, hf⟩ := letE hf
  refine WL.bin (v := .int .i64 x32) rfl rfl (ib_as ex32 (ib_add _ _ _)) ?_
  refine WL.assign (v := .int .i64 x32) rfl ?_
  refine WL.nil ?_
  exact ⟨_, (Option.some.inj hf).symm, h12_1, rfl, (hs.mask [true]).pick [5]⟩ } }
  {
  refine W.cond_false (bool_tr rfl hc20) ?_
  refine W.exit ?_
  have hr := Option.some.inj hf; subst hr
  have hr := hbbs14 _ rfl; subst hr
  have hf := hfs14
  exact Jk9  _ _  ((hs.mask []).pick []) hf }
theorem esref14_ValidateUpdate.calls {ok : Nat → Prop} {w0 : World} {x1 : api_Update} {v2 : Value} {r : Int} (hf : esref14_ValidateUpdate x1 = some r) (i0 : (vl t_api_Update x1 v2).holds ok w0) :
    Calls Try.prog 20 #[v2] w0 fun e w' => ∃ v, e = .returned v ∧ ∃ y : Unit, v = .int .i64 r ∧ St ok (bz w0) w' [] [] := by
  unfold esref14_ValidateUpdate at hf
  refine calls_of_W (fn := Try.f20) (N := 74) Try.func20 rfl Try.ntmps20 rfl ?_
  have hs : St ok (bz w0) w0 [vl t_api_Update x1 v2] [] := St.init (All.cons i0 All.nil)
  clear i0
  obtain ⟨cs3, hl4, rfl⟩ := hs.aggv (n := 4) 0 rfl rfl rfl
  refine W.seqK fun K5 hK5 => ?_
  refine W.region ?_
  refine WL.box (vs := cs3) hs rfl rfl (fun g6 w hs => ?_)
  refine WL.assign (v := .int .i64 0) rfl ?_
  refine WL.nil ?_
  refine hK5 _ _ ?_
  refine W.seqK fun K7 hK7 => ?_
  refine W.block ?_
  refine W.seqK fun K8 hK8 => ?_
  have Jk11 : ∀ (x10 : Bool) (ρ : Env) (w : World), ρ 1 = .pointer (some ⟨g6, 0, none⟩) → ρ 5 = .bool x10 → St ok (bz w0) w [vl t_api_Update x1 (.agg cs3.toArray)] [blk g6 41 cs3] → esref14_ValidateUpdate.j3 x1 x10 = some r → K8 ρ w := by
    intro x10 ρ w h9_1 h9_5 hs hf
    refine hK8 _ _ ?_
    unfold esref14_ValidateUpdate.j3 at hf
    rcases iteE hf with ⟨hc12, hf⟩ | ⟨hc12, hf⟩
    {
    refine W.cond_true (bool_tr h9_5 hc12) ?_
    refine W.seqK fun K13 hK13 => ?_
    refine W.region ?_
    refine WL.assign (v := .int .i64 9) rfl ?_
    refine WL.nil ?_
    refine hK13 _ _ ?_
    refine W.ret ?_
    have hr := Option.some.inj hf; subst hr
    exact ⟨_, resOk_one rfl rfl, (), rfl, (hs.mask []).pick []⟩ }
    {
    refine W.cond_false (bool_tr h9_5 hc12) ?_
    refine W.seqK fun K14 hK14 => ?_
    refine W.region ?_
    refine WL.fieldAddr (m := 3) h9_1 FA41_3 rfl ?_
    refine WL.loadF (z := x1.Effects) F_api_Update_Effects hs 0 rfl 0 rfl rfl TI39 (.inr rfl) rfl rfl (fun v15 hs => ?_)
    obtain ⟨a16, c17, rfl⟩ := hs.slice 0 rfl
    refine WL.len (v := .slice a16 (x1.Effects).length c17) rfl (len_slice UN39) ?_
    refine WL.bin (v := .bool (((x1.Effects).length : Int) == 0)) rfl rfl (ib_eql _ _ _) ?_
    refine WL.assign (v := .bool (((x1.Effects).length : Int) == 0)) rfl ?_
    refine WL.nil ?_
    refine hK14 _ _ ?_
    rcases iteE hf with ⟨hc18, hf⟩ | ⟨hc18, hf⟩
    {
    refine W.cond_true (bool_tr rfl hc18) ?_
    refine W.seqK fun K19 hK19 => ?_
    refine W.region ?_
    refine WL.assign (v := .int .i64 2) rfl ?_
    refine WL.nil ?_
    refine hK19 _ _ ?_
    refine W.ret ?_
    have hr := Option.some.inj hf; subst hr
    exact ⟨_, resOk_one rfl rfl, (), rfl, (hs.mask []).pick []⟩ }
    {
    refine W.cond_false (bool_tr rfl hc18) ?_
    refine W.seqK fun K20 hK20 => ?_
    refine W.region ?_
    refine WL.fieldAddr (m := 3) h9_1 FA41_3 rfl ?_
    refine WL.loadF (z := x1.Effects) F_api_Update_Effects hs 0 rfl 1 rfl rfl TI39 (.inr rfl) rfl rfl (fun v21 hs => ?_)
    obtain ⟨a22, c23, rfl⟩ := hs.slice 0 rfl
    refine WL.len (v := .slice a22 (x1.Effects).length c23) rfl (len_slice UN39) ?_
    refine WL.bin (v := .bool (decide (4 < ((x1.Effects).length : Int)))) rfl rfl (ib_gtr _ _ _) ?_
    refine WL.assign (v := .bool (decide (4 < ((x1.Effects).length : Int)))) rfl ?_
    refine WL.nil ?_
    refine hK20 _ _ ?_
    rcases iteE hf with ⟨hc24, hf⟩ | ⟨hc24, hf⟩
    {
    refine W.cond_true (bool_tr rfl hc24) ?_
    refine W.seqK fun K25 hK25 => ?_
    refine W.region ?_
    refine WL.assign (v := .int .i64 3) rfl ?_
    refine WL.nil ?_
    refine hK25 _ _ ?_
    refine W.ret ?_
    have hr := Option.some.inj hf; subst hr
    exact ⟨_, resOk_one rfl rfl, (), rfl, (hs.mask []).pick []⟩ }
    {
    refine W.cond_false (bool_tr rfl hc24) ?_
    refine W.skip ?_
    refine hK7 _ _ ?_
    refine W.seqK fun K26 hK26 => ?_
    have Jk28 : ∀  (ρ : Env) (w : World), ρ 1 = .pointer (some ⟨g6, 0, none⟩) → St ok (bz w0) w [vl t_api_Update x1 (.agg cs3.toArray)] [blk g6 41 cs3] → esref14_ValidateUpdate.j2 x1 = some r → K26 ρ w := by
      intro  ρ w h27_1 hs hf
      refine hK26 _ _ ?_
      unfold esref14_ValidateUpdate.j2 at hf
      refine W.seqK fun K29 hK29 => ?_
      refine W.seqK fun K30 hK30 => ?_
      have Jk33 : ∀ (x32 : Bool) (ρ : Env) (w : World), ρ 73 = .bool x32 → St ok (bz w0) w [] [] → esref14_ValidateUpdate.j1 x32 = some r → K30 ρ w := by
        intro x32 ρ w h31_73 hs hf
        refine hK30 _ _ ?_
        unfold esref14_ValidateUpdate.j1 at hf
        rcases iteE hf with ⟨hc34, hf⟩ | ⟨hc34, hf⟩
        {
        refine W.cond_true (bool_tr h31_73 hc34) ?_
        refine W.seqK fun K35 hK35 => ?_
        refine W.region ?_
        refine WL.assign (v := .int .i64 2) rfl ?_
        refine WL.nil ?_
        refine hK35 _ _ ?_
        refine W.ret ?_
        have hr := Option.some.inj hf; subst hr
        exact ⟨_, resOk_one rfl rfl, (), rfl, (hs.mask []).pick []⟩ }
        {
        refine W.cond_false (bool_tr h31_73 hc34) ?_
        refine W.skip ?_
        refine hK29 _ _ ?_
        refine W.seqK fun K36 hK36 => ?_
        refine W.region ?_
        refine WL.assign (v := .int .i64 0) rfl ?_
        refine WL.nil ?_
        refine hK36 _ _ ?_
        refine W.ret ?_
        have hr := Option.some.inj hf; subst hr
        exact ⟨_, resOk_one rfl rfl, (), rfl, (hs.mask []).pick []⟩ }
      refine W.region ?_
      refine WL.loadAll hs 0 rfl TI41 h27_1 hl4 ?_
      obtain ⟨x37, hxx37, hf⟩ := bindE hf
      refine WL.call (vs := [.agg cs3.toArray]) hs FN48 ⟨rfl, trivial⟩ (fun ok hA => esref14_Commutes.calls (x1 := x1) hxx37 (hA.get 0 rfl)) ?_
      rintro _ w hs
      refine WL.not rfl ?_
      refine WL.move (v := .bool (!x37)) rfl ?_
      rcases iteE hf with ⟨hc38, hf⟩ | ⟨hc38, hf⟩
      {
      refine WL.fieldAddr (m := 3) h27_1 FA41_3 rfl ?_ (hg := (wanted_of rfl rfl (bool_tr rfl hc38)).trans rfl)
      refine WL.loadF (z := x1.Effects) F_api_Update_Effects hs 0 rfl 0 rfl rfl TI39 (.inr rfl) rfl rfl (fun v39 hs => ?_) (hg := (wanted_of rfl rfl (bool_tr rfl hc38)).trans rfl)
      obtain ⟨a40, c41, rfl⟩ := hs.slice 0 rfl
      refine WL.len (v := .slice a40 (x1.Effects).length c41) rfl (len_slice UN39) ?_ (hg := (wanted_of rfl rfl (bool_tr rfl hc38)).trans rfl)
      refine WL.bin (v := .bool (decide (1 < ((x1.Effects).length : Int)))) rfl rfl (ib_gtr _ _ _) ?_ (hg := (wanted_of rfl rfl (bool_tr rfl hc38)).trans rfl)
      refine WL.pickT (v := .bool (decide (1 < ((x1.Effects).length : Int)))) (bool_tr rfl hc38) rfl ?_
      refine WL.move (v := .bool (decide (1 < ((x1.Effects).length : Int)))) rfl ?_
      rcases iteE hf with ⟨hc42, hf⟩ | ⟨hc42, hf⟩
      {
      refine WL.pass ((wanted_of rfl rfl (bool_tr rfl hc42)).trans rfl) rfl ?_
      refine WL.pass ((wanted_of rfl rfl (bool_tr rfl hc42)).trans rfl) rfl ?_
      refine WL.pass ((wanted_of rfl rfl (bool_tr rfl hc42)).trans rfl) rfl ?_
      refine WL.pass (wanted_undef rfl rfl rfl) rfl ?_
      refine WL.pass (wanted_undef rfl rfl rfl) rfl ?_
      refine WL.pass (wanted_undef rfl rfl rfl) rfl ?_
      refine WL.pass ((wanted_of rfl rfl (bool_tr rfl hc42)).trans rfl) rfl ?_
      refine WL.pickT (v := .bool true) (bool_tr rfl hc42) rfl ?_
      refine WL.nil ?_
      exact Jk33 true _ _ rfl ((hs.mask []).pick []) hf }
      {
      refine WL.loadAll hs 0 rfl TI41 h27_1 hl4 ?_ (hg := (wanted_of rfl rfl (bool_tr rfl hc42)).trans rfl)
      obtain ⟨x43, hxx43, hf⟩ := bindE hf
      refine WL.call (vs := [.agg cs3.toArray]) hs FN48 ⟨rfl, trivial⟩ (fun ok hA => esref14_Commutes.calls (x1 := x1) hxx43 (hA.get 1 rfl)) ?_ (hg := (wanted_of rfl rfl (bool_tr rfl hc42)).trans rfl)
      rintro _ w hs
      refine WL.move (v := .bool x43) rfl ?_ (hg := (wanted_of rfl rfl (bool_tr rfl hc42)).trans rfl)
      rcases iteE hf with ⟨hc44, hf⟩ | ⟨hc44, hf⟩
      {
      refine WL.fieldAddr (m := 2) h27_1 FA41_2 rfl ?_ (hg := (wanted_of rfl rfl (bool_tr rfl hc44)).trans rfl)
      refine WL.loadF (z := x1.Tag) F_api_Update_Tag hs 0 rfl 1 rfl rfl TI3 (.inr rfl) rfl rfl (fun v45 hs => ?_) (hg := (wanted_of rfl rfl (bool_tr rfl hc44)).trans rfl)
      obtain rfl := hs.int 0 rfl
      refine WL.bin (v := .bool (x1.Tag != 0)) rfl rfl (ib_neq _ _ _) ?_ (hg := (wanted_of rfl rfl (bool_tr rfl hc44)).trans rfl)
      refine WL.pickT (v := .bool (x1.Tag != 0)) (bool_tr rfl hc44) rfl ?_ (hg := (wanted_of rfl rfl (bool_tr rfl hc42)).trans rfl)
      refine WL.pickF (v := .bool (x1.Tag != 0)) (bool_tr rfl hc42) rfl ?_
      refine WL.nil ?_
      exact Jk33 (x1.Tag != 0) _ _ rfl ((hs.mask []).pick []) hf }
      {
      refine WL.pass ((wanted_of rfl rfl (bool_tr rfl hc44)).trans rfl) rfl ?_
      refine WL.pass ((wanted_of rfl rfl (bool_tr rfl hc44)).trans rfl) rfl ?_
      refine WL.pass ((wanted_of rfl rfl (bool_tr rfl hc44)).trans rfl) rfl ?_
      refine WL.pickF (v := .bool false) (bool_tr rfl hc44) rfl ?_ (hg := (wanted_of rfl rfl (bool_tr rfl hc42)).trans rfl)
      refine WL.pickF (v := .bool false) (bool_tr rfl hc42) rfl ?_
      refine WL.nil ?_
      exact Jk33 false _ _ rfl ((hs.mask []).pick []) hf } } }
      {
      refine WL.pass ((wanted_of rfl rfl (bool_tr rfl hc38)).trans rfl) rfl ?_
      refine WL.pass ((wanted_of rfl rfl (bool_tr rfl hc38)).trans rfl) rfl ?_
      refine WL.pass ((wanted_of rfl rfl (bool_tr rfl hc38)).trans rfl) rfl ?_
      refine WL.pass ((wanted_of rfl rfl (bool_tr rfl hc38)).trans rfl) rfl ?_
      refine WL.pickF (v := .bool false) (bool_tr rfl hc38) rfl ?_
      refine WL.move (v := .bool false) rfl ?_
      refine WL.loadAll hs 0 rfl TI41 h27_1 hl4 ?_ (hg := (wanted_of rfl rfl rfl).trans rfl)
      obtain ⟨x46, hxx46, hf⟩ := bindE hf
      refine WL.call (vs := [.agg cs3.toArray]) hs FN48 ⟨rfl, trivial⟩ (fun ok hA => esref14_Commutes.calls (x1 := x1) hxx46 (hA.get 0 rfl)) ?_ (hg := (wanted_of rfl rfl rfl).trans rfl)
      rintro _ w hs
      refine WL.move (v := .bool x46) rfl ?_ (hg := (wanted_of rfl rfl rfl).trans rfl)
      rcases iteE hf with ⟨hc47, hf⟩ | ⟨hc47, hf⟩
      {
      refine WL.fieldAddr (m := 2) h27_1 FA41_2 rfl ?_ (hg := (wanted_of rfl rfl (bool_tr rfl hc47)).trans rfl)
      refine WL.loadF (z := x1.Tag) F_api_Update_Tag hs 0 rfl 0 rfl rfl TI3 (.inr rfl) rfl rfl (fun v48 hs => ?_) (hg := (wanted_of rfl rfl (bool_tr rfl hc47)).trans rfl)
      obtain rfl := hs.int 0 rfl
      refine WL.bin (v := .bool (x1.Tag != 0)) rfl rfl (ib_neq _ _ _) ?_ (hg := (wanted_of rfl rfl (bool_tr rfl hc47)).trans rfl)
      refine WL.pickT (v := .bool (x1.Tag != 0)) (bool_tr rfl hc47) rfl ?_ (hg := (wanted_of rfl rfl rfl).trans rfl)
      refine WL.pickF (v := .bool (x1.Tag != 0)) rfl rfl ?_
      refine WL.nil ?_
      exact Jk33 (x1.Tag != 0) _ _ rfl ((hs.mask []).pick []) hf }
      {
      refine WL.pass ((wanted_of rfl rfl (bool_tr rfl hc47)).trans rfl) rfl ?_
      refine WL.pass ((wanted_of rfl rfl (bool_tr rfl hc47)).trans rfl) rfl ?_
      refine WL.pass ((wanted_of rfl rfl (bool_tr rfl hc47)).trans rfl) rfl ?_
      refine WL.pickF (v := .bool false) (bool_tr rfl hc47) rfl ?_ (hg := (wanted_of rfl rfl rfl).trans rfl)
      refine WL.pickF (v := .bool false) rfl rfl ?_
      refine WL.nil ?_
      exact Jk33 false _ _ rfl ((hs.mask []).pick []) hf } }
    refine W.seqK fun K49 hK49 => ?_
    refine W.region ?_
    refine WL.assign (v := .int .i64 0) rfl ?_
    refine WL.nil ?_
    refine hK49 _ _ ?_
    refine W.block ?_
    obtain ⟨bs52, hbs52, hfs52⟩ := bindE hf
    refine W.loop hbs52 (fun s ρ w => match s with | x51 => ρ 1 = .pointer (some ⟨g6, 0, none⟩) ∧ ρ 3 = .int .i64 x51 ∧ St ok (bz w0) w [vl t_api_Update x1 (.agg cs3.toArray)] [blk g6 41 cs3]) ⟨h9_1, rfl, (hs.mask [true]).pick [2]⟩ ?_
    intro x51 ρ w os52 hI hf hbbs52
    obtain ⟨h50_1, h50_3, hs⟩ := hI
    unfold esref14_ValidateUpdate.l1 at hf
    refine W.seqK fun K53 hK53 => ?_
    refine W.seqK fun K54 hK54 => ?_
    refine W.region ?_
    refine WL.move (v := .int .i64 x51) h50_3 ?_
    refine WL.fieldAddr (m := 3) h50_1 FA41_3 rfl ?_
    refine WL.loadF (z := x1.Effects) F_api_Update_Effects hs 0 rfl 0 rfl rfl TI39 (.inr rfl) rfl rfl (fun v55 hs => ?_)
    obtain ⟨a56, c57, rfl⟩ := hs.slice 0 rfl
    refine WL.len (v := .slice a56 (x1.Effects).length c57) rfl (len_slice UN39) ?_
    refine WL.bin (v := .bool (decide (x51 < ((x1.Effects).length : Int)))) rfl rfl (ib_lss _ _ _) ?_
    refine WL.nil ?_
    refine hK54 _ _ ?_
    rcases iteE hf with ⟨hc58, hf⟩ | ⟨hc58, hf⟩
    {
    refine W.cond_true (bool_tr rfl hc58) ?_
    refine W.skip ?_
    refine hK53 _ _ ?_
    refine W.seqK fun K59 hK59 => ?_
    refine W.block ?_
    refine W.seqK fun K60 hK60 => ?_
    refine W.region ?_
    refine WL.fieldAddr (m := 3) h50_1 FA41_3 rfl ?_
    refine WL.loadF (z := x1.Effects) F_api_Update_Effects hs 0 rfl 1 rfl rfl TI39 (.inr rfl) rfl rfl (fun v61 hs => ?_)
    obtain ⟨a62, c63, rfl⟩ := hs.slice 0 rfl
    refine WL.move (v := .int .i64 x51) h50_3 ?_
    obtain ⟨x64, hxx64, hf⟩ := bindE hf
    refine WL.indexAddr hs 0 rfl UN39 TI67 rfl rfl hxx64 (fun ad65 hs => ?_)
    refine WL.loadP hs 0 rfl TI67 (.inl rfl) rfl (fun v66 hs => ?_)
    obtain ⟨cs67, hl68, rfl⟩ := hs.aggv (n := 5) 0 rfl rfl rfl
    obtain ⟨x69, hxx69, hf⟩ := bindE hf
    refine WL.call (vs := [.agg cs67.toArray]) hs FN47 ⟨rfl, trivial⟩ (fun ok hA => esref14_ValidateEffect.calls (x1 := x64) hxx69 (hA.get 0 rfl)) ?_
    rintro _ w hs
    refine WL.assign (v := .int .i64 x69) rfl ?_
    refine WL.nil ?_
    refine hK60 _ _ ?_
    refine W.seqK fun K70 hK70 => ?_
    refine W.region ?_
    refine WL.move (v := .int .i64 x69) rfl ?_
    refine WL.bin (v := .bool (x69 != 0)) rfl rfl (ib_neq _ _ _) ?_
    refine WL.nil ?_
    refine hK70 _ _ ?_
    rcases iteE hf with ⟨hc71, hf⟩ | ⟨hc71, hf⟩
    {
    refine W.cond_true (bool_tr rfl hc71) ?_
    refine W.seqK fun K72 hK72 => ?_
    refine W.region ?_
    refine WL.move (v := .int .i64 x69) rfl ?_
    refine WL.assign (v := .int .i64 x69) rfl ?_
    refine WL.nil ?_
    refine hK72 _ _ ?_
    refine W.ret ?_
    have hr := Option.some.inj hf; subst hr
    have hr := hbbs52 _ rfl; subst hr
    have hf := hfs52
    have hr := Option.some.inj hf; subst hr
    exact ⟨_, resOk_one rfl rfl, (), rfl, (hs.mask []).pick []⟩ }
    {
    refine W.cond_false (bool_tr rfl hc71) ?_
    refine W.skip ?_
    refine hK59 _ _ ?_
    refine W.region ?_
    refine WL.move (v := .int .i64 x51) h50_3 ?_
    obtain ⟨x73, ex73, hf⟩ := letE hf
    refine WL.bin (v := .int .i64 x73) rfl rfl (ib_as ex73 (ib_add _ _ _)) ?_
    refine WL.assign (v := .int .i64 x73) rfl ?_
    refine WL.nil ?_
    exact ⟨_, (Option.some.inj hf).symm, h50_1, rfl, (hs.mask [true]).pick [4]⟩ } }
    {
    refine W.cond_false (bool_tr rfl hc58) ?_
    refine W.exit ?_
    have hr := Option.some.inj hf; subst hr
    have hr := hbbs52 _ rfl; subst hr
    have hf := hfs52
    exact Jk28  _ _ h50_1 ((hs.mask [true]).pick [1]) hf } } } }
  refine W.region ?_
  refine WL.fieldAddr (m := 0) rfl FA41_0 rfl ?_
  refine WL.loadF (z := x1.Client) F_api_Update_Client hs 0 rfl 0 rfl rfl TI3 (.inr rfl) rfl rfl (fun v75 hs => ?_)
  obtain rfl := hs.int 0 rfl
  obtain ⟨x76, hxx76, hf⟩ := bindE hf
  refine WL.call (vs := [.int .i64 x1.Client]) hs FN46 ⟨rfl, trivial⟩ (fun ok hA => esref06_Client.calls (x1 := x1.Client) hxx76) ?_
  rintro _ w hs
  refine WL.not rfl ?_
  refine WL.move (v := .bool (!x76)) rfl ?_
  rcases iteE hf with ⟨hc77, hf⟩ | ⟨hc77, hf⟩
  {
  refine WL.pass ((wanted_of rfl rfl (bool_tr rfl hc77)).trans rfl) rfl ?_
  refine WL.pass ((wanted_of rfl rfl (bool_tr rfl hc77)).trans rfl) rfl ?_
  refine WL.pass ((wanted_of rfl rfl (bool_tr rfl hc77)).trans rfl) rfl ?_
  refine WL.pickT (v := .bool true) (bool_tr rfl hc77) rfl ?_
  refine WL.move (v := .bool true) rfl ?_
  refine WL.pass ((wanted_of rfl rfl rfl).trans rfl) rfl ?_
  refine WL.pass ((wanted_of rfl rfl rfl).trans rfl) rfl ?_
  refine WL.pass ((wanted_of rfl rfl rfl).trans rfl) rfl ?_
  refine WL.pickT (v := .bool true) rfl rfl ?_
  refine WL.move (v := .bool true) rfl ?_
  refine WL.pass ((wanted_of rfl rfl rfl).trans rfl) rfl ?_
  refine WL.pass ((wanted_of rfl rfl rfl).trans rfl) rfl ?_
  refine WL.pass ((wanted_of rfl rfl rfl).trans rfl) rfl ?_
  refine WL.pickT (v := .bool true) rfl rfl ?_
  refine WL.move (v := .bool true) rfl ?_
  refine WL.pass ((wanted_of rfl rfl rfl).trans rfl) rfl ?_
  refine WL.pass ((wanted_of rfl rfl rfl).trans rfl) rfl ?_
  refine WL.pass ((wanted_of rfl rfl rfl).trans rfl) rfl ?_
  refine WL.pickT (v := .bool true) rfl rfl ?_
  refine WL.assign (v := .bool true) rfl ?_
  refine WL.nil ?_
  exact Jk11 true _ _ rfl rfl ((hs.mask [true]).pick [1]) hf }
  {
  refine WL.fieldAddr (m := 1) rfl FA41_1 rfl ?_ (hg := (wanted_of rfl rfl (bool_tr rfl hc77)).trans rfl)
  refine WL.loadF (z := x1.Seq) F_api_Update_Seq hs 0 rfl 1 rfl rfl TI3 (.inr rfl) rfl rfl (fun v78 hs => ?_) (hg := (wanted_of rfl rfl (bool_tr rfl hc77)).trans rfl)
  obtain rfl := hs.int 0 rfl
  refine WL.bin (v := .bool (decide (x1.Seq < 1))) rfl rfl (ib_lss _ _ _) ?_ (hg := (wanted_of rfl rfl (bool_tr rfl hc77)).trans rfl)
  refine WL.pickF (v := .bool (decide (x1.Seq < 1))) (bool_tr rfl hc77) rfl ?_
  refine WL.move (v := .bool (decide (x1.Seq < 1))) rfl ?_
  rcases iteE hf with ⟨hc79, hf⟩ | ⟨hc79, hf⟩
  {
  refine WL.pass ((wanted_of rfl rfl (bool_tr rfl hc79)).trans rfl) rfl ?_
  refine WL.pass ((wanted_of rfl rfl (bool_tr rfl hc79)).trans rfl) rfl ?_
  refine WL.pass ((wanted_of rfl rfl (bool_tr rfl hc79)).trans rfl) rfl ?_
  refine WL.pickT (v := .bool true) (bool_tr rfl hc79) rfl ?_
  refine WL.move (v := .bool true) rfl ?_
  refine WL.pass ((wanted_of rfl rfl rfl).trans rfl) rfl ?_
  refine WL.pass ((wanted_of rfl rfl rfl).trans rfl) rfl ?_
  refine WL.pass ((wanted_of rfl rfl rfl).trans rfl) rfl ?_
  refine WL.pickT (v := .bool true) rfl rfl ?_
  refine WL.move (v := .bool true) rfl ?_
  refine WL.pass ((wanted_of rfl rfl rfl).trans rfl) rfl ?_
  refine WL.pass ((wanted_of rfl rfl rfl).trans rfl) rfl ?_
  refine WL.pass ((wanted_of rfl rfl rfl).trans rfl) rfl ?_
  refine WL.pickT (v := .bool true) rfl rfl ?_
  refine WL.assign (v := .bool true) rfl ?_
  refine WL.nil ?_
  exact Jk11 true _ _ rfl rfl ((hs.mask [true]).pick [2]) hf }
  {
  refine WL.fieldAddr (m := 1) rfl FA41_1 rfl ?_ (hg := (wanted_of rfl rfl (bool_tr rfl hc79)).trans rfl)
  refine WL.loadF (z := x1.Seq) F_api_Update_Seq hs 0 rfl 2 rfl rfl TI3 (.inr rfl) rfl rfl (fun v80 hs => ?_) (hg := (wanted_of rfl rfl (bool_tr rfl hc79)).trans rfl)
  obtain rfl := hs.int 0 rfl
  refine WL.bin (v := .bool (decide (8 < x1.Seq))) rfl rfl (ib_gtr _ _ _) ?_ (hg := (wanted_of rfl rfl (bool_tr rfl hc79)).trans rfl)
  refine WL.pickF (v := .bool (decide (8 < x1.Seq))) (bool_tr rfl hc79) rfl ?_
  refine WL.move (v := .bool (decide (8 < x1.Seq))) rfl ?_
  rcases iteE hf with ⟨hc81, hf⟩ | ⟨hc81, hf⟩
  {
  refine WL.pass ((wanted_of rfl rfl (bool_tr rfl hc81)).trans rfl) rfl ?_
  refine WL.pass ((wanted_of rfl rfl (bool_tr rfl hc81)).trans rfl) rfl ?_
  refine WL.pass ((wanted_of rfl rfl (bool_tr rfl hc81)).trans rfl) rfl ?_
  refine WL.pickT (v := .bool true) (bool_tr rfl hc81) rfl ?_
  refine WL.move (v := .bool true) rfl ?_
  refine WL.pass ((wanted_of rfl rfl rfl).trans rfl) rfl ?_
  refine WL.pass ((wanted_of rfl rfl rfl).trans rfl) rfl ?_
  refine WL.pass ((wanted_of rfl rfl rfl).trans rfl) rfl ?_
  refine WL.pickT (v := .bool true) rfl rfl ?_
  refine WL.assign (v := .bool true) rfl ?_
  refine WL.nil ?_
  exact Jk11 true _ _ rfl rfl ((hs.mask [true]).pick [3]) hf }
  {
  refine WL.fieldAddr (m := 2) rfl FA41_2 rfl ?_ (hg := (wanted_of rfl rfl (bool_tr rfl hc81)).trans rfl)
  refine WL.loadF (z := x1.Tag) F_api_Update_Tag hs 0 rfl 3 rfl rfl TI3 (.inr rfl) rfl rfl (fun v82 hs => ?_) (hg := (wanted_of rfl rfl (bool_tr rfl hc81)).trans rfl)
  obtain rfl := hs.int 0 rfl
  refine WL.bin (v := .bool (decide (x1.Tag < 0))) rfl rfl (ib_lss _ _ _) ?_ (hg := (wanted_of rfl rfl (bool_tr rfl hc81)).trans rfl)
  refine WL.pickF (v := .bool (decide (x1.Tag < 0))) (bool_tr rfl hc81) rfl ?_
  refine WL.move (v := .bool (decide (x1.Tag < 0))) rfl ?_
  rcases iteE hf with ⟨hc83, hf⟩ | ⟨hc83, hf⟩
  {
  refine WL.pass ((wanted_of rfl rfl (bool_tr rfl hc83)).trans rfl) rfl ?_
  refine WL.pass ((wanted_of rfl rfl (bool_tr rfl hc83)).trans rfl) rfl ?_
  refine WL.pass ((wanted_of rfl rfl (bool_tr rfl hc83)).trans rfl) rfl ?_
  refine WL.pickT (v := .bool true) (bool_tr rfl hc83) rfl ?_
  refine WL.assign (v := .bool true) rfl ?_
  refine WL.nil ?_
  exact Jk11 true _ _ rfl rfl ((hs.mask [true]).pick [4]) hf }
  {
  refine WL.fieldAddr (m := 2) rfl FA41_2 rfl ?_ (hg := (wanted_of rfl rfl (bool_tr rfl hc83)).trans rfl)
  refine WL.loadF (z := x1.Tag) F_api_Update_Tag hs 0 rfl 4 rfl rfl TI3 (.inr rfl) rfl rfl (fun v84 hs => ?_) (hg := (wanted_of rfl rfl (bool_tr rfl hc83)).trans rfl)
  obtain rfl := hs.int 0 rfl
  refine WL.bin (v := .bool (decide (1000 < x1.Tag))) rfl rfl (ib_gtr _ _ _) ?_ (hg := (wanted_of rfl rfl (bool_tr rfl hc83)).trans rfl)
  refine WL.pickF (v := .bool (decide (1000 < x1.Tag))) (bool_tr rfl hc83) rfl ?_
  refine WL.assign (v := .bool (decide (1000 < x1.Tag))) rfl ?_
  refine WL.nil ?_
  exact Jk11 (decide (1000 < x1.Tag)) _ _ rfl rfl ((hs.mask [true]).pick [5]) hf } } } }
end Go.Proofs.Ytlbcfjblpopcnaa
set_option linter.unusedVariables false
set_option linter.unusedSimpArgs false
namespace Go.Proofs.Ytlbcfjblpopcnaa
open Go Go.RowKit Go.Proofs.YtlbcfjblpopcnaaL
set_option maxRecDepth 100000
set_option maxHeartbeats 4000000
theorem esref14_CompareUpdate.calls {ok : Nat → Prop} {w0 : World} {x1 : api_Update} {x5 : api_Update} {v2 : Value} {v6 : Value} {r : Int} (hf : esref14_CompareUpdate x1 x5 = some r) (i0 : (vl t_api_Update x1 v2).holds ok w0) (i1 : (vl t_api_Update x5 v6).holds ok w0) :
    Calls Try.prog 36 #[v2, v6] w0 fun e w' => ∃ v, e = .returned v ∧ ∃ y : Unit, v = .int .i64 r ∧ St ok (bz w0) w' [] [] := by
  unfold esref14_CompareUpdate at hf
  refine calls_of_W (fn := Try.f36) (N := 38) Try.func36 rfl Try.ntmps36 rfl ?_
  have hs : St ok (bz w0) w0 [vl t_api_Update x1 v2, vl t_api_Update x5 v6] [] := St.init (All.cons i0 (All.cons i1 All.nil))
  clear i0 i1
  obtain ⟨cs3, hl4, rfl⟩ := hs.aggv (n := 4) 0 rfl rfl rfl
  obtain ⟨cs7, hl8, rfl⟩ := hs.aggv (n := 4) 1 rfl rfl rfl
  refine W.seqK fun K9 hK9 => ?_
  refine W.region ?_
  refine WL.box (vs := cs3) hs rfl rfl (fun g10 w hs => ?_)
  refine WL.box (vs := cs7) hs rfl rfl (fun g11 w hs => ?_)
  refine WL.assign (v := .int .i64 0) rfl ?_
  refine WL.nil ?_
  refine hK9 _ _ ?_
  refine W.seqK fun K12 hK12 => ?_
  refine W.block ?_
  refine W.seqK fun K13 hK13 => ?_
  have Jk16 : ∀ (x15 : Bool) (ρ : Env) (w : World), ρ 2 = .pointer (some ⟨g10, 0, none⟩) → ρ 3 = .pointer (some ⟨g11, 0, none⟩) → ρ 5 = .bool x15 → St ok (bz w0) w [vl t_api_Update x5 (.agg cs7.toArray), vl t_api_Update x1 (.agg cs3.toArray)] [blk g11 41 cs7, blk g10 41 cs3] → esref14_CompareUpdate.j2 x1 x5 x15 = some r → K13 ρ w := by
    intro x15 ρ w h14_2 h14_3 h14_5 hs hf
    refine hK13 _ _ ?_
    unfold esref14_CompareUpdate.j2 at hf
    rcases iteE hf with ⟨hc17, hf⟩ | ⟨hc17, hf⟩
    {
    refine W.cond_true (bool_tr h14_5 hc17) ?_
    refine W.seqK fun K18 hK18 => ?_
    refine W.region ?_
    refine WL.assign (v := .int .i64 (-1)) rfl ?_
    refine WL.nil ?_
    refine hK18 _ _ ?_
    refine W.ret ?_
    have hr := Option.some.inj hf; subst hr
    exact ⟨_, resOk_one rfl rfl, (), rfl, (hs.mask []).pick []⟩ }
    {
    refine W.cond_false (bool_tr h14_5 hc17) ?_
    refine W.seqK fun K19 hK19 => ?_
    have Jk22 : ∀ (x21 : Bool) (ρ : Env) (w : World), ρ 25 = .bool x21 → St ok (bz w0) w [] [] → esref14_CompareUpdate.j1 x21 = some r → K19 ρ w := by
      intro x21 ρ w h20_25 hs hf
      refine hK19 _ _ ?_
      unfold esref14_CompareUpdate.j1 at hf
      rcases iteE hf with ⟨hc23, hf⟩ | ⟨hc23, hf⟩
      {
      refine W.cond_true (bool_tr h20_25 hc23) ?_
      refine W.seqK fun K24 hK24 => ?_
      refine W.region ?_
      refine WL.assign (v := .int .i64 0) rfl ?_
      refine WL.nil ?_
      refine hK24 _ _ ?_
      refine W.ret ?_
      have hr := Option.some.inj hf; subst hr
      exact ⟨_, resOk_one rfl rfl, (), rfl, (hs.mask []).pick []⟩ }
      {
      refine W.cond_false (bool_tr h20_25 hc23) ?_
      refine W.skip ?_
      refine hK12 _ _ ?_
      refine W.seqK fun K25 hK25 => ?_
      refine W.region ?_
      refine WL.assign (v := .int .i64 1) rfl ?_
      refine WL.nil ?_
      refine hK25 _ _ ?_
      refine W.ret ?_
      have hr := Option.some.inj hf; subst hr
      exact ⟨_, resOk_one rfl rfl, (), rfl, (hs.mask []).pick []⟩ }
    refine W.region ?_
    refine WL.fieldAddr (m := 0) h14_2 FA41_0 rfl ?_
    refine WL.loadF (z := x1.Client) F_api_Update_Client hs 1 rfl 1 rfl rfl TI3 (.inr rfl) rfl rfl (fun v26 hs => ?_)
    obtain rfl := hs.int 0 rfl
    refine WL.fieldAddr (m := 0) h14_3 FA41_0 rfl ?_
    refine WL.loadF (z := x5.Client) F_api_Update_Client hs 0 rfl 1 rfl rfl TI3 (.inr rfl) rfl rfl (fun v27 hs => ?_)
    obtain rfl := hs.int 0 rfl
    refine WL.bin (v := .bool (x1.Client == x5.Client)) rfl rfl (ib_eql _ _ _) ?_
    refine WL.move (v := .bool (x1.Client == x5.Client)) rfl ?_
    rcases iteE hf with ⟨hc28, hf⟩ | ⟨hc28, hf⟩
    {
    refine WL.fieldAddr (m := 1) h14_2 FA41_1 rfl ?_ (hg := (wanted_of rfl rfl (bool_tr rfl hc28)).trans rfl)
    refine WL.loadF (z := x1.Seq) F_api_Update_Seq hs 1 rfl 3 rfl rfl TI3 (.inr rfl) rfl rfl (fun v29 hs => ?_) (hg := (wanted_of rfl rfl (bool_tr rfl hc28)).trans rfl)
    obtain rfl := hs.int 0 rfl
    refine WL.fieldAddr (m := 1) h14_3 FA41_1 rfl ?_ (hg := (wanted_of rfl rfl (bool_tr rfl hc28)).trans rfl)
    refine WL.loadF (z := x5.Seq) F_api_Update_Seq hs 0 rfl 3 rfl rfl TI3 (.inr rfl) rfl rfl (fun v30 hs => ?_) (hg := (wanted_of rfl rfl (bool_tr rfl hc28)).trans rfl)
    obtain rfl := hs.int 0 rfl
    refine WL.bin (v := .bool (x1.Seq == x5.Seq)) rfl rfl (ib_eql _ _ _) ?_ (hg := (wanted_of rfl rfl (bool_tr rfl hc28)).trans rfl)
    refine WL.pickT (v := .bool (x1.Seq == x5.Seq)) (bool_tr rfl hc28) rfl ?_
    refine WL.assign (v := .bool (x1.Seq == x5.Seq)) rfl ?_
    refine WL.nil ?_
    exact Jk22 (x1.Seq == x5.Seq) _ _ rfl ((hs.mask []).pick []) hf }
    {
    refine WL.pass ((wanted_of rfl rfl (bool_tr rfl hc28)).trans rfl) rfl ?_
    refine WL.pass ((wanted_of rfl rfl (bool_tr rfl hc28)).trans rfl) rfl ?_
    refine WL.pass ((wanted_of rfl rfl (bool_tr rfl hc28)).trans rfl) rfl ?_
    refine WL.pass ((wanted_of rfl rfl (bool_tr rfl hc28)).trans rfl) rfl ?_
    refine WL.pass ((wanted_of rfl rfl (bool_tr rfl hc28)).trans rfl) rfl ?_
    refine WL.pickF (v := .bool false) (bool_tr rfl hc28) rfl ?_
    refine WL.assign (v := .bool false) rfl ?_
    refine WL.nil ?_
    exact Jk22 false _ _ rfl ((hs.mask []).pick []) hf } }
  refine W.region ?_
  refine WL.fieldAddr (m := 0) rfl FA41_0 rfl ?_
  refine WL.loadF (z := x1.Client) F_api_Update_Client hs 1 rfl 0 rfl rfl TI3 (.inr rfl) rfl rfl (fun v31 hs => ?_)
  obtain rfl := hs.int 0 rfl
  refine WL.fieldAddr (m := 0) rfl FA41_0 rfl ?_
  refine WL.loadF (z := x5.Client) F_api_Update_Client hs 0 rfl 2 rfl rfl TI3 (.inr rfl) rfl rfl (fun v32 hs => ?_)
  obtain rfl := hs.int 0 rfl
  refine WL.bin (v := .bool (decide (x1.Client < x5.Client))) rfl rfl (ib_lss _ _ _) ?_
  refine WL.move (v := .bool (decide (x1.Client < x5.Client))) rfl ?_
  rcases iteE hf with ⟨hc33, hf⟩ | ⟨hc33, hf⟩
  {
  refine WL.pass ((wanted_of rfl rfl (bool_tr rfl hc33)).trans rfl) rfl ?_
  refine WL.pass ((wanted_of rfl rfl (bool_tr rfl hc33)).trans rfl) rfl ?_
  refine WL.pass ((wanted_of rfl rfl (bool_tr rfl hc33)).trans rfl) rfl ?_
  refine WL.pass ((wanted_of rfl rfl (bool_tr rfl hc33)).trans rfl) rfl ?_
  refine WL.pass ((wanted_of rfl rfl (bool_tr rfl hc33)).trans rfl) rfl ?_
  refine WL.pass ((wanted_of rfl rfl (bool_tr rfl hc33)).trans rfl) rfl ?_
  refine WL.pass (wanted_undef rfl rfl rfl) rfl ?_
  refine WL.pass (wanted_undef rfl rfl rfl) rfl ?_
  refine WL.pass (wanted_undef rfl rfl rfl) rfl ?_
  refine WL.pass (wanted_undef rfl rfl rfl) rfl ?_
  refine WL.pass (wanted_undef rfl rfl rfl) rfl ?_
  refine WL.pass ((wanted_of rfl rfl (bool_tr rfl hc33)).trans rfl) rfl ?_
  refine WL.pickT (v := .bool true) (bool_tr rfl hc33) rfl ?_
  refine WL.assign (v := .bool true) rfl ?_
  refine WL.nil ?_
  exact Jk16 true _ _ rfl rfl rfl ((hs.mask [true, true]).pick [3, 2]) hf }
  {
  refine WL.fieldAddr (m := 0) rfl FA41_0 rfl ?_ (hg := (wanted_of rfl rfl (bool_tr rfl hc33)).trans rfl)
  refine WL.loadF (z := x1.Client) F_api_Update_Client hs 1 rfl 2 rfl rfl TI3 (.inr rfl) rfl rfl (fun v34 hs => ?_) (hg := (wanted_of rfl rfl (bool_tr rfl hc33)).trans rfl)
  obtain rfl := hs.int 0 rfl
  refine WL.fieldAddr (m := 0) rfl FA41_0 rfl ?_ (hg := (wanted_of rfl rfl (bool_tr rfl hc33)).trans rfl)
  refine WL.loadF (z := x5.Client) F_api_Update_Client hs 0 rfl 4 rfl rfl TI3 (.inr rfl) rfl rfl (fun v35 hs => ?_) (hg := (wanted_of rfl rfl (bool_tr rfl hc33)).trans rfl)
  obtain rfl := hs.int 0 rfl
  refine WL.bin (v := .bool (x1.Client == x5.Client)) rfl rfl (ib_eql _ _ _) ?_ (hg := (wanted_of rfl rfl (bool_tr rfl hc33)).trans rfl)
  refine WL.move (v := .bool (x1.Client == x5.Client)) rfl ?_ (hg := (wanted_of rfl rfl (bool_tr rfl hc33)).trans rfl)
  rcases iteE hf with ⟨hc36, hf⟩ | ⟨hc36, hf⟩
  {
  refine WL.fieldAddr (m := 1) rfl FA41_1 rfl ?_ (hg := (wanted_of rfl rfl (bool_tr rfl hc36)).trans rfl)
  refine WL.loadF (z := x1.Seq) F_api_Update_Seq hs 1 rfl 4 rfl rfl TI3 (.inr rfl) rfl rfl (fun v37 hs => ?_) (hg := (wanted_of rfl rfl (bool_tr rfl hc36)).trans rfl)
  obtain rfl := hs.int 0 rfl
  refine WL.fieldAddr (m := 1) rfl FA41_1 rfl ?_ (hg := (wanted_of rfl rfl (bool_tr rfl hc36)).trans rfl)
  refine WL.loadF (z := x5.Seq) F_api_Update_Seq hs 0 rfl 6 rfl rfl TI3 (.inr rfl) rfl rfl (fun v38 hs => ?_) (hg := (wanted_of rfl rfl (bool_tr rfl hc36)).trans rfl)
  obtain rfl := hs.int 0 rfl
  refine WL.bin (v := .bool (decide (x1.Seq < x5.Seq))) rfl rfl (ib_lss _ _ _) ?_ (hg := (wanted_of rfl rfl (bool_tr rfl hc36)).trans rfl)
  refine WL.pickT (v := .bool (decide (x1.Seq < x5.Seq))) (bool_tr rfl hc36) rfl ?_ (hg := (wanted_of rfl rfl (bool_tr rfl hc33)).trans rfl)
  refine WL.pickF (v := .bool (decide (x1.Seq < x5.Seq))) (bool_tr rfl hc33) rfl ?_
  refine WL.assign (v := .bool (decide (x1.Seq < x5.Seq))) rfl ?_
  refine WL.nil ?_
  exact Jk16 (decide (x1.Seq < x5.Seq)) _ _ rfl rfl rfl ((hs.mask [true, true]).pick [7, 6]) hf }
  {
  refine WL.pass ((wanted_of rfl rfl (bool_tr rfl hc36)).trans rfl) rfl ?_
  refine WL.pass ((wanted_of rfl rfl (bool_tr rfl hc36)).trans rfl) rfl ?_
  refine WL.pass ((wanted_of rfl rfl (bool_tr rfl hc36)).trans rfl) rfl ?_
  refine WL.pass ((wanted_of rfl rfl (bool_tr rfl hc36)).trans rfl) rfl ?_
  refine WL.pass ((wanted_of rfl rfl (bool_tr rfl hc36)).trans rfl) rfl ?_
  refine WL.pickF (v := .bool false) (bool_tr rfl hc36) rfl ?_ (hg := (wanted_of rfl rfl (bool_tr rfl hc33)).trans rfl)
  refine WL.pickF (v := .bool false) (bool_tr rfl hc33) rfl ?_
  refine WL.assign (v := .bool false) rfl ?_
  refine WL.nil ?_
  exact Jk16 false _ _ rfl rfl rfl ((hs.mask [true, true]).pick [5, 4]) hf } }
end Go.Proofs.Ytlbcfjblpopcnaa
set_option linter.unusedVariables false
set_option linter.unusedSimpArgs false
namespace Go.Proofs.Ytlbcfjblpopcnaa
open Go Go.RowKit Go.Proofs.YtlbcfjblpopcnaaL
set_option maxRecDepth 100000
set_option maxHeartbeats 4000000
theorem esref14_ValidateState.calls {ok : Nat → Prop} {w0 : World} {x1 : List api_Update} {a2 : Option Addr} {c3 : Nat} {r : Int} (hf : esref14_ValidateState x1 = some r) (i0 : (vl (tSlice t_api_Update) x1 (.slice a2 x1.length c3)).holds ok w0) :
    Calls Try.prog 11 #[.slice a2 x1.length c3] w0 fun e w' => ∃ v, e = .returned v ∧ ∃ y : Unit, v = .int .i64 r ∧ St ok (bz w0) w' [] [] := by
  unfold esref14_ValidateState at hf
  refine calls_of_W (fn := Try.f11) (N := 73) Try.func11 rfl Try.ntmps11 rfl ?_
  have hs : St ok (bz w0) w0 [vl (tSlice t_api_Update) x1 (.slice a2 x1.length c3)] [] := St.init (All.cons i0 All.nil)
  clear i0
  refine W.seqK fun K4 hK4 => ?_
  refine W.region ?_
  refine WL.assign (v := .int .i64 0) rfl ?_
  refine WL.nil ?_
  refine hK4 _ _ ?_
  refine W.seqK fun K5 hK5 => ?_
  have Jk7 : ∀  (ρ : Env) (w : World), St ok (bz w0) w [] [] → esref14_ValidateState.j1 = some r → K5 ρ w := by
    intro  ρ w  hs hf
    refine hK5 _ _ ?_
    unfold esref14_ValidateState.j1 at hf
    refine W.seqK fun K8 hK8 => ?_
    refine W.region ?_
    refine WL.assign (v := .int .i64 0) rfl ?_
    refine WL.nil ?_
    refine hK8 _ _ ?_
    refine W.ret ?_
    have hr := Option.some.inj hf; subst hr
    exact ⟨_, resOk_one rfl rfl, (), rfl, (hs.mask []).pick []⟩
  refine W.seqK fun K9 hK9 => ?_
  refine W.region ?_
  refine WL.assign (v := .int .i64 0) rfl ?_
  refine WL.nil ?_
  refine hK9 _ _ ?_
  refine W.block ?_
  obtain ⟨bs12, hbs12, hfs12⟩ := bindE hf
  refine W.loop hbs12 (fun s ρ w => match s with | x11 => ρ 0 = .slice a2 x1.length c3 ∧ ρ 3 = .int .i64 x11 ∧ St ok (bz w0) w [vl (tSlice t_api_Update) x1 (.slice a2 x1.length c3)] []) ⟨rfl, rfl, (hs.mask []).pick [0]⟩ ?_
  intro x11 ρ w os12 hI hf hbbs12
  obtain ⟨h10_0, h10_3, hs⟩ := hI
  unfold esref14_ValidateState.l1 at hf
  refine W.seqK fun K13 hK13 => ?_
  refine W.seqK fun K14 hK14 => ?_
  refine W.region ?_
  refine WL.move (v := .int .i64 x11) h10_3 ?_
  refine WL.move (v := .slice a2 x1.length c3) h10_0 ?_
  refine WL.len (v := .slice a2 x1.length c3) rfl (len_slice UN23) ?_
  refine WL.bin (v := .bool (decide (x11 < (x1.length : Int)))) rfl rfl (ib_lss _ _ _) ?_
  refine WL.nil ?_
  refine hK14 _ _ ?_
  rcases iteE hf with ⟨hc15, hf⟩ | ⟨hc15, hf⟩
  {
  refine W.cond_true (bool_tr rfl hc15) ?_
  refine W.skip ?_
  refine hK13 _ _ ?_
  refine W.seqK fun K16 hK16 => ?_
  refine W.block ?_
  refine W.seqK fun K17 hK17 => ?_
  refine W.seqK fun K18 hK18 => ?_
  refine W.region ?_
  refine WL.move (v := .slice a2 x1.length c3) h10_0 ?_
  refine WL.move (v := .int .i64 x11) h10_3 ?_
  obtain ⟨x19, hxx19, hf⟩ := bindE hf
  refine WL.indexAddr hs 0 rfl UN23 TI41 rfl rfl hxx19 (fun ad20 hs => ?_)
  refine WL.loadP hs 0 rfl TI41 (.inl rfl) rfl (fun v21 hs => ?_)
  obtain ⟨cs22, hl23, rfl⟩ := hs.aggv (n := 4) 0 rfl rfl rfl
  obtain ⟨x24, hxx24, hf⟩ := bindE hf
  refine WL.call (vs := [.agg cs22.toArray]) hs FN20 ⟨rfl, trivial⟩ (fun ok hA => esref14_ValidateUpdate.calls (x1 := x19) hxx24 (hA.get 0 rfl)) ?_
  rintro _ w hs
  refine WL.assign (v := .int .i64 x24) rfl ?_
  refine WL.nil ?_
  refine hK18 _ _ ?_
  refine W.seqK fun K25 hK25 => ?_
  refine W.region ?_
  refine WL.move (v := .int .i64 x24) rfl ?_
  refine WL.bin (v := .bool (x24 != 0)) rfl rfl (ib_neq _ _ _) ?_
  refine WL.nil ?_
  refine hK25 _ _ ?_
  rcases iteE hf with ⟨hc26, hf⟩ | ⟨hc26, hf⟩
  {
  refine W.cond_true (bool_tr rfl hc26) ?_
  refine W.seqK fun K27 hK27 => ?_
  refine W.region ?_
  refine WL.move (v := .int .i64 x24) rfl ?_
  refine WL.assign (v := .int .i64 x24) rfl ?_
  refine WL.nil ?_
  refine hK27 _ _ ?_
  refine W.ret ?_
  have hr := Option.some.inj hf; subst hr
  have hr := hbbs12 _ rfl; subst hr
  have hf := hfs12
  have hr := Option.some.inj hf; subst hr
  exact ⟨_, resOk_one rfl rfl, (), rfl, (hs.mask []).pick []⟩ }
  {
  refine W.cond_false (bool_tr rfl hc26) ?_
  refine W.skip ?_
  refine hK17 _ _ ?_
  refine W.seqK fun K28 hK28 => ?_
  refine W.seqK fun K29 hK29 => ?_
  have Jk32 : ∀ (x31 : Bool) (ρ : Env) (w : World), ρ 0 = .slice a2 x1.length c3 → ρ 3 = .int .i64 x11 → ρ 33 = .bool x31 → St ok (bz w0) w [vl (tSlice t_api_Update) x1 (.slice a2 x1.length c3)] [] → esref14_ValidateState.j3 x1 x11 x31 = some os12 → K29 ρ w := by
    intro x31 ρ w h30_0 h30_3 h30_33 hs hf
    refine hK29 _ _ ?_
    unfold esref14_ValidateState.j3 at hf
    rcases iteE hf with ⟨hc33, hf⟩ | ⟨hc33, hf⟩
    {
    refine W.cond_true (bool_tr h30_33 hc33) ?_
    refine W.seqK fun K34 hK34 => ?_
    refine W.region ?_
    refine WL.assign (v := .int .i64 7) rfl ?_
    refine WL.nil ?_
    refine hK34 _ _ ?_
    refine W.ret ?_
    have hr := Option.some.inj hf; subst hr
    have hr := hbbs12 _ rfl; subst hr
    have hf := hfs12
    have hr := Option.some.inj hf; subst hr
    exact ⟨_, resOk_one rfl rfl, (), rfl, (hs.mask []).pick []⟩ }
    {
    refine W.cond_false (bool_tr h30_33 hc33) ?_
    refine W.skip ?_
    refine hK28 _ _ ?_
    refine W.seqK fun K35 hK35 => ?_
    have Jk38 : ∀ (x37 : Bool) (ρ : Env) (w : World), ρ 0 = .slice a2 x1.length c3 → ρ 3 = .int .i64 x11 → ρ 72 = .bool x37 → St ok (bz w0) w [vl (tSlice t_api_Update) x1 (.slice a2 x1.length c3)] [] → esref14_ValidateState.j2 x11 x37 = some os12 → K35 ρ w := by
      intro x37 ρ w h36_0 h36_3 h36_72 hs hf
      refine hK35 _ _ ?_
      unfold esref14_ValidateState.j2 at hf
      rcases iteE hf with ⟨hc39, hf⟩ | ⟨hc39, hf⟩
      {
      refine W.cond_true (bool_tr h36_72 hc39) ?_
      refine W.seqK fun K40 hK40 => ?_
      refine W.region ?_
      refine WL.assign (v := .int .i64 8) rfl ?_
      refine WL.nil ?_
      refine hK40 _ _ ?_
      refine W.ret ?_
      have hr := Option.some.inj hf; subst hr
      have hr := hbbs12 _ rfl; subst hr
      have hf := hfs12
      have hr := Option.some.inj hf; subst hr
      exact ⟨_, resOk_one rfl rfl, (), rfl, (hs.mask []).pick []⟩ }
      {
      refine W.cond_false (bool_tr h36_72 hc39) ?_
      refine W.skip ?_
      refine hK16 _ _ ?_
      refine W.region ?_
      refine WL.move (v := .int .i64 x11) h36_3 ?_
      obtain ⟨x41, ex41, hf⟩ := letE hf
      refine WL.bin (v := .int .i64 x41) rfl rfl (ib_as ex41 (ib_add _ _ _)) ?_
      refine WL.assign (v := .int .i64 x41) rfl ?_
      refine WL.nil ?_
      exact ⟨_, (Option.some.inj hf).symm, h36_0, rfl, (hs.mask []).pick [0]⟩ }
    obtain ⟨x42, hxx42, hf⟩ := bindE hf
    rcases iteE hf with ⟨hc46, hf⟩ | ⟨hc46, hf⟩
    {
    rcases iteE hf with ⟨hc47, hf⟩ | ⟨hc47, hf⟩
    {
    refine W.any (by kernel_rfl) 39 0 [true, true, true, true, true, true, true, true, true, true, true, true, true, true, true, true, true, true, true, true, true, true, true, true, true, true, true, true, true, true, true, true, true, true, true, true, true, true, true] rfl rfl (poAt [pv (.slice a2 x1.length c3), pv (.int .i64 x11), pq (fun y : Addr => .pointer (some y)) (fun v => [pl t_api_Update x42 (adOf v)]) (fun v => []), pq (fun y : Addr => .pointer (some y)) (fun v => [pl (tInt .i64) x42.Seq (adOf v)]) (fun v => []), pv (.int .i64 x42.Seq), pv (.bool (decide (1 < x42.Seq))), pv (.bool (decide (1 < x42.Seq))), pv (.int .i64 x11), pv (.bool (x11 == 0)), pv (.bool (x11 == 0)), pv (undef), pv (undef), pv (undef), pv (undef), pv (undef), pv (undef), pv (undef), pv (undef), pv (undef), pv (undef), pv (undef), pv (undef), pv (.bool true), pv (.bool true), pv (undef), pv (undef), pv (undef), pv (undef), pv (undef), pv (undef), pv (undef), pv (undef), pv (undef), pv (undef), pv (undef), pv (undef), pv (undef), pv (.bool true), pv (.bool true)]) (Λ := []) hs (by kernel_rfl) (by kernel_rfl) (by kernel_rfl) ⟨⟨⟨⟨⟨⟨⟨⟨⟨⟨⟨⟨⟨⟨⟨⟨⟨⟨⟨⟨⟨⟨⟨⟨⟨⟨⟨⟨⟨⟨⟨⟨⟨⟨⟨⟨⟨⟨⟨trivial, ?_⟩, ?_⟩, ?_⟩, ?_⟩, ?_⟩, ?_⟩, ?_⟩, ?_⟩, ?_⟩, ?_⟩, ?_⟩, ?_⟩, ?_⟩, ?_⟩, ?_⟩, ?_⟩, ?_⟩, ?_⟩, ?_⟩, ?_⟩, ?_⟩, ?_⟩, ?_⟩, ?_⟩, ?_⟩, ?_⟩, ?_⟩, ?_⟩, ?_⟩, ?_⟩, ?_⟩, ?_⟩, ?_⟩, ?_⟩, ?_⟩, ?_⟩, ?_⟩, ?_⟩, ?_⟩ ?_
    {
    intro ρ w Γx Λx hs hu hp
    refine WL.move (v := .slice a2 x1.length c3) ((hu 0 rfl).trans h30_0) ?_
    exact WL.nil ⟨rfl, _, rfl, rfl, hs.cutG 0 0⟩ }
    {
    intro ρ w Γx Λx hs hu hp
    refine WL.move (v := .int .i64 x11) ((hu 3 rfl).trans h30_3) ?_
    exact WL.nil ⟨rfl, _, rfl, rfl, hs.cutG 0 0⟩ }
    {
    intro ρ w Γx Λx hs hu hp
    have e48 : ρ 34 = .slice a2 x1.length c3 := (hp 0 rfl).1
    have e49 : ρ 35 = .int .i64 x11 := (hp 1 rfl).1
    refine WL.indexAddr hs (Γx.length + 0) (getApp rfl) UN23 TI41 e48 e49 hxx42 (fun ad43 hs => ?_)
    have hs := hs.add (it := pl t_api_Update x42 ad43) fun ok hA => hA.get 0 rfl
    exact WL.nil ⟨rfl, _, rfl, ⟨ad43, rfl⟩, hs.cutG 1 1⟩ }
    {
    intro ρ w Γx Λx hs hu hp
    obtain ⟨⟨ad50, e51r⟩, hm52⟩ := hp 2 rfl
    have e51 : ρ 36 = .pointer (some ad50) := e51r
    rw [e51r] at hm52
    have hs := hs.memo1 (it := pl t_api_Update x42 ad50) (List.mem_append.2 (.inl (hm52 _ (List.mem_of_getElem? (i := 0) rfl))))
    refine WL.fieldAddrP (z := x42.Seq) F_api_Update_Seq hs 0 rfl e51 FA41_1 rfl (fun ad44 hs => ?_)
    have hs := hs.add (it := pl (tInt .i64) x42.Seq ad44) fun ok hA => hA.get 0 rfl
    exact WL.nil ⟨rfl, _, rfl, ⟨ad44, rfl⟩, hs.cutG 1 2⟩ }
    {
    intro ρ w Γx Λx hs hu hp
    obtain ⟨⟨ad53, e54r⟩, hm55⟩ := hp 3 rfl
    have e54 : ρ 37 = .pointer (some ad53) := e54r
    rw [e54r] at hm55
    have hs := hs.memo1 (it := pl (tInt .i64) x42.Seq ad53) (List.mem_append.2 (.inl (hm55 _ (List.mem_of_getElem? (i := 0) rfl))))
    refine WL.loadP hs 0 rfl TI3 (.inr rfl) e54 (fun v45 hs => ?_)
    obtain rfl := hs.int 0 rfl
    exact WL.nil ⟨rfl, _, rfl, rfl, hs.cutG 0 2⟩ }
    {
    intro ρ w Γx Λx hs hu hp
    have e56 : ρ 38 = .int .i64 x42.Seq := (hp 4 rfl).1
    refine WL.bin (v := .bool (decide (1 < x42.Seq))) e56 rfl (ib_gtr _ _ _) ?_
    exact WL.nil ⟨rfl, _, rfl, rfl, hs.cutG 0 0⟩ }
    {
    intro ρ w Γx Λx hs hu hp
    have e57 : ρ 39 = .bool (decide (1 < x42.Seq)) := (hp 5 rfl).1
    refine WL.move (v := .bool (decide (1 < x42.Seq))) e57 ?_
    exact WL.nil ⟨rfl, _, rfl, rfl, hs.cutG 0 0⟩ }
    {
    intro ρ w Γx Λx hs hu hp
    have e58 : ρ 40 = .bool (decide (1 < x42.Seq)) := (hp 6 rfl).1
    refine WL.move (v := .int .i64 x11) ((hu 3 rfl).trans h30_3) ?_ (hg := (wanted_of rfl rfl (bool_tr e58 hc46)).trans rfl)
    exact WL.nil ⟨rfl, _, rfl, rfl, hs.cutG 0 0⟩ }
    {
    intro ρ w Γx Λx hs hu hp
    have e59 : ρ 41 = .int .i64 x11 := (hp 7 rfl).1
    have e60 : ρ 40 = .bool (decide (1 < x42.Seq)) := (hp 6 rfl).1
    refine WL.bin (v := .bool (x11 == 0)) e59 rfl (ib_eql _ _ _) ?_ (hg := (wanted_of rfl rfl (bool_tr e60 hc46)).trans rfl)
    exact WL.nil ⟨rfl, _, rfl, rfl, hs.cutG 0 0⟩ }
    {
    intro ρ w Γx Λx hs hu hp
    have e61 : ρ 42 = .bool (x11 == 0) := (hp 8 rfl).1
    have e62 : ρ 40 = .bool (decide (1 < x42.Seq)) := (hp 6 rfl).1
    refine WL.move (v := .bool (x11 == 0)) e61 ?_ (hg := (wanted_of rfl rfl (bool_tr e62 hc46)).trans rfl)
    exact WL.nil ⟨rfl, _, rfl, rfl, hs.cutG 0 0⟩ }
    {
    intro ρ w Γx Λx hs hu hp
    have e63 : ρ 43 = .bool (x11 == 0) := (hp 9 rfl).1
    refine WL.pass ((wanted_of rfl rfl (bool_tr e63 hc47)).trans rfl) rfl ?_
    exact WL.nil ⟨rfl, _, rfl, rfl, hs.cutG 0 0⟩ }
    {
    intro ρ w Γx Λx hs hu hp
    have e64 : ρ 43 = .bool (x11 == 0) := (hp 9 rfl).1
    refine WL.pass ((wanted_of rfl rfl (bool_tr e64 hc47)).trans rfl) rfl ?_
    exact WL.nil ⟨rfl, _, rfl, rfl, hs.cutG 0 0⟩ }
    {
    intro ρ w Γx Λx hs hu hp
    have e65 : ρ 45 = undef := (hp 11 rfl).1
    have e66 : ρ 43 = .bool (x11 == 0) := (hp 9 rfl).1
    refine WL.pass ((wanted_of rfl rfl (bool_tr e66 hc47)).trans rfl) rfl ?_
    exact WL.nil ⟨rfl, _, rfl, rfl, hs.cutG 0 0⟩ }
    {
    intro ρ w Γx Λx hs hu hp
    have e67 : ρ 44 = undef := (hp 10 rfl).1
    have e68 : ρ 46 = undef := (hp 12 rfl).1
    have e69 : ρ 43 = .bool (x11 == 0) := (hp 9 rfl).1
    refine WL.pass ((wanted_of rfl rfl (bool_tr e69 hc47)).trans rfl) rfl ?_
    exact WL.nil ⟨rfl, _, rfl, rfl, hs.cutG 0 0⟩ }
    {
    intro ρ w Γx Λx hs hu hp
    have e70 : ρ 47 = undef := (hp 13 rfl).1
    have e71 : ρ 43 = .bool (x11 == 0) := (hp 9 rfl).1
    refine WL.pass ((wanted_of rfl rfl (bool_tr e71 hc47)).trans rfl) rfl ?_
    exact WL.nil ⟨rfl, _, rfl, rfl, hs.cutG 0 0⟩ }
    {
    intro ρ w Γx Λx hs hu hp
    have e72 : ρ 48 = undef := (hp 14 rfl).1
    have e73 : ρ 43 = .bool (x11 == 0) := (hp 9 rfl).1
    refine WL.pass ((wanted_of rfl rfl (bool_tr e73 hc47)).trans rfl) rfl ?_
    exact WL.nil ⟨rfl, _, rfl, rfl, hs.cutG 0 0⟩ }
    {
    intro ρ w Γx Λx hs hu hp
    have e74 : ρ 43 = .bool (x11 == 0) := (hp 9 rfl).1
    refine WL.pass ((wanted_of rfl rfl (bool_tr e74 hc47)).trans rfl) rfl ?_
    exact WL.nil ⟨rfl, _, rfl, rfl, hs.cutG 0 0⟩ }
    {
    intro ρ w Γx Λx hs hu hp
    have e75 : ρ 43 = .bool (x11 == 0) := (hp 9 rfl).1
    refine WL.pass ((wanted_of rfl rfl (bool_tr e75 hc47)).trans rfl) rfl ?_
    exact WL.nil ⟨rfl, _, rfl, rfl, hs.cutG 0 0⟩ }
    {
    intro ρ w Γx Λx hs hu hp
    have e76 : ρ 50 = undef := (hp 16 rfl).1
    have e77 : ρ 51 = undef := (hp 17 rfl).1
    have e78 : ρ 43 = .bool (x11 == 0) := (hp 9 rfl).1
    refine WL.pass ((wanted_of rfl rfl (bool_tr e78 hc47)).trans rfl) rfl ?_
    exact WL.nil ⟨rfl, _, rfl, rfl, hs.cutG 0 0⟩ }
    {
    intro ρ w Γx Λx hs hu hp
    have e79 : ρ 52 = undef := (hp 18 rfl).1
    have e80 : ρ 43 = .bool (x11 == 0) := (hp 9 rfl).1
    refine WL.pass ((wanted_of rfl rfl (bool_tr e80 hc47)).trans rfl) rfl ?_
    exact WL.nil ⟨rfl, _, rfl, rfl, hs.cutG 0 0⟩ }
    {
    intro ρ w Γx Λx hs hu hp
    have e81 : ρ 53 = undef := (hp 19 rfl).1
    have e82 : ρ 43 = .bool (x11 == 0) := (hp 9 rfl).1
    refine WL.pass ((wanted_of rfl rfl (bool_tr e82 hc47)).trans rfl) rfl ?_
    exact WL.nil ⟨rfl, _, rfl, rfl, hs.cutG 0 0⟩ }
    {
    intro ρ w Γx Λx hs hu hp
    have e83 : ρ 49 = undef := (hp 15 rfl).1
    have e84 : ρ 54 = undef := (hp 20 rfl).1
    have e85 : ρ 43 = .bool (x11 == 0) := (hp 9 rfl).1
    refine WL.pass ((wanted_of rfl rfl (bool_tr e85 hc47)).trans rfl) rfl ?_
    exact WL.nil ⟨rfl, _, rfl, rfl, hs.cutG 0 0⟩ }
    {
    intro ρ w Γx Λx hs hu hp
    have e86 : ρ 43 = .bool (x11 == 0) := (hp 9 rfl).1
    have e87 : ρ 55 = undef := (hp 21 rfl).1
    have e88 : ρ 40 = .bool (decide (1 < x42.Seq)) := (hp 6 rfl).1
    refine WL.pickT (v := .bool true) (bool_tr e86 hc47) rfl ?_ (hg := (wanted_of rfl rfl (bool_tr e88 hc46)).trans rfl)
    exact WL.nil ⟨rfl, _, rfl, rfl, hs.cutG 0 0⟩ }
    {
    intro ρ w Γx Λx hs hu hp
    have e89 : ρ 56 = .bool true := (hp 22 rfl).1
    have e90 : ρ 40 = .bool (decide (1 < x42.Seq)) := (hp 6 rfl).1
    refine WL.move (v := .bool true) e89 ?_ (hg := (wanted_of rfl rfl (bool_tr e90 hc46)).trans rfl)
    exact WL.nil ⟨rfl, _, rfl, rfl, hs.cutG 0 0⟩ }
    {
    intro ρ w Γx Λx hs hu hp
    have e91 : ρ 57 = .bool true := (hp 23 rfl).1
    refine WL.pass ((wanted_of rfl rfl e91).trans rfl) rfl ?_
    exact WL.nil ⟨rfl, _, rfl, rfl, hs.cutG 0 0⟩ }
    {
    intro ρ w Γx Λx hs hu hp
    have e92 : ρ 57 = .bool true := (hp 23 rfl).1
    refine WL.pass ((wanted_of rfl rfl e92).trans rfl) rfl ?_
    exact WL.nil ⟨rfl, _, rfl, rfl, hs.cutG 0 0⟩ }
    {
    intro ρ w Γx Λx hs hu hp
    have e93 : ρ 59 = undef := (hp 25 rfl).1
    have e94 : ρ 57 = .bool true := (hp 23 rfl).1
    refine WL.pass ((wanted_of rfl rfl e94).trans rfl) rfl ?_
    exact WL.nil ⟨rfl, _, rfl, rfl, hs.cutG 0 0⟩ }
    {
    intro ρ w Γx Λx hs hu hp
    have e95 : ρ 58 = undef := (hp 24 rfl).1
    have e96 : ρ 60 = undef := (hp 26 rfl).1
    have e97 : ρ 57 = .bool true := (hp 23 rfl).1
    refine WL.pass ((wanted_of rfl rfl e97).trans rfl) rfl ?_
    exact WL.nil ⟨rfl, _, rfl, rfl, hs.cutG 0 0⟩ }
    {
    intro ρ w Γx Λx hs hu hp
    have e98 : ρ 61 = undef := (hp 27 rfl).1
    have e99 : ρ 57 = .bool true := (hp 23 rfl).1
    refine WL.pass ((wanted_of rfl rfl e99).trans rfl) rfl ?_
    exact WL.nil ⟨rfl, _, rfl, rfl, hs.cutG 0 0⟩ }
    {
    intro ρ w Γx Λx hs hu hp
    have e100 : ρ 62 = undef := (hp 28 rfl).1
    have e101 : ρ 57 = .bool true := (hp 23 rfl).1
    refine WL.pass ((wanted_of rfl rfl e101).trans rfl) rfl ?_
    exact WL.nil ⟨rfl, _, rfl, rfl, hs.cutG 0 0⟩ }
    {
    intro ρ w Γx Λx hs hu hp
    have e102 : ρ 57 = .bool true := (hp 23 rfl).1
    refine WL.pass ((wanted_of rfl rfl e102).trans rfl) rfl ?_
    exact WL.nil ⟨rfl, _, rfl, rfl, hs.cutG 0 0⟩ }
    {
    intro ρ w Γx Λx hs hu hp
    have e103 : ρ 57 = .bool true := (hp 23 rfl).1
    refine WL.pass ((wanted_of rfl rfl e103).trans rfl) rfl ?_
    exact WL.nil ⟨rfl, _, rfl, rfl, hs.cutG 0 0⟩ }
    {
    intro ρ w Γx Λx hs hu hp
    have e104 : ρ 64 = undef := (hp 30 rfl).1
    have e105 : ρ 65 = undef := (hp 31 rfl).1
    have e106 : ρ 57 = .bool true := (hp 23 rfl).1
    refine WL.pass ((wanted_of rfl rfl e106).trans rfl) rfl ?_
    exact WL.nil ⟨rfl, _, rfl, rfl, hs.cutG 0 0⟩ }
    {
    intro ρ w Γx Λx hs hu hp
    have e107 : ρ 66 = undef := (hp 32 rfl).1
    have e108 : ρ 57 = .bool true := (hp 23 rfl).1
    refine WL.pass ((wanted_of rfl rfl e108).trans rfl) rfl ?_
    exact WL.nil ⟨rfl, _, rfl, rfl, hs.cutG 0 0⟩ }
    {
    intro ρ w Γx Λx hs hu hp
    have e109 : ρ 67 = undef := (hp 33 rfl).1
    have e110 : ρ 57 = .bool true := (hp 23 rfl).1
    refine WL.pass ((wanted_of rfl rfl e110).trans rfl) rfl ?_
    exact WL.nil ⟨rfl, _, rfl, rfl, hs.cutG 0 0⟩ }
    {
    intro ρ w Γx Λx hs hu hp
    have e111 : ρ 68 = undef := (hp 34 rfl).1
    have e112 : ρ 57 = .bool true := (hp 23 rfl).1
    refine WL.pass ((wanted_of rfl rfl e112).trans rfl) rfl ?_
    exact WL.nil ⟨rfl, _, rfl, rfl, hs.cutG 0 0⟩ }
    {
    intro ρ w Γx Λx hs hu hp
    have e113 : ρ 63 = undef := (hp 29 rfl).1
    have e114 : ρ 69 = undef := (hp 35 rfl).1
    have e115 : ρ 57 = .bool true := (hp 23 rfl).1
    refine WL.pass ((wanted_of rfl rfl e115).trans rfl) rfl ?_
    exact WL.nil ⟨rfl, _, rfl, rfl, hs.cutG 0 0⟩ }
    {
    intro ρ w Γx Λx hs hu hp
    have e116 : ρ 57 = .bool true := (hp 23 rfl).1
    have e117 : ρ 70 = undef := (hp 36 rfl).1
    have e118 : ρ 40 = .bool (decide (1 < x42.Seq)) := (hp 6 rfl).1
    refine WL.pickT (v := .bool true) e116 rfl ?_ (hg := (wanted_of rfl rfl (bool_tr e118 hc46)).trans rfl)
    exact WL.nil ⟨rfl, _, rfl, rfl, hs.cutG 0 0⟩ }
    {
    intro ρ w Γx Λx hs hu hp
    have e119 : ρ 40 = .bool (decide (1 < x42.Seq)) := (hp 6 rfl).1
    have e120 : ρ 71 = .bool true := (hp 37 rfl).1
    refine WL.pickT (v := .bool true) (bool_tr e119 hc46) e120 ?_
    exact WL.nil ⟨rfl, _, rfl, rfl, hs.cutG 0 0⟩ }
    {
    intro ρ w hs hu121 hp
    obtain ⟨⟨⟨⟨⟨⟨⟨⟨⟨⟨⟨⟨⟨⟨⟨⟨⟨⟨⟨⟨⟨⟨⟨⟨⟨⟨⟨⟨⟨⟨⟨⟨⟨⟨⟨⟨⟨⟨⟨_, hp0_⟩, hp1_⟩, hp2_⟩, hp3_⟩, hp4_⟩, hp5_⟩, hp6_⟩, hp7_⟩, hp8_⟩, hp9_⟩, hp10_⟩, hp11_⟩, hp12_⟩, hp13_⟩, hp14_⟩, hp15_⟩, hp16_⟩, hp17_⟩, hp18_⟩, hp19_⟩, hp20_⟩, hp21_⟩, hp22_⟩, hp23_⟩, hp24_⟩, hp25_⟩, hp26_⟩, hp27_⟩, hp28_⟩, hp29_⟩, hp30_⟩, hp31_⟩, hp32_⟩, hp33_⟩, hp34_⟩, hp35_⟩, hp36_⟩, hp37_⟩, hp38_⟩ := hp
    have hs : St ok (bz w0) w [pl (tInt .i64) x42.Seq (adOf (ρ 37)), pl t_api_Update x42 (adOf (ρ 36)), vl (tSlice t_api_Update) x1 (.slice a2 x1.length c3)] [] := hs
    have e122 : ρ 72 = .bool true := hp38_
    have e123 : ρ 71 = .bool true := hp37_
    have e124 : ρ 70 = undef := hp36_
    have e125 : ρ 69 = undef := hp35_
    have e126 : ρ 68 = undef := hp34_
    have e127 : ρ 67 = undef := hp33_
    have e128 : ρ 66 = undef := hp32_
    have e129 : ρ 65 = undef := hp31_
    have e130 : ρ 64 = undef := hp30_
    have e131 : ρ 63 = undef := hp29_
    have e132 : ρ 62 = undef := hp28_
    have e133 : ρ 61 = undef := hp27_
    have e134 : ρ 60 = undef := hp26_
    have e135 : ρ 59 = undef := hp25_
    have e136 : ρ 58 = undef := hp24_
    have e137 : ρ 57 = .bool true := hp23_
    have e138 : ρ 56 = .bool true := hp22_
    have e139 : ρ 55 = undef := hp21_
    have e140 : ρ 54 = undef := hp20_
    have e141 : ρ 53 = undef := hp19_
    have e142 : ρ 52 = undef := hp18_
    have e143 : ρ 51 = undef := hp17_
    have e144 : ρ 50 = undef := hp16_
    have e145 : ρ 49 = undef := hp15_
    have e146 : ρ 48 = undef := hp14_
    have e147 : ρ 47 = undef := hp13_
    have e148 : ρ 46 = undef := hp12_
    have e149 : ρ 45 = undef := hp11_
    have e150 : ρ 44 = undef := hp10_
    have e151 : ρ 43 = .bool (x11 == 0) := hp9_
    have e152 : ρ 42 = .bool (x11 == 0) := hp8_
    have e153 : ρ 41 = .int .i64 x11 := hp7_
    have e154 : ρ 40 = .bool (decide (1 < x42.Seq)) := hp6_
    have e155 : ρ 39 = .bool (decide (1 < x42.Seq)) := hp5_
    have e156 : ρ 38 = .int .i64 x42.Seq := hp4_
    obtain ⟨ad157, e158⟩ := hp3_
    have e158 : ρ 37 = .pointer (some ad157) := e158
    try rw [e158] at hs
    obtain ⟨ad159, e160⟩ := hp2_
    have e160 : ρ 36 = .pointer (some ad159) := e160
    try rw [e160] at hs
    have e161 : ρ 35 = .int .i64 x11 := hp1_
    have e162 : ρ 34 = .slice a2 x1.length c3 := hp0_
    refine WA.done (by kernel_rfl) ?_
    exact Jk38 true _ _ ((hu121 0 rfl).trans h30_0) ((hu121 3 rfl).trans h30_3) e122 ((hs.mask []).pick [2]) hf } }
    {
    obtain ⟨x163, ex163, hf⟩ := letE hf
    obtain ⟨x164, hxx164, hf⟩ := bindE hf
    obtain ⟨x168, hxx168, hf⟩ := bindE hf
    rcases iteE hf with ⟨hc172, hf⟩ | ⟨hc172, hf⟩
    {
    refine W.any (by kernel_rfl) 39 0 [true, true, true, true, true, true, true, true, true, true, true, true, true, true, true, true, true, true, true, true, true, true, true, true, true, true, true, true, true, true, true, true, true, true, true, true, true, true, true] rfl rfl (poAt [pv (.slice a2 x1.length c3), pv (.int .i64 x11), pq (fun y : Addr => .pointer (some y)) (fun v => [pl t_api_Update x42 (adOf v)]) (fun v => []), pq (fun y : Addr => .pointer (some y)) (fun v => [pl (tInt .i64) x42.Seq (adOf v)]) (fun v => []), pv (.int .i64 x42.Seq), pv (.bool (decide (1 < x42.Seq))), pv (.bool (decide (1 < x42.Seq))), pv (.int .i64 x11), pv (.bool (x11 == 0)), pv (.bool (x11 == 0)), pv (.slice a2 x1.length c3), pv (.int .i64 x11), pv (.int .i64 x163), pq (fun y : Addr => .pointer (some y)) (fun v => [pl t_api_Update x164 (adOf v)]) (fun v => []), pq (fun y : Addr => .pointer (some y)) (fun v => [pl (tInt .i64) x164.Client (adOf v)]) (fun v => []), pv (.int .i64 x164.Client), pv (.slice a2 x1.length c3), pv (.int .i64 x11), pq (fun y : Addr => .pointer (some y)) (fun v => [pl t_api_Update x168 (adOf v)]) (fun v => []), pq (fun y : Addr => .pointer (some y)) (fun v => [pl (tInt .i64) x168.Client (adOf v)]) (fun v => []), pv (.int .i64 x168.Client), pv (.bool (x164.Client != x168.Client)), pv (.bool (x164.Client != x168.Client)), pv (.bool (x164.Client != x168.Client)), pv (undef), pv (undef), pv (undef), pv (undef), pv (undef), pv (undef), pv (undef), pv (undef), pv (undef), pv (undef), pv (undef), pv (undef), pv (undef), pv (.bool true), pv (.bool true)]) (Λ := []) hs (by kernel_rfl) (by kernel_rfl) (by kernel_rfl) ⟨⟨⟨⟨⟨⟨⟨⟨⟨⟨⟨⟨⟨⟨⟨⟨⟨⟨⟨⟨⟨⟨⟨⟨⟨⟨⟨⟨⟨⟨⟨⟨⟨⟨⟨⟨⟨⟨⟨trivial, ?_⟩, ?_⟩, ?_⟩, ?_⟩, ?_⟩, ?_⟩, ?_⟩, ?_⟩, ?_⟩, ?_⟩, ?_⟩, ?_⟩, ?_⟩, ?_⟩, ?_⟩, ?_⟩, ?_⟩, ?_⟩, ?_⟩, ?_⟩, ?_⟩, ?_⟩, ?_⟩, ?_⟩, ?_⟩, ?_⟩, ?_⟩, ?_⟩, ?_⟩, ?_⟩, ?_⟩, ?_⟩, ?_⟩, ?_⟩, ?_⟩, ?_⟩, ?_⟩, ?_⟩, ?_⟩ ?_
    {
    intro ρ w Γx Λx hs hu hp
    refine WL.move (v := .slice a2 x1.length c3) ((hu 0 rfl).trans h30_0) ?_
    exact WL.nil ⟨rfl, _, rfl, rfl, hs.cutG 0 0⟩ }
    {
    intro ρ w Γx Λx hs hu hp
    refine WL.move (v := .int .i64 x11) ((hu 3 rfl).trans h30_3) ?_
    exact WL.nil ⟨rfl, _, rfl, rfl, hs.cutG 0 0⟩ }
    {
    intro ρ w Γx Λx hs hu hp
    have e173 : ρ 34 = .slice a2 x1.length c3 := (hp 0 rfl).1
    have e174 : ρ 35 = .int .i64 x11 := (hp 1 rfl).1
    refine WL.indexAddr hs (Γx.length + 0) (getApp rfl) UN23 TI41 e173 e174 hxx42 (fun ad43 hs => ?_)
    have hs := hs.add (it := pl t_api_Update x42 ad43) fun ok hA => hA.get 0 rfl
    exact WL.nil ⟨rfl, _, rfl, ⟨ad43, rfl⟩, hs.cutG 1 1⟩ }
    {
    intro ρ w Γx Λx hs hu hp
    obtain ⟨⟨ad175, e176r⟩, hm177⟩ := hp 2 rfl
    have e176 : ρ 36 = .pointer (some ad175) := e176r
    rw [e176r] at hm177
    have hs := hs.memo1 (it := pl t_api_Update x42 ad175) (List.mem_append.2 (.inl (hm177 _ (List.mem_of_getElem? (i := 0) rfl))))
    refine WL.fieldAddrP (z := x42.Seq) F_api_Update_Seq hs 0 rfl e176 FA41_1 rfl (fun ad44 hs => ?_)
    have hs := hs.add (it := pl (tInt .i64) x42.Seq ad44) fun ok hA => hA.get 0 rfl
    exact WL.nil ⟨rfl, _, rfl, ⟨ad44, rfl⟩, hs.cutG 1 2⟩ }
    {
    intro ρ w Γx Λx hs hu hp
    obtain ⟨⟨ad178, e179r⟩, hm180⟩ := hp 3 rfl
    have e179 : ρ 37 = .pointer (some ad178) := e179r
    rw [e179r] at hm180
    have hs := hs.memo1 (it := pl (tInt .i64) x42.Seq ad178) (List.mem_append.2 (.inl (hm180 _ (List.mem_of_getElem? (i := 0) rfl))))
    refine WL.loadP hs 0 rfl TI3 (.inr rfl) e179 (fun v45 hs => ?_)
    obtain rfl := hs.int 0 rfl
    exact WL.nil ⟨rfl, _, rfl, rfl, hs.cutG 0 2⟩ }
    {
    intro ρ w Γx Λx hs hu hp
    have e181 : ρ 38 = .int .i64 x42.Seq := (hp 4 rfl).1
    refine WL.bin (v := .bool (decide (1 < x42.Seq))) e181 rfl (ib_gtr _ _ _) ?_
    exact WL.nil ⟨rfl, _, rfl, rfl, hs.cutG 0 0⟩ }
    {
    intro ρ w Γx Λx hs hu hp
    have e182 : ρ 39 = .bool (decide (1 < x42.Seq)) := (hp 5 rfl).1
    refine WL.move (v := .bool (decide (1 < x42.Seq))) e182 ?_
    exact WL.nil ⟨rfl, _, rfl, rfl, hs.cutG 0 0⟩ }
    {
    intro ρ w Γx Λx hs hu hp
    have e183 : ρ 40 = .bool (decide (1 < x42.Seq)) := (hp 6 rfl).1
    refine WL.move (v := .int .i64 x11) ((hu 3 rfl).trans h30_3) ?_ (hg := (wanted_of rfl rfl (bool_tr e183 hc46)).trans rfl)
    exact WL.nil ⟨rfl, _, rfl, rfl, hs.cutG 0 0⟩ }
    {
    intro ρ w Γx Λx hs hu hp
    have e184 : ρ 41 = .int .i64 x11 := (hp 7 rfl).1
    have e185 : ρ 40 = .bool (decide (1 < x42.Seq)) := (hp 6 rfl).1
    refine WL.bin (v := .bool (x11 == 0)) e184 rfl (ib_eql _ _ _) ?_ (hg := (wanted_of rfl rfl (bool_tr e185 hc46)).trans rfl)
    exact WL.nil ⟨rfl, _, rfl, rfl, hs.cutG 0 0⟩ }
    {
    intro ρ w Γx Λx hs hu hp
    have e186 : ρ 42 = .bool (x11 == 0) := (hp 8 rfl).1
    have e187 : ρ 40 = .bool (decide (1 < x42.Seq)) := (hp 6 rfl).1
    refine WL.move (v := .bool (x11 == 0)) e186 ?_ (hg := (wanted_of rfl rfl (bool_tr e187 hc46)).trans rfl)
    exact WL.nil ⟨rfl, _, rfl, rfl, hs.cutG 0 0⟩ }
    {
    intro ρ w Γx Λx hs hu hp
    have e188 : ρ 43 = .bool (x11 == 0) := (hp 9 rfl).1
    refine WL.move (v := .slice a2 x1.length c3) ((hu 0 rfl).trans h30_0) ?_ (hg := (wanted_of rfl rfl (bool_tr e188 hc47)).trans rfl)
    exact WL.nil ⟨rfl, _, rfl, rfl, hs.cutG 0 0⟩ }
    {
    intro ρ w Γx Λx hs hu hp
    have e189 : ρ 43 = .bool (x11 == 0) := (hp 9 rfl).1
    refine WL.move (v := .int .i64 x11) ((hu 3 rfl).trans h30_3) ?_ (hg := (wanted_of rfl rfl (bool_tr e189 hc47)).trans rfl)
    exact WL.nil ⟨rfl, _, rfl, rfl, hs.cutG 0 0⟩ }
    {
    intro ρ w Γx Λx hs hu hp
    have e190 : ρ 45 = .int .i64 x11 := (hp 11 rfl).1
    have e191 : ρ 43 = .bool (x11 == 0) := (hp 9 rfl).1
    refine WL.bin (v := .int .i64 x163) e190 rfl (ib_as ex163 (ib_sub _ _ _)) ?_ (hg := (wanted_of rfl rfl (bool_tr e191 hc47)).trans rfl)
    exact WL.nil ⟨rfl, _, rfl, rfl, hs.cutG 0 0⟩ }
    {
    intro ρ w Γx Λx hs hu hp
    have e192 : ρ 44 = .slice a2 x1.length c3 := (hp 10 rfl).1
    have e193 : ρ 46 = .int .i64 x163 := (hp 12 rfl).1
    have e194 : ρ 43 = .bool (x11 == 0) := (hp 9 rfl).1
    refine WL.indexAddr hs (Γx.length + 0) (getApp rfl) UN23 TI41 e192 e193 hxx164 (fun ad165 hs => ?_) (hg := (wanted_of rfl rfl (bool_tr e194 hc47)).trans rfl)
    have hs := hs.add (it := pl t_api_Update x164 ad165) fun ok hA => hA.get 0 rfl
    exact WL.nil ⟨rfl, _, rfl, ⟨ad165, rfl⟩, hs.cutG 1 1⟩ }
    {
    intro ρ w Γx Λx hs hu hp
    obtain ⟨⟨ad195, e196r⟩, hm197⟩ := hp 13 rfl
    have e196 : ρ 47 = .pointer (some ad195) := e196r
    rw [e196r] at hm197
    have hs := hs.memo1 (it := pl t_api_Update x164 ad195) (List.mem_append.2 (.inl (hm197 _ (List.mem_of_getElem? (i := 0) rfl))))
    have e198 : ρ 43 = .bool (x11 == 0) := (hp 9 rfl).1
    refine WL.fieldAddrP (z := x164.Client) F_api_Update_Client hs 0 rfl e196 FA41_0 rfl (fun ad166 hs => ?_) (hg := (wanted_of rfl rfl (bool_tr e198 hc47)).trans rfl)
    have hs := hs.add (it := pl (tInt .i64) x164.Client ad166) fun ok hA => hA.get 0 rfl
    exact WL.nil ⟨rfl, _, rfl, ⟨ad166, rfl⟩, hs.cutG 1 2⟩ }
    {
    intro ρ w Γx Λx hs hu hp
    obtain ⟨⟨ad199, e200r⟩, hm201⟩ := hp 14 rfl
    have e200 : ρ 48 = .pointer (some ad199) := e200r
    rw [e200r] at hm201
    have hs := hs.memo1 (it := pl (tInt .i64) x164.Client ad199) (List.mem_append.2 (.inl (hm201 _ (List.mem_of_getElem? (i := 0) rfl))))
    have e202 : ρ 43 = .bool (x11 == 0) := (hp 9 rfl).1
    refine WL.loadP hs 0 rfl TI3 (.inr rfl) e200 (fun v167 hs => ?_) (hg := (wanted_of rfl rfl (bool_tr e202 hc47)).trans rfl)
    obtain rfl := hs.int 0 rfl
    exact WL.nil ⟨rfl, _, rfl, rfl, hs.cutG 0 2⟩ }
    {
    intro ρ w Γx Λx hs hu hp
    have e203 : ρ 43 = .bool (x11 == 0) := (hp 9 rfl).1
    refine WL.move (v := .slice a2 x1.length c3) ((hu 0 rfl).trans h30_0) ?_ (hg := (wanted_of rfl rfl (bool_tr e203 hc47)).trans rfl)
    exact WL.nil ⟨rfl, _, rfl, rfl, hs.cutG 0 0⟩ }
    {
    intro ρ w Γx Λx hs hu hp
    have e204 : ρ 43 = .bool (x11 == 0) := (hp 9 rfl).1
    refine WL.move (v := .int .i64 x11) ((hu 3 rfl).trans h30_3) ?_ (hg := (wanted_of rfl rfl (bool_tr e204 hc47)).trans rfl)
    exact WL.nil ⟨rfl, _, rfl, rfl, hs.cutG 0 0⟩ }
    {
    intro ρ w Γx Λx hs hu hp
    have e205 : ρ 50 = .slice a2 x1.length c3 := (hp 16 rfl).1
    have e206 : ρ 51 = .int .i64 x11 := (hp 17 rfl).1
    have e207 : ρ 43 = .bool (x11 == 0) := (hp 9 rfl).1
    refine WL.indexAddr hs (Γx.length + 0) (getApp rfl) UN23 TI41 e205 e206 hxx168 (fun ad169 hs => ?_) (hg := (wanted_of rfl rfl (bool_tr e207 hc47)).trans rfl)
    have hs := hs.add (it := pl t_api_Update x168 ad169) fun ok hA => hA.get 0 rfl
    exact WL.nil ⟨rfl, _, rfl, ⟨ad169, rfl⟩, hs.cutG 1 1⟩ }
    {
    intro ρ w Γx Λx hs hu hp
    obtain ⟨⟨ad208, e209r⟩, hm210⟩ := hp 18 rfl
    have e209 : ρ 52 = .pointer (some ad208) := e209r
    rw [e209r] at hm210
    have hs := hs.memo1 (it := pl t_api_Update x168 ad208) (List.mem_append.2 (.inl (hm210 _ (List.mem_of_getElem? (i := 0) rfl))))
    have e211 : ρ 43 = .bool (x11 == 0) := (hp 9 rfl).1
    refine WL.fieldAddrP (z := x168.Client) F_api_Update_Client hs 0 rfl e209 FA41_0 rfl (fun ad170 hs => ?_) (hg := (wanted_of rfl rfl (bool_tr e211 hc47)).trans rfl)
    have hs := hs.add (it := pl (tInt .i64) x168.Client ad170) fun ok hA => hA.get 0 rfl
    exact WL.nil ⟨rfl, _, rfl, ⟨ad170, rfl⟩, hs.cutG 1 2⟩ }
    {
    intro ρ w Γx Λx hs hu hp
    obtain ⟨⟨ad212, e213r⟩, hm214⟩ := hp 19 rfl
    have e213 : ρ 53 = .pointer (some ad212) := e213r
    rw [e213r] at hm214
    have hs := hs.memo1 (it := pl (tInt .i64) x168.Client ad212) (List.mem_append.2 (.inl (hm214 _ (List.mem_of_getElem? (i := 0) rfl))))
    have e215 : ρ 43 = .bool (x11 == 0) := (hp 9 rfl).1
    refine WL.loadP hs 0 rfl TI3 (.inr rfl) e213 (fun v171 hs => ?_) (hg := (wanted_of rfl rfl (bool_tr e215 hc47)).trans rfl)
    obtain rfl := hs.int 0 rfl
    exact WL.nil ⟨rfl, _, rfl, rfl, hs.cutG 0 2⟩ }
    {
    intro ρ w Γx Λx hs hu hp
    have e216 : ρ 49 = .int .i64 x164.Client := (hp 15 rfl).1
    have e217 : ρ 54 = .int .i64 x168.Client := (hp 20 rfl).1
    have e218 : ρ 43 = .bool (x11 == 0) := (hp 9 rfl).1
    refine WL.bin (v := .bool (x164.Client != x168.Client)) e216 e217 (ib_neq _ _ _) ?_ (hg := (wanted_of rfl rfl (bool_tr e218 hc47)).trans rfl)
    exact WL.nil ⟨rfl, _, rfl, rfl, hs.cutG 0 0⟩ }
    {
    intro ρ w Γx Λx hs hu hp
    have e219 : ρ 43 = .bool (x11 == 0) := (hp 9 rfl).1
    have e220 : ρ 55 = .bool (x164.Client != x168.Client) := (hp 21 rfl).1
    have e221 : ρ 40 = .bool (decide (1 < x42.Seq)) := (hp 6 rfl).1
    refine WL.pickF (v := .bool (x164.Client != x168.Client)) (bool_tr e219 hc47) e220 ?_ (hg := (wanted_of rfl rfl (bool_tr e221 hc46)).trans rfl)
    exact WL.nil ⟨rfl, _, rfl, rfl, hs.cutG 0 0⟩ }
    {
    intro ρ w Γx Λx hs hu hp
    have e222 : ρ 56 = .bool (x164.Client != x168.Client) := (hp 22 rfl).1
    have e223 : ρ 40 = .bool (decide (1 < x42.Seq)) := (hp 6 rfl).1
    refine WL.move (v := .bool (x164.Client != x168.Client)) e222 ?_ (hg := (wanted_of rfl rfl (bool_tr e223 hc46)).trans rfl)
    exact WL.nil ⟨rfl, _, rfl, rfl, hs.cutG 0 0⟩ }
    {
    intro ρ w Γx Λx hs hu hp
    have e224 : ρ 57 = .bool (x164.Client != x168.Client) := (hp 23 rfl).1
    refine WL.pass ((wanted_of rfl rfl (bool_tr e224 hc172)).trans rfl) rfl ?_
    exact WL.nil ⟨rfl, _, rfl, rfl, hs.cutG 0 0⟩ }
    {
    intro ρ w Γx Λx hs hu hp
    have e225 : ρ 57 = .bool (x164.Client != x168.Client) := (hp 23 rfl).1
    refine WL.pass ((wanted_of rfl rfl (bool_tr e225 hc172)).trans rfl) rfl ?_
    exact WL.nil ⟨rfl, _, rfl, rfl, hs.cutG 0 0⟩ }
    {
    intro ρ w Γx Λx hs hu hp
    have e226 : ρ 59 = undef := (hp 25 rfl).1
    have e227 : ρ 57 = .bool (x164.Client != x168.Client) := (hp 23 rfl).1
    refine WL.pass ((wanted_of rfl rfl (bool_tr e227 hc172)).trans rfl) rfl ?_
    exact WL.nil ⟨rfl, _, rfl, rfl, hs.cutG 0 0⟩ }
    {
    intro ρ w Γx Λx hs hu hp
    have e228 : ρ 58 = undef := (hp 24 rfl).1
    have e229 : ρ 60 = undef := (hp 26 rfl).1
    have e230 : ρ 57 = .bool (x164.Client != x168.Client) := (hp 23 rfl).1
    refine WL.pass ((wanted_of rfl rfl (bool_tr e230 hc172)).trans rfl) rfl ?_
    exact WL.nil ⟨rfl, _, rfl, rfl, hs.cutG 0 0⟩ }
    {
    intro ρ w Γx Λx hs hu hp
    have e231 : ρ 61 = undef := (hp 27 rfl).1
    have e232 : ρ 57 = .bool (x164.Client != x168.Client) := (hp 23 rfl).1
    refine WL.pass ((wanted_of rfl rfl (bool_tr e232 hc172)).trans rfl) rfl ?_
    exact WL.nil ⟨rfl, _, rfl, rfl, hs.cutG 0 0⟩ }
    {
    intro ρ w Γx Λx hs hu hp
    have e233 : ρ 62 = undef := (hp 28 rfl).1
    have e234 : ρ 57 = .bool (x164.Client != x168.Client) := (hp 23 rfl).1
    refine WL.pass ((wanted_of rfl rfl (bool_tr e234 hc172)).trans rfl) rfl ?_
    exact WL.nil ⟨rfl, _, rfl, rfl, hs.cutG 0 0⟩ }
    {
    intro ρ w Γx Λx hs hu hp
    have e235 : ρ 57 = .bool (x164.Client != x168.Client) := (hp 23 rfl).1
    refine WL.pass ((wanted_of rfl rfl (bool_tr e235 hc172)).trans rfl) rfl ?_
    exact WL.nil ⟨rfl, _, rfl, rfl, hs.cutG 0 0⟩ }
    {
    intro ρ w Γx Λx hs hu hp
    have e236 : ρ 57 = .bool (x164.Client != x168.Client) := (hp 23 rfl).1
    refine WL.pass ((wanted_of rfl rfl (bool_tr e236 hc172)).trans rfl) rfl ?_
    exact WL.nil ⟨rfl, _, rfl, rfl, hs.cutG 0 0⟩ }
    {
    intro ρ w Γx Λx hs hu hp
    have e237 : ρ 64 = undef := (hp 30 rfl).1
    have e238 : ρ 65 = undef := (hp 31 rfl).1
    have e239 : ρ 57 = .bool (x164.Client != x168.Client) := (hp 23 rfl).1
    refine WL.pass ((wanted_of rfl rfl (bool_tr e239 hc172)).trans rfl) rfl ?_
    exact WL.nil ⟨rfl, _, rfl, rfl, hs.cutG 0 0⟩ }
    {
    intro ρ w Γx Λx hs hu hp
    have e240 : ρ 66 = undef := (hp 32 rfl).1
    have e241 : ρ 57 = .bool (x164.Client != x168.Client) := (hp 23 rfl).1
    refine WL.pass ((wanted_of rfl rfl (bool_tr e241 hc172)).trans rfl) rfl ?_
    exact WL.nil ⟨rfl, _, rfl, rfl, hs.cutG 0 0⟩ }
    {
    intro ρ w Γx Λx hs hu hp
    have e242 : ρ 67 = undef := (hp 33 rfl).1
    have e243 : ρ 57 = .bool (x164.Client != x168.Client) := (hp 23 rfl).1
    refine WL.pass ((wanted_of rfl rfl (bool_tr e243 hc172)).trans rfl) rfl ?_
    exact WL.nil ⟨rfl, _, rfl, rfl, hs.cutG 0 0⟩ }
    {
    intro ρ w Γx Λx hs hu hp
    have e244 : ρ 68 = undef := (hp 34 rfl).1
    have e245 : ρ 57 = .bool (x164.Client != x168.Client) := (hp 23 rfl).1
    refine WL.pass ((wanted_of rfl rfl (bool_tr e245 hc172)).trans rfl) rfl ?_
    exact WL.nil ⟨rfl, _, rfl, rfl, hs.cutG 0 0⟩ }
    {
    intro ρ w Γx Λx hs hu hp
    have e246 : ρ 63 = undef := (hp 29 rfl).1
    have e247 : ρ 69 = undef := (hp 35 rfl).1
    have e248 : ρ 57 = .bool (x164.Client != x168.Client) := (hp 23 rfl).1
    refine WL.pass ((wanted_of rfl rfl (bool_tr e248 hc172)).trans rfl) rfl ?_
    exact WL.nil ⟨rfl, _, rfl, rfl, hs.cutG 0 0⟩ }
    {
    intro ρ w Γx Λx hs hu hp
    have e249 : ρ 57 = .bool (x164.Client != x168.Client) := (hp 23 rfl).1
    have e250 : ρ 70 = undef := (hp 36 rfl).1
    have e251 : ρ 40 = .bool (decide (1 < x42.Seq)) := (hp 6 rfl).1
    refine WL.pickT (v := .bool true) (bool_tr e249 hc172) rfl ?_ (hg := (wanted_of rfl rfl (bool_tr e251 hc46)).trans rfl)
    exact WL.nil ⟨rfl, _, rfl, rfl, hs.cutG 0 0⟩ }
    {
    intro ρ w Γx Λx hs hu hp
    have e252 : ρ 40 = .bool (decide (1 < x42.Seq)) := (hp 6 rfl).1
    have e253 : ρ 71 = .bool true := (hp 37 rfl).1
    refine WL.pickT (v := .bool true) (bool_tr e252 hc46) e253 ?_
    exact WL.nil ⟨rfl, _, rfl, rfl, hs.cutG 0 0⟩ }
    {
    intro ρ w hs hu254 hp
    obtain ⟨⟨⟨⟨⟨⟨⟨⟨⟨⟨⟨⟨⟨⟨⟨⟨⟨⟨⟨⟨⟨⟨⟨⟨⟨⟨⟨⟨⟨⟨⟨⟨⟨⟨⟨⟨⟨⟨⟨_, hp0_⟩, hp1_⟩, hp2_⟩, hp3_⟩, hp4_⟩, hp5_⟩, hp6_⟩, hp7_⟩, hp8_⟩, hp9_⟩, hp10_⟩, hp11_⟩, hp12_⟩, hp13_⟩, hp14_⟩, hp15_⟩, hp16_⟩, hp17_⟩, hp18_⟩, hp19_⟩, hp20_⟩, hp21_⟩, hp22_⟩, hp23_⟩, hp24_⟩, hp25_⟩, hp26_⟩, hp27_⟩, hp28_⟩, hp29_⟩, hp30_⟩, hp31_⟩, hp32_⟩, hp33_⟩, hp34_⟩, hp35_⟩, hp36_⟩, hp37_⟩, hp38_⟩ := hp
    have hs : St ok (bz w0) w [pl (tInt .i64) x168.Client (adOf (ρ 53)), pl t_api_Update x168 (adOf (ρ 52)), pl (tInt .i64) x164.Client (adOf (ρ 48)), pl t_api_Update x164 (adOf (ρ 47)), pl (tInt .i64) x42.Seq (adOf (ρ 37)), pl t_api_Update x42 (adOf (ρ 36)), vl (tSlice t_api_Update) x1 (.slice a2 x1.length c3)] [] := hs
    have e255 : ρ 72 = .bool true := hp38_
    have e256 : ρ 71 = .bool true := hp37_
    have e257 : ρ 70 = undef := hp36_
    have e258 : ρ 69 = undef := hp35_
    have e259 : ρ 68 = undef := hp34_
    have e260 : ρ 67 = undef := hp33_
    have e261 : ρ 66 = undef := hp32_
    have e262 : ρ 65 = undef := hp31_
    have e263 : ρ 64 = undef := hp30_
    have e264 : ρ 63 = undef := hp29_
    have e265 : ρ 62 = undef := hp28_
    have e266 : ρ 61 = undef := hp27_
    have e267 : ρ 60 = undef := hp26_
    have e268 : ρ 59 = undef := hp25_
    have e269 : ρ 58 = undef := hp24_
    have e270 : ρ 57 = .bool (x164.Client != x168.Client) := hp23_
    have e271 : ρ 56 = .bool (x164.Client != x168.Client) := hp22_
    have e272 : ρ 55 = .bool (x164.Client != x168.Client) := hp21_
    have e273 : ρ 54 = .int .i64 x168.Client := hp20_
    obtain ⟨ad274, e275⟩ := hp19_
    have e275 : ρ 53 = .pointer (some ad274) := e275
    try rw [e275] at hs
    obtain ⟨ad276, e277⟩ := hp18_
    have e277 : ρ 52 = .pointer (some ad276) := e277
    try rw [e277] at hs
    have e278 : ρ 51 = .int .i64 x11 := hp17_
    have e279 : ρ 50 = .slice a2 x1.length c3 := hp16_
    have e280 : ρ 49 = .int .i64 x164.Client := hp15_
    obtain ⟨ad281, e282⟩ := hp14_
    have e282 : ρ 48 = .pointer (some ad281) := e282
    try rw [e282] at hs
    obtain ⟨ad283, e284⟩ := hp13_
    have e284 : ρ 47 = .pointer (some ad283) := e284
    try rw [e284] at hs
    have e285 : ρ 46 = .int .i64 x163 := hp12_
    have e286 : ρ 45 = .int .i64 x11 := hp11_
    have e287 : ρ 44 = .slice a2 x1.length c3 := hp10_
    have e288 : ρ 43 = .bool (x11 == 0) := hp9_
    have e289 : ρ 42 = .bool (x11 == 0) := hp8_
    have e290 : ρ 41 = .int .i64 x11 := hp7_
    have e291 : ρ 40 = .bool (decide (1 < x42.Seq)) := hp6_
    have e292 : ρ 39 = .bool (decide (1 < x42.Seq)) := hp5_
    have e293 : ρ 38 = .int .i64 x42.Seq := hp4_
    obtain ⟨ad294, e295⟩ := hp3_
    have e295 : ρ 37 = .pointer (some ad294) := e295
    try rw [e295] at hs
    obtain ⟨ad296, e297⟩ := hp2_
    have e297 : ρ 36 = .pointer (some ad296) := e297
    try rw [e297] at hs
    have e298 : ρ 35 = .int .i64 x11 := hp1_
    have e299 : ρ 34 = .slice a2 x1.length c3 := hp0_
    refine WA.done (by kernel_rfl) ?_
    exact Jk38 true _ _ ((hu254 0 rfl).trans h30_0) ((hu254 3 rfl).trans h30_3) e255 ((hs.mask []).pick [6]) hf } }
    {
    obtain ⟨x300, ex300, hf⟩ := letE hf
    obtain ⟨x301, hxx301, hf⟩ := bindE hf
    obtain ⟨x305, hxx305, hf⟩ := bindE hf
    obtain ⟨x309, ex309, hf⟩ := letE hf
    refine W.any (by kernel_rfl) 39 0 [true, true, true, true, true, true, true, true, true, true, true, true, true, true, true, true, true, true, true, true, true, true, true, true, true, true, true, true, true, true, true, true, true, true, true, true, true, true, true] rfl rfl (poAt [pv (.slice a2 x1.length c3), pv (.int .i64 x11), pq (fun y : Addr => .pointer (some y)) (fun v => [pl t_api_Update x42 (adOf v)]) (fun v => []), pq (fun y : Addr => .pointer (some y)) (fun v => [pl (tInt .i64) x42.Seq (adOf v)]) (fun v => []), pv (.int .i64 x42.Seq), pv (.bool (decide (1 < x42.Seq))), pv (.bool (decide (1 < x42.Seq))), pv (.int .i64 x11), pv (.bool (x11 == 0)), pv (.bool (x11 == 0)), pv (.slice a2 x1.length c3), pv (.int .i64 x11), pv (.int .i64 x163), pq (fun y : Addr => .pointer (some y)) (fun v => [pl t_api_Update x164 (adOf v)]) (fun v => []), pq (fun y : Addr => .pointer (some y)) (fun v => [pl (tInt .i64) x164.Client (adOf v)]) (fun v => []), pv (.int .i64 x164.Client), pv (.slice a2 x1.length c3), pv (.int .i64 x11), pq (fun y : Addr => .pointer (some y)) (fun v => [pl t_api_Update x168 (adOf v)]) (fun v => []), pq (fun y : Addr => .pointer (some y)) (fun v => [pl (tInt .i64) x168.Client (adOf v)]) (fun v => []), pv (.int .i64 x168.Client), pv (.bool (x164.Client != x168.Client)), pv (.bool (x164.Client != x168.Client)), pv (.bool (x164.Client != x168.Client)), pv (.slice a2 x1.length c3), pv (.int .i64 x11), pv (.int .i64 x300), pq (fun y : Addr => .pointer (some y)) (fun v => [pl t_api_Update x301 (adOf v)]) (fun v => []), pq (fun y : Addr => .pointer (some y)) (fun v => [pl (tInt .i64) x301.Seq (adOf v)]) (fun v => []), pv (.int .i64 x301.Seq), pv (.slice a2 x1.length c3), pv (.int .i64 x11), pq (fun y : Addr => .pointer (some y)) (fun v => [pl t_api_Update x305 (adOf v)]) (fun v => []), pq (fun y : Addr => .pointer (some y)) (fun v => [pl (tInt .i64) x305.Seq (adOf v)]) (fun v => []), pv (.int .i64 x305.Seq), pv (.int .i64 x309), pv (.bool (x301.Seq != x309)), pv (.bool (x301.Seq != x309)), pv (.bool (x301.Seq != x309))]) (Λ := []) hs (by kernel_rfl) (by kernel_rfl) (by kernel_rfl) ⟨⟨⟨⟨⟨⟨⟨⟨⟨⟨⟨⟨⟨⟨⟨⟨⟨⟨⟨⟨⟨⟨⟨⟨⟨⟨⟨⟨⟨⟨⟨⟨⟨⟨⟨⟨⟨⟨⟨trivial, ?_⟩, ?_⟩, ?_⟩, ?_⟩, ?_⟩, ?_⟩, ?_⟩, ?_⟩, ?_⟩, ?_⟩, ?_⟩, ?_⟩, ?_⟩, ?_⟩, ?_⟩, ?_⟩, ?_⟩, ?_⟩, ?_⟩, ?_⟩, ?_⟩, ?_⟩, ?_⟩, ?_⟩, ?_⟩, ?_⟩, ?_⟩, ?_⟩, ?_⟩, ?_⟩, ?_⟩, ?_⟩, ?_⟩, ?_⟩, ?_⟩, ?_⟩, ?_⟩, ?_⟩, ?_⟩ ?_
    {
    intro ρ w Γx Λx hs hu hp
    refine WL.move (v := .slice a2 x1.length c3) ((hu 0 rfl).trans h30_0) ?_
    exact WL.nil ⟨rfl, _, rfl, rfl, hs.cutG 0 0⟩ }
    {
    intro ρ w Γx Λx hs hu hp
    refine WL.move (v := .int .i64 x11) ((hu 3 rfl).trans h30_3) ?_
    exact WL.nil ⟨rfl, _, rfl, rfl, hs.cutG 0 0⟩ }
    {
    intro ρ w Γx Λx hs hu hp
    have e310 : ρ 34 = .slice a2 x1.length c3 := (hp 0 rfl).1
    have e311 : ρ 35 = .int .i64 x11 := (hp 1 rfl).1
    refine WL.indexAddr hs (Γx.length + 0) (getApp rfl) UN23 TI41 e310 e311 hxx42 (fun ad43 hs => ?_)
    have hs := hs.add (it := pl t_api_Update x42 ad43) fun ok hA => hA.get 0 rfl
    exact WL.nil ⟨rfl, _, rfl, ⟨ad43, rfl⟩, hs.cutG 1 1⟩ }
    {
    intro ρ w Γx Λx hs hu hp
    obtain ⟨⟨ad312, e313r⟩, hm314⟩ := hp 2 rfl
    have e313 : ρ 36 = .pointer (some ad312) := e313r
    rw [e313r] at hm314
    have hs := hs.memo1 (it := pl t_api_Update x42 ad312) (List.mem_append.2 (.inl (hm314 _ (List.mem_of_getElem? (i := 0) rfl))))
    refine WL.fieldAddrP (z := x42.Seq) F_api_Update_Seq hs 0 rfl e313 FA41_1 rfl (fun ad44 hs => ?_)
    have hs := hs.add (it := pl (tInt .i64) x42.Seq ad44) fun ok hA => hA.get 0 rfl
    exact WL.nil ⟨rfl, _, rfl, ⟨ad44, rfl⟩, hs.cutG 1 2⟩ }
    {
    intro ρ w Γx Λx hs hu hp
    obtain ⟨⟨ad315, e316r⟩, hm317⟩ := hp 3 rfl
    have e316 : ρ 37 = .pointer (some ad315) := e316r
    rw [e316r] at hm317
    have hs := hs.memo1 (it := pl (tInt .i64) x42.Seq ad315) (List.mem_append.2 (.inl (hm317 _ (List.mem_of_getElem? (i := 0) rfl))))
    refine WL.loadP hs 0 rfl TI3 (.inr rfl) e316 (fun v45 hs => ?_)
    obtain rfl := hs.int 0 rfl
    exact WL.nil ⟨rfl, _, rfl, rfl, hs.cutG 0 2⟩ }
    {
    intro ρ w Γx Λx hs hu hp
    have e318 : ρ 38 = .int .i64 x42.Seq := (hp 4 rfl).1
    refine WL.bin (v := .bool (decide (1 < x42.Seq))) e318 rfl (ib_gtr _ _ _) ?_
    exact WL.nil ⟨rfl, _, rfl, rfl, hs.cutG 0 0⟩ }
    {
    intro ρ w Γx Λx hs hu hp
    have e319 : ρ 39 = .bool (decide (1 < x42.Seq)) := (hp 5 rfl).1
    refine WL.move (v := .bool (decide (1 < x42.Seq))) e319 ?_
    exact WL.nil ⟨rfl, _, rfl, rfl, hs.cutG 0 0⟩ }
    {
    intro ρ w Γx Λx hs hu hp
    have e320 : ρ 40 = .bool (decide (1 < x42.Seq)) := (hp 6 rfl).1
    refine WL.move (v := .int .i64 x11) ((hu 3 rfl).trans h30_3) ?_ (hg := (wanted_of rfl rfl (bool_tr e320 hc46)).trans rfl)
    exact WL.nil ⟨rfl, _, rfl, rfl, hs.cutG 0 0⟩ }
    {
    intro ρ w Γx Λx hs hu hp
    have e321 : ρ 41 = .int .i64 x11 := (hp 7 rfl).1
    have e322 : ρ 40 = .bool (decide (1 < x42.Seq)) := (hp 6 rfl).1
    refine WL.bin (v := .bool (x11 == 0)) e321 rfl (ib_eql _ _ _) ?_ (hg := (wanted_of rfl rfl (bool_tr e322 hc46)).trans rfl)
    exact WL.nil ⟨rfl, _, rfl, rfl, hs.cutG 0 0⟩ }
    {
    intro ρ w Γx Λx hs hu hp
    have e323 : ρ 42 = .bool (x11 == 0) := (hp 8 rfl).1
    have e324 : ρ 40 = .bool (decide (1 < x42.Seq)) := (hp 6 rfl).1
    refine WL.move (v := .bool (x11 == 0)) e323 ?_ (hg := (wanted_of rfl rfl (bool_tr e324 hc46)).trans rfl)
    exact WL.nil ⟨rfl, _, rfl, rfl, hs.cutG 0 0⟩ }
    {
    intro ρ w Γx Λx hs hu hp
    have e325 : ρ 43 = .bool (x11 == 0) := (hp 9 rfl).1
    refine WL.move (v := .slice a2 x1.length c3) ((hu 0 rfl).trans h30_0) ?_ (hg := (wanted_of rfl rfl (bool_tr e325 hc47)).trans rfl)
    exact WL.nil ⟨rfl, _, rfl, rfl, hs.cutG 0 0⟩ }
    {
    intro ρ w Γx Λx hs hu hp
    have e326 : ρ 43 = .bool (x11 == 0) := (hp 9 rfl).1
    refine WL.move (v := .int .i64 x11) ((hu 3 rfl).trans h30_3) ?_ (hg := (wanted_of rfl rfl (bool_tr e326 hc47)).trans rfl)
    exact WL.nil ⟨rfl, _, rfl, rfl, hs.cutG 0 0⟩ }
    {
    intro ρ w Γx Λx hs hu hp
    have e327 : ρ 45 = .int .i64 x11 := (hp 11 rfl).1
    have e328 : ρ 43 = .bool (x11 == 0) := (hp 9 rfl).1
    refine WL.bin (v := .int .i64 x163) e327 rfl (ib_as ex163 (ib_sub _ _ _)) ?_ (hg := (wanted_of rfl rfl (bool_tr e328 hc47)).trans rfl)
    exact WL.nil ⟨rfl, _, rfl, rfl, hs.cutG 0 0⟩ }
    {
    intro ρ w Γx Λx hs hu hp
    have e329 : ρ 44 = .slice a2 x1.length c3 := (hp 10 rfl).1
    have e330 : ρ 46 = .int .i64 x163 := (hp 12 rfl).1
    have e331 : ρ 43 = .bool (x11 == 0) := (hp 9 rfl).1
    refine WL.indexAddr hs (Γx.length + 0) (getApp rfl) UN23 TI41 e329 e330 hxx164 (fun ad165 hs => ?_) (hg := (wanted_of rfl rfl (bool_tr e331 hc47)).trans rfl)
    have hs := hs.add (it := pl t_api_Update x164 ad165) fun ok hA => hA.get 0 rfl
    exact WL.nil ⟨rfl, _, rfl, ⟨ad165, rfl⟩, hs.cutG 1 1⟩ }
    {
    intro ρ w Γx Λx hs hu hp
    obtain ⟨⟨ad332, e333r⟩, hm334⟩ := hp 13 rfl
    have e333 : ρ 47 = .pointer (some ad332) := e333r
    rw [e333r] at hm334
    have hs := hs.memo1 (it := pl t_api_Update x164 ad332) (List.mem_append.2 (.inl (hm334 _ (List.mem_of_getElem? (i := 0) rfl))))
    have e335 : ρ 43 = .bool (x11 == 0) := (hp 9 rfl).1
    refine WL.fieldAddrP (z := x164.Client) F_api_Update_Client hs 0 rfl e333 FA41_0 rfl (fun ad166 hs => ?_) (hg := (wanted_of rfl rfl (bool_tr e335 hc47)).trans rfl)
    have hs := hs.add (it := pl (tInt .i64) x164.Client ad166) fun ok hA => hA.get 0 rfl
    exact WL.nil ⟨rfl, _, rfl, ⟨ad166, rfl⟩, hs.cutG 1 2⟩ }
    {
    intro ρ w Γx Λx hs hu hp
    obtain ⟨⟨ad336, e337r⟩, hm338⟩ := hp 14 rfl
    have e337 : ρ 48 = .pointer (some ad336) := e337r
    rw [e337r] at hm338
    have hs := hs.memo1 (it := pl (tInt .i64) x164.Client ad336) (List.mem_append.2 (.inl (hm338 _ (List.mem_of_getElem? (i := 0) rfl))))
    have e339 : ρ 43 = .bool (x11 == 0) := (hp 9 rfl).1
    refine WL.loadP hs 0 rfl TI3 (.inr rfl) e337 (fun v167 hs => ?_) (hg := (wanted_of rfl rfl (bool_tr e339 hc47)).trans rfl)
    obtain rfl := hs.int 0 rfl
    exact WL.nil ⟨rfl, _, rfl, rfl, hs.cutG 0 2⟩ }
    {
    intro ρ w Γx Λx hs hu hp
    have e340 : ρ 43 = .bool (x11 == 0) := (hp 9 rfl).1
    refine WL.move (v := .slice a2 x1.length c3) ((hu 0 rfl).trans h30_0) ?_ (hg := (wanted_of rfl rfl (bool_tr e340 hc47)).trans rfl)
    exact WL.nil ⟨rfl, _, rfl, rfl, hs.cutG 0 0⟩ }
    {
    intro ρ w Γx Λx hs hu hp
    have e341 : ρ 43 = .bool (x11 == 0) := (hp 9 rfl).1
    refine WL.move (v := .int .i64 x11) ((hu 3 rfl).trans h30_3) ?_ (hg := (wanted_of rfl rfl (bool_tr e341 hc47)).trans rfl)
    exact WL.nil ⟨rfl, _, rfl, rfl, hs.cutG 0 0⟩ }
    {
    intro ρ w Γx Λx hs hu hp
    have e342 : ρ 50 = .slice a2 x1.length c3 := (hp 16 rfl).1
    have e343 : ρ 51 = .int .i64 x11 := (hp 17 rfl).1
    have e344 : ρ 43 = .bool (x11 == 0) := (hp 9 rfl).1
    refine WL.indexAddr hs (Γx.length + 0) (getApp rfl) UN23 TI41 e342 e343 hxx168 (fun ad169 hs => ?_) (hg := (wanted_of rfl rfl (bool_tr e344 hc47)).trans rfl)
    have hs := hs.add (it := pl t_api_Update x168 ad169) fun ok hA => hA.get 0 rfl
    exact WL.nil ⟨rfl, _, rfl, ⟨ad169, rfl⟩, hs.cutG 1 1⟩ }
    {
    intro ρ w Γx Λx hs hu hp
    obtain ⟨⟨ad345, e346r⟩, hm347⟩ := hp 18 rfl
    have e346 : ρ 52 = .pointer (some ad345) := e346r
    rw [e346r] at hm347
    have hs := hs.memo1 (it := pl t_api_Update x168 ad345) (List.mem_append.2 (.inl (hm347 _ (List.mem_of_getElem? (i := 0) rfl))))
    have e348 : ρ 43 = .bool (x11 == 0) := (hp 9 rfl).1
    refine WL.fieldAddrP (z := x168.Client) F_api_Update_Client hs 0 rfl e346 FA41_0 rfl (fun ad170 hs => ?_) (hg := (wanted_of rfl rfl (bool_tr e348 hc47)).trans rfl)
    have hs := hs.add (it := pl (tInt .i64) x168.Client ad170) fun ok hA => hA.get 0 rfl
    exact WL.nil ⟨rfl, _, rfl, ⟨ad170, rfl⟩, hs.cutG 1 2⟩ }
    {
    intro ρ w Γx Λx hs hu hp
    obtain ⟨⟨ad349, e350r⟩, hm351⟩ := hp 19 rfl
    have e350 : ρ 53 = .pointer (some ad349) := e350r
    rw [e350r] at hm351
    have hs := hs.memo1 (it := pl (tInt .i64) x168.Client ad349) (List.mem_append.2 (.inl (hm351 _ (List.mem_of_getElem? (i := 0) rfl))))
    have e352 : ρ 43 = .bool (x11 == 0) := (hp 9 rfl).1
    refine WL.loadP hs 0 rfl TI3 (.inr rfl) e350 (fun v171 hs => ?_) (hg := (wanted_of rfl rfl (bool_tr e352 hc47)).trans rfl)
    obtain rfl := hs.int 0 rfl
    exact WL.nil ⟨rfl, _, rfl, rfl, hs.cutG 0 2⟩ }
    {
    intro ρ w Γx Λx hs hu hp
    have e353 : ρ 49 = .int .i64 x164.Client := (hp 15 rfl).1
    have e354 : ρ 54 = .int .i64 x168.Client := (hp 20 rfl).1
    have e355 : ρ 43 = .bool (x11 == 0) := (hp 9 rfl).1
    refine WL.bin (v := .bool (x164.Client != x168.Client)) e353 e354 (ib_neq _ _ _) ?_ (hg := (wanted_of rfl rfl (bool_tr e355 hc47)).trans rfl)
    exact WL.nil ⟨rfl, _, rfl, rfl, hs.cutG 0 0⟩ }
    {
    intro ρ w Γx Λx hs hu hp
    have e356 : ρ 43 = .bool (x11 == 0) := (hp 9 rfl).1
    have e357 : ρ 55 = .bool (x164.Client != x168.Client) := (hp 21 rfl).1
    have e358 : ρ 40 = .bool (decide (1 < x42.Seq)) := (hp 6 rfl).1
    refine WL.pickF (v := .bool (x164.Client != x168.Client)) (bool_tr e356 hc47) e357 ?_ (hg := (wanted_of rfl rfl (bool_tr e358 hc46)).trans rfl)
    exact WL.nil ⟨rfl, _, rfl, rfl, hs.cutG 0 0⟩ }
    {
    intro ρ w Γx Λx hs hu hp
    have e359 : ρ 56 = .bool (x164.Client != x168.Client) := (hp 22 rfl).1
    have e360 : ρ 40 = .bool (decide (1 < x42.Seq)) := (hp 6 rfl).1
    refine WL.move (v := .bool (x164.Client != x168.Client)) e359 ?_ (hg := (wanted_of rfl rfl (bool_tr e360 hc46)).trans rfl)
    exact WL.nil ⟨rfl, _, rfl, rfl, hs.cutG 0 0⟩ }
    {
    intro ρ w Γx Λx hs hu hp
    have e361 : ρ 57 = .bool (x164.Client != x168.Client) := (hp 23 rfl).1
    refine WL.move (v := .slice a2 x1.length c3) ((hu 0 rfl).trans h30_0) ?_ (hg := (wanted_of rfl rfl (bool_tr e361 hc172)).trans rfl)
    exact WL.nil ⟨rfl, _, rfl, rfl, hs.cutG 0 0⟩ }
    {
    intro ρ w Γx Λx hs hu hp
    have e362 : ρ 57 = .bool (x164.Client != x168.Client) := (hp 23 rfl).1
    refine WL.move (v := .int .i64 x11) ((hu 3 rfl).trans h30_3) ?_ (hg := (wanted_of rfl rfl (bool_tr e362 hc172)).trans rfl)
    exact WL.nil ⟨rfl, _, rfl, rfl, hs.cutG 0 0⟩ }
    {
    intro ρ w Γx Λx hs hu hp
    have e363 : ρ 59 = .int .i64 x11 := (hp 25 rfl).1
    have e364 : ρ 57 = .bool (x164.Client != x168.Client) := (hp 23 rfl).1
    refine WL.bin (v := .int .i64 x300) e363 rfl (ib_as ex300 (ib_sub _ _ _)) ?_ (hg := (wanted_of rfl rfl (bool_tr e364 hc172)).trans rfl)
    exact WL.nil ⟨rfl, _, rfl, rfl, hs.cutG 0 0⟩ }
    {
    intro ρ w Γx Λx hs hu hp
    have e365 : ρ 58 = .slice a2 x1.length c3 := (hp 24 rfl).1
    have e366 : ρ 60 = .int .i64 x300 := (hp 26 rfl).1
    have e367 : ρ 57 = .bool (x164.Client != x168.Client) := (hp 23 rfl).1
    refine WL.indexAddr hs (Γx.length + 0) (getApp rfl) UN23 TI41 e365 e366 hxx301 (fun ad302 hs => ?_) (hg := (wanted_of rfl rfl (bool_tr e367 hc172)).trans rfl)
    have hs := hs.add (it := pl t_api_Update x301 ad302) fun ok hA => hA.get 0 rfl
    exact WL.nil ⟨rfl, _, rfl, ⟨ad302, rfl⟩, hs.cutG 1 1⟩ }
    {
    intro ρ w Γx Λx hs hu hp
    obtain ⟨⟨ad368, e369r⟩, hm370⟩ := hp 27 rfl
    have e369 : ρ 61 = .pointer (some ad368) := e369r
    rw [e369r] at hm370
    have hs := hs.memo1 (it := pl t_api_Update x301 ad368) (List.mem_append.2 (.inl (hm370 _ (List.mem_of_getElem? (i := 0) rfl))))
    have e371 : ρ 57 = .bool (x164.Client != x168.Client) := (hp 23 rfl).1
    refine WL.fieldAddrP (z := x301.Seq) F_api_Update_Seq hs 0 rfl e369 FA41_1 rfl (fun ad303 hs => ?_) (hg := (wanted_of rfl rfl (bool_tr e371 hc172)).trans rfl)
    have hs := hs.add (it := pl (tInt .i64) x301.Seq ad303) fun ok hA => hA.get 0 rfl
    exact WL.nil ⟨rfl, _, rfl, ⟨ad303, rfl⟩, hs.cutG 1 2⟩ }
    {
    intro ρ w Γx Λx hs hu hp
    obtain ⟨⟨ad372, e373r⟩, hm374⟩ := hp 28 rfl
    have e373 : ρ 62 = .pointer (some ad372) := e373r
    rw [e373r] at hm374
    have hs := hs.memo1 (it := pl (tInt .i64) x301.Seq ad372) (List.mem_append.2 (.inl (hm374 _ (List.mem_of_getElem? (i := 0) rfl))))
    have e375 : ρ 57 = .bool (x164.Client != x168.Client) := (hp 23 rfl).1
    refine WL.loadP hs 0 rfl TI3 (.inr rfl) e373 (fun v304 hs => ?_) (hg := (wanted_of rfl rfl (bool_tr e375 hc172)).trans rfl)
    obtain rfl := hs.int 0 rfl
    exact WL.nil ⟨rfl, _, rfl, rfl, hs.cutG 0 2⟩ }
    {
    intro ρ w Γx Λx hs hu hp
    have e376 : ρ 57 = .bool (x164.Client != x168.Client) := (hp 23 rfl).1
    refine WL.move (v := .slice a2 x1.length c3) ((hu 0 rfl).trans h30_0) ?_ (hg := (wanted_of rfl rfl (bool_tr e376 hc172)).trans rfl)
    exact WL.nil ⟨rfl, _, rfl, rfl, hs.cutG 0 0⟩ }
    {
    intro ρ w Γx Λx hs hu hp
    have e377 : ρ 57 = .bool (x164.Client != x168.Client) := (hp 23 rfl).1
    refine WL.move (v := .int .i64 x11) ((hu 3 rfl).trans h30_3) ?_ (hg := (wanted_of rfl rfl (bool_tr e377 hc172)).trans rfl)
    exact WL.nil ⟨rfl, _, rfl, rfl, hs.cutG 0 0⟩ }
    {
    intro ρ w Γx Λx hs hu hp
    have e378 : ρ 64 = .slice a2 x1.length c3 := (hp 30 rfl).1
    have e379 : ρ 65 = .int .i64 x11 := (hp 31 rfl).1
    have e380 : ρ 57 = .bool (x164.Client != x168.Client) := (hp 23 rfl).1
    refine WL.indexAddr hs (Γx.length + 0) (getApp rfl) UN23 TI41 e378 e379 hxx305 (fun ad306 hs => ?_) (hg := (wanted_of rfl rfl (bool_tr e380 hc172)).trans rfl)
    have hs := hs.add (it := pl t_api_Update x305 ad306) fun ok hA => hA.get 0 rfl
    exact WL.nil ⟨rfl, _, rfl, ⟨ad306, rfl⟩, hs.cutG 1 1⟩ }
    {
    intro ρ w Γx Λx hs hu hp
    obtain ⟨⟨ad381, e382r⟩, hm383⟩ := hp 32 rfl
    have e382 : ρ 66 = .pointer (some ad381) := e382r
    rw [e382r] at hm383
    have hs := hs.memo1 (it := pl t_api_Update x305 ad381) (List.mem_append.2 (.inl (hm383 _ (List.mem_of_getElem? (i := 0) rfl))))
    have e384 : ρ 57 = .bool (x164.Client != x168.Client) := (hp 23 rfl).1
    refine WL.fieldAddrP (z := x305.Seq) F_api_Update_Seq hs 0 rfl e382 FA41_1 rfl (fun ad307 hs => ?_) (hg := (wanted_of rfl rfl (bool_tr e384 hc172)).trans rfl)
    have hs := hs.add (it := pl (tInt .i64) x305.Seq ad307) fun ok hA => hA.get 0 rfl
    exact WL.nil ⟨rfl, _, rfl, ⟨ad307, rfl⟩, hs.cutG 1 2⟩ }
    {
    intro ρ w Γx Λx hs hu hp
    obtain ⟨⟨ad385, e386r⟩, hm387⟩ := hp 33 rfl
    have e386 : ρ 67 = .pointer (some ad385) := e386r
    rw [e386r] at hm387
    have hs := hs.memo1 (it := pl (tInt .i64) x305.Seq ad385) (List.mem_append.2 (.inl (hm387 _ (List.mem_of_getElem? (i := 0) rfl))))
    have e388 : ρ 57 = .bool (x164.Client != x168.Client) := (hp 23 rfl).1
    refine WL.loadP hs 0 rfl TI3 (.inr rfl) e386 (fun v308 hs => ?_) (hg := (wanted_of rfl rfl (bool_tr e388 hc172)).trans rfl)
    obtain rfl := hs.int 0 rfl
    exact WL.nil ⟨rfl, _, rfl, rfl, hs.cutG 0 2⟩ }
    {
    intro ρ w Γx Λx hs hu hp
    have e389 : ρ 68 = .int .i64 x305.Seq := (hp 34 rfl).1
    have e390 : ρ 57 = .bool (x164.Client != x168.Client) := (hp 23 rfl).1
    refine WL.bin (v := .int .i64 x309) e389 rfl (ib_as ex309 (ib_sub _ _ _)) ?_ (hg := (wanted_of rfl rfl (bool_tr e390 hc172)).trans rfl)
    exact WL.nil ⟨rfl, _, rfl, rfl, hs.cutG 0 0⟩ }
    {
    intro ρ w Γx Λx hs hu hp
    have e391 : ρ 63 = .int .i64 x301.Seq := (hp 29 rfl).1
    have e392 : ρ 69 = .int .i64 x309 := (hp 35 rfl).1
    have e393 : ρ 57 = .bool (x164.Client != x168.Client) := (hp 23 rfl).1
    refine WL.bin (v := .bool (x301.Seq != x309)) e391 e392 (ib_neq _ _ _) ?_ (hg := (wanted_of rfl rfl (bool_tr e393 hc172)).trans rfl)
    exact WL.nil ⟨rfl, _, rfl, rfl, hs.cutG 0 0⟩ }
    {
    intro ρ w Γx Λx hs hu hp
    have e394 : ρ 57 = .bool (x164.Client != x168.Client) := (hp 23 rfl).1
    have e395 : ρ 70 = .bool (x301.Seq != x309) := (hp 36 rfl).1
    have e396 : ρ 40 = .bool (decide (1 < x42.Seq)) := (hp 6 rfl).1
    refine WL.pickF (v := .bool (x301.Seq != x309)) (bool_tr e394 hc172) e395 ?_ (hg := (wanted_of rfl rfl (bool_tr e396 hc46)).trans rfl)
    exact WL.nil ⟨rfl, _, rfl, rfl, hs.cutG 0 0⟩ }
    {
    intro ρ w Γx Λx hs hu hp
    have e397 : ρ 40 = .bool (decide (1 < x42.Seq)) := (hp 6 rfl).1
    have e398 : ρ 71 = .bool (x301.Seq != x309) := (hp 37 rfl).1
    refine WL.pickT (v := .bool (x301.Seq != x309)) (bool_tr e397 hc46) e398 ?_
    exact WL.nil ⟨rfl, _, rfl, rfl, hs.cutG 0 0⟩ }
    {
    intro ρ w hs hu399 hp
    obtain ⟨⟨⟨⟨⟨⟨⟨⟨⟨⟨⟨⟨⟨⟨⟨⟨⟨⟨⟨⟨⟨⟨⟨⟨⟨⟨⟨⟨⟨⟨⟨⟨⟨⟨⟨⟨⟨⟨⟨_, hp0_⟩, hp1_⟩, hp2_⟩, hp3_⟩, hp4_⟩, hp5_⟩, hp6_⟩, hp7_⟩, hp8_⟩, hp9_⟩, hp10_⟩, hp11_⟩, hp12_⟩, hp13_⟩, hp14_⟩, hp15_⟩, hp16_⟩, hp17_⟩, hp18_⟩, hp19_⟩, hp20_⟩, hp21_⟩, hp22_⟩, hp23_⟩, hp24_⟩, hp25_⟩, hp26_⟩, hp27_⟩, hp28_⟩, hp29_⟩, hp30_⟩, hp31_⟩, hp32_⟩, hp33_⟩, hp34_⟩, hp35_⟩, hp36_⟩, hp37_⟩, hp38_⟩ := hp
    have hs : St ok (bz w0) w [pl (tInt .i64) x305.Seq (adOf (ρ 67)), pl t_api_Update x305 (adOf (ρ 66)), pl (tInt .i64) x301.Seq (adOf (ρ 62)), pl t_api_Update x301 (adOf (ρ 61)), pl (tInt .i64) x168.Client (adOf (ρ 53)), pl t_api_Update x168 (adOf (ρ 52)), pl (tInt .i64) x164.Client (adOf (ρ 48)), pl t_api_Update x164 (adOf (ρ 47)), pl (tInt .i64) x42.Seq (adOf (ρ 37)), pl t_api_Update x42 (adOf (ρ 36)), vl (tSlice t_api_Update) x1 (.slice a2 x1.length c3)] [] := hs
    have e400 : ρ 72 = .bool (x301.Seq != x309) := hp38_
    have e401 : ρ 71 = .bool (x301.Seq != x309) := hp37_
    have e402 : ρ 70 = .bool (x301.Seq != x309) := hp36_
    have e403 : ρ 69 = .int .i64 x309 := hp35_
    have e404 : ρ 68 = .int .i64 x305.Seq := hp34_
    obtain ⟨ad405, e406⟩ := hp33_
    have e406 : ρ 67 = .pointer (some ad405) := e406
    try rw [e406] at hs
    obtain ⟨ad407, e408⟩ := hp32_
    have e408 : ρ 66 = .pointer (some ad407) := e408
    try rw [e408] at hs
    have e409 : ρ 65 = .int .i64 x11 := hp31_
    have e410 : ρ 64 = .slice a2 x1.length c3 := hp30_
    have e411 : ρ 63 = .int .i64 x301.Seq := hp29_
    obtain ⟨ad412, e413⟩ := hp28_
    have e413 : ρ 62 = .pointer (some ad412) := e413
    try rw [e413] at hs
    obtain ⟨ad414, e415⟩ := hp27_
    have e415 : ρ 61 = .pointer (some ad414) := e415
    try rw [e415] at hs
    have e416 : ρ 60 = .int .i64 x300 := hp26_
    have e417 : ρ 59 = .int .i64 x11 := hp25_
    have e418 : ρ 58 = .slice a2 x1.length c3 := hp24_
    have e419 : ρ 57 = .bool (x164.Client != x168.Client) := hp23_
    have e420 : ρ 56 = .bool (x164.Client != x168.Client) := hp22_
    have e421 : ρ 55 = .bool (x164.Client != x168.Client) := hp21_
    have e422 : ρ 54 = .int .i64 x168.Client := hp20_
    obtain ⟨ad423, e424⟩ := hp19_
    have e424 : ρ 53 = .pointer (some ad423) := e424
    try rw [e424] at hs
    obtain ⟨ad425, e426⟩ := hp18_
    have e426 : ρ 52 = .pointer (some ad425) := e426
    try rw [e426] at hs
    have e427 : ρ 51 = .int .i64 x11 := hp17_
    have e428 : ρ 50 = .slice a2 x1.length c3 := hp16_
    have e429 : ρ 49 = .int .i64 x164.Client := hp15_
    obtain ⟨ad430, e431⟩ := hp14_
    have e431 : ρ 48 = .pointer (some ad430) := e431
    try rw [e431] at hs
    obtain ⟨ad432, e433⟩ := hp13_
    have e433 : ρ 47 = .pointer (some ad432) := e433
    try rw [e433] at hs
    have e434 : ρ 46 = .int .i64 x163 := hp12_
    have e435 : ρ 45 = .int .i64 x11 := hp11_
    have e436 : ρ 44 = .slice a2 x1.length c3 := hp10_
    have e437 : ρ 43 = .bool (x11 == 0) := hp9_
    have e438 : ρ 42 = .bool (x11 == 0) := hp8_
    have e439 : ρ 41 = .int .i64 x11 := hp7_
    have e440 : ρ 40 = .bool (decide (1 < x42.Seq)) := hp6_
    have e441 : ρ 39 = .bool (decide (1 < x42.Seq)) := hp5_
    have e442 : ρ 38 = .int .i64 x42.Seq := hp4_
    obtain ⟨ad443, e444⟩ := hp3_
    have e444 : ρ 37 = .pointer (some ad443) := e444
    try rw [e444] at hs
    obtain ⟨ad445, e446⟩ := hp2_
    have e446 : ρ 36 = .pointer (some ad445) := e446
    try rw [e446] at hs
    have e447 : ρ 35 = .int .i64 x11 := hp1_
    have e448 : ρ 34 = .slice a2 x1.length c3 := hp0_
    refine WA.done (by kernel_rfl) ?_
    exact Jk38 (x301.Seq != x309) _ _ ((hu399 0 rfl).trans h30_0) ((hu399 3 rfl).trans h30_3) e400 ((hs.mask []).pick [10]) hf } } } }
    {
    refine W.any (by kernel_rfl) 39 0 [true, true, true, true, true, true, true, true, true, true, true, true, true, true, true, true, true, true, true, true, true, true, true, true, true, true, true, true, true, true, true, true, true, true, true, true, true, true, true] rfl rfl (poAt [pv (.slice a2 x1.length c3), pv (.int .i64 x11), pq (fun y : Addr => .pointer (some y)) (fun v => [pl t_api_Update x42 (adOf v)]) (fun v => []), pq (fun y : Addr => .pointer (some y)) (fun v => [pl (tInt .i64) x42.Seq (adOf v)]) (fun v => []), pv (.int .i64 x42.Seq), pv (.bool (decide (1 < x42.Seq))), pv (.bool (decide (1 < x42.Seq))), pv (undef), pv (undef), pv (undef), pv (undef), pv (undef), pv (undef), pv (undef), pv (undef), pv (undef), pv (undef), pv (undef), pv (undef), pv (undef), pv (undef), pv (undef), pv (undef), pv (undef), pv (undef), pv (undef), pv (undef), pv (undef), pv (undef), pv (undef), pv (undef), pv (undef), pv (undef), pv (undef), pv (undef), pv (undef), pv (undef), pv (undef), pv (.bool false)]) (Λ := []) hs (by kernel_rfl) (by kernel_rfl) (by kernel_rfl) ⟨⟨⟨⟨⟨⟨⟨⟨⟨⟨⟨⟨⟨⟨⟨⟨⟨⟨⟨⟨⟨⟨⟨⟨⟨⟨⟨⟨⟨⟨⟨⟨⟨⟨⟨⟨⟨⟨⟨trivial, ?_⟩, ?_⟩, ?_⟩, ?_⟩, ?_⟩, ?_⟩, ?_⟩, ?_⟩, ?_⟩, ?_⟩, ?_⟩, ?_⟩, ?_⟩, ?_⟩, ?_⟩, ?_⟩, ?_⟩, ?_⟩, ?_⟩, ?_⟩, ?_⟩, ?_⟩, ?_⟩, ?_⟩, ?_⟩, ?_⟩, ?_⟩, ?_⟩, ?_⟩, ?_⟩, ?_⟩, ?_⟩, ?_⟩, ?_⟩, ?_⟩, ?_⟩, ?_⟩, ?_⟩, ?_⟩ ?_
    {
    intro ρ w Γx Λx hs hu hp
    refine WL.move (v := .slice a2 x1.length c3) ((hu 0 rfl).trans h30_0) ?_
    exact WL.nil ⟨rfl, _, rfl, rfl, hs.cutG 0 0⟩ }
    {
    intro ρ w Γx Λx hs hu hp
    refine WL.move (v := .int .i64 x11) ((hu 3 rfl).trans h30_3) ?_
    exact WL.nil ⟨rfl, _, rfl, rfl, hs.cutG 0 0⟩ }
    {
    intro ρ w Γx Λx hs hu hp
    have e449 : ρ 34 = .slice a2 x1.length c3 := (hp 0 rfl).1
    have e450 : ρ 35 = .int .i64 x11 := (hp 1 rfl).1
    refine WL.indexAddr hs (Γx.length + 0) (getApp rfl) UN23 TI41 e449 e450 hxx42 (fun ad43 hs => ?_)
    have hs := hs.add (it := pl t_api_Update x42 ad43) fun ok hA => hA.get 0 rfl
    exact WL.nil ⟨rfl, _, rfl, ⟨ad43, rfl⟩, hs.cutG 1 1⟩ }
    {
    intro ρ w Γx Λx hs hu hp
    obtain ⟨⟨ad451, e452r⟩, hm453⟩ := hp 2 rfl
    have e452 : ρ 36 = .pointer (some ad451) := e452r
    rw [e452r] at hm453
    have hs := hs.memo1 (it := pl t_api_Update x42 ad451) (List.mem_append.2 (.inl (hm453 _ (List.mem_of_getElem? (i := 0) rfl))))
    refine WL.fieldAddrP (z := x42.Seq) F_api_Update_Seq hs 0 rfl e452 FA41_1 rfl (fun ad44 hs => ?_)
    have hs := hs.add (it := pl (tInt .i64) x42.Seq ad44) fun ok hA => hA.get 0 rfl
    exact WL.nil ⟨rfl, _, rfl, ⟨ad44, rfl⟩, hs.cutG 1 2⟩ }
    {
    intro ρ w Γx Λx hs hu hp
    obtain ⟨⟨ad454, e455r⟩, hm456⟩ := hp 3 rfl
    have e455 : ρ 37 = .pointer (some ad454) := e455r
    rw [e455r] at hm456
    have hs := hs.memo1 (it := pl (tInt .i64) x42.Seq ad454) (List.mem_append.2 (.inl (hm456 _ (List.mem_of_getElem? (i := 0) rfl))))
    refine WL.loadP hs 0 rfl TI3 (.inr rfl) e455 (fun v45 hs => ?_)
    obtain rfl := hs.int 0 rfl
    exact WL.nil ⟨rfl, _, rfl, rfl, hs.cutG 0 2⟩ }
    {
    intro ρ w Γx Λx hs hu hp
    have e457 : ρ 38 = .int .i64 x42.Seq := (hp 4 rfl).1
    refine WL.bin (v := .bool (decide (1 < x42.Seq))) e457 rfl (ib_gtr _ _ _) ?_
    exact WL.nil ⟨rfl, _, rfl, rfl, hs.cutG 0 0⟩ }
    {
    intro ρ w Γx Λx hs hu hp
    have e458 : ρ 39 = .bool (decide (1 < x42.Seq)) := (hp 5 rfl).1
    refine WL.move (v := .bool (decide (1 < x42.Seq))) e458 ?_
    exact WL.nil ⟨rfl, _, rfl, rfl, hs.cutG 0 0⟩ }
    {
    intro ρ w Γx Λx hs hu hp
    have e459 : ρ 40 = .bool (decide (1 < x42.Seq)) := (hp 6 rfl).1
    refine WL.pass ((wanted_of rfl rfl (bool_tr e459 hc46)).trans rfl) rfl ?_
    exact WL.nil ⟨rfl, _, rfl, rfl, hs.cutG 0 0⟩ }
    {
    intro ρ w Γx Λx hs hu hp
    have e460 : ρ 41 = undef := (hp 7 rfl).1
    have e461 : ρ 40 = .bool (decide (1 < x42.Seq)) := (hp 6 rfl).1
    refine WL.pass ((wanted_of rfl rfl (bool_tr e461 hc46)).trans rfl) rfl ?_
    exact WL.nil ⟨rfl, _, rfl, rfl, hs.cutG 0 0⟩ }
    {
    intro ρ w Γx Λx hs hu hp
    have e462 : ρ 42 = undef := (hp 8 rfl).1
    have e463 : ρ 40 = .bool (decide (1 < x42.Seq)) := (hp 6 rfl).1
    refine WL.pass ((wanted_of rfl rfl (bool_tr e463 hc46)).trans rfl) rfl ?_
    exact WL.nil ⟨rfl, _, rfl, rfl, hs.cutG 0 0⟩ }
    {
    intro ρ w Γx Λx hs hu hp
    have e464 : ρ 43 = undef := (hp 9 rfl).1
    refine WL.pass (wanted_undef rfl rfl e464) rfl ?_
    exact WL.nil ⟨rfl, _, rfl, rfl, hs.cutG 0 0⟩ }
    {
    intro ρ w Γx Λx hs hu hp
    have e465 : ρ 43 = undef := (hp 9 rfl).1
    refine WL.pass (wanted_undef rfl rfl e465) rfl ?_
    exact WL.nil ⟨rfl, _, rfl, rfl, hs.cutG 0 0⟩ }
    {
    intro ρ w Γx Λx hs hu hp
    have e466 : ρ 45 = undef := (hp 11 rfl).1
    have e467 : ρ 43 = undef := (hp 9 rfl).1
    refine WL.pass (wanted_undef rfl rfl e467) rfl ?_
    exact WL.nil ⟨rfl, _, rfl, rfl, hs.cutG 0 0⟩ }
    {
    intro ρ w Γx Λx hs hu hp
    have e468 : ρ 44 = undef := (hp 10 rfl).1
    have e469 : ρ 46 = undef := (hp 12 rfl).1
    have e470 : ρ 43 = undef := (hp 9 rfl).1
    refine WL.pass (wanted_undef rfl rfl e470) rfl ?_
    exact WL.nil ⟨rfl, _, rfl, rfl, hs.cutG 0 0⟩ }
    {
    intro ρ w Γx Λx hs hu hp
    have e471 : ρ 47 = undef := (hp 13 rfl).1
    have e472 : ρ 43 = undef := (hp 9 rfl).1
    refine WL.pass (wanted_undef rfl rfl e472) rfl ?_
    exact WL.nil ⟨rfl, _, rfl, rfl, hs.cutG 0 0⟩ }
    {
    intro ρ w Γx Λx hs hu hp
    have e473 : ρ 48 = undef := (hp 14 rfl).1
    have e474 : ρ 43 = undef := (hp 9 rfl).1
    refine WL.pass (wanted_undef rfl rfl e474) rfl ?_
    exact WL.nil ⟨rfl, _, rfl, rfl, hs.cutG 0 0⟩ }
    {
    intro ρ w Γx Λx hs hu hp
    have e475 : ρ 43 = undef := (hp 9 rfl).1
    refine WL.pass (wanted_undef rfl rfl e475) rfl ?_
    exact WL.nil ⟨rfl, _, rfl, rfl, hs.cutG 0 0⟩ }
    {
    intro ρ w Γx Λx hs hu hp
    have e476 : ρ 43 = undef := (hp 9 rfl).1
    refine WL.pass (wanted_undef rfl rfl e476) rfl ?_
    exact WL.nil ⟨rfl, _, rfl, rfl, hs.cutG 0 0⟩ }
    {
    intro ρ w Γx Λx hs hu hp
    have e477 : ρ 50 = undef := (hp 16 rfl).1
    have e478 : ρ 51 = undef := (hp 17 rfl).1
    have e479 : ρ 43 = undef := (hp 9 rfl).1
    refine WL.pass (wanted_undef rfl rfl e479) rfl ?_
    exact WL.nil ⟨rfl, _, rfl, rfl, hs.cutG 0 0⟩ }
    {
    intro ρ w Γx Λx hs hu hp
    have e480 : ρ 52 = undef := (hp 18 rfl).1
    have e481 : ρ 43 = undef := (hp 9 rfl).1
    refine WL.pass (wanted_undef rfl rfl e481) rfl ?_
    exact WL.nil ⟨rfl, _, rfl, rfl, hs.cutG 0 0⟩ }
    {
    intro ρ w Γx Λx hs hu hp
    have e482 : ρ 53 = undef := (hp 19 rfl).1
    have e483 : ρ 43 = undef := (hp 9 rfl).1
    refine WL.pass (wanted_undef rfl rfl e483) rfl ?_
    exact WL.nil ⟨rfl, _, rfl, rfl, hs.cutG 0 0⟩ }
    {
    intro ρ w Γx Λx hs hu hp
    have e484 : ρ 49 = undef := (hp 15 rfl).1
    have e485 : ρ 54 = undef := (hp 20 rfl).1
    have e486 : ρ 43 = undef := (hp 9 rfl).1
    refine WL.pass (wanted_undef rfl rfl e486) rfl ?_
    exact WL.nil ⟨rfl, _, rfl, rfl, hs.cutG 0 0⟩ }
    {
    intro ρ w Γx Λx hs hu hp
    have e487 : ρ 43 = undef := (hp 9 rfl).1
    have e488 : ρ 55 = undef := (hp 21 rfl).1
    have e489 : ρ 40 = .bool (decide (1 < x42.Seq)) := (hp 6 rfl).1
    refine WL.pass ((wanted_of rfl rfl (bool_tr e489 hc46)).trans rfl) rfl ?_
    exact WL.nil ⟨rfl, _, rfl, rfl, hs.cutG 0 0⟩ }
    {
    intro ρ w Γx Λx hs hu hp
    have e490 : ρ 56 = undef := (hp 22 rfl).1
    have e491 : ρ 40 = .bool (decide (1 < x42.Seq)) := (hp 6 rfl).1
    refine WL.pass ((wanted_of rfl rfl (bool_tr e491 hc46)).trans rfl) rfl ?_
    exact WL.nil ⟨rfl, _, rfl, rfl, hs.cutG 0 0⟩ }
    {
    intro ρ w Γx Λx hs hu hp
    have e492 : ρ 57 = undef := (hp 23 rfl).1
    refine WL.pass (wanted_undef rfl rfl e492) rfl ?_
    exact WL.nil ⟨rfl, _, rfl, rfl, hs.cutG 0 0⟩ }
    {
    intro ρ w Γx Λx hs hu hp
    have e493 : ρ 57 = undef := (hp 23 rfl).1
    refine WL.pass (wanted_undef rfl rfl e493) rfl ?_
    exact WL.nil ⟨rfl, _, rfl, rfl, hs.cutG 0 0⟩ }
    {
    intro ρ w Γx Λx hs hu hp
    have e494 : ρ 59 = undef := (hp 25 rfl).1
    have e495 : ρ 57 = undef := (hp 23 rfl).1
    refine WL.pass (wanted_undef rfl rfl e495) rfl ?_
    exact WL.nil ⟨rfl, _, rfl, rfl, hs.cutG 0 0⟩ }
    {
    intro ρ w Γx Λx hs hu hp
    have e496 : ρ 58 = undef := (hp 24 rfl).1
    have e497 : ρ 60 = undef := (hp 26 rfl).1
    have e498 : ρ 57 = undef := (hp 23 rfl).1
    refine WL.pass (wanted_undef rfl rfl e498) rfl ?_
    exact WL.nil ⟨rfl, _, rfl, rfl, hs.cutG 0 0⟩ }
    {
    intro ρ w Γx Λx hs hu hp
    have e499 : ρ 61 = undef := (hp 27 rfl).1
    have e500 : ρ 57 = undef := (hp 23 rfl).1
    refine WL.pass (wanted_undef rfl rfl e500) rfl ?_
    exact WL.nil ⟨rfl, _, rfl, rfl, hs.cutG 0 0⟩ }
    {
    intro ρ w Γx Λx hs hu hp
    have e501 : ρ 62 = undef := (hp 28 rfl).1
    have e502 : ρ 57 = undef := (hp 23 rfl).1
    refine WL.pass (wanted_undef rfl rfl e502) rfl ?_
    exact WL.nil ⟨rfl, _, rfl, rfl, hs.cutG 0 0⟩ }
    {
    intro ρ w Γx Λx hs hu hp
    have e503 : ρ 57 = undef := (hp 23 rfl).1
    refine WL.pass (wanted_undef rfl rfl e503) rfl ?_
    exact WL.nil ⟨rfl, _, rfl, rfl, hs.cutG 0 0⟩ }
    {
    intro ρ w Γx Λx hs hu hp
    have e504 : ρ 57 = undef := (hp 23 rfl).1
    refine WL.pass (wanted_undef rfl rfl e504) rfl ?_
    exact WL.nil ⟨rfl, _, rfl, rfl, hs.cutG 0 0⟩ }
    {
    intro ρ w Γx Λx hs hu hp
    have e505 : ρ 64 = undef := (hp 30 rfl).1
    have e506 : ρ 65 = undef := (hp 31 rfl).1
    have e507 : ρ 57 = undef := (hp 23 rfl).1
    refine WL.pass (wanted_undef rfl rfl e507) rfl ?_
    exact WL.nil ⟨rfl, _, rfl, rfl, hs.cutG 0 0⟩ }
    {
    intro ρ w Γx Λx hs hu hp
    have e508 : ρ 66 = undef := (hp 32 rfl).1
    have e509 : ρ 57 = undef := (hp 23 rfl).1
    refine WL.pass (wanted_undef rfl rfl e509) rfl ?_
    exact WL.nil ⟨rfl, _, rfl, rfl, hs.cutG 0 0⟩ }
    {
    intro ρ w Γx Λx hs hu hp
    have e510 : ρ 67 = undef := (hp 33 rfl).1
    have e511 : ρ 57 = undef := (hp 23 rfl).1
    refine WL.pass (wanted_undef rfl rfl e511) rfl ?_
    exact WL.nil ⟨rfl, _, rfl, rfl, hs.cutG 0 0⟩ }
    {
    intro ρ w Γx Λx hs hu hp
    have e512 : ρ 68 = undef := (hp 34 rfl).1
    have e513 : ρ 57 = undef := (hp 23 rfl).1
    refine WL.pass (wanted_undef rfl rfl e513) rfl ?_
    exact WL.nil ⟨rfl, _, rfl, rfl, hs.cutG 0 0⟩ }
    {
    intro ρ w Γx Λx hs hu hp
    have e514 : ρ 63 = undef := (hp 29 rfl).1
    have e515 : ρ 69 = undef := (hp 35 rfl).1
    have e516 : ρ 57 = undef := (hp 23 rfl).1
    refine WL.pass (wanted_undef rfl rfl e516) rfl ?_
    exact WL.nil ⟨rfl, _, rfl, rfl, hs.cutG 0 0⟩ }
    {
    intro ρ w Γx Λx hs hu hp
    have e517 : ρ 57 = undef := (hp 23 rfl).1
    have e518 : ρ 70 = undef := (hp 36 rfl).1
    have e519 : ρ 40 = .bool (decide (1 < x42.Seq)) := (hp 6 rfl).1
    refine WL.pass ((wanted_of rfl rfl (bool_tr e519 hc46)).trans rfl) rfl ?_
    exact WL.nil ⟨rfl, _, rfl, rfl, hs.cutG 0 0⟩ }
    {
    intro ρ w Γx Λx hs hu hp
    have e520 : ρ 40 = .bool (decide (1 < x42.Seq)) := (hp 6 rfl).1
    have e521 : ρ 71 = undef := (hp 37 rfl).1
    refine WL.pickF (v := .bool false) (bool_tr e520 hc46) rfl ?_
    exact WL.nil ⟨rfl, _, rfl, rfl, hs.cutG 0 0⟩ }
    {
    intro ρ w hs hu522 hp
    obtain ⟨⟨⟨⟨⟨⟨⟨⟨⟨⟨⟨⟨⟨⟨⟨⟨⟨⟨⟨⟨⟨⟨⟨⟨⟨⟨⟨⟨⟨⟨⟨⟨⟨⟨⟨⟨⟨⟨⟨_, hp0_⟩, hp1_⟩, hp2_⟩, hp3_⟩, hp4_⟩, hp5_⟩, hp6_⟩, hp7_⟩, hp8_⟩, hp9_⟩, hp10_⟩, hp11_⟩, hp12_⟩, hp13_⟩, hp14_⟩, hp15_⟩, hp16_⟩, hp17_⟩, hp18_⟩, hp19_⟩, hp20_⟩, hp21_⟩, hp22_⟩, hp23_⟩, hp24_⟩, hp25_⟩, hp26_⟩, hp27_⟩, hp28_⟩, hp29_⟩, hp30_⟩, hp31_⟩, hp32_⟩, hp33_⟩, hp34_⟩, hp35_⟩, hp36_⟩, hp37_⟩, hp38_⟩ := hp
    have hs : St ok (bz w0) w [pl (tInt .i64) x42.Seq (adOf (ρ 37)), pl t_api_Update x42 (adOf (ρ 36)), vl (tSlice t_api_Update) x1 (.slice a2 x1.length c3)] [] := hs
    have e523 : ρ 72 = .bool false := hp38_
    have e524 : ρ 71 = undef := hp37_
    have e525 : ρ 70 = undef := hp36_
    have e526 : ρ 69 = undef := hp35_
    have e527 : ρ 68 = undef := hp34_
    have e528 : ρ 67 = undef := hp33_
    have e529 : ρ 66 = undef := hp32_
    have e530 : ρ 65 = undef := hp31_
    have e531 : ρ 64 = undef := hp30_
    have e532 : ρ 63 = undef := hp29_
    have e533 : ρ 62 = undef := hp28_
    have e534 : ρ 61 = undef := hp27_
    have e535 : ρ 60 = undef := hp26_
    have e536 : ρ 59 = undef := hp25_
    have e537 : ρ 58 = undef := hp24_
    have e538 : ρ 57 = undef := hp23_
    have e539 : ρ 56 = undef := hp22_
    have e540 : ρ 55 = undef := hp21_
    have e541 : ρ 54 = undef := hp20_
    have e542 : ρ 53 = undef := hp19_
    have e543 : ρ 52 = undef := hp18_
    have e544 : ρ 51 = undef := hp17_
    have e545 : ρ 50 = undef := hp16_
    have e546 : ρ 49 = undef := hp15_
    have e547 : ρ 48 = undef := hp14_
    have e548 : ρ 47 = undef := hp13_
    have e549 : ρ 46 = undef := hp12_
    have e550 : ρ 45 = undef := hp11_
    have e551 : ρ 44 = undef := hp10_
    have e552 : ρ 43 = undef := hp9_
    have e553 : ρ 42 = undef := hp8_
    have e554 : ρ 41 = undef := hp7_
    have e555 : ρ 40 = .bool (decide (1 < x42.Seq)) := hp6_
    have e556 : ρ 39 = .bool (decide (1 < x42.Seq)) := hp5_
    have e557 : ρ 38 = .int .i64 x42.Seq := hp4_
    obtain ⟨ad558, e559⟩ := hp3_
    have e559 : ρ 37 = .pointer (some ad558) := e559
    try rw [e559] at hs
    obtain ⟨ad560, e561⟩ := hp2_
    have e561 : ρ 36 = .pointer (some ad560) := e561
    try rw [e561] at hs
    have e562 : ρ 35 = .int .i64 x11 := hp1_
    have e563 : ρ 34 = .slice a2 x1.length c3 := hp0_
    refine WA.done (by kernel_rfl) ?_
    exact Jk38 false _ _ ((hu522 0 rfl).trans h30_0) ((hu522 3 rfl).trans h30_3) e523 ((hs.mask []).pick [2]) hf } } }
  rcases iteE hf with ⟨hc564, hf⟩ | ⟨hc564, hf⟩
  {
  obtain ⟨x565, ex565, hf⟩ := letE hf
  obtain ⟨x566, hxx566, hf⟩ := bindE hf
  obtain ⟨x571, hxx571, hf⟩ := bindE hf
  obtain ⟨x576, hxx576, hf⟩ := bindE hf
  refine W.any (by kernel_rfl) 15 0 [true, true, true, true, true, true, true, true, true, true, true, true, true, true, true] rfl rfl (poAt [pv (.int .i64 x11), pv (.bool (decide (0 < x11))), pv (.bool (decide (0 < x11))), pv (.slice a2 x1.length c3), pv (.int .i64 x11), pv (.int .i64 x565), pq (fun y : Addr => .pointer (some y)) (fun v => [pl t_api_Update x566 (adOf v)]) (fun v => []), pq (fun y : List Value => .agg y.toArray) (fun v => [vl t_api_Update x566 v]) (fun v => []), pv (.slice a2 x1.length c3), pv (.int .i64 x11), pq (fun y : Addr => .pointer (some y)) (fun v => [pl t_api_Update x571 (adOf v)]) (fun v => []), pq (fun y : List Value => .agg y.toArray) (fun v => [vl t_api_Update x571 v]) (fun v => []), pv (.int .i64 x576), pv (.bool (decide (0 ≤ x576))), pv (.bool (decide (0 ≤ x576)))]) (Λ := []) hs (by kernel_rfl) (by kernel_rfl) (by kernel_rfl) ⟨⟨⟨⟨⟨⟨⟨⟨⟨⟨⟨⟨⟨⟨⟨trivial, ?_⟩, ?_⟩, ?_⟩, ?_⟩, ?_⟩, ?_⟩, ?_⟩, ?_⟩, ?_⟩, ?_⟩, ?_⟩, ?_⟩, ?_⟩, ?_⟩, ?_⟩ ?_
  {
  intro ρ w Γx Λx hs hu hp
  refine WL.move (v := .int .i64 x11) ((hu 3 rfl).trans h10_3) ?_
  exact WL.nil ⟨rfl, _, rfl, rfl, hs.cutG 0 0⟩ }
  {
  intro ρ w Γx Λx hs hu hp
  have e577 : ρ 19 = .int .i64 x11 := (hp 0 rfl).1
  refine WL.bin (v := .bool (decide (0 < x11))) e577 rfl (ib_gtr _ _ _) ?_
  exact WL.nil ⟨rfl, _, rfl, rfl, hs.cutG 0 0⟩ }
  {
  intro ρ w Γx Λx hs hu hp
  have e578 : ρ 20 = .bool (decide (0 < x11)) := (hp 1 rfl).1
  refine WL.move (v := .bool (decide (0 < x11))) e578 ?_
  exact WL.nil ⟨rfl, _, rfl, rfl, hs.cutG 0 0⟩ }
  {
  intro ρ w Γx Λx hs hu hp
  have e579 : ρ 21 = .bool (decide (0 < x11)) := (hp 2 rfl).1
  refine WL.move (v := .slice a2 x1.length c3) ((hu 0 rfl).trans h10_0) ?_ (hg := (wanted_of rfl rfl (bool_tr e579 hc564)).trans rfl)
  exact WL.nil ⟨rfl, _, rfl, rfl, hs.cutG 0 0⟩ }
  {
  intro ρ w Γx Λx hs hu hp
  have e580 : ρ 21 = .bool (decide (0 < x11)) := (hp 2 rfl).1
  refine WL.move (v := .int .i64 x11) ((hu 3 rfl).trans h10_3) ?_ (hg := (wanted_of rfl rfl (bool_tr e580 hc564)).trans rfl)
  exact WL.nil ⟨rfl, _, rfl, rfl, hs.cutG 0 0⟩ }
  {
  intro ρ w Γx Λx hs hu hp
  have e581 : ρ 23 = .int .i64 x11 := (hp 4 rfl).1
  have e582 : ρ 21 = .bool (decide (0 < x11)) := (hp 2 rfl).1
  refine WL.bin (v := .int .i64 x565) e581 rfl (ib_as ex565 (ib_sub _ _ _)) ?_ (hg := (wanted_of rfl rfl (bool_tr e582 hc564)).trans rfl)
  exact WL.nil ⟨rfl, _, rfl, rfl, hs.cutG 0 0⟩ }
  {
  intro ρ w Γx Λx hs hu hp
  have e583 : ρ 22 = .slice a2 x1.length c3 := (hp 3 rfl).1
  have e584 : ρ 24 = .int .i64 x565 := (hp 5 rfl).1
  have e585 : ρ 21 = .bool (decide (0 < x11)) := (hp 2 rfl).1
  refine WL.indexAddr hs (Γx.length + 2) (getApp rfl) UN23 TI41 e583 e584 hxx566 (fun ad567 hs => ?_) (hg := (wanted_of rfl rfl (bool_tr e585 hc564)).trans rfl)
  have hs := hs.add (it := pl t_api_Update x566 ad567) fun ok hA => hA.get 0 rfl
  exact WL.nil ⟨rfl, _, rfl, ⟨ad567, rfl⟩, hs.cutG 1 1⟩ }
  {
  intro ρ w Γx Λx hs hu hp
  obtain ⟨⟨ad586, e587r⟩, hm588⟩ := hp 6 rfl
  have e587 : ρ 25 = .pointer (some ad586) := e587r
  rw [e587r] at hm588
  have hs := hs.memo1 (it := pl t_api_Update x566 ad586) (List.mem_append.2 (.inl (hm588 _ (List.mem_of_getElem? (i := 0) rfl))))
  have e589 : ρ 21 = .bool (decide (0 < x11)) := (hp 2 rfl).1
  refine WL.loadP hs 0 rfl TI41 (.inl rfl) e587 (fun v568 hs => ?_) (hg := (wanted_of rfl rfl (bool_tr e589 hc564)).trans rfl)
  obtain ⟨cs569, hl570, rfl⟩ := hs.aggv (n := 4) 0 rfl rfl rfl
  have hs := hs.add (it := vl t_api_Update x566 (.agg cs569.toArray)) fun ok hA => hA.get 0 rfl
  exact WL.nil ⟨rfl, _, rfl, ⟨cs569, rfl⟩, hs.cutG 1 2⟩ }
  {
  intro ρ w Γx Λx hs hu hp
  have e590 : ρ 21 = .bool (decide (0 < x11)) := (hp 2 rfl).1
  refine WL.move (v := .slice a2 x1.length c3) ((hu 0 rfl).trans h10_0) ?_ (hg := (wanted_of rfl rfl (bool_tr e590 hc564)).trans rfl)
  exact WL.nil ⟨rfl, _, rfl, rfl, hs.cutG 0 0⟩ }
  {
  intro ρ w Γx Λx hs hu hp
  have e591 : ρ 21 = .bool (decide (0 < x11)) := (hp 2 rfl).1
  refine WL.move (v := .int .i64 x11) ((hu 3 rfl).trans h10_3) ?_ (hg := (wanted_of rfl rfl (bool_tr e591 hc564)).trans rfl)
  exact WL.nil ⟨rfl, _, rfl, rfl, hs.cutG 0 0⟩ }
  {
  intro ρ w Γx Λx hs hu hp
  have e592 : ρ 27 = .slice a2 x1.length c3 := (hp 8 rfl).1
  have e593 : ρ 28 = .int .i64 x11 := (hp 9 rfl).1
  have e594 : ρ 21 = .bool (decide (0 < x11)) := (hp 2 rfl).1
  refine WL.indexAddr hs (Γx.length + 2) (getApp rfl) UN23 TI41 e592 e593 hxx571 (fun ad572 hs => ?_) (hg := (wanted_of rfl rfl (bool_tr e594 hc564)).trans rfl)
  have hs := hs.add (it := pl t_api_Update x571 ad572) fun ok hA => hA.get 0 rfl
  exact WL.nil ⟨rfl, _, rfl, ⟨ad572, rfl⟩, hs.cutG 1 1⟩ }
  {
  intro ρ w Γx Λx hs hu hp
  obtain ⟨⟨ad595, e596r⟩, hm597⟩ := hp 10 rfl
  have e596 : ρ 29 = .pointer (some ad595) := e596r
  rw [e596r] at hm597
  have hs := hs.memo1 (it := pl t_api_Update x571 ad595) (List.mem_append.2 (.inl (hm597 _ (List.mem_of_getElem? (i := 0) rfl))))
  have e598 : ρ 21 = .bool (decide (0 < x11)) := (hp 2 rfl).1
  refine WL.loadP hs 0 rfl TI41 (.inl rfl) e596 (fun v573 hs => ?_) (hg := (wanted_of rfl rfl (bool_tr e598 hc564)).trans rfl)
  obtain ⟨cs574, hl575, rfl⟩ := hs.aggv (n := 4) 0 rfl rfl rfl
  have hs := hs.add (it := vl t_api_Update x571 (.agg cs574.toArray)) fun ok hA => hA.get 0 rfl
  exact WL.nil ⟨rfl, _, rfl, ⟨cs574, rfl⟩, hs.cutG 1 2⟩ }
  {
  intro ρ w Γx Λx hs hu hp
  obtain ⟨⟨cs599, e601r⟩, hm602⟩ := hp 7 rfl
  have e601 : ρ 26 = .agg cs599.toArray := e601r
  rw [e601r] at hm602
  have hs := hs.memo1 (it := vl t_api_Update x566 (.agg cs599.toArray)) (List.mem_append.2 (.inl (hm602 _ (List.mem_of_getElem? (i := 0) rfl))))
  have hl600 := hs.agglen (n := 4) 0 rfl rfl rfl
  obtain ⟨⟨cs603, e605r⟩, hm606⟩ := hp 11 rfl
  have e605 : ρ 30 = .agg cs603.toArray := e605r
  rw [e605r] at hm606
  have hs := hs.memo1 (it := vl t_api_Update x571 (.agg cs603.toArray)) (List.mem_cons_of_mem _ (List.mem_append.2 (.inl (hm606 _ (List.mem_of_getElem? (i := 0) rfl)))))
  have hl604 := hs.agglen (n := 4) 0 rfl rfl rfl
  have e607 : ρ 21 = .bool (decide (0 < x11)) := (hp 2 rfl).1
  refine WL.call (vs := [.agg cs599.toArray, .agg cs603.toArray]) hs FN36 ⟨e601, ⟨e605, trivial⟩⟩ (fun ok hA => esref14_CompareUpdate.calls (x1 := x566) (x5 := x571) hxx576 (hA.get 1 rfl) (hA.get 0 rfl)) ?_ (hg := (wanted_of rfl rfl (bool_tr e607 hc564)).trans rfl)
  rintro _ w hs
  exact WL.nil ⟨rfl, _, rfl, rfl, hs.cutG 0 2⟩ }
  {
  intro ρ w Γx Λx hs hu hp
  have e608 : ρ 31 = .int .i64 x576 := (hp 12 rfl).1
  have e609 : ρ 21 = .bool (decide (0 < x11)) := (hp 2 rfl).1
  refine WL.bin (v := .bool (decide (0 ≤ x576))) e608 rfl (ib_geq _ _ _) ?_ (hg := (wanted_of rfl rfl (bool_tr e609 hc564)).trans rfl)
  exact WL.nil ⟨rfl, _, rfl, rfl, hs.cutG 0 0⟩ }
  {
  intro ρ w Γx Λx hs hu hp
  have e610 : ρ 21 = .bool (decide (0 < x11)) := (hp 2 rfl).1
  have e611 : ρ 32 = .bool (decide (0 ≤ x576)) := (hp 13 rfl).1
  refine WL.pickT (v := .bool (decide (0 ≤ x576))) (bool_tr e610 hc564) e611 ?_
  exact WL.nil ⟨rfl, _, rfl, rfl, hs.cutG 0 0⟩ }
  {
  intro ρ w hs hu612 hp
  obtain ⟨⟨⟨⟨⟨⟨⟨⟨⟨⟨⟨⟨⟨⟨⟨_, hp0_⟩, hp1_⟩, hp2_⟩, hp3_⟩, hp4_⟩, hp5_⟩, hp6_⟩, hp7_⟩, hp8_⟩, hp9_⟩, hp10_⟩, hp11_⟩, hp12_⟩, hp13_⟩, hp14_⟩ := hp
  have hs : St ok (bz w0) w [vl t_api_Update x571 (ρ 30), pl t_api_Update x571 (adOf (ρ 29)), vl t_api_Update x566 (ρ 26), pl t_api_Update x566 (adOf (ρ 25)), vl t_api_Update x19 (.agg cs22.toArray), pl t_api_Update x19 ad20, vl (tSlice t_api_Update) x1 (.slice a2 x1.length c3)] [] := hs
  have e613 : ρ 33 = .bool (decide (0 ≤ x576)) := hp14_
  have e614 : ρ 32 = .bool (decide (0 ≤ x576)) := hp13_
  have e615 : ρ 31 = .int .i64 x576 := hp12_
  obtain ⟨cs616, e618⟩ := hp11_
  have e618 : ρ 30 = .agg cs616.toArray := e618
  try rw [e618] at hs
  obtain ⟨ad619, e620⟩ := hp10_
  have e620 : ρ 29 = .pointer (some ad619) := e620
  try rw [e620] at hs
  have e621 : ρ 28 = .int .i64 x11 := hp9_
  have e622 : ρ 27 = .slice a2 x1.length c3 := hp8_
  obtain ⟨cs623, e625⟩ := hp7_
  have e625 : ρ 26 = .agg cs623.toArray := e625
  try rw [e625] at hs
  obtain ⟨ad626, e627⟩ := hp6_
  have e627 : ρ 25 = .pointer (some ad626) := e627
  try rw [e627] at hs
  have e628 : ρ 24 = .int .i64 x565 := hp5_
  have e629 : ρ 23 = .int .i64 x11 := hp4_
  have e630 : ρ 22 = .slice a2 x1.length c3 := hp3_
  have e631 : ρ 21 = .bool (decide (0 < x11)) := hp2_
  have e632 : ρ 20 = .bool (decide (0 < x11)) := hp1_
  have e633 : ρ 19 = .int .i64 x11 := hp0_
  have hl624 := hs.agglen (n := 4) 2 rfl rfl rfl
  have hl617 := hs.agglen (n := 4) 0 rfl rfl rfl
  refine WA.done (by kernel_rfl) ?_
  exact Jk32 (decide (0 ≤ x576)) _ _ ((hu612 0 rfl).trans h10_0) ((hu612 3 rfl).trans h10_3) e613 ((hs.mask []).pick [6]) hf } }
  {
  refine W.any (by kernel_rfl) 15 0 [true, true, true, true, true, true, true, true, true, true, true, true, true, true, true] rfl rfl (poAt [pv (.int .i64 x11), pv (.bool (decide (0 < x11))), pv (.bool (decide (0 < x11))), pv (undef), pv (undef), pv (undef), pv (undef), pv (undef), pv (undef), pv (undef), pv (undef), pv (undef), pv (undef), pv (undef), pv (.bool false)]) (Λ := []) hs (by kernel_rfl) (by kernel_rfl) (by kernel_rfl) ⟨⟨⟨⟨⟨⟨⟨⟨⟨⟨⟨⟨⟨⟨⟨trivial, ?_⟩, ?_⟩, ?_⟩, ?_⟩, ?_⟩, ?_⟩, ?_⟩, ?_⟩, ?_⟩, ?_⟩, ?_⟩, ?_⟩, ?_⟩, ?_⟩, ?_⟩ ?_
  {
  intro ρ w Γx Λx hs hu hp
  refine WL.move (v := .int .i64 x11) ((hu 3 rfl).trans h10_3) ?_
  exact WL.nil ⟨rfl, _, rfl, rfl, hs.cutG 0 0⟩ }
  {
  intro ρ w Γx Λx hs hu hp
  have e634 : ρ 19 = .int .i64 x11 := (hp 0 rfl).1
  refine WL.bin (v := .bool (decide (0 < x11))) e634 rfl (ib_gtr _ _ _) ?_
  exact WL.nil ⟨rfl, _, rfl, rfl, hs.cutG 0 0⟩ }
  {
  intro ρ w Γx Λx hs hu hp
  have e635 : ρ 20 = .bool (decide (0 < x11)) := (hp 1 rfl).1
  refine WL.move (v := .bool (decide (0 < x11))) e635 ?_
  exact WL.nil ⟨rfl, _, rfl, rfl, hs.cutG 0 0⟩ }
  {
  intro ρ w Γx Λx hs hu hp
  have e636 : ρ 21 = .bool (decide (0 < x11)) := (hp 2 rfl).1
  refine WL.pass ((wanted_of rfl rfl (bool_tr e636 hc564)).trans rfl) rfl ?_
  exact WL.nil ⟨rfl, _, rfl, rfl, hs.cutG 0 0⟩ }
  {
  intro ρ w Γx Λx hs hu hp
  have e637 : ρ 21 = .bool (decide (0 < x11)) := (hp 2 rfl).1
  refine WL.pass ((wanted_of rfl rfl (bool_tr e637 hc564)).trans rfl) rfl ?_
  exact WL.nil ⟨rfl, _, rfl, rfl, hs.cutG 0 0⟩ }
  {
  intro ρ w Γx Λx hs hu hp
  have e638 : ρ 23 = undef := (hp 4 rfl).1
  have e639 : ρ 21 = .bool (decide (0 < x11)) := (hp 2 rfl).1
  refine WL.pass ((wanted_of rfl rfl (bool_tr e639 hc564)).trans rfl) rfl ?_
  exact WL.nil ⟨rfl, _, rfl, rfl, hs.cutG 0 0⟩ }
  {
  intro ρ w Γx Λx hs hu hp
  have e640 : ρ 22 = undef := (hp 3 rfl).1
  have e641 : ρ 24 = undef := (hp 5 rfl).1
  have e642 : ρ 21 = .bool (decide (0 < x11)) := (hp 2 rfl).1
  refine WL.pass ((wanted_of rfl rfl (bool_tr e642 hc564)).trans rfl) rfl ?_
  exact WL.nil ⟨rfl, _, rfl, rfl, hs.cutG 0 0⟩ }
  {
  intro ρ w Γx Λx hs hu hp
  have e643 : ρ 25 = undef := (hp 6 rfl).1
  have e644 : ρ 21 = .bool (decide (0 < x11)) := (hp 2 rfl).1
  refine WL.pass ((wanted_of rfl rfl (bool_tr e644 hc564)).trans rfl) rfl ?_
  exact WL.nil ⟨rfl, _, rfl, rfl, hs.cutG 0 0⟩ }
  {
  intro ρ w Γx Λx hs hu hp
  have e645 : ρ 21 = .bool (decide (0 < x11)) := (hp 2 rfl).1
  refine WL.pass ((wanted_of rfl rfl (bool_tr e645 hc564)).trans rfl) rfl ?_
  exact WL.nil ⟨rfl, _, rfl, rfl, hs.cutG 0 0⟩ }
  {
  intro ρ w Γx Λx hs hu hp
  have e646 : ρ 21 = .bool (decide (0 < x11)) := (hp 2 rfl).1
  refine WL.pass ((wanted_of rfl rfl (bool_tr e646 hc564)).trans rfl) rfl ?_
  exact WL.nil ⟨rfl, _, rfl, rfl, hs.cutG 0 0⟩ }
  {
  intro ρ w Γx Λx hs hu hp
  have e647 : ρ 27 = undef := (hp 8 rfl).1
  have e648 : ρ 28 = undef := (hp 9 rfl).1
  have e649 : ρ 21 = .bool (decide (0 < x11)) := (hp 2 rfl).1
  refine WL.pass ((wanted_of rfl rfl (bool_tr e649 hc564)).trans rfl) rfl ?_
  exact WL.nil ⟨rfl, _, rfl, rfl, hs.cutG 0 0⟩ }
  {
  intro ρ w Γx Λx hs hu hp
  have e650 : ρ 29 = undef := (hp 10 rfl).1
  have e651 : ρ 21 = .bool (decide (0 < x11)) := (hp 2 rfl).1
  refine WL.pass ((wanted_of rfl rfl (bool_tr e651 hc564)).trans rfl) rfl ?_
  exact WL.nil ⟨rfl, _, rfl, rfl, hs.cutG 0 0⟩ }
  {
  intro ρ w Γx Λx hs hu hp
  have e652 : ρ 26 = undef := (hp 7 rfl).1
  have e653 : ρ 30 = undef := (hp 11 rfl).1
  have e654 : ρ 21 = .bool (decide (0 < x11)) := (hp 2 rfl).1
  refine WL.pass ((wanted_of rfl rfl (bool_tr e654 hc564)).trans rfl) rfl ?_
  exact WL.nil ⟨rfl, _, rfl, rfl, hs.cutG 0 0⟩ }
  {
  intro ρ w Γx Λx hs hu hp
  have e655 : ρ 31 = undef := (hp 12 rfl).1
  have e656 : ρ 21 = .bool (decide (0 < x11)) := (hp 2 rfl).1
  refine WL.pass ((wanted_of rfl rfl (bool_tr e656 hc564)).trans rfl) rfl ?_
  exact WL.nil ⟨rfl, _, rfl, rfl, hs.cutG 0 0⟩ }
  {
  intro ρ w Γx Λx hs hu hp
  have e657 : ρ 21 = .bool (decide (0 < x11)) := (hp 2 rfl).1
  have e658 : ρ 32 = undef := (hp 13 rfl).1
  refine WL.pickF (v := .bool false) (bool_tr e657 hc564) rfl ?_
  exact WL.nil ⟨rfl, _, rfl, rfl, hs.cutG 0 0⟩ }
  {
  intro ρ w hs hu659 hp
  obtain ⟨⟨⟨⟨⟨⟨⟨⟨⟨⟨⟨⟨⟨⟨⟨_, hp0_⟩, hp1_⟩, hp2_⟩, hp3_⟩, hp4_⟩, hp5_⟩, hp6_⟩, hp7_⟩, hp8_⟩, hp9_⟩, hp10_⟩, hp11_⟩, hp12_⟩, hp13_⟩, hp14_⟩ := hp
  have hs : St ok (bz w0) w [vl t_api_Update x19 (.agg cs22.toArray), pl t_api_Update x19 ad20, vl (tSlice t_api_Update) x1 (.slice a2 x1.length c3)] [] := hs
  have e660 : ρ 33 = .bool false := hp14_
  have e661 : ρ 32 = undef := hp13_
  have e662 : ρ 31 = undef := hp12_
  have e663 : ρ 30 = undef := hp11_
  have e664 : ρ 29 = undef := hp10_
  have e665 : ρ 28 = undef := hp9_
  have e666 : ρ 27 = undef := hp8_
  have e667 : ρ 26 = undef := hp7_
  have e668 : ρ 25 = undef := hp6_
  have e669 : ρ 24 = undef := hp5_
  have e670 : ρ 23 = undef := hp4_
  have e671 : ρ 22 = undef := hp3_
  have e672 : ρ 21 = .bool (decide (0 < x11)) := hp2_
  have e673 : ρ 20 = .bool (decide (0 < x11)) := hp1_
  have e674 : ρ 19 = .int .i64 x11 := hp0_
  refine WA.done (by kernel_rfl) ?_
  exact Jk32 false _ _ ((hu659 0 rfl).trans h10_0) ((hu659 3 rfl).trans h10_3) e660 ((hs.mask []).pick [2]) hf } } } }
  {
  refine W.cond_false (bool_tr rfl hc15) ?_
  refine W.exit ?_
  have hr := Option.some.inj hf; subst hr
  have hr := hbbs12 _ rfl; subst hr
  have hf := hfs12
  exact Jk7  _ _  ((hs.mask []).pick []) hf }
end Go.Proofs.Ytlbcfjblpopcnaa
