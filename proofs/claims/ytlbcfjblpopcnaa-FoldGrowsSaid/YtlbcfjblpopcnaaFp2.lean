import Derived.Test.YtlbcfjblpopcnaaFh
import Derived.Test.YtlbcfjblpopcnaaLz
import Derived.Test.YtlbcfjblpopcnaaFp0
import Derived.Test.YtlbcfjblpopcnaaFp1
set_option linter.unusedVariables false
set_option linter.unusedSimpArgs false
namespace Go.Proofs.Ytlbcfjblpopcnaa
open Go Go.RowKit Go.Proofs.YtlbcfjblpopcnaaL
set_option maxRecDepth 100000
set_option maxHeartbeats 4000000
/-! elasticstore/elasticstorelaw00.Some: function 18 -/
theorem eslaw00_Some.calls {ok : Nat → Prop} {w0 : World} {x1 : List api_Update} {x4 : Int} {a2 : Option Addr} {c3 : Nat} {r : List api_Update} (hf : eslaw00_Some x1 x4 = some r) (i0 : (vl (tSlice t_api_Update) x1 (.slice a2 x1.length c3)).holds ok w0) :
    Calls Try.prog 18 #[.slice a2 x1.length c3, .int .i64 x4] w0 fun e w' => ∃ v, e = .returned v ∧ ∃ y : (Option Addr × Nat × Nat), v = .slice y.1 y.2.1 y.2.2 ∧ St ok (bz w0) w' [] [own t_api_Update 41 (.slice y.1 y.2.1 y.2.2) r] := by
  unfold eslaw00_Some at hf
  refine calls_of_W (fn := Try.f18) (N := 35) Try.func18 rfl Try.ntmps18 rfl ?_
  have hs : St ok (bz w0) w0 [vl (tSlice t_api_Update) x1 (.slice a2 x1.length c3)] [] := St.init (All.cons i0 All.nil)
  clear i0
  refine W.seqK fun K5 hK5 => ?_
  refine W.region ?_
  refine WL.assign (v := .slice none 0 0) rfl ?_
  refine WL.nil ?_
  refine hK5 _ _ ?_
  refine W.seqK fun K6 hK6 => ?_
  refine W.region ?_
  refine WL.assign (v := .slice none 0 0) rfl ?_
  refine WL.nil ?_
  refine hK6 _ _ ?_
  refine W.seqK fun K7 hK7 => ?_
  have hs := hs.ownNil t_api_Update 41
  have Jk13 : ∀ (x9 : List api_Update) (a10 : Option Addr) (c11 : Nat) (n12 : Nat) (ρ : Env) (w : World), ρ 5 = .slice a10 n12 c11 → St ok (bz w0) w [] [own t_api_Update 41 (.slice a10 n12 c11) x9] → eslaw00_Some.j1 x9 = some r → K7 ρ w := by
    intro x9 a10 c11 n12 ρ w h8_5 hs hf
    refine hK7 _ _ ?_
    unfold eslaw00_Some.j1 at hf
    refine W.seqK fun K14 hK14 => ?_
    refine W.region ?_
    refine WL.move (v := .slice a10 n12 c11) h8_5 ?_
    refine WL.assign (v := .slice a10 n12 c11) rfl ?_
    refine WL.nil ?_
    refine hK14 _ _ ?_
    refine W.ret ?_
    have hr := Option.some.inj hf; subst hr
    exact ⟨_, resOk_one rfl rfl, (a10, n12, c11), rfl, (hs.mask [true]).pick []⟩
  refine W.seqK fun K15 hK15 => ?_
  refine W.region ?_
  refine WL.assign (v := .int .i64 0) rfl ?_
  refine WL.nil ?_
  refine hK15 _ _ ?_
  refine W.block ?_
  obtain ⟨bs22, hbs22, hfs22⟩ := bindE hf
  refine W.loop hbs22 (fun s ρ w => match s with | (x17, x21) => ∃ (a18 : Option Addr), ∃ (c19 : Nat), ∃ (n20 : Nat), ρ 0 = .slice a2 x1.length c3 ∧ ρ 1 = .int .i64 x4 ∧ ρ 5 = .slice a18 n20 c19 ∧ ρ 6 = .int .i64 x21 ∧ St ok (bz w0) w [vl (tSlice t_api_Update) x1 (.slice a2 x1.length c3)] [own t_api_Update 41 (.slice a18 n20 c19) x17]) ⟨none, 0, 0, rfl, rfl, rfl, rfl, (hs.mask [true]).pick [0]⟩ ?_
  intro s ρ w os22 hI hf hbbs22
  obtain ⟨x17, x21⟩ := s
  obtain ⟨a18, c19, n20, h16_0, h16_1, h16_5, h16_6, hs⟩ := hI
  unfold eslaw00_Some.l1 at hf
  refine W.seqK fun K23 hK23 => ?_
  refine W.seqK fun K24 hK24 => ?_
  refine W.region ?_
  refine WL.move (v := .int .i64 x21) h16_6 ?_
  refine WL.move (v := .slice a2 x1.length c3) h16_0 ?_
  refine WL.len (v := .slice a2 x1.length c3) rfl (len_slice UN23) ?_
  refine WL.bin (v := .bool (decide (x21 < (x1.length : Int)))) rfl rfl (ib_lss _ _ _) ?_
  refine WL.nil ?_
  refine hK24 _ _ ?_
  rcases iteE hf with ⟨hc25, hf⟩ | ⟨hc25, hf⟩
  · refine W.cond_true (bool_tr rfl hc25) ?_
    refine W.skip ?_
    refine hK23 _ _ ?_
    refine W.seqK fun K26 hK26 => ?_
    have Jk32 : ∀ (x28 : List api_Update) (a29 : Option Addr) (c30 : Nat) (n31 : Nat) (ρ : Env) (w : World), ρ 0 = .slice a2 x1.length c3 → ρ 1 = .int .i64 x4 → ρ 5 = .slice a29 n31 c30 → ρ 6 = .int .i64 x21 → St ok (bz w0) w [vl (tSlice t_api_Update) x1 (.slice a2 x1.length c3)] [own t_api_Update 41 (.slice a29 n31 c30) x28] → eslaw00_Some.j2 x21 x28 = some os22 → K26 ρ w := by
      intro x28 a29 c30 n31 ρ w h27_0 h27_1 h27_5 h27_6 hs hf
      refine hK26 _ _ ?_
      unfold eslaw00_Some.j2 at hf
      refine W.region ?_
      refine WL.move (v := .int .i64 x21) h27_6 ?_
      obtain ⟨x33, ex33, hf⟩ := letE hf
      refine WL.bin (v := .int .i64 x33) rfl rfl (ib_as ex33 (ib_add _ _ _)) ?_
      refine WL.assign (v := .int .i64 x33) rfl ?_
      refine WL.nil ?_
      exact ⟨_, (Option.some.inj hf).symm, a29, c30, n31, h27_0, h27_1, h27_5, rfl, (hs.mask [true]).pick [0]⟩
    refine W.block ?_
    refine W.seqK fun K34 hK34 => ?_
    obtain ⟨x35, hxx35, hf⟩ := bindE hf
    obtain ⟨x39, hxx39, hf⟩ := bindE hf
    obtain ⟨x43, ex43, hf⟩ := letE hf
    obtain ⟨x44, hxx44, hf⟩ := bindE hf
    refine W.any (by kernel_rfl) 14 0 [true, true, true, true, true, true, true, true, true, true, true, true, true, true] rfl rfl (poAt [pv (.slice a2 x1.length c3), pv (.int .i64 x21), pq (fun y : Addr => .pointer (some y)) (fun v => [pl t_api_Update x35 (adOf v)]) (fun v => []), pq (fun y : Addr => .pointer (some y)) (fun v => [pl (tInt .i64) x35.Seq (adOf v)]) (fun v => []), pv (.int .i64 x35.Seq), pv (.int .i64 x4), pv (.slice a2 x1.length c3), pv (.int .i64 x21), pq (fun y : Addr => .pointer (some y)) (fun v => [pl t_api_Update x39 (adOf v)]) (fun v => []), pq (fun y : Addr => .pointer (some y)) (fun v => [pl (tInt .i64) x39.Client (adOf v)]) (fun v => []), pv (.int .i64 x39.Client), pv (.int .i64 x43), pv (.int .i64 x44), pv (.bool (decide (x35.Seq ≤ x44)))]) (Λ := [own t_api_Update 41 (.slice a18 n20 c19) x17]) hs (by kernel_rfl) (by kernel_rfl) (by kernel_rfl) ⟨⟨⟨⟨⟨⟨⟨⟨⟨⟨⟨⟨⟨⟨trivial, ?_⟩, ?_⟩, ?_⟩, ?_⟩, ?_⟩, ?_⟩, ?_⟩, ?_⟩, ?_⟩, ?_⟩, ?_⟩, ?_⟩, ?_⟩, ?_⟩ ?_
    · intro ρ w Γx Λx hs hu hp
      refine WL.move (v := .slice a2 x1.length c3) ((hu 0 rfl).trans h16_0) ?_
      exact WL.nil ⟨rfl, _, rfl, rfl, hs.cutG 0 0⟩
    · intro ρ w Γx Λx hs hu hp
      refine WL.move (v := .int .i64 x21) ((hu 6 rfl).trans h16_6) ?_
      exact WL.nil ⟨rfl, _, rfl, rfl, hs.cutG 0 0⟩
    · intro ρ w Γx Λx hs hu hp
      have e45 : ρ 13 = .slice a2 x1.length c3 := (hp 0 rfl).1
      have e46 : ρ 14 = .int .i64 x21 := (hp 1 rfl).1
      refine WL.indexAddr hs (Γx.length + 0) (getApp rfl) UN23 TI41 e45 e46 hxx35 (fun ad36 hs => ?_)
      have hs := hs.add (it := pl t_api_Update x35 ad36) fun ok hA => hA.get 0 rfl
      exact WL.nil ⟨rfl, _, rfl, ⟨ad36, rfl⟩, hs.cutG 1 1⟩
    · intro ρ w Γx Λx hs hu hp
      obtain ⟨⟨ad47, e48r⟩, hm49⟩ := hp 2 rfl
      have e48 : ρ 15 = .pointer (some ad47) := e48r
      rw [e48r] at hm49
      have hs := hs.memo1 (it := pl t_api_Update x35 ad47) (List.mem_append.2 (.inl (hm49 _ (List.mem_of_getElem? (i := 0) rfl))))
      refine WL.fieldAddrP (z := x35.Seq) F_api_Update_Seq hs 0 rfl e48 FA41_1 rfl (fun ad37 hs => ?_)
      have hs := hs.add (it := pl (tInt .i64) x35.Seq ad37) fun ok hA => hA.get 0 rfl
      exact WL.nil ⟨rfl, _, rfl, ⟨ad37, rfl⟩, hs.cutG 1 2⟩
    · intro ρ w Γx Λx hs hu hp
      obtain ⟨⟨ad50, e51r⟩, hm52⟩ := hp 3 rfl
      have e51 : ρ 16 = .pointer (some ad50) := e51r
      rw [e51r] at hm52
      have hs := hs.memo1 (it := pl (tInt .i64) x35.Seq ad50) (List.mem_append.2 (.inl (hm52 _ (List.mem_of_getElem? (i := 0) rfl))))
      refine WL.loadP hs 0 rfl TI3 (.inr rfl) e51 (fun v38 hs => ?_)
      obtain rfl := hs.int 0 rfl
      exact WL.nil ⟨rfl, _, rfl, rfl, hs.cutG 0 2⟩
    · intro ρ w Γx Λx hs hu hp
      refine WL.move (v := .int .i64 x4) ((hu 1 rfl).trans h16_1) ?_
      exact WL.nil ⟨rfl, _, rfl, rfl, hs.cutG 0 0⟩
    · intro ρ w Γx Λx hs hu hp
      refine WL.move (v := .slice a2 x1.length c3) ((hu 0 rfl).trans h16_0) ?_
      exact WL.nil ⟨rfl, _, rfl, rfl, hs.cutG 0 0⟩
    · intro ρ w Γx Λx hs hu hp
      refine WL.move (v := .int .i64 x21) ((hu 6 rfl).trans h16_6) ?_
      exact WL.nil ⟨rfl, _, rfl, rfl, hs.cutG 0 0⟩
    · intro ρ w Γx Λx hs hu hp
      have e53 : ρ 19 = .slice a2 x1.length c3 := (hp 6 rfl).1
      have e54 : ρ 20 = .int .i64 x21 := (hp 7 rfl).1
      refine WL.indexAddr hs (Γx.length + 0) (getApp rfl) UN23 TI41 e53 e54 hxx39 (fun ad40 hs => ?_)
      have hs := hs.add (it := pl t_api_Update x39 ad40) fun ok hA => hA.get 0 rfl
      exact WL.nil ⟨rfl, _, rfl, ⟨ad40, rfl⟩, hs.cutG 1 1⟩
    · intro ρ w Γx Λx hs hu hp
      obtain ⟨⟨ad55, e56r⟩, hm57⟩ := hp 8 rfl
      have e56 : ρ 21 = .pointer (some ad55) := e56r
      rw [e56r] at hm57
      have hs := hs.memo1 (it := pl t_api_Update x39 ad55) (List.mem_append.2 (.inl (hm57 _ (List.mem_of_getElem? (i := 0) rfl))))
      refine WL.fieldAddrP (z := x39.Client) F_api_Update_Client hs 0 rfl e56 FA41_0 rfl (fun ad41 hs => ?_)
      have hs := hs.add (it := pl (tInt .i64) x39.Client ad41) fun ok hA => hA.get 0 rfl
      exact WL.nil ⟨rfl, _, rfl, ⟨ad41, rfl⟩, hs.cutG 1 2⟩
    · intro ρ w Γx Λx hs hu hp
      obtain ⟨⟨ad58, e59r⟩, hm60⟩ := hp 9 rfl
      have e59 : ρ 22 = .pointer (some ad58) := e59r
      rw [e59r] at hm60
      have hs := hs.memo1 (it := pl (tInt .i64) x39.Client ad58) (List.mem_append.2 (.inl (hm60 _ (List.mem_of_getElem? (i := 0) rfl))))
      refine WL.loadP hs 0 rfl TI3 (.inr rfl) e59 (fun v42 hs => ?_)
      obtain rfl := hs.int 0 rfl
      exact WL.nil ⟨rfl, _, rfl, rfl, hs.cutG 0 2⟩
    · intro ρ w Γx Λx hs hu hp
      have e61 : ρ 23 = .int .i64 x39.Client := (hp 10 rfl).1
      refine WL.bin (v := .int .i64 x43) e61 rfl (ib_as ex43 (ib_sub _ _ _)) ?_
      exact WL.nil ⟨rfl, _, rfl, rfl, hs.cutG 0 0⟩
    · intro ρ w Γx Λx hs hu hp
      have e62 : ρ 18 = .int .i64 x4 := (hp 5 rfl).1
      have e63 : ρ 24 = .int .i64 x43 := (hp 11 rfl).1
      refine WL.call (vs := [.int .i64 x4, .int .i64 9, .int .i64 x43]) hs FN44 ⟨e62, ⟨rfl, ⟨e63, trivial⟩⟩⟩ (fun ok hA => eslaw00_Digit.calls (x1 := x4) (x2 := 9) (x3 := x43) hxx44) ?_
      rintro _ w hs
      exact WL.nil ⟨rfl, _, rfl, rfl, hs.cutG 0 0⟩
    · intro ρ w Γx Λx hs hu hp
      have e64 : ρ 17 = .int .i64 x35.Seq := (hp 4 rfl).1
      have e65 : ρ 25 = .int .i64 x44 := (hp 12 rfl).1
      refine WL.bin (v := .bool (decide (x35.Seq ≤ x44))) e64 e65 (ib_leq _ _ _) ?_
      exact WL.nil ⟨rfl, _, rfl, rfl, hs.cutG 0 0⟩
    · intro ρ w hs hu66 hp
      obtain ⟨⟨⟨⟨⟨⟨⟨⟨⟨⟨⟨⟨⟨⟨_, hp0_⟩, hp1_⟩, hp2_⟩, hp3_⟩, hp4_⟩, hp5_⟩, hp6_⟩, hp7_⟩, hp8_⟩, hp9_⟩, hp10_⟩, hp11_⟩, hp12_⟩, hp13_⟩ := hp
      have hs : St ok (bz w0) w [pl (tInt .i64) x39.Client (adOf (ρ 22)), pl t_api_Update x39 (adOf (ρ 21)), pl (tInt .i64) x35.Seq (adOf (ρ 16)), pl t_api_Update x35 (adOf (ρ 15)), vl (tSlice t_api_Update) x1 (.slice a2 x1.length c3)] [own t_api_Update 41 (.slice a18 n20 c19) x17] := hs
      have e67 : ρ 26 = .bool (decide (x35.Seq ≤ x44)) := hp13_
      have e68 : ρ 25 = .int .i64 x44 := hp12_
      have e69 : ρ 24 = .int .i64 x43 := hp11_
      have e70 : ρ 23 = .int .i64 x39.Client := hp10_
      obtain ⟨ad71, e72⟩ := hp9_
      have e72 : ρ 22 = .pointer (some ad71) := e72
      try rw [e72] at hs
      obtain ⟨ad73, e74⟩ := hp8_
      have e74 : ρ 21 = .pointer (some ad73) := e74
      try rw [e74] at hs
      have e75 : ρ 20 = .int .i64 x21 := hp7_
      have e76 : ρ 19 = .slice a2 x1.length c3 := hp6_
      have e77 : ρ 18 = .int .i64 x4 := hp5_
      have e78 : ρ 17 = .int .i64 x35.Seq := hp4_
      obtain ⟨ad79, e80⟩ := hp3_
      have e80 : ρ 16 = .pointer (some ad79) := e80
      try rw [e80] at hs
      obtain ⟨ad81, e82⟩ := hp2_
      have e82 : ρ 15 = .pointer (some ad81) := e82
      try rw [e82] at hs
      have e83 : ρ 14 = .int .i64 x21 := hp1_
      have e84 : ρ 13 = .slice a2 x1.length c3 := hp0_
      refine WA.done (by kernel_rfl) ?_
      refine hK34 _ _ ?_
      rcases iteE hf with ⟨hc85, hf⟩ | ⟨hc85, hf⟩
      · refine W.cond_true (bool_tr e67 hc85) ?_
        refine W.region ?_
        refine WL.move (v := .slice a18 n20 c19) ((hu66 5 rfl).trans h16_5) ?_
        refine WL.move (v := .slice a2 x1.length c3) ((hu66 0 rfl).trans h16_0) ?_
        refine WL.move (v := .int .i64 x21) ((hu66 6 rfl).trans h16_6) ?_
        obtain ⟨x86, hxx86, hf⟩ := bindE hf
        refine WL.indexAddr hs 4 rfl UN23 TI41 rfl rfl hxx86 (fun ad87 hs => ?_)
        refine WL.loadP hs 0 rfl TI41 (.inl rfl) rfl (fun v88 hs => ?_)
        obtain ⟨cs89, hl90, rfl⟩ := hs.aggv (n := 4) 0 rfl rfl rfl
        refine WL.buildSlice (n := 1) (vs := [(0, .agg cs89.toArray)]) (cs := cs89) hs ⟨⟨rfl, rfl⟩, trivial⟩ (bls PS23 (by decide) (by simp [fillS, fillL, Value.cells, hl90])) (fun g91 w hs => ?_)
        obtain ⟨x92, hxx92, hf⟩ := bindE hf
        obtain ⟨hbx92, hex92⟩ := appE hxx92
        refine WL.append (ys := [x86]) (zs := x92) hs 1 rfl 0 rfl UN23 EI41 rfl rfl (fun ok hA => (Cells.one (T := t_api_Update) (R_agg (hA.get 0 rfl) rfl))) hbx92 (by omega) hex92 (fun v93 w hs => ?_)
        obtain ⟨a94, n96, c95, rfl⟩ := hs.ownv3 1 rfl
        refine WL.assign (v := .slice a94 n96 c95) rfl ?_
        refine WL.nil ?_
        exact Jk32 x92 a94 c95 n96 _ _ ((hu66 0 rfl).trans h16_0) ((hu66 1 rfl).trans h16_1) rfl ((hu66 6 rfl).trans h16_6) ((hs.mask [false, true]).pick [6]) hf
      · refine W.cond_false (bool_tr e67 hc85) ?_
        refine W.skip ?_
        exact Jk32 x17 a18 c19 n20 _ _ ((hu66 0 rfl).trans h16_0) ((hu66 1 rfl).trans h16_1) ((hu66 5 rfl).trans h16_5) ((hu66 6 rfl).trans h16_6) ((hs.mask [true]).pick [4]) hf
  · refine W.cond_false (bool_tr rfl hc25) ?_
    refine W.exit ?_
    have hr := Option.some.inj hf; subst hr
    have hr := hbbs22 _ rfl; subst hr
    have hf := hfs22
    exact Jk13 x17 a18 c19 n20 _ _ h16_5 ((hs.mask [true]).pick []) hf
theorem eslaw00_Some.callc {ok : Nat → Prop} {w0 : World} {x1 : List api_Update} {x4 : Int} {a2 : Option Addr} {c3 : Nat} {r : List api_Update} (hf : eslaw00_Some x1 x4 = some r) (i0 : (vl (tSlice t_api_Update) x1 (.slice a2 x1.length c3)).holds ok w0) :
    Calls Try.prog 18 #[.slice a2 x1.length c3, .int .i64 x4] w0 fun e w' => ∃ v, e = .returned v ∧ ∃ y : (Option Addr × Nat), v = .slice y.1 r.length y.2 ∧ St ok (bz w0) w' [vl (tSlice t_api_Update) r (.slice y.1 r.length y.2)] [] := by
  refine (eslaw00_Some.calls (ok := ok) (w0 := w0) (x1 := x1) (x4 := x4) hf i0).mono ?_
  rintro e w' ⟨v, rfl, ⟨a98, n99, c100⟩, rfl, hs⟩
  obtain rfl := hs.ownLen 0 rfl
  have hs := hs.freezeOwn 0 rfl
  exact ⟨_, rfl, (a98, c100), rfl, hs.pick [0]⟩
/-! elasticstore/fold.FieldOf: function 28 -/
theorem fold_FieldOf.calls {ok : Nat → Prop} {w0 : World} {x1 : fold_Object} {x5 : List UInt8} {v2 : Value} {r : fold_Field} (hf : fold_FieldOf x1 x5 = some r) (i0 : (vl t_fold_Object x1 v2).holds ok w0) :
    Calls Try.prog 28 #[v2, bstr x5] w0 fun e w' => ∃ v, e = .returned v ∧ ∃ y : (Option Addr × Nat × Nat), v = .agg ([bstr r.Name, .bool r.Register.Set, .int .i64 r.Register.Tag, .int .i64 r.Register.Client, .int .i64 r.Register.Seq, .int .i64 r.Register.N, bstr r.Register.S, .bool r.HasMax, .int .i64 r.Max, .int .i64 r.Sum, .slice y.1 y.2.1 y.2.2, .bool r.Flag] : List Value).toArray ∧ St ok (bz w0) w' [] [own tStr 9 (.slice y.1 y.2.1 y.2.2) r.Elems] := by
  unfold fold_FieldOf at hf
  refine calls_of_W (fn := Try.f28) (N := 26) Try.func28 rfl Try.ntmps28 rfl ?_
  have hs : St ok (bz w0) w0 [vl t_fold_Object x1 v2] [] := St.init (All.cons i0 All.nil)
  clear i0
  obtain ⟨cs3, hl4, rfl⟩ := hs.aggv (n := 2) 0 rfl rfl rfl
  refine W.seqK fun K6 hK6 => ?_
  refine W.region ?_
  refine WL.box (vs := cs3) hs rfl rfl (fun g7 w hs => ?_)
  refine WL.alloc hs ZV57 (fun g8 w hs => ?_)
  refine WL.nil ?_
  refine hK6 _ _ ?_
  refine W.seqK fun K9 hK9 => ?_
  have Jk14 : ∀ (x11 : fold_Field) (cs12 : List Value) (ρ : Env) (w : World), cs12.length = 12 → ρ 1 = bstr x5 → ρ 4 = .pointer (some ⟨g8, 0, none⟩) → St ok (bz w0) w [vl t_fold_Field x11 (.agg cs12.toArray)] [blk g8 57 cs12] → fold_FieldOf.j1 x5 x11 = some r → K9 ρ w := by
    intro x11 cs12 ρ w hl13 h10_1 h10_4 hs hf
    refine hK9 _ _ ?_
    unfold fold_FieldOf.j1 at hf
    refine W.seqK fun K15 hK15 => ?_
    refine W.region ?_
    refine WL.move (v := bstr x5) h10_1 ?_
    refine WL.build (vs := [(0, bstr x5)]) (cs := [bstr x5, .bool false, .int .i64 0, .int .i64 0, .int .i64 0, .int .i64 0, bstr [], .bool false, .int .i64 0, .int .i64 0, .slice none 0 0, .bool false]) ⟨⟨rfl, rfl⟩, trivial⟩ (bld PL57 rfl) ?_
    refine WL.storeAll (vs := [bstr x5, .bool false, .int .i64 0, .int .i64 0, .int .i64 0, .int .i64 0, bstr [], .bool false, .int .i64 0, .int .i64 0, .slice none 0 0, .bool false]) hs 0 rfl TI57 h10_4 rfl rfl rfl (ones_of rfl) hl13 (fun w hs => ?_)
    refine WL.nil ?_
    refine hK15 _ _ ?_
    refine W.ret ?_
    have hr := Option.some.inj hf; subst hr
    have hs := hs.ownNil tStr 9
    exact ⟨_, resOk_one rfl (res_all hs 1 rfl TI57 h10_4 rfl), (none, 0, 0), rfl, (hs.mask [true]).pick []⟩
  refine W.seqK fun K16 hK16 => ?_
  refine W.region ?_
  refine WL.fieldAddr (m := 1) rfl FA51_1 rfl ?_
  refine WL.loadF (z := x1.Fields) F_fold_Object_Fields hs 1 rfl 0 rfl rfl TI49 (.inr rfl) rfl rfl (fun v17 hs => ?_)
  obtain ⟨a18, c19, rfl⟩ := hs.slice 0 rfl
  refine WL.len (v := .slice a18 (x1.Fields).length c19) rfl (len_slice UN49) ?_
  refine WL.move (v := .int .i64 0) rfl ?_
  refine WL.nil ?_
  refine hK16 _ _ ?_
  refine W.block ?_
  obtain ⟨bs25, hbs25, hfs25⟩ := bindE hf
  have hs := hs.add (it := vl t_fold_Field (⟨[], (⟨false, 0, 0, 0, 0, []⟩ : fold_Register), false, 0, 0, [], false⟩ : fold_Field) (.agg ([bstr [], .bool false, .int .i64 0, .int .i64 0, .int .i64 0, .int .i64 0, bstr [], .bool false, .int .i64 0, .int .i64 0, .slice none 0 0, .bool false]).toArray)) fun ok hA => V_agg (show t_fold_Field.R ok _ _ _ from ⟨([bstr []]), ([.bool false, .int .i64 0, .int .i64 0, .int .i64 0, .int .i64 0, bstr [], .bool false, .int .i64 0, .int .i64 0, .slice none 0 0, .bool false]), rfl, rfl, ⟨([.bool false, .int .i64 0, .int .i64 0, .int .i64 0, .int .i64 0, bstr []]), [.bool false, .int .i64 0, .int .i64 0, .slice none 0 0, .bool false], rfl, ⟨[.bool false], ([.int .i64 0, .int .i64 0, .int .i64 0, .int .i64 0, bstr []]), rfl, rfl, ⟨[.int .i64 0], ([.int .i64 0, .int .i64 0, .int .i64 0, bstr []]), rfl, rfl, ⟨[.int .i64 0], ([.int .i64 0, .int .i64 0, bstr []]), rfl, rfl, ⟨[.int .i64 0], ([.int .i64 0, bstr []]), rfl, rfl, ⟨[.int .i64 0], ([bstr []]), rfl, rfl, rfl⟩⟩⟩⟩⟩, ⟨[.bool false], [.int .i64 0, .int .i64 0, .slice none 0 0, .bool false], rfl, rfl, ⟨[.int .i64 0], [.int .i64 0, .slice none 0 0, .bool false], rfl, rfl, ⟨[.int .i64 0], [.slice none 0 0, .bool false], rfl, rfl, ⟨[.slice none 0 0], [.bool false], rfl, R_nil, rfl⟩⟩⟩⟩⟩⟩) rfl
  have hs := hs.add (it := vl t_fold_Field (⟨[], (⟨false, 0, 0, 0, 0, []⟩ : fold_Register), false, 0, 0, [], false⟩ : fold_Field) (.agg ([bstr [], .bool false, .int .i64 0, .int .i64 0, .int .i64 0, .int .i64 0, bstr [], .bool false, .int .i64 0, .int .i64 0, .slice none 0 0, .bool false]).toArray)) fun ok hA => V_agg (show t_fold_Field.R ok _ _ _ from ⟨([bstr []]), ([.bool false, .int .i64 0, .int .i64 0, .int .i64 0, .int .i64 0, bstr [], .bool false, .int .i64 0, .int .i64 0, .slice none 0 0, .bool false]), rfl, rfl, ⟨([.bool false, .int .i64 0, .int .i64 0, .int .i64 0, .int .i64 0, bstr []]), [.bool false, .int .i64 0, .int .i64 0, .slice none 0 0, .bool false], rfl, ⟨[.bool false], ([.int .i64 0, .int .i64 0, .int .i64 0, .int .i64 0, bstr []]), rfl, rfl, ⟨[.int .i64 0], ([.int .i64 0, .int .i64 0, .int .i64 0, bstr []]), rfl, rfl, ⟨[.int .i64 0], ([.int .i64 0, .int .i64 0, bstr []]), rfl, rfl, ⟨[.int .i64 0], ([.int .i64 0, bstr []]), rfl, rfl, ⟨[.int .i64 0], ([bstr []]), rfl, rfl, rfl⟩⟩⟩⟩⟩, ⟨[.bool false], [.int .i64 0, .int .i64 0, .slice none 0 0, .bool false], rfl, rfl, ⟨[.int .i64 0], [.int .i64 0, .slice none 0 0, .bool false], rfl, rfl, ⟨[.int .i64 0], [.slice none 0 0, .bool false], rfl, rfl, ⟨[.slice none 0 0], [.bool false], rfl, R_nil, rfl⟩⟩⟩⟩⟩⟩) rfl
  refine W.loop hbs25 (fun s ρ w => match s with | (x21, x22) => ∃ (cs23 : List Value), cs23.length = 12 ∧ ρ 1 = bstr x5 ∧ ρ 4 = .pointer (some ⟨g8, 0, none⟩) ∧ ρ 8 = .slice a18 (x1.Fields).length c19 ∧ ρ 9 = .int .i64 ((x1.Fields).length : Int) ∧ ρ 10 = .int .i64 x21 ∧ St ok (bz w0) w [vl (tSlice t_fold_Field) x1.Fields (.slice a18 (x1.Fields).length c19), vl t_fold_Field x22 (.agg cs23.toArray)] [blk g8 57 cs23]) ⟨[bstr [], .bool false, .int .i64 0, .int .i64 0, .int .i64 0, .int .i64 0, bstr [], .bool false, .int .i64 0, .int .i64 0, .slice none 0 0, .bool false], rfl, rfl, rfl, rfl, rfl, rfl, (hs.mask [true]).pick [2, 0]⟩ ?_
  intro s ρ w os25 hI hf hbbs25
  obtain ⟨x21, x22⟩ := s
  obtain ⟨cs23, hl24, h20_1, h20_4, h20_8, h20_9, h20_10, hs⟩ := hI
  unfold fold_FieldOf.l1 at hf
  refine W.seqK fun K26 hK26 => ?_
  refine W.region ?_
  refine WL.bin (v := .bool (decide (x21 < ((x1.Fields).length : Int)))) h20_10 h20_9 (ib_lss _ _ _) ?_
  refine WL.nil ?_
  refine hK26 _ _ ?_
  refine W.seqK fun K27 hK27 => ?_
  rcases iteE hf with ⟨hc28, hf⟩ | ⟨hc28, hf⟩
  · refine W.cond_true (bool_tr rfl hc28) ?_
    refine W.skip ?_
    refine hK27 _ _ ?_
    refine W.seqK fun K29 hK29 => ?_
    refine W.block ?_
    refine W.seqK fun K30 hK30 => ?_
    refine W.region ?_
    obtain ⟨x31, hxx31, hf⟩ := bindE hf
    refine WL.indexAddr hs 0 rfl UN49 TI57 h20_8 h20_10 hxx31 (fun ad32 hs => ?_)
    refine WL.loadP hs 0 rfl TI57 (.inl rfl) rfl (fun v33 hs => ?_)
    obtain ⟨cs34, hl35, rfl⟩ := hs.aggv (n := 12) 0 rfl rfl rfl
    refine WL.alloc hs ZV57 (fun g36 w hs => ?_)
    obtain ⟨a37, c38, rfl⟩ := open_fold_Field hs 0 rfl
    have hs := hs.add (it := vl (tSlice tStr) x31.Elems (.slice a37 (x31.Elems).length c38)) fun ok hA => V_fld F_fold_Field_Elems (hA.get 0 rfl) rfl rfl rfl
    refine WL.storeAll (vs := [bstr x31.Name, .bool x31.Register.Set, .int .i64 x31.Register.Tag, .int .i64 x31.Register.Client, .int .i64 x31.Register.Seq, .int .i64 x31.Register.N, bstr x31.Register.S, .bool x31.HasMax, .int .i64 x31.Max, .int .i64 x31.Sum, .slice a37 (x31.Elems).length c38, .bool x31.Flag]) hs 0 rfl TI57 rfl rfl rfl rfl (ones_of rfl) rfl (fun w hs => ?_)
    refine WL.nil ?_
    refine hK30 _ _ ?_
    refine W.seqK fun K39 hK39 => ?_
    refine W.region ?_
    refine WL.fieldAddr (m := 0) rfl FA57_0 rfl ?_
    refine WL.load1 (v := bstr x31.Name) hs 0 rfl TI9 rfl rfl ?_
    refine WL.move (v := bstr x5) h20_1 ?_
    refine WL.binS (v := .bool (x31.Name == x5)) rfl rfl (sb_eql _ _) ?_
    refine WL.nil ?_
    refine hK39 _ _ ?_
    rcases iteE hf with ⟨hc40, hf⟩ | ⟨hc40, hf⟩
    · refine W.cond_true (bool_tr rfl hc40) ?_
      refine W.seqK fun K41 hK41 => ?_
      refine W.region ?_
      refine WL.fieldAddr (m := 10) rfl FA57_5 rfl ?_
      refine WL.load1 (v := .slice a37 (x31.Elems).length c38) hs 0 rfl TI55 rfl rfl ?_
      obtain ⟨x42, hxx42, hf⟩ := bindE hf
      refine WL.call (vs := [.slice a37 (x31.Elems).length c38]) hs FN55 ⟨rfl, trivial⟩ (fun ok hA => slices_Clone_string.calls (x1 := x31.Elems) hxx42 (hA.get 0 rfl)) ?_
      rintro ⟨a43, n44, c45⟩ w hs
      refine WL.fieldAddr (m := 10) rfl FA57_5 rfl ?_
      refine WL.store (vs := [.slice a43 n44 c45]) (cs' := [bstr x31.Name, .bool x31.Register.Set, .int .i64 x31.Register.Tag, .int .i64 x31.Register.Client, .int .i64 x31.Register.Seq, .int .i64 x31.Register.N, bstr x31.Register.S, .bool x31.HasMax, .int .i64 x31.Max, .int .i64 x31.Sum, .slice a43 n44 c45, .bool x31.Flag]) hs 1 rfl TI55 rfl rfl rfl rfl (ones_of rfl) (Nat.le_of_ble_eq_true rfl) rfl (fun w hs => ?_)
      refine WL.nil ?_
      refine hK41 _ _ ?_
      refine W.seqK fun K46 hK46 => ?_
      refine W.region ?_
      refine WL.loadN (vs := [bstr x31.Name, .bool x31.Register.Set, .int .i64 x31.Register.Tag, .int .i64 x31.Register.Client, .int .i64 x31.Register.Seq, .int .i64 x31.Register.N, bstr x31.Register.S, .bool x31.HasMax, .int .i64 x31.Max, .int .i64 x31.Sum, .slice a43 n44 c45, .bool x31.Flag]) hs 1 rfl TI57 rfl rfl rfl ?_
      refine WL.storeAll (vs := [bstr x31.Name, .bool x31.Register.Set, .int .i64 x31.Register.Tag, .int .i64 x31.Register.Client, .int .i64 x31.Register.Seq, .int .i64 x31.Register.N, bstr x31.Register.S, .bool x31.HasMax, .int .i64 x31.Max, .int .i64 x31.Sum, .slice a43 n44 c45, .bool x31.Flag]) hs 2 rfl TI57 h20_4 rfl rfl rfl (ones_of rfl) hl24 (fun w hs => ?_)
      refine WL.nil ?_
      refine hK46 _ _ ?_
      refine W.ret ?_
      have hr := Option.some.inj hf; subst hr
      have hr := hbbs25 _ rfl; subst hr
      have hf := hfs25
      have hr := Option.some.inj hf; subst hr
      exact ⟨_, resOk_one rfl (res_all hs 2 rfl TI57 h20_4 rfl), (a43, n44, c45), rfl, (hs.mask [true]).pick []⟩
    · refine W.cond_false (bool_tr rfl hc40) ?_
      refine W.skip ?_
      refine hK29 _ _ ?_
      refine W.region ?_
      obtain ⟨x47, ex47, hf⟩ := letE hf
      refine WL.bin (v := .int .i64 x47) h20_10 rfl (ib_as ex47 (ib_add _ _ _)) ?_
      refine WL.move (v := .int .i64 x47) rfl ?_
      refine WL.nil ?_
      exact ⟨_, (Option.some.inj hf).symm, cs23, hl24, h20_1, h20_4, h20_8, h20_9, rfl, (hs.mask [false, true]).pick [3, 4]⟩
  · refine W.cond_false (bool_tr rfl hc28) ?_
    refine W.exit ?_
    have hr := Option.some.inj hf; subst hr
    have hr := hbbs25 _ rfl; subst hr
    have hf := hfs25
    exact Jk14 x22 cs23 _ _ hl24 h20_1 h20_4 ((hs.mask [true]).pick [1]) hf
theorem fold_FieldOf.callc {ok : Nat → Prop} {w0 : World} {x1 : fold_Object} {x5 : List UInt8} {v2 : Value} {r : fold_Field} (hf : fold_FieldOf x1 x5 = some r) (i0 : (vl t_fold_Object x1 v2).holds ok w0) :
    Calls Try.prog 28 #[v2, bstr x5] w0 fun e w' => ∃ v, e = .returned v ∧ ∃ y : List Value, v = .agg y.toArray ∧ St ok (bz w0) w' [vl t_fold_Field r (.agg y.toArray)] [] := by
  refine (fold_FieldOf.calls (ok := ok) (w0 := w0) (x1 := x1) (x5 := x5) hf i0).mono ?_
  rintro e w' ⟨v, rfl, ⟨a50, n51, c52⟩, rfl, hs⟩
  obtain rfl := hs.ownLen 0 rfl
  have hs := hs.freezeOwn 0 rfl
  have hs := hs.add (it := vl t_fold_Field (⟨r.Name, (⟨r.Register.Set, r.Register.Tag, r.Register.Client, r.Register.Seq, r.Register.N, r.Register.S⟩ : fold_Register), r.HasMax, r.Max, r.Sum, r.Elems, r.Flag⟩ : fold_Field) (.agg [bstr r.Name, .bool r.Register.Set, .int .i64 r.Register.Tag, .int .i64 r.Register.Client, .int .i64 r.Register.Seq, .int .i64 r.Register.N, bstr r.Register.S, .bool r.HasMax, .int .i64 r.Max, .int .i64 r.Sum, .slice a50 (r.Elems).length c52, .bool r.Flag].toArray)) fun ok hA => V_agg (show t_fold_Field.R ok _ _ _ from ⟨[bstr r.Name], [.bool r.Register.Set, .int .i64 r.Register.Tag, .int .i64 r.Register.Client, .int .i64 r.Register.Seq, .int .i64 r.Register.N, bstr r.Register.S, .bool r.HasMax, .int .i64 r.Max, .int .i64 r.Sum, .slice a50 (r.Elems).length c52, .bool r.Flag], rfl, rfl, ⟨[.bool r.Register.Set, .int .i64 r.Register.Tag, .int .i64 r.Register.Client, .int .i64 r.Register.Seq, .int .i64 r.Register.N, bstr r.Register.S], [.bool r.HasMax, .int .i64 r.Max, .int .i64 r.Sum, .slice a50 (r.Elems).length c52, .bool r.Flag], rfl, ⟨[.bool r.Register.Set], [.int .i64 r.Register.Tag, .int .i64 r.Register.Client, .int .i64 r.Register.Seq, .int .i64 r.Register.N, bstr r.Register.S], rfl, rfl, ⟨[.int .i64 r.Register.Tag], [.int .i64 r.Register.Client, .int .i64 r.Register.Seq, .int .i64 r.Register.N, bstr r.Register.S], rfl, rfl, ⟨[.int .i64 r.Register.Client], [.int .i64 r.Register.Seq, .int .i64 r.Register.N, bstr r.Register.S], rfl, rfl, ⟨[.int .i64 r.Register.Seq], [.int .i64 r.Register.N, bstr r.Register.S], rfl, rfl, ⟨[.int .i64 r.Register.N], [bstr r.Register.S], rfl, rfl, rfl⟩⟩⟩⟩⟩, ⟨[.bool r.HasMax], [.int .i64 r.Max, .int .i64 r.Sum, .slice a50 (r.Elems).length c52, .bool r.Flag], rfl, rfl, ⟨[.int .i64 r.Max], [.int .i64 r.Sum, .slice a50 (r.Elems).length c52, .bool r.Flag], rfl, rfl, ⟨[.int .i64 r.Sum], [.slice a50 (r.Elems).length c52, .bool r.Flag], rfl, rfl, ⟨[.slice a50 (r.Elems).length c52], [.bool r.Flag], rfl, (R_one (hA.get 0 rfl)), rfl⟩⟩⟩⟩⟩⟩) rfl
  exact ⟨_, rfl, [bstr r.Name, .bool r.Register.Set, .int .i64 r.Register.Tag, .int .i64 r.Register.Client, .int .i64 r.Register.Seq, .int .i64 r.Register.N, bstr r.Register.S, .bool r.HasMax, .int .i64 r.Max, .int .i64 r.Sum, .slice a50 (r.Elems).length c52, .bool r.Flag], rfl, hs.pick [0]⟩
/-! slices.EqualFunc[[]elasticstore/fold.Object,[]elasticstore/fold.Object,elasticstore/fold.Object,elasticstore/fold.Object]: function 53 -/
theorem slices_EqualFunc_Object.calls {ok : Nat → Prop} {w0 : World} {x1 : List fold_Object} {x4 : List fold_Object} {x7 : fold_Object × fold_Object → Option Bool} {a2 : Option Addr} {c3 : Nat} {a5 : Option Addr} {c6 : Nat} {v8 : Value} {r : Bool} (hf : slices_EqualFunc_Object x1 x4 x7 = some r) (i0 : (vl (tSlice t_fold_Object) x1 (.slice a2 x1.length c3)).holds ok w0) (i1 : (vl (tSlice t_fold_Object) x4 (.slice a5 x4.length c6)).holds ok w0) (i2 : (vl (tFun Try.prog (argK2 t_fold_Object t_fold_Object) (fun r : Bool => .bool r)) x7 v8).holds ok w0) :
    Calls Try.prog 53 #[.slice a2 x1.length c3, .slice a5 x4.length c6, v8] w0 fun e w' => ∃ v, e = .returned v ∧ ∃ y : Unit, v = .bool r ∧ St ok (bz w0) w' [] [] := by
  unfold slices_EqualFunc_Object at hf
  refine calls_of_W (fn := Try.f53) (N := 32) Try.func53 rfl Try.ntmps53 rfl ?_
  have hs : St ok (bz w0) w0 [vl (tSlice t_fold_Object) x1 (.slice a2 x1.length c3), vl (tSlice t_fold_Object) x4 (.slice a5 x4.length c6), vl (tFun Try.prog (argK2 t_fold_Object t_fold_Object) (fun r : Bool => .bool r)) x7 v8] [] := St.init (All.cons i0 (All.cons i1 (All.cons i2 All.nil)))
  clear i0 i1 i2
  refine W.seqK fun K9 hK9 => ?_
  refine W.region ?_
  refine WL.assign (v := .bool false) rfl ?_
  refine WL.nil ?_
  refine hK9 _ _ ?_
  refine W.seqK fun K10 hK10 => ?_
  refine W.seqK fun K11 hK11 => ?_
  refine W.region ?_
  refine WL.move (v := .slice a2 x1.length c3) rfl ?_
  refine WL.len (v := .slice a2 x1.length c3) rfl (len_slice UN27) ?_
  refine WL.move (v := .slice a5 x4.length c6) rfl ?_
  refine WL.len (v := .slice a5 x4.length c6) rfl (len_slice UN27) ?_
  refine WL.bin (v := .bool ((x1.length : Int) != (x4.length : Int))) rfl rfl (ib_neq _ _ _) ?_
  refine WL.nil ?_
  refine hK11 _ _ ?_
  rcases iteE hf with ⟨hc12, hf⟩ | ⟨hc12, hf⟩
  · refine W.cond_true (bool_tr rfl hc12) ?_
    refine W.seqK fun K13 hK13 => ?_
    refine W.region ?_
    refine WL.assign (v := .bool false) rfl ?_
    refine WL.nil ?_
    refine hK13 _ _ ?_
    refine W.ret ?_
    have hr := Option.some.inj hf; subst hr
    exact ⟨_, resOk_one rfl rfl, (), rfl, (hs.mask []).pick []⟩
  · refine W.cond_false (bool_tr rfl hc12) ?_
    refine W.skip ?_
    refine hK10 _ _ ?_
    refine W.seqK fun K14 hK14 => ?_
    have Jk16 : ∀  (ρ : Env) (w : World), St ok (bz w0) w [] [] → slices_EqualFunc_Object.j1 = some r → K14 ρ w := by
      intro  ρ w  hs hf
      refine hK14 _ _ ?_
      unfold slices_EqualFunc_Object.j1 at hf
      refine W.seqK fun K17 hK17 => ?_
      refine W.region ?_
      refine WL.assign (v := .bool true) rfl ?_
      refine WL.nil ?_
      refine hK17 _ _ ?_
      refine W.ret ?_
      have hr := Option.some.inj hf; subst hr
      exact ⟨_, resOk_one rfl rfl, (), rfl, (hs.mask []).pick []⟩
    refine W.seqK fun K18 hK18 => ?_
    refine W.region ?_
    refine WL.move (v := .slice a2 x1.length c3) rfl ?_
    refine WL.len (v := .slice a2 x1.length c3) rfl (len_slice UN27) ?_
    refine WL.move (v := .int .i64 0) rfl ?_
    refine WL.nil ?_
    refine hK18 _ _ ?_
    refine W.block ?_
    obtain ⟨bs21, hbs21, hfs21⟩ := bindE hf
    refine W.loop hbs21 (fun s ρ w => match s with | x20 => ρ 1 = .slice a5 x4.length c6 ∧ ρ 2 = v8 ∧ ρ 15 = .slice a2 x1.length c3 ∧ ρ 16 = .int .i64 (x1.length : Int) ∧ ρ 17 = .int .i64 x20 ∧ St ok (bz w0) w [vl (tSlice t_fold_Object) x4 (.slice a5 x4.length c6), vl (tFun Try.prog (argK2 t_fold_Object t_fold_Object) (fun r : Bool => .bool r)) x7 v8, vl (tSlice t_fold_Object) x1 (.slice a2 x1.length c3)] []) ⟨rfl, rfl, rfl, rfl, rfl, (hs.mask []).pick [1, 2, 0]⟩ ?_
    intro x20 ρ w os21 hI hf hbbs21
    obtain ⟨h19_1, h19_2, h19_15, h19_16, h19_17, hs⟩ := hI
    unfold slices_EqualFunc_Object.l1 at hf
    refine W.seqK fun K22 hK22 => ?_
    refine W.region ?_
    refine WL.bin (v := .bool (decide (x20 < (x1.length : Int)))) h19_17 h19_16 (ib_lss _ _ _) ?_
    refine WL.nil ?_
    refine hK22 _ _ ?_
    refine W.seqK fun K23 hK23 => ?_
    rcases iteE hf with ⟨hc24, hf⟩ | ⟨hc24, hf⟩
    · refine W.cond_true (bool_tr rfl hc24) ?_
      refine W.skip ?_
      refine hK23 _ _ ?_
      refine W.seqK fun K25 hK25 => ?_
      refine W.block ?_
      refine W.seqK fun K26 hK26 => ?_
      refine W.region ?_
      refine WL.move (v := .int .i64 x20) h19_17 ?_
      obtain ⟨x27, hxx27, hf⟩ := bindE hf
      refine WL.indexAddr hs 2 rfl UN27 TI51 h19_15 h19_17 hxx27 (fun ad28 hs => ?_)
      refine WL.loadP hs 0 rfl TI51 (.inl rfl) rfl (fun v29 hs => ?_)
      obtain ⟨cs30, hl31, rfl⟩ := hs.aggv (n := 2) 0 rfl rfl rfl
      refine WL.alloc hs ZV51 (fun g32 w hs => ?_)
      refine WL.assign (v := .int .i64 x20) rfl ?_
      refine WL.storeAll (vs := cs30) hs 0 rfl TI51 rfl rfl rfl hl31 (hs.ones 0 rfl rfl) rfl (fun w hs => ?_)
      refine WL.nil ?_
      refine hK26 _ _ ?_
      refine W.seqK fun K33 hK33 => ?_
      refine W.region ?_
      refine WL.move (v := .slice a5 x4.length c6) h19_1 ?_
      refine WL.move (v := .int .i64 x20) rfl ?_
      obtain ⟨x34, hxx34, hf⟩ := bindE hf
      refine WL.indexAddr hs 2 rfl UN27 TI51 rfl rfl hxx34 (fun ad35 hs => ?_)
      refine WL.loadP hs 0 rfl TI51 (.inl rfl) rfl (fun v36 hs => ?_)
      obtain ⟨cs37, hl38, rfl⟩ := hs.aggv (n := 2) 0 rfl rfl rfl
      refine WL.alloc hs ZV51 (fun g39 w hs => ?_)
      refine WL.storeAll (vs := cs37) hs 0 rfl TI51 rfl rfl rfl hl38 (hs.ones 0 rfl rfl) rfl (fun w hs => ?_)
      refine WL.nil ?_
      refine hK33 _ _ ?_
      refine W.seqK fun K40 hK40 => ?_
      refine W.region ?_
      refine WL.move (v := v8) h19_2 ?_
      refine WL.loadAll hs 1 rfl TI51 rfl hl31 ?_
      refine WL.loadAll hs 0 rfl TI51 rfl hl38 ?_
      obtain ⟨x41, hxx41, hf⟩ := bindE hf
      refine WL.callF (x := (x27, x34)) (vs := [.agg cs30.toArray, .agg cs37.toArray]) hs 5 rfl rfl ⟨rfl, ⟨rfl, trivial⟩⟩ (fun ok hA => ⟨_, _, rfl, hA.get 2 rfl, hA.get 0 rfl⟩) hxx41 (fun w hs => ?_)
      refine WL.not rfl ?_
      refine WL.nil ?_
      refine hK40 _ _ ?_
      rcases iteE hf with ⟨hc42, hf⟩ | ⟨hc42, hf⟩
      · refine W.cond_true (bool_tr rfl hc42) ?_
        refine W.seqK fun K43 hK43 => ?_
        refine W.region ?_
        refine WL.assign (v := .bool false) rfl ?_
        refine WL.nil ?_
        refine hK43 _ _ ?_
        refine W.ret ?_
        have hr := Option.some.inj hf; subst hr
        have hr := hbbs21 _ rfl; subst hr
        have hf := hfs21
        have hr := Option.some.inj hf; subst hr
        exact ⟨_, resOk_one rfl rfl, (), rfl, (hs.mask []).pick []⟩
      · refine W.cond_false (bool_tr rfl hc42) ?_
        refine W.skip ?_
        refine hK25 _ _ ?_
        refine W.region ?_
        obtain ⟨x44, ex44, hf⟩ := letE hf
        refine WL.bin (v := .int .i64 x44) h19_17 rfl (ib_as ex44 (ib_add _ _ _)) ?_
        refine WL.move (v := .int .i64 x44) rfl ?_
        refine WL.nil ?_
        exact ⟨_, (Option.some.inj hf).symm, h19_1, h19_2, h19_15, h19_16, rfl, (hs.mask []).pick [4, 5, 6]⟩
    · refine W.cond_false (bool_tr rfl hc24) ?_
      refine W.exit ?_
      have hr := Option.some.inj hf; subst hr
      have hr := hbbs21 _ rfl; subst hr
      have hf := hfs21
      exact Jk16  _ _  ((hs.mask []).pick []) hf
/-! slices.EqualFunc[[]elasticstore/fold.Field,[]elasticstore/fold.Field,elasticstore/fold.Field,elasticstore/fold.Field]: function 69 -/
theorem slices_EqualFunc_Field.calls {ok : Nat → Prop} {w0 : World} {x1 : List fold_Field} {x4 : List fold_Field} {x7 : fold_Field × fold_Field → Option Bool} {a2 : Option Addr} {c3 : Nat} {a5 : Option Addr} {c6 : Nat} {v8 : Value} {r : Bool} (hf : slices_EqualFunc_Field x1 x4 x7 = some r) (i0 : (vl (tSlice t_fold_Field) x1 (.slice a2 x1.length c3)).holds ok w0) (i1 : (vl (tSlice t_fold_Field) x4 (.slice a5 x4.length c6)).holds ok w0) (i2 : (vl (tFun Try.prog (argK2 t_fold_Field t_fold_Field) (fun r : Bool => .bool r)) x7 v8).holds ok w0) :
    Calls Try.prog 69 #[.slice a2 x1.length c3, .slice a5 x4.length c6, v8] w0 fun e w' => ∃ v, e = .returned v ∧ ∃ y : Unit, v = .bool r ∧ St ok (bz w0) w' [] [] := by
  unfold slices_EqualFunc_Field at hf
  refine calls_of_W (fn := Try.f69) (N := 32) Try.func69 rfl Try.ntmps69 rfl ?_
  have hs : St ok (bz w0) w0 [vl (tSlice t_fold_Field) x1 (.slice a2 x1.length c3), vl (tSlice t_fold_Field) x4 (.slice a5 x4.length c6), vl (tFun Try.prog (argK2 t_fold_Field t_fold_Field) (fun r : Bool => .bool r)) x7 v8] [] := St.init (All.cons i0 (All.cons i1 (All.cons i2 All.nil)))
  clear i0 i1 i2
  refine W.seqK fun K9 hK9 => ?_
  refine W.region ?_
  refine WL.assign (v := .bool false) rfl ?_
  refine WL.nil ?_
  refine hK9 _ _ ?_
  refine W.seqK fun K10 hK10 => ?_
  refine W.seqK fun K11 hK11 => ?_
  refine W.region ?_
  refine WL.move (v := .slice a2 x1.length c3) rfl ?_
  refine WL.len (v := .slice a2 x1.length c3) rfl (len_slice UN49) ?_
  refine WL.move (v := .slice a5 x4.length c6) rfl ?_
  refine WL.len (v := .slice a5 x4.length c6) rfl (len_slice UN49) ?_
  refine WL.bin (v := .bool ((x1.length : Int) != (x4.length : Int))) rfl rfl (ib_neq _ _ _) ?_
  refine WL.nil ?_
  refine hK11 _ _ ?_
  rcases iteE hf with ⟨hc12, hf⟩ | ⟨hc12, hf⟩
  · refine W.cond_true (bool_tr rfl hc12) ?_
    refine W.seqK fun K13 hK13 => ?_
    refine W.region ?_
    refine WL.assign (v := .bool false) rfl ?_
    refine WL.nil ?_
    refine hK13 _ _ ?_
    refine W.ret ?_
    have hr := Option.some.inj hf; subst hr
    exact ⟨_, resOk_one rfl rfl, (), rfl, (hs.mask []).pick []⟩
  · refine W.cond_false (bool_tr rfl hc12) ?_
    refine W.skip ?_
    refine hK10 _ _ ?_
    refine W.seqK fun K14 hK14 => ?_
    have Jk16 : ∀  (ρ : Env) (w : World), St ok (bz w0) w [] [] → slices_EqualFunc_Field.j1 = some r → K14 ρ w := by
      intro  ρ w  hs hf
      refine hK14 _ _ ?_
      unfold slices_EqualFunc_Field.j1 at hf
      refine W.seqK fun K17 hK17 => ?_
      refine W.region ?_
      refine WL.assign (v := .bool true) rfl ?_
      refine WL.nil ?_
      refine hK17 _ _ ?_
      refine W.ret ?_
      have hr := Option.some.inj hf; subst hr
      exact ⟨_, resOk_one rfl rfl, (), rfl, (hs.mask []).pick []⟩
    refine W.seqK fun K18 hK18 => ?_
    refine W.region ?_
    refine WL.move (v := .slice a2 x1.length c3) rfl ?_
    refine WL.len (v := .slice a2 x1.length c3) rfl (len_slice UN49) ?_
    refine WL.move (v := .int .i64 0) rfl ?_
    refine WL.nil ?_
    refine hK18 _ _ ?_
    refine W.block ?_
    obtain ⟨bs21, hbs21, hfs21⟩ := bindE hf
    refine W.loop hbs21 (fun s ρ w => match s with | x20 => ρ 1 = .slice a5 x4.length c6 ∧ ρ 2 = v8 ∧ ρ 15 = .slice a2 x1.length c3 ∧ ρ 16 = .int .i64 (x1.length : Int) ∧ ρ 17 = .int .i64 x20 ∧ St ok (bz w0) w [vl (tSlice t_fold_Field) x4 (.slice a5 x4.length c6), vl (tFun Try.prog (argK2 t_fold_Field t_fold_Field) (fun r : Bool => .bool r)) x7 v8, vl (tSlice t_fold_Field) x1 (.slice a2 x1.length c3)] []) ⟨rfl, rfl, rfl, rfl, rfl, (hs.mask []).pick [1, 2, 0]⟩ ?_
    intro x20 ρ w os21 hI hf hbbs21
    obtain ⟨h19_1, h19_2, h19_15, h19_16, h19_17, hs⟩ := hI
    unfold slices_EqualFunc_Field.l1 at hf
    refine W.seqK fun K22 hK22 => ?_
    refine W.region ?_
    refine WL.bin (v := .bool (decide (x20 < (x1.length : Int)))) h19_17 h19_16 (ib_lss _ _ _) ?_
    refine WL.nil ?_
    refine hK22 _ _ ?_
    refine W.seqK fun K23 hK23 => ?_
    rcases iteE hf with ⟨hc24, hf⟩ | ⟨hc24, hf⟩
    · refine W.cond_true (bool_tr rfl hc24) ?_
      refine W.skip ?_
      refine hK23 _ _ ?_
      refine W.seqK fun K25 hK25 => ?_
      refine W.block ?_
      refine W.seqK fun K26 hK26 => ?_
      refine W.region ?_
      refine WL.move (v := .int .i64 x20) h19_17 ?_
      obtain ⟨x27, hxx27, hf⟩ := bindE hf
      refine WL.indexAddr hs 2 rfl UN49 TI57 h19_15 h19_17 hxx27 (fun ad28 hs => ?_)
      refine WL.loadP hs 0 rfl TI57 (.inl rfl) rfl (fun v29 hs => ?_)
      obtain ⟨cs30, hl31, rfl⟩ := hs.aggv (n := 12) 0 rfl rfl rfl
      refine WL.alloc hs ZV57 (fun g32 w hs => ?_)
      refine WL.assign (v := .int .i64 x20) rfl ?_
      refine WL.storeAll (vs := cs30) hs 0 rfl TI57 rfl rfl rfl hl31 (hs.ones 0 rfl rfl) rfl (fun w hs => ?_)
      refine WL.nil ?_
      refine hK26 _ _ ?_
      refine W.seqK fun K33 hK33 => ?_
      refine W.region ?_
      refine WL.move (v := .slice a5 x4.length c6) h19_1 ?_
      refine WL.move (v := .int .i64 x20) rfl ?_
      obtain ⟨x34, hxx34, hf⟩ := bindE hf
      refine WL.indexAddr hs 2 rfl UN49 TI57 rfl rfl hxx34 (fun ad35 hs => ?_)
      refine WL.loadP hs 0 rfl TI57 (.inl rfl) rfl (fun v36 hs => ?_)
      obtain ⟨cs37, hl38, rfl⟩ := hs.aggv (n := 12) 0 rfl rfl rfl
      refine WL.alloc hs ZV57 (fun g39 w hs => ?_)
      refine WL.storeAll (vs := cs37) hs 0 rfl TI57 rfl rfl rfl hl38 (hs.ones 0 rfl rfl) rfl (fun w hs => ?_)
      refine WL.nil ?_
      refine hK33 _ _ ?_
      refine W.seqK fun K40 hK40 => ?_
      refine W.region ?_
      refine WL.move (v := v8) h19_2 ?_
      refine WL.loadAll hs 1 rfl TI57 rfl hl31 ?_
      refine WL.loadAll hs 0 rfl TI57 rfl hl38 ?_
      obtain ⟨x41, hxx41, hf⟩ := bindE hf
      refine WL.callF (x := (x27, x34)) (vs := [.agg cs30.toArray, .agg cs37.toArray]) hs 5 rfl rfl ⟨rfl, ⟨rfl, trivial⟩⟩ (fun ok hA => ⟨_, _, rfl, hA.get 2 rfl, hA.get 0 rfl⟩) hxx41 (fun w hs => ?_)
      refine WL.not rfl ?_
      refine WL.nil ?_
      refine hK40 _ _ ?_
      rcases iteE hf with ⟨hc42, hf⟩ | ⟨hc42, hf⟩
      · refine W.cond_true (bool_tr rfl hc42) ?_
        refine W.seqK fun K43 hK43 => ?_
        refine W.region ?_
        refine WL.assign (v := .bool false) rfl ?_
        refine WL.nil ?_
        refine hK43 _ _ ?_
        refine W.ret ?_
        have hr := Option.some.inj hf; subst hr
        have hr := hbbs21 _ rfl; subst hr
        have hf := hfs21
        have hr := Option.some.inj hf; subst hr
        exact ⟨_, resOk_one rfl rfl, (), rfl, (hs.mask []).pick []⟩
      · refine W.cond_false (bool_tr rfl hc42) ?_
        refine W.skip ?_
        refine hK25 _ _ ?_
        refine W.region ?_
        obtain ⟨x44, ex44, hf⟩ := letE hf
        refine WL.bin (v := .int .i64 x44) h19_17 rfl (ib_as ex44 (ib_add _ _ _)) ?_
        refine WL.move (v := .int .i64 x44) rfl ?_
        refine WL.nil ?_
        exact ⟨_, (Option.some.inj hf).symm, h19_1, h19_2, h19_15, h19_16, rfl, (hs.mask []).pick [4, 5, 6]⟩
    · refine W.cond_false (bool_tr rfl hc24) ?_
      refine W.exit ?_
      have hr := Option.some.inj hf; subst hr
      have hr := hbbs21 _ rfl; subst hr
      have hf := hfs21
      exact Jk16  _ _  ((hs.mask []).pick []) hf
/-! slices.Equal[[]string,string]: function 82 -/
theorem slices_Equal_string.calls {ok : Nat → Prop} {w0 : World} {x1 : List (List UInt8)} {x4 : List (List UInt8)} {a2 : Option Addr} {c3 : Nat} {a5 : Option Addr} {c6 : Nat} {r : Bool} (hf : slices_Equal_string x1 x4 = some r) (i0 : (vl (tSlice tStr) x1 (.slice a2 x1.length c3)).holds ok w0) (i1 : (vl (tSlice tStr) x4 (.slice a5 x4.length c6)).holds ok w0) :
    Calls Try.prog 82 #[.slice a2 x1.length c3, .slice a5 x4.length c6] w0 fun e w' => ∃ v, e = .returned v ∧ ∃ y : Unit, v = .bool r ∧ St ok (bz w0) w' [] [] := by
  unfold slices_Equal_string at hf
  refine calls_of_W (fn := Try.f82) (N := 26) Try.func82 rfl Try.ntmps82 rfl ?_
  have hs : St ok (bz w0) w0 [vl (tSlice tStr) x1 (.slice a2 x1.length c3), vl (tSlice tStr) x4 (.slice a5 x4.length c6)] [] := St.init (All.cons i0 (All.cons i1 All.nil))
  clear i0 i1
  refine W.seqK fun K7 hK7 => ?_
  refine W.region ?_
  refine WL.assign (v := .bool false) rfl ?_
  refine WL.nil ?_
  refine hK7 _ _ ?_
  refine W.seqK fun K8 hK8 => ?_
  refine W.seqK fun K9 hK9 => ?_
  refine W.region ?_
  refine WL.move (v := .slice a2 x1.length c3) rfl ?_
  refine WL.len (v := .slice a2 x1.length c3) rfl (len_slice UN55) ?_
  refine WL.move (v := .slice a5 x4.length c6) rfl ?_
  refine WL.len (v := .slice a5 x4.length c6) rfl (len_slice UN55) ?_
  refine WL.bin (v := .bool ((x1.length : Int) != (x4.length : Int))) rfl rfl (ib_neq _ _ _) ?_
  refine WL.nil ?_
  refine hK9 _ _ ?_
  rcases iteE hf with ⟨hc10, hf⟩ | ⟨hc10, hf⟩
  · refine W.cond_true (bool_tr rfl hc10) ?_
    refine W.seqK fun K11 hK11 => ?_
    refine W.region ?_
    refine WL.assign (v := .bool false) rfl ?_
    refine WL.nil ?_
    refine hK11 _ _ ?_
    refine W.ret ?_
    have hr := Option.some.inj hf; subst hr
    exact ⟨_, resOk_one rfl rfl, (), rfl, (hs.mask []).pick []⟩
  · refine W.cond_false (bool_tr rfl hc10) ?_
    refine W.skip ?_
    refine hK8 _ _ ?_
    refine W.seqK fun K12 hK12 => ?_
    have Jk14 : ∀  (ρ : Env) (w : World), St ok (bz w0) w [] [] → slices_Equal_string.j1 = some r → K12 ρ w := by
      intro  ρ w  hs hf
      refine hK12 _ _ ?_
      unfold slices_Equal_string.j1 at hf
      refine W.seqK fun K15 hK15 => ?_
      refine W.region ?_
      refine WL.assign (v := .bool true) rfl ?_
      refine WL.nil ?_
      refine hK15 _ _ ?_
      refine W.ret ?_
      have hr := Option.some.inj hf; subst hr
      exact ⟨_, resOk_one rfl rfl, (), rfl, (hs.mask []).pick []⟩
    refine W.seqK fun K16 hK16 => ?_
    refine W.region ?_
    refine WL.move (v := .slice a2 x1.length c3) rfl ?_
    refine WL.len (v := .slice a2 x1.length c3) rfl (len_slice UN55) ?_
    refine WL.move (v := .int .i64 0) rfl ?_
    refine WL.nil ?_
    refine hK16 _ _ ?_
    refine W.block ?_
    obtain ⟨bs19, hbs19, hfs19⟩ := bindE hf
    refine W.loop hbs19 (fun s ρ w => match s with | x18 => ρ 0 = .slice a2 x1.length c3 ∧ ρ 1 = .slice a5 x4.length c6 ∧ ρ 12 = .int .i64 (x1.length : Int) ∧ ρ 13 = .int .i64 x18 ∧ St ok (bz w0) w [vl (tSlice tStr) x1 (.slice a2 x1.length c3), vl (tSlice tStr) x4 (.slice a5 x4.length c6)] []) ⟨rfl, rfl, rfl, rfl, (hs.mask []).pick [0, 1]⟩ ?_
    intro x18 ρ w os19 hI hf hbbs19
    obtain ⟨h17_0, h17_1, h17_12, h17_13, hs⟩ := hI
    unfold slices_Equal_string.l1 at hf
    refine W.seqK fun K20 hK20 => ?_
    refine W.region ?_
    refine WL.bin (v := .bool (decide (x18 < (x1.length : Int)))) h17_13 h17_12 (ib_lss _ _ _) ?_
    refine WL.nil ?_
    refine hK20 _ _ ?_
    refine W.seqK fun K21 hK21 => ?_
    rcases iteE hf with ⟨hc22, hf⟩ | ⟨hc22, hf⟩
    · refine W.cond_true (bool_tr rfl hc22) ?_
      refine W.skip ?_
      refine hK21 _ _ ?_
      refine W.seqK fun K23 hK23 => ?_
      refine W.block ?_
      refine W.seqK fun K24 hK24 => ?_
      refine W.region ?_
      refine WL.move (v := .int .i64 x18) h17_13 ?_
      refine WL.assign (v := .int .i64 x18) rfl ?_
      refine WL.nil ?_
      refine hK24 _ _ ?_
      refine W.seqK fun K25 hK25 => ?_
      obtain ⟨x26, hxx26, hf⟩ := bindE hf
      obtain ⟨x29, hxx29, hf⟩ := bindE hf
      refine W.any (by kernel_rfl) 9 0 [true, true, true, true, true, true, true, true, true] rfl rfl (poAt [pv (.slice a2 x1.length c3), pv (.int .i64 x18), pq (fun y : Addr => .pointer (some y)) (fun v => [pl tStr x26 (adOf v)]) (fun v => []), pv (bstr x26), pv (.slice a5 x4.length c6), pv (.int .i64 x18), pq (fun y : Addr => .pointer (some y)) (fun v => [pl tStr x29 (adOf v)]) (fun v => []), pv (bstr x29), pv (.bool (x26 != x29))]) (Λ := []) hs (by kernel_rfl) (by kernel_rfl) (by kernel_rfl) ⟨⟨⟨⟨⟨⟨⟨⟨⟨trivial, ?_⟩, ?_⟩, ?_⟩, ?_⟩, ?_⟩, ?_⟩, ?_⟩, ?_⟩, ?_⟩ ?_
      · intro ρ w Γx Λx hs hu hp
        refine WL.move (v := .slice a2 x1.length c3) ((hu 0 rfl).trans h17_0) ?_
        exact WL.nil ⟨rfl, _, rfl, rfl, hs.cutG 0 0⟩
      · intro ρ w Γx Λx hs hu hp
        refine WL.move (v := .int .i64 x18) (hu 5 rfl) ?_
        exact WL.nil ⟨rfl, _, rfl, rfl, hs.cutG 0 0⟩
      · intro ρ w Γx Λx hs hu hp
        have e32 : ρ 16 = .slice a2 x1.length c3 := (hp 0 rfl).1
        have e33 : ρ 17 = .int .i64 x18 := (hp 1 rfl).1
        refine WL.indexAddr hs (Γx.length + 0) (getApp rfl) UN55 TI9 e32 e33 hxx26 (fun ad27 hs => ?_)
        have hs := hs.add (it := pl tStr x26 ad27) fun ok hA => hA.get 0 rfl
        exact WL.nil ⟨rfl, _, rfl, ⟨ad27, rfl⟩, hs.cutG 1 1⟩
      · intro ρ w Γx Λx hs hu hp
        obtain ⟨⟨ad34, e35r⟩, hm36⟩ := hp 2 rfl
        have e35 : ρ 18 = .pointer (some ad34) := e35r
        rw [e35r] at hm36
        have hs := hs.memo1 (it := pl tStr x26 ad34) (List.mem_append.2 (.inl (hm36 _ (List.mem_of_getElem? (i := 0) rfl))))
        refine WL.loadP hs 0 rfl TI9 (.inr rfl) e35 (fun v28 hs => ?_)
        obtain rfl := hs.str 0 rfl
        exact WL.nil ⟨rfl, _, rfl, rfl, hs.cutG 0 2⟩
      · intro ρ w Γx Λx hs hu hp
        refine WL.move (v := .slice a5 x4.length c6) ((hu 1 rfl).trans h17_1) ?_
        exact WL.nil ⟨rfl, _, rfl, rfl, hs.cutG 0 0⟩
      · intro ρ w Γx Λx hs hu hp
        refine WL.move (v := .int .i64 x18) (hu 5 rfl) ?_
        exact WL.nil ⟨rfl, _, rfl, rfl, hs.cutG 0 0⟩
      · intro ρ w Γx Λx hs hu hp
        have e37 : ρ 20 = .slice a5 x4.length c6 := (hp 4 rfl).1
        have e38 : ρ 21 = .int .i64 x18 := (hp 5 rfl).1
        refine WL.indexAddr hs (Γx.length + 1) (getApp rfl) UN55 TI9 e37 e38 hxx29 (fun ad30 hs => ?_)
        have hs := hs.add (it := pl tStr x29 ad30) fun ok hA => hA.get 0 rfl
        exact WL.nil ⟨rfl, _, rfl, ⟨ad30, rfl⟩, hs.cutG 1 1⟩
      · intro ρ w Γx Λx hs hu hp
        obtain ⟨⟨ad39, e40r⟩, hm41⟩ := hp 6 rfl
        have e40 : ρ 22 = .pointer (some ad39) := e40r
        rw [e40r] at hm41
        have hs := hs.memo1 (it := pl tStr x29 ad39) (List.mem_append.2 (.inl (hm41 _ (List.mem_of_getElem? (i := 0) rfl))))
        refine WL.loadP hs 0 rfl TI9 (.inr rfl) e40 (fun v31 hs => ?_)
        obtain rfl := hs.str 0 rfl
        exact WL.nil ⟨rfl, _, rfl, rfl, hs.cutG 0 2⟩
      · intro ρ w Γx Λx hs hu hp
        have e42 : ρ 19 = bstr x26 := (hp 3 rfl).1
        have e43 : ρ 23 = bstr x29 := (hp 7 rfl).1
        refine WL.binS (v := .bool (x26 != x29)) e42 e43 (sb_neq _ _) ?_
        exact WL.nil ⟨rfl, _, rfl, rfl, hs.cutG 0 0⟩
      · intro ρ w hs hu44 hp
        obtain ⟨⟨⟨⟨⟨⟨⟨⟨⟨_, hp0_⟩, hp1_⟩, hp2_⟩, hp3_⟩, hp4_⟩, hp5_⟩, hp6_⟩, hp7_⟩, hp8_⟩ := hp
        have hs : St ok (bz w0) w [pl tStr x29 (adOf (ρ 22)), pl tStr x26 (adOf (ρ 18)), vl (tSlice tStr) x1 (.slice a2 x1.length c3), vl (tSlice tStr) x4 (.slice a5 x4.length c6)] [] := hs
        have e45 : ρ 24 = .bool (x26 != x29) := hp8_
        have e46 : ρ 23 = bstr x29 := hp7_
        obtain ⟨ad47, e48⟩ := hp6_
        have e48 : ρ 22 = .pointer (some ad47) := e48
        try rw [e48] at hs
        have e49 : ρ 21 = .int .i64 x18 := hp5_
        have e50 : ρ 20 = .slice a5 x4.length c6 := hp4_
        have e51 : ρ 19 = bstr x26 := hp3_
        obtain ⟨ad52, e53⟩ := hp2_
        have e53 : ρ 18 = .pointer (some ad52) := e53
        try rw [e53] at hs
        have e54 : ρ 17 = .int .i64 x18 := hp1_
        have e55 : ρ 16 = .slice a2 x1.length c3 := hp0_
        refine WA.done (by kernel_rfl) ?_
        refine hK25 _ _ ?_
        rcases iteE hf with ⟨hc56, hf⟩ | ⟨hc56, hf⟩
        · refine W.cond_true (bool_tr e45 hc56) ?_
          refine W.seqK fun K57 hK57 => ?_
          refine W.region ?_
          refine WL.assign (v := .bool false) rfl ?_
          refine WL.nil ?_
          refine hK57 _ _ ?_
          refine W.ret ?_
          have hr := Option.some.inj hf; subst hr
          have hr := hbbs19 _ rfl; subst hr
          have hf := hfs19
          have hr := Option.some.inj hf; subst hr
          exact ⟨_, resOk_one rfl rfl, (), rfl, (hs.mask []).pick []⟩
        · refine W.cond_false (bool_tr e45 hc56) ?_
          refine W.skip ?_
          refine hK23 _ _ ?_
          refine W.region ?_
          obtain ⟨x58, ex58, hf⟩ := letE hf
          refine WL.bin (v := .int .i64 x58) ((hu44 13 rfl).trans h17_13) rfl (ib_as ex58 (ib_add _ _ _)) ?_
          refine WL.move (v := .int .i64 x58) rfl ?_
          refine WL.nil ?_
          exact ⟨_, (Option.some.inj hf).symm, ((hu44 0 rfl).trans h17_0), ((hu44 1 rfl).trans h17_1), ((hu44 12 rfl).trans h17_12), rfl, (hs.mask []).pick [2, 3]⟩
    · refine W.cond_false (bool_tr rfl hc22) ?_
      refine W.exit ?_
      have hr := Option.some.inj hf; subst hr
      have hr := hbbs19 _ rfl; subst hr
      have hf := hfs19
      exact Jk14  _ _  ((hs.mask []).pick []) hf
end Go.Proofs.Ytlbcfjblpopcnaa
