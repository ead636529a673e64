/- What the row leans on, as few texts. -/
import Derived.Test.YtlbcfjblpopcnaaQFS2
import Derived.Test.YtlbcfjblpopcnaaQFS3
import Derived.Test.YtlbcfjblpopcnaaQFS1
import Derived.Test.YtlbcfjblpopcnaaQFS4
set_option linter.unusedVariables false
set_option linter.unusedSimpArgs false
namespace Go.Proofs.Ytlbcfjblpopcnaa
open Go Go.RowKit Go.Proofs.YtlbcfjblpopcnaaL
set_option maxRecDepth 100000
set_option maxHeartbeats 4000000
theorem eslaw00_Some.calls {ok : Nat → Prop} {w0 : World} {x1 : List api_Update} {x4 : Int} {a2 : Option Addr} {c3 : Nat} {r : List api_Update} (hf : eslaw00_Some x1 x4 = some r) (i0 : (vl (tSlice t_api_Update) x1 (.slice a2 x1.length c3)).holds ok w0) :
    Calls Try.prog 18 #[.slice a2 x1.length c3, .int .i64 x4] w0 fun e w' => ∃ v, e = .returned v ∧ ∃ y : (Option Addr × Nat × Nat), v = .slice y.1 y.2.1 y.2.2 ∧ St ok (bz w0) w' [] [own t_api_Update 41 (.slice y.1 y.2.1 y.2.2) r] := by
  unfold eslaw00_Some at hf
  refine calls_of_W (fn := Try.f18) (N := 35) Try.func18 rfl Try.ntmps18 rfl ?_
  have hs : St ok (bz w0) w0 [vl (tSlice t_api_Update) x1 (.slice a2 x1.length c3)] [] := St.init (All.cons i0 All.nil)
  clear i0
  refine W.seqK fun K5 hK5 => ?_
  refine W.region ?_
  refine WL.assign (v := .slice none 0 0) rfl ?_
  refine WL.nil ?_
  refine hK5 _ _ ?_
  refine W.seqK fun K6 hK6 => ?_
  refine W.region ?_
  refine WL.assign (v := .slice none 0 0) rfl ?_
  refine WL.nil ?_
  refine hK6 _ _ ?_
  refine W.seqK fun K7 hK7 => ?_
  have hs := hs.ownNil t_api_Update 41
  have Jk13 : ∀ (x9 : List api_Update) (a10 : Option Addr) (c11 : Nat) (n12 : Nat) (ρ : Env) (w : World), ρ 5 = .slice a10 n12 c11 → St ok (bz w0) w [] [own t_api_Update 41 (.slice a10 n12 c11) x9] → eslaw00_Some.j1 x9 = some r → K7 ρ w := by
    intro x9 a10 c11 n12 ρ w h8_5 hs hf
    refine hK7 _ _ ?_
    unfold eslaw00_Some.j1 at hf
    refine W.seqK fun K14 hK14 => ?_
    refine W.region ?_
    refine WL.move (v := .slice a10 n12 c11) h8_5 ?_
    refine WL.assign (v := .slice a10 n12 c11) rfl ?_
    refine WL.nil ?_
    refine hK14 _ _ ?_
    refine W.ret ?_
    have hr := Option.some.inj hf; subst hr
    exact ⟨_, resOk_one rfl rfl, (a10, n12, c11), rfl, (hs.mask [true]).pick []⟩
  refine W.seqK fun K15 hK15 => ?_
  refine W.region ?_
  refine WL.assign (v := .int .i64 0) rfl ?_
  refine WL.nil ?_
  refine hK15 _ _ ?_
  refine W.block ?_
  obtain ⟨bs22, hbs22, hfs22⟩ := bindE hf
  refine W.loop hbs22 (fun s ρ w => match s with | (x17, x21) => ∃ (a18 : Option Addr), ∃ (c19 : Nat), ∃ (n20 : Nat), ρ 0 = .slice a2 x1.length c3 ∧ ρ 1 = .int .i64 x4 ∧ ρ 5 = .slice a18 n20 c19 ∧ ρ 6 = .int .i64 x21 ∧ St ok (bz w0) w [vl (tSlice t_api_Update) x1 (.slice a2 x1.length c3)] [own t_api_Update 41 (.slice a18 n20 c19) x17]) ⟨none, 0, 0, rfl, rfl, rfl, rfl, (hs.mask [true]).pick [0]⟩ ?_
  intro s ρ w os22 hI hf hbbs22
  obtain ⟨x17, x21⟩ := s
  obtain ⟨a18, c19, n20, h16_0, h16_1, h16_5, h16_6, hs⟩ := hI
  unfold eslaw00_Some.l1 at hf
  refine W.seqK fun K23 hK23 => ?_
  refine W.seqK fun K24 hK24 => ?_
  refine W.region ?_
  refine WL.move (v := .int .i64 x21) h16_6 ?_
  refine WL.move (v := .slice a2 x1.length c3) h16_0 ?_
  refine WL.len (v := .slice a2 x1.length c3) rfl (len_slice UN23) ?_
  refine WL.bin (v := .bool (decide (x21 < (x1.length : Int)))) rfl rfl (ib_lss _ _ _) ?_
  refine WL.nil ?_
  refine hK24 _ _ ?_
  rcases iteE hf with ⟨hc25, hf⟩ | ⟨hc25, hf⟩
  {
  refine W.cond_true (bool_tr rfl hc25) ?_
  refine W.skip ?_
  refine hK23 _ _ ?_
  refine W.seqK fun K26 hK26 => ?_
  have Jk32 : ∀ (x28 : List api_Update) (a29 : Option Addr) (c30 : Nat) (n31 : Nat) (ρ : Env) (w : World), ρ 0 = .slice a2 x1.length c3 → ρ 1 = .int .i64 x4 → ρ 5 = .slice a29 n31 c30 → ρ 6 = .int .i64 x21 → St ok (bz w0) w [vl (tSlice t_api_Update) x1 (.slice a2 x1.length c3)] [own t_api_Update 41 (.slice a29 n31 c30) x28] → eslaw00_Some.j2 x21 x28 = some os22 → K26 ρ w := by
    intro x28 a29 c30 n31 ρ w h27_0 h27_1 h27_5 h27_6 hs hf
    refine hK26 _ _ ?_
    unfold eslaw00_Some.j2 at hf
    refine W.region ?_
    refine WL.move (v := .int .i64 x21) h27_6 ?_
    obtain ⟨x33, ex33, hf⟩ := letE hf
    refine WL.bin (v := .int .i64 x33) rfl rfl (ib_as ex33 (ib_add _ _ _)) ?_
    refine WL.assign (v := .int .i64 x33) rfl ?_
    refine WL.nil ?_
    exact ⟨_, (Option.some.inj hf).symm, a29, c30, n31, h27_0, h27_1, h27_5, rfl, (hs.mask [true]).pick [0]⟩
  refine W.block ?_
  refine W.seqK fun K34 hK34 => ?_
  obtain ⟨x35, hxx35, hf⟩ := bindE hf
  obtain ⟨x39, hxx39, hf⟩ := bindE hf
  obtain ⟨x43, ex43, hf⟩ := letE hf
  obtain ⟨x44, hxx44, hf⟩ := bindE hf
  refine W.any (by kernel_rfl) 14 0 [true, true, true, true, true, true, true, true, true, true, true, true, true, true] rfl rfl (poAt [pv (.slice a2 x1.length c3), pv (.int .i64 x21), pq (fun y : Addr => .pointer (some y)) (fun v => [pl t_api_Update x35 (adOf v)]) (fun v => []), pq (fun y : Addr => .pointer (some y)) (fun v => [pl (tInt .i64) x35.Seq (adOf v)]) (fun v => []), pv (.int .i64 x35.Seq), pv (.int .i64 x4), pv (.slice a2 x1.length c3), pv (.int .i64 x21), pq (fun y : Addr => .pointer (some y)) (fun v => [pl t_api_Update x39 (adOf v)]) (fun v => []), pq (fun y : Addr => .pointer (some y)) (fun v => [pl (tInt .i64) x39.Client (adOf v)]) (fun v => []), pv (.int .i64 x39.Client), pv (.int .i64 x43), pv (.int .i64 x44), pv (.bool (decide (x35.Seq ≤ x44)))]) (Λ := [own t_api_Update 41 (.slice a18 n20 c19) x17]) hs (by kernel_rfl) (by kernel_rfl) (by kernel_rfl) ⟨⟨⟨⟨⟨⟨⟨⟨⟨⟨⟨⟨⟨⟨trivial, ?_⟩, ?_⟩, ?_⟩, ?_⟩, ?_⟩, ?_⟩, ?_⟩, ?_⟩, ?_⟩, ?_⟩, ?_⟩, ?_⟩, ?_⟩, ?_⟩ ?_
  {
  intro ρ w Γx Λx hs hu hp
  refine WL.move (v := .slice a2 x1.length c3) ((hu 0 rfl).trans h16_0) ?_
  exact WL.nil ⟨rfl, _, rfl, rfl, hs.cutG 0 0⟩ }
  {
  intro ρ w Γx Λx hs hu hp
  refine WL.move (v := .int .i64 x21) ((hu 6 rfl).trans h16_6) ?_
  exact WL.nil ⟨rfl, _, rfl, rfl, hs.cutG 0 0⟩ }
  {
  intro ρ w Γx Λx hs hu hp
  have e45 : ρ 13 = .slice a2 x1.length c3 := (hp 0 rfl).1
  have e46 : ρ 14 = .int .i64 x21 := (hp 1 rfl).1
  refine WL.indexAddr hs (Γx.length + 0) (getApp rfl) UN23 TI41 e45 e46 hxx35 (fun ad36 hs => ?_)
  have hs := hs.add (it := pl t_api_Update x35 ad36) fun ok hA => hA.get 0 rfl
  exact WL.nil ⟨rfl, _, rfl, ⟨ad36, rfl⟩, hs.cutG 1 1⟩ }
  {
  intro ρ w Γx Λx hs hu hp
  obtain ⟨⟨ad47, e48r⟩, hm49⟩ := hp 2 rfl
  have e48 : ρ 15 = .pointer (some ad47) := e48r
  rw [e48r] at hm49
  have hs := hs.memo1 (it := pl t_api_Update x35 ad47) (List.mem_append.2 (.inl (hm49 _ (List.mem_of_getElem? (i := 0) rfl))))
  refine WL.fieldAddrP (z := x35.Seq) F_api_Update_Seq hs 0 rfl e48 FA41_1 rfl (fun ad37 hs => ?_)
  have hs := hs.add (it := pl (tInt .i64) x35.Seq ad37) fun ok hA => hA.get 0 rfl
  exact WL.nil ⟨rfl, _, rfl, ⟨ad37, rfl⟩, hs.cutG 1 2⟩ }
  {
  intro ρ w Γx Λx hs hu hp
  obtain ⟨⟨ad50, e51r⟩, hm52⟩ := hp 3 rfl
  have e51 : ρ 16 = .pointer (some ad50) := e51r
  rw [e51r] at hm52
  have hs := hs.memo1 (it := pl (tInt .i64) x35.Seq ad50) (List.mem_append.2 (.inl (hm52 _ (List.mem_of_getElem? (i := 0) rfl))))
  refine WL.loadP hs 0 rfl TI3 (.inr rfl) e51 (fun v38 hs => ?_)
  obtain rfl := hs.int 0 rfl
  exact WL.nil ⟨rfl, _, rfl, rfl, hs.cutG 0 2⟩ }
  {
  intro ρ w Γx Λx hs hu hp
  refine WL.move (v := .int .i64 x4) ((hu 1 rfl).trans h16_1) ?_
  exact WL.nil ⟨rfl, _, rfl, rfl, hs.cutG 0 0⟩ }
  {
  intro ρ w Γx Λx hs hu hp
  refine WL.move (v := .slice a2 x1.length c3) ((hu 0 rfl).trans h16_0) ?_
  exact WL.nil ⟨rfl, _, rfl, rfl, hs.cutG 0 0⟩ }
  {
  intro ρ w Γx Λx hs hu hp
  refine WL.move (v := .int .i64 x21) ((hu 6 rfl).trans h16_6) ?_
  exact WL.nil ⟨rfl, _, rfl, rfl, hs.cutG 0 0⟩ }
  {
  intro ρ w Γx Λx hs hu hp
  have e53 : ρ 19 = .slice a2 x1.length c3 := (hp 6 rfl).1
  have e54 : ρ 20 = .int .i64 x21 := (hp 7 rfl).1
  refine WL.indexAddr hs (Γx.length + 0) (getApp rfl) UN23 TI41 e53 e54 hxx39 (fun ad40 hs => ?_)
  have hs := hs.add (it := pl t_api_Update x39 ad40) fun ok hA => hA.get 0 rfl
  exact WL.nil ⟨rfl, _, rfl, ⟨ad40, rfl⟩, hs.cutG 1 1⟩ }
  {
  intro ρ w Γx Λx hs hu hp
  obtain ⟨⟨ad55, e56r⟩, hm57⟩ := hp 8 rfl
  have e56 : ρ 21 = .pointer (some ad55) := e56r
  rw [e56r] at hm57
  have hs := hs.memo1 (it := pl t_api_Update x39 ad55) (List.mem_append.2 (.inl (hm57 _ (List.mem_of_getElem? (i := 0) rfl))))
  refine WL.fieldAddrP (z := x39.Client) F_api_Update_Client hs 0 rfl e56 FA41_0 rfl (fun ad41 hs => ?_)
  have hs := hs.add (it := pl (tInt .i64) x39.Client ad41) fun ok hA => hA.get 0 rfl
  exact WL.nil ⟨rfl, _, rfl, ⟨ad41, rfl⟩, hs.cutG 1 2⟩ }
  {
  intro ρ w Γx Λx hs hu hp
  obtain ⟨⟨ad58, e59r⟩, hm60⟩ := hp 9 rfl
  have e59 : ρ 22 = .pointer (some ad58) := e59r
  rw [e59r] at hm60
  have hs := hs.memo1 (it := pl (tInt .i64) x39.Client ad58) (List.mem_append.2 (.inl (hm60 _ (List.mem_of_getElem? (i := 0) rfl))))
  refine WL.loadP hs 0 rfl TI3 (.inr rfl) e59 (fun v42 hs => ?_)
  obtain rfl := hs.int 0 rfl
  exact WL.nil ⟨rfl, _, rfl, rfl, hs.cutG 0 2⟩ }
  {
  intro ρ w Γx Λx hs hu hp
  have e61 : ρ 23 = .int .i64 x39.Client := (hp 10 rfl).1
  refine WL.bin (v := .int .i64 x43) e61 rfl (ib_as ex43 (ib_sub _ _ _)) ?_
  exact WL.nil ⟨rfl, _, rfl, rfl, hs.cutG 0 0⟩ }
  {
  intro ρ w Γx Λx hs hu hp
  have e62 : ρ 18 = .int .i64 x4 := (hp 5 rfl).1
  have e63 : ρ 24 = .int .i64 x43 := (hp 11 rfl).1
  refine WL.call (vs := [.int .i64 x4, .int .i64 9, .int .i64 x43]) hs FN44 ⟨e62, ⟨rfl, ⟨e63, trivial⟩⟩⟩ (fun ok hA => eslaw00_Digit.calls (x1 := x4) (x2 := 9) (x3 := x43) hxx44) ?_
  rintro _ w hs
  exact WL.nil ⟨rfl, _, rfl, rfl, hs.cutG 0 0⟩ }
  {
  intro ρ w Γx Λx hs hu hp
  have e64 : ρ 17 = .int .i64 x35.Seq := (hp 4 rfl).1
  have e65 : ρ 25 = .int .i64 x44 := (hp 12 rfl).1
  refine WL.bin (v := .bool (decide (x35.Seq ≤ x44))) e64 e65 (ib_leq _ _ _) ?_
  exact WL.nil ⟨rfl, _, rfl, rfl, hs.cutG 0 0⟩ }
  {
  intro ρ w hs hu66 hp
  obtain ⟨⟨⟨⟨⟨⟨⟨⟨⟨⟨⟨⟨⟨⟨_, hp0_⟩, hp1_⟩, hp2_⟩, hp3_⟩, hp4_⟩, hp5_⟩, hp6_⟩, hp7_⟩, hp8_⟩, hp9_⟩, hp10_⟩, hp11_⟩, hp12_⟩, hp13_⟩ := hp
  have hs : St ok (bz w0) w [pl (tInt .i64) x39.Client (adOf (ρ 22)), pl t_api_Update x39 (adOf (ρ 21)), pl (tInt .i64) x35.Seq (adOf (ρ 16)), pl t_api_Update x35 (adOf (ρ 15)), vl (tSlice t_api_Update) x1 (.slice a2 x1.length c3)] [own t_api_Update 41 (.slice a18 n20 c19) x17] := hs
  have e67 : ρ 26 = .bool (decide (x35.Seq ≤ x44)) := hp13_
  have e68 : ρ 25 = .int .i64 x44 := hp12_
  have e69 : ρ 24 = .int .i64 x43 := hp11_
  have e70 : ρ 23 = .int .i64 x39.Client := hp10_
  obtain ⟨ad71, e72⟩ := hp9_
  have e72 : ρ 22 = .pointer (some ad71) := e72
  try rw [e72] at hs
  obtain ⟨ad73, e74⟩ := hp8_
  have e74 : ρ 21 = .pointer (some ad73) := e74
  try rw [e74] at hs
  have e75 : ρ 20 = .int .i64 x21 := hp7_
  have e76 : ρ 19 = .slice a2 x1.length c3 := hp6_
  have e77 : ρ 18 = .int .i64 x4 := hp5_
  have e78 : ρ 17 = .int .i64 x35.Seq := hp4_
  obtain ⟨ad79, e80⟩ := hp3_
  have e80 : ρ 16 = .pointer (some ad79) := e80
  try rw [e80] at hs
  obtain ⟨ad81, e82⟩ := hp2_
  have e82 : ρ 15 = .pointer (some ad81) := e82
  try rw [e82] at hs
  have e83 : ρ 14 = .int .i64 x21 := hp1_
  have e84 : ρ 13 = .slice a2 x1.length c3 := hp0_
  refine WA.done (by kernel_rfl) ?_
  refine hK34 _ _ ?_
  rcases iteE hf with ⟨hc85, hf⟩ | ⟨hc85, hf⟩
  {
  refine W.cond_true (bool_tr e67 hc85) ?_
  refine W.region ?_
  refine WL.move (v := .slice a18 n20 c19) ((hu66 5 rfl).trans h16_5) ?_
  refine WL.move (v := .slice a2 x1.length c3) ((hu66 0 rfl).trans h16_0) ?_
  refine WL.move (v := .int .i64 x21) ((hu66 6 rfl).trans h16_6) ?_
  obtain ⟨x86, hxx86, hf⟩ := bindE hf
  refine WL.indexAddr hs 4 rfl UN23 TI41 rfl rfl hxx86 (fun ad87 hs => ?_)
  refine WL.loadP hs 0 rfl TI41 (.inl rfl) rfl (fun v88 hs => ?_)
  obtain ⟨cs89, hl90, rfl⟩ := hs.aggv (n := 4) 0 rfl rfl rfl
  refine WL.buildSlice (n := 1) (vs := [(0, .agg cs89.toArray)]) (cs := cs89) hs ⟨⟨rfl, rfl⟩, trivial⟩ (bls PS23 (by decide) (by simp [fillS, fillL, Value.cells, hl90])) (fun g91 w hs => ?_)
  obtain ⟨x92, hxx92, hf⟩ := bindE hf
  obtain ⟨hbx92, hex92⟩ := appE hxx92
  refine WL.append (ys := [x86]) (zs := x92) hs 1 rfl 0 rfl UN23 EI41 rfl rfl (fun ok hA => (Cells.one (T := t_api_Update) (R_agg (hA.get 0 rfl) rfl))) hbx92 (by omega) hex92 (fun v93 w hs => ?_)
  obtain ⟨a94, n96, c95, rfl⟩ := hs.ownv3 1 rfl
  refine WL.assign (v := .slice a94 n96 c95) rfl ?_
  refine WL.nil ?_
  exact Jk32 x92 a94 c95 n96 _ _ ((hu66 0 rfl).trans h16_0) ((hu66 1 rfl).trans h16_1) rfl ((hu66 6 rfl).trans h16_6) ((hs.mask [false, true]).pick [6]) hf }
  {
  refine W.cond_false (bool_tr e67 hc85) ?_
  refine W.skip ?_
  exact Jk32 x17 a18 c19 n20 _ _ ((hu66 0 rfl).trans h16_0) ((hu66 1 rfl).trans h16_1) ((hu66 5 rfl).trans h16_5) ((hu66 6 rfl).trans h16_6) ((hs.mask [true]).pick [4]) hf } } }
  {
  refine W.cond_false (bool_tr rfl hc25) ?_
  refine W.exit ?_
  have hr := Option.some.inj hf; subst hr
  have hr := hbbs22 _ rfl; subst hr
  have hf := hfs22
  exact Jk13 x17 a18 c19 n20 _ _ h16_5 ((hs.mask [true]).pick []) hf }
theorem esref32_Fold.calls {ok : Nat → Prop} {w0 : World} {x1 : List api_Update} {a2 : Option Addr} {c3 : Nat} {r : fold_Store} (hf : esref32_Fold x1 = some r) (i0 : (vl (tSlice t_api_Update) x1 (.slice a2 x1.length c3)).holds ok w0) :
    Calls Try.prog 15 #[.slice a2 x1.length c3] w0 fun e w' => ∃ v, e = .returned v ∧ ∃ y : List Value, v = .agg y.toArray ∧ St ok (bz w0) w' [vl t_fold_Store r (.agg y.toArray)] [] := by
  unfold esref32_Fold at hf
  refine calls_of_W (fn := Try.f15) (N := 19) Try.func15 rfl Try.ntmps15 rfl ?_
  have hs : St ok (bz w0) w0 [vl (tSlice t_api_Update) x1 (.slice a2 x1.length c3)] [] := St.init (All.cons i0 All.nil)
  clear i0
  refine W.seqK fun K4 hK4 => ?_
  refine W.region ?_
  refine WL.alloc hs ZV29 (fun g5 w hs => ?_)
  refine WL.nil ?_
  refine hK4 _ _ ?_
  refine W.seqK fun K6 hK6 => ?_
  refine W.region ?_
  refine WL.build (vs := []) (cs := [.slice none 0 0]) trivial (bld PL29 rfl) ?_
  refine WL.alloc hs ZV29 (fun g7 w hs => ?_)
  refine WL.storeAll (vs := [.slice none 0 0]) hs 0 rfl TI29 rfl rfl rfl rfl (ones_of rfl) rfl (fun w hs => ?_)
  refine WL.nil ?_
  refine hK6 _ _ ?_
  refine W.seqK fun K8 hK8 => ?_
  have Jk13 : ∀ (x10 : List fold_Object) (a11 : Option Addr) (c12 : Nat) (ρ : Env) (w : World), ρ 2 = .pointer (some ⟨g5, 0, none⟩) → ρ 3 = .pointer (some ⟨g7, 0, none⟩) → St ok (bz w0) w [vl (tSlice t_fold_Object) x10 (.slice a11 x10.length c12)] [blk g7 29 [.slice a11 x10.length c12], blk g5 29 [.slice none 0 0]] → esref32_Fold.j1 x10 = some r → K8 ρ w := by
    intro x10 a11 c12 ρ w h9_2 h9_3 hs hf
    refine hK8 _ _ ?_
    unfold esref32_Fold.j1 at hf
    refine W.seqK fun K14 hK14 => ?_
    refine W.region ?_
    refine WL.loadN (vs := [.slice a11 x10.length c12]) hs 0 rfl TI29 h9_3 rfl rfl ?_
    refine WL.storeAll (vs := [.slice a11 x10.length c12]) hs 1 rfl TI29 h9_2 rfl rfl rfl (ones_of rfl) rfl (fun w hs => ?_)
    refine WL.nil ?_
    refine hK14 _ _ ?_
    refine W.ret ?_
    have hr := Option.some.inj hf; subst hr
    have hs := hs.add (it := vl t_fold_Store (⟨x10⟩ : fold_Store) (.agg [.slice a11 x10.length c12].toArray)) fun ok hA => V_agg ((R_one (hA.get 0 rfl))) rfl
    exact ⟨_, resOk_one rfl (res_all hs 1 rfl TI29 h9_2 rfl), [.slice a11 x10.length c12], rfl, (hs.mask []).pick [0]⟩
  refine W.seqK fun K15 hK15 => ?_
  refine W.region ?_
  refine WL.assign (v := .int .i64 0) rfl ?_
  refine WL.nil ?_
  refine hK15 _ _ ?_
  refine W.block ?_
  obtain ⟨bs21, hbs21, hfs21⟩ := bindE hf
  have hs := hs.add (it := vl (tSlice t_fold_Object) [] (.slice none 0 0)) fun ok hA => V_nil
  refine W.loop hbs21 (fun s ρ w => match s with | (x17, x18) => ∃ (a19 : Option Addr), ∃ (c20 : Nat), ρ 0 = .slice a2 x1.length c3 ∧ ρ 2 = .pointer (some ⟨g5, 0, none⟩) ∧ ρ 3 = .pointer (some ⟨g7, 0, none⟩) ∧ ρ 4 = .int .i64 x17 ∧ St ok (bz w0) w [vl (tSlice t_api_Update) x1 (.slice a2 x1.length c3), vl (tSlice t_fold_Object) x18 (.slice a19 x18.length c20)] [blk g7 29 [.slice a19 x18.length c20], blk g5 29 [.slice none 0 0]]) ⟨none, 0, rfl, rfl, rfl, rfl, (hs.mask [true, true]).pick [1, 0]⟩ ?_
  intro s ρ w os21 hI hf hbbs21
  obtain ⟨x17, x18⟩ := s
  obtain ⟨a19, c20, h16_0, h16_2, h16_3, h16_4, hs⟩ := hI
  unfold esref32_Fold.l1 at hf
  refine W.seqK fun K22 hK22 => ?_
  refine W.seqK fun K23 hK23 => ?_
  refine W.region ?_
  refine WL.move (v := .int .i64 x17) h16_4 ?_
  refine WL.move (v := .slice a2 x1.length c3) h16_0 ?_
  refine WL.len (v := .slice a2 x1.length c3) rfl (len_slice UN23) ?_
  refine WL.bin (v := .bool (decide (x17 < (x1.length : Int)))) rfl rfl (ib_lss _ _ _) ?_
  refine WL.nil ?_
  refine hK23 _ _ ?_
  rcases iteE hf with ⟨hc24, hf⟩ | ⟨hc24, hf⟩
  {
  refine W.cond_true (bool_tr rfl hc24) ?_
  refine W.skip ?_
  refine hK22 _ _ ?_
  refine W.seqK fun K25 hK25 => ?_
  refine W.block ?_
  obtain ⟨x26, hxx26, hf⟩ := bindE hf
  obtain ⟨x31, hxx31, hf⟩ := bindE hf
  refine W.any (by kernel_rfl) 6 1 [true, true, true, true, true, true, false] rfl rfl (poAt [pv (.agg ([.slice a19 x18.length c20] : List Value).toArray), pv (.slice a2 x1.length c3), pv (.int .i64 x17), pq (fun y : Addr => .pointer (some y)) (fun v => [pl t_api_Update x26 (adOf v)]) (fun v => []), pq (fun y : List Value => .agg y.toArray) (fun v => [vl t_api_Update x26 v]) (fun v => []), pq (fun y : List Value => .agg y.toArray) (fun v => [vl t_fold_Store x31 v]) (fun v => [])]) (Λ := [blk g7 29 [.slice a19 x18.length c20], blk g5 29 [.slice none 0 0]]) hs (by kernel_rfl) (by kernel_rfl) (by kernel_rfl) ⟨⟨⟨⟨⟨⟨trivial, ?_⟩, ?_⟩, ?_⟩, ?_⟩, ?_⟩, ?_⟩ ?_
  {
  intro ρ w Γx Λx hs hu hp
  refine WL.loadN (vs := [.slice a19 x18.length c20]) hs (Λx.length + 0) (getApp rfl) TI29 ((hu 3 rfl).trans h16_3) rfl rfl ?_
  exact WL.nil ⟨rfl, _, rfl, rfl, hs.cutG 0 0⟩ }
  {
  intro ρ w Γx Λx hs hu hp
  refine WL.move (v := .slice a2 x1.length c3) ((hu 0 rfl).trans h16_0) ?_
  exact WL.nil ⟨rfl, _, rfl, rfl, hs.cutG 0 0⟩ }
  {
  intro ρ w Γx Λx hs hu hp
  refine WL.move (v := .int .i64 x17) ((hu 4 rfl).trans h16_4) ?_
  exact WL.nil ⟨rfl, _, rfl, rfl, hs.cutG 0 0⟩ }
  {
  intro ρ w Γx Λx hs hu hp
  have e34 : ρ 13 = .slice a2 x1.length c3 := (hp 1 rfl).1
  have e35 : ρ 14 = .int .i64 x17 := (hp 2 rfl).1
  refine WL.indexAddr hs (Γx.length + 0) (getApp rfl) UN23 TI41 e34 e35 hxx26 (fun ad27 hs => ?_)
  have hs := hs.add (it := pl t_api_Update x26 ad27) fun ok hA => hA.get 0 rfl
  exact WL.nil ⟨rfl, _, rfl, ⟨ad27, rfl⟩, hs.cutG 1 1⟩ }
  {
  intro ρ w Γx Λx hs hu hp
  obtain ⟨⟨ad36, e37r⟩, hm38⟩ := hp 3 rfl
  have e37 : ρ 15 = .pointer (some ad36) := e37r
  rw [e37r] at hm38
  have hs := hs.memo1 (it := pl t_api_Update x26 ad36) (List.mem_append.2 (.inl (hm38 _ (List.mem_of_getElem? (i := 0) rfl))))
  refine WL.loadP hs 0 rfl TI41 (.inl rfl) e37 (fun v28 hs => ?_)
  obtain ⟨cs29, hl30, rfl⟩ := hs.aggv (n := 4) 0 rfl rfl rfl
  have hs := hs.add (it := vl t_api_Update x26 (.agg cs29.toArray)) fun ok hA => hA.get 0 rfl
  exact WL.nil ⟨rfl, _, rfl, ⟨cs29, rfl⟩, hs.cutG 1 2⟩ }
  {
  intro ρ w Γx Λx hs hu hp
  have e39 : ρ 12 = .agg ([.slice a19 x18.length c20] : List Value).toArray := (hp 0 rfl).1
  obtain ⟨⟨cs40, e42r⟩, hm43⟩ := hp 4 rfl
  have e42 : ρ 16 = .agg cs40.toArray := e42r
  rw [e42r] at hm43
  have hs := hs.memo1 (it := vl t_api_Update x26 (.agg cs40.toArray)) (List.mem_append.2 (.inl (hm43 _ (List.mem_of_getElem? (i := 0) rfl))))
  have hl41 := hs.agglen (n := 4) 0 rfl rfl rfl
  have hs := hs.add (it := vl t_fold_Store (⟨x18⟩ : fold_Store) (.agg [.slice a19 x18.length c20].toArray)) fun ok hA => V_agg ((R_one (hA.get (Γx.length + 1 + 1) (getApp1 rfl)))) rfl
  refine WL.call (vs := [.agg ([.slice a19 x18.length c20] : List Value).toArray, .agg cs40.toArray]) hs FN23 ⟨e39, ⟨e42, trivial⟩⟩ (fun ok hA => esref32_Apply.calls (x1 := (⟨x18⟩ : fold_Store)) (x2 := x26) hxx31 (hA.get 0 rfl) (hA.get 1 rfl)) ?_
  rintro cs32 w hs
  have hl33 := hs.agglen (n := 1) 0 rfl rfl rfl
  have hs := hs.add (it := vl t_fold_Store x31 (.agg cs32.toArray)) fun ok hA => hA.get 0 rfl
  exact WL.nil ⟨rfl, _, rfl, ⟨cs32, rfl⟩, hs.cutG 1 3⟩ }
  {
  intro ρ w hs hu44 hp
  obtain ⟨⟨⟨⟨⟨⟨_, hp0_⟩, hp1_⟩, hp2_⟩, hp3_⟩, hp4_⟩, hp5_⟩ := hp
  have hs : St ok (bz w0) w [vl t_fold_Store x31 (ρ 17), vl t_api_Update x26 (ρ 16), pl t_api_Update x26 (adOf (ρ 15)), vl (tSlice t_api_Update) x1 (.slice a2 x1.length c3), vl (tSlice t_fold_Object) x18 (.slice a19 x18.length c20)] [blk g7 29 [.slice a19 x18.length c20], blk g5 29 [.slice none 0 0]] := hs
  obtain ⟨cs45, e47⟩ := hp5_
  have e47 : ρ 17 = .agg cs45.toArray := e47
  try rw [e47] at hs
  obtain ⟨cs48, e50⟩ := hp4_
  have e50 : ρ 16 = .agg cs48.toArray := e50
  try rw [e50] at hs
  obtain ⟨ad51, e52⟩ := hp3_
  have e52 : ρ 15 = .pointer (some ad51) := e52
  try rw [e52] at hs
  have e53 : ρ 14 = .int .i64 x17 := hp2_
  have e54 : ρ 13 = .slice a2 x1.length c3 := hp1_
  have e55 : ρ 12 = .agg ([.slice a19 x18.length c20] : List Value).toArray := hp0_
  have hl49 := hs.agglen (n := 4) 1 rfl rfl rfl
  have hl46 := hs.agglen (n := 1) 0 rfl rfl rfl
  refine WA.step [6] (by kernel_rfl) (by simp) ⟨?_, trivial⟩
  refine WL.storeAll (vs := cs45) hs 0 rfl TI29 ((hu44 3 rfl).trans h16_3) e47 rfl hl46 (hs.ones 0 rfl rfl) rfl (fun w hs => ?_)
  refine WL.nil ⟨rfl, _, rfl, ?_⟩
  refine WA.done (by kernel_rfl) ?_
  refine hK25 _ _ ?_
  refine W.region ?_
  refine WL.move (v := .int .i64 x17) ((hu44 4 rfl).trans h16_4) ?_
  obtain ⟨x56, ex56, hf⟩ := letE hf
  refine WL.bin (v := .int .i64 x56) rfl rfl (ib_as ex56 (ib_add _ _ _)) ?_
  refine WL.assign (v := .int .i64 x56) rfl ?_
  refine WL.nil ?_
  obtain ⟨a59, c60, rfl⟩ := open_fold_Store hs 0 rfl
  have hs := hs.add (it := vl (tSlice t_fold_Object) x31.Objects (.slice a59 (x31.Objects).length c60)) fun ok hA => V_fld F_fold_Store_Objects (hA.get 0 rfl) rfl rfl rfl
  exact ⟨_, (Option.some.inj hf).symm, a59, c60, ((hu44 0 rfl).trans h16_0), ((hu44 2 rfl).trans h16_2), ((hu44 3 rfl).trans h16_3), rfl, (hs.mask [true, true]).pick [4, 0]⟩ } }
  {
  refine W.cond_false (bool_tr rfl hc24) ?_
  refine W.exit ?_
  have hr := Option.some.inj hf; subst hr
  have hr := hbbs21 _ rfl; subst hr
  have hf := hfs21
  exact Jk13 x18 a19 c20 _ _ h16_2 h16_3 ((hs.mask [true, true]).pick [1]) hf }
theorem esref32_EqualStrings.calls {ok : Nat → Prop} {w0 : World} {x1 : List (List UInt8)} {x4 : List (List UInt8)} {a2 : Option Addr} {c3 : Nat} {a5 : Option Addr} {c6 : Nat} {r : Bool} (hf : esref32_EqualStrings x1 x4 = some r) (i0 : (vl (tSlice tStr) x1 (.slice a2 x1.length c3)).holds ok w0) (i1 : (vl (tSlice tStr) x4 (.slice a5 x4.length c6)).holds ok w0) :
    Calls Try.prog 56 #[.slice a2 x1.length c3, .slice a5 x4.length c6] w0 fun e w' => ∃ v, e = .returned v ∧ ∃ y : Unit, v = .bool r ∧ St ok (bz w0) w' [] [] := by
  unfold esref32_EqualStrings at hf
  refine calls_of_W (fn := Try.f56) (N := 26) Try.func56 rfl Try.ntmps56 rfl ?_
  have hs : St ok (bz w0) w0 [vl (tSlice tStr) x1 (.slice a2 x1.length c3), vl (tSlice tStr) x4 (.slice a5 x4.length c6)] [] := St.init (All.cons i0 (All.cons i1 All.nil))
  clear i0 i1
  refine W.seqK fun K7 hK7 => ?_
  refine W.region ?_
  refine WL.assign (v := .bool false) rfl ?_
  refine WL.nil ?_
  refine hK7 _ _ ?_
  refine W.seqK fun K8 hK8 => ?_
  refine W.seqK fun K9 hK9 => ?_
  refine W.region ?_
  refine WL.move (v := .slice a2 x1.length c3) rfl ?_
  refine WL.len (v := .slice a2 x1.length c3) rfl (len_slice UN55) ?_
  refine WL.move (v := .slice a5 x4.length c6) rfl ?_
  refine WL.len (v := .slice a5 x4.length c6) rfl (len_slice UN55) ?_
  refine WL.bin (v := .bool ((x1.length : Int) != (x4.length : Int))) rfl rfl (ib_neq _ _ _) ?_
  refine WL.nil ?_
  refine hK9 _ _ ?_
  rcases iteE hf with ⟨hc10, hf⟩ | ⟨hc10, hf⟩
  {
  refine W.cond_true (bool_tr rfl hc10) ?_
  refine W.seqK fun K11 hK11 => ?_
  refine W.region ?_
  refine WL.assign (v := .bool false) rfl ?_
  refine WL.nil ?_
  refine hK11 _ _ ?_
  refine W.ret ?_
  have hr := Option.some.inj hf; subst hr
  exact ⟨_, resOk_one rfl rfl, (), rfl, (hs.mask []).pick []⟩ }
  {
  refine W.cond_false (bool_tr rfl hc10) ?_
  refine W.skip ?_
  refine hK8 _ _ ?_
  refine W.seqK fun K12 hK12 => ?_
  have Jk14 : ∀  (ρ : Env) (w : World), St ok (bz w0) w [] [] → esref32_EqualStrings.j1 = some r → K12 ρ w := by
    intro  ρ w  hs hf
    refine hK12 _ _ ?_
    unfold esref32_EqualStrings.j1 at hf
    refine W.seqK fun K15 hK15 => ?_
    refine W.region ?_
    refine WL.assign (v := .bool true) rfl ?_
    refine WL.nil ?_
    refine hK15 _ _ ?_
    refine W.ret ?_
    have hr := Option.some.inj hf; subst hr
    exact ⟨_, resOk_one rfl rfl, (), rfl, (hs.mask []).pick []⟩
  refine W.seqK fun K16 hK16 => ?_
  refine W.region ?_
  refine WL.assign (v := .int .i64 0) rfl ?_
  refine WL.nil ?_
  refine hK16 _ _ ?_
  refine W.block ?_
  obtain ⟨bs19, hbs19, hfs19⟩ := bindE hf
  refine W.loop hbs19 (fun s ρ w => match s with | x18 => ρ 0 = .slice a2 x1.length c3 ∧ ρ 1 = .slice a5 x4.length c6 ∧ ρ 5 = .int .i64 x18 ∧ St ok (bz w0) w [vl (tSlice tStr) x1 (.slice a2 x1.length c3), vl (tSlice tStr) x4 (.slice a5 x4.length c6)] []) ⟨rfl, rfl, rfl, (hs.mask []).pick [0, 1]⟩ ?_
  intro x18 ρ w os19 hI hf hbbs19
  obtain ⟨h17_0, h17_1, h17_5, hs⟩ := hI
  unfold esref32_EqualStrings.l1 at hf
  refine W.seqK fun K20 hK20 => ?_
  refine W.seqK fun K21 hK21 => ?_
  refine W.region ?_
  refine WL.move (v := .int .i64 x18) h17_5 ?_
  refine WL.move (v := .slice a2 x1.length c3) h17_0 ?_
  refine WL.len (v := .slice a2 x1.length c3) rfl (len_slice UN55) ?_
  refine WL.bin (v := .bool (decide (x18 < (x1.length : Int)))) rfl rfl (ib_lss _ _ _) ?_
  refine WL.nil ?_
  refine hK21 _ _ ?_
  rcases iteE hf with ⟨hc22, hf⟩ | ⟨hc22, hf⟩
  {
  refine W.cond_true (bool_tr rfl hc22) ?_
  refine W.skip ?_
  refine hK20 _ _ ?_
  refine W.seqK fun K23 hK23 => ?_
  refine W.block ?_
  refine W.seqK fun K24 hK24 => ?_
  obtain ⟨x25, hxx25, hf⟩ := bindE hf
  obtain ⟨x28, hxx28, hf⟩ := bindE hf
  refine W.any (by kernel_rfl) 9 0 [true, true, true, true, true, true, true, true, true] rfl rfl (poAt [pv (.slice a2 x1.length c3), pv (.int .i64 x18), pq (fun y : Addr => .pointer (some y)) (fun v => [pl tStr x25 (adOf v)]) (fun v => []), pv (bstr x25), pv (.slice a5 x4.length c6), pv (.int .i64 x18), pq (fun y : Addr => .pointer (some y)) (fun v => [pl tStr x28 (adOf v)]) (fun v => []), pv (bstr x28), pv (.bool (x25 != x28))]) (Λ := []) hs (by kernel_rfl) (by kernel_rfl) (by kernel_rfl) ⟨⟨⟨⟨⟨⟨⟨⟨⟨trivial, ?_⟩, ?_⟩, ?_⟩, ?_⟩, ?_⟩, ?_⟩, ?_⟩, ?_⟩, ?_⟩ ?_
  {
  intro ρ w Γx Λx hs hu hp
  refine WL.move (v := .slice a2 x1.length c3) ((hu 0 rfl).trans h17_0) ?_
  exact WL.nil ⟨rfl, _, rfl, rfl, hs.cutG 0 0⟩ }
  {
  intro ρ w Γx Λx hs hu hp
  refine WL.move (v := .int .i64 x18) ((hu 5 rfl).trans h17_5) ?_
  exact WL.nil ⟨rfl, _, rfl, rfl, hs.cutG 0 0⟩ }
  {
  intro ρ w Γx Λx hs hu hp
  have e31 : ρ 17 = .slice a2 x1.length c3 := (hp 0 rfl).1
  have e32 : ρ 18 = .int .i64 x18 := (hp 1 rfl).1
  refine WL.indexAddr hs (Γx.length + 0) (getApp rfl) UN55 TI9 e31 e32 hxx25 (fun ad26 hs => ?_)
  have hs := hs.add (it := pl tStr x25 ad26) fun ok hA => hA.get 0 rfl
  exact WL.nil ⟨rfl, _, rfl, ⟨ad26, rfl⟩, hs.cutG 1 1⟩ }
  {
  intro ρ w Γx Λx hs hu hp
  obtain ⟨⟨ad33, e34r⟩, hm35⟩ := hp 2 rfl
  have e34 : ρ 19 = .pointer (some ad33) := e34r
  rw [e34r] at hm35
  have hs := hs.memo1 (it := pl tStr x25 ad33) (List.mem_append.2 (.inl (hm35 _ (List.mem_of_getElem? (i := 0) rfl))))
  refine WL.loadP hs 0 rfl TI9 (.inr rfl) e34 (fun v27 hs => ?_)
  obtain rfl := hs.str 0 rfl
  exact WL.nil ⟨rfl, _, rfl, rfl, hs.cutG 0 2⟩ }
  {
  intro ρ w Γx Λx hs hu hp
  refine WL.move (v := .slice a5 x4.length c6) ((hu 1 rfl).trans h17_1) ?_
  exact WL.nil ⟨rfl, _, rfl, rfl, hs.cutG 0 0⟩ }
  {
  intro ρ w Γx Λx hs hu hp
  refine WL.move (v := .int .i64 x18) ((hu 5 rfl).trans h17_5) ?_
  exact WL.nil ⟨rfl, _, rfl, rfl, hs.cutG 0 0⟩ }
  {
  intro ρ w Γx Λx hs hu hp
  have e36 : ρ 21 = .slice a5 x4.length c6 := (hp 4 rfl).1
  have e37 : ρ 22 = .int .i64 x18 := (hp 5 rfl).1
  refine WL.indexAddr hs (Γx.length + 1) (getApp rfl) UN55 TI9 e36 e37 hxx28 (fun ad29 hs => ?_)
  have hs := hs.add (it := pl tStr x28 ad29) fun ok hA => hA.get 0 rfl
  exact WL.nil ⟨rfl, _, rfl, ⟨ad29, rfl⟩, hs.cutG 1 1⟩ }
  {
  intro ρ w Γx Λx hs hu hp
  obtain ⟨⟨ad38, e39r⟩, hm40⟩ := hp 6 rfl
  have e39 : ρ 23 = .pointer (some ad38) := e39r
  rw [e39r] at hm40
  have hs := hs.memo1 (it := pl tStr x28 ad38) (List.mem_append.2 (.inl (hm40 _ (List.mem_of_getElem? (i := 0) rfl))))
  refine WL.loadP hs 0 rfl TI9 (.inr rfl) e39 (fun v30 hs => ?_)
  obtain rfl := hs.str 0 rfl
  exact WL.nil ⟨rfl, _, rfl, rfl, hs.cutG 0 2⟩ }
  {
  intro ρ w Γx Λx hs hu hp
  have e41 : ρ 20 = bstr x25 := (hp 3 rfl).1
  have e42 : ρ 24 = bstr x28 := (hp 7 rfl).1
  refine WL.binS (v := .bool (x25 != x28)) e41 e42 (sb_neq _ _) ?_
  exact WL.nil ⟨rfl, _, rfl, rfl, hs.cutG 0 0⟩ }
  {
  intro ρ w hs hu43 hp
  obtain ⟨⟨⟨⟨⟨⟨⟨⟨⟨_, hp0_⟩, hp1_⟩, hp2_⟩, hp3_⟩, hp4_⟩, hp5_⟩, hp6_⟩, hp7_⟩, hp8_⟩ := hp
  have hs : St ok (bz w0) w [pl tStr x28 (adOf (ρ 23)), pl tStr x25 (adOf (ρ 19)), vl (tSlice tStr) x1 (.slice a2 x1.length c3), vl (tSlice tStr) x4 (.slice a5 x4.length c6)] [] := hs
  have e44 : ρ 25 = .bool (x25 != x28) := hp8_
  have e45 : ρ 24 = bstr x28 := hp7_
  obtain ⟨ad46, e47⟩ := hp6_
  have e47 : ρ 23 = .pointer (some ad46) := e47
  try rw [e47] at hs
  have e48 : ρ 22 = .int .i64 x18 := hp5_
  have e49 : ρ 21 = .slice a5 x4.length c6 := hp4_
  have e50 : ρ 20 = bstr x25 := hp3_
  obtain ⟨ad51, e52⟩ := hp2_
  have e52 : ρ 19 = .pointer (some ad51) := e52
  try rw [e52] at hs
  have e53 : ρ 18 = .int .i64 x18 := hp1_
  have e54 : ρ 17 = .slice a2 x1.length c3 := hp0_
  refine WA.done (by kernel_rfl) ?_
  refine hK24 _ _ ?_
  rcases iteE hf with ⟨hc55, hf⟩ | ⟨hc55, hf⟩
  {
  refine W.cond_true (bool_tr e44 hc55) ?_
  refine W.seqK fun K56 hK56 => ?_
  refine W.region ?_
  refine WL.assign (v := .bool false) rfl ?_
  refine WL.nil ?_
  refine hK56 _ _ ?_
  refine W.ret ?_
  have hr := Option.some.inj hf; subst hr
  have hr := hbbs19 _ rfl; subst hr
  have hf := hfs19
  have hr := Option.some.inj hf; subst hr
  exact ⟨_, resOk_one rfl rfl, (), rfl, (hs.mask []).pick []⟩ }
  {
  refine W.cond_false (bool_tr e44 hc55) ?_
  refine W.skip ?_
  refine hK23 _ _ ?_
  refine W.region ?_
  refine WL.move (v := .int .i64 x18) ((hu43 5 rfl).trans h17_5) ?_
  obtain ⟨x57, ex57, hf⟩ := letE hf
  refine WL.bin (v := .int .i64 x57) rfl rfl (ib_as ex57 (ib_add _ _ _)) ?_
  refine WL.assign (v := .int .i64 x57) rfl ?_
  refine WL.nil ?_
  exact ⟨_, (Option.some.inj hf).symm, ((hu43 0 rfl).trans h17_0), ((hu43 1 rfl).trans h17_1), rfl, (hs.mask []).pick [2, 3]⟩ } } }
  {
  refine W.cond_false (bool_tr rfl hc22) ?_
  refine W.exit ?_
  have hr := Option.some.inj hf; subst hr
  have hr := hbbs19 _ rfl; subst hr
  have hf := hfs19
  exact Jk14  _ _  ((hs.mask []).pick []) hf } }
theorem esref32_EqualField.calls {ok : Nat → Prop} {w0 : World} {x1 : fold_Field} {x5 : fold_Field} {v2 : Value} {v6 : Value} {r : Bool} (hf : esref32_EqualField x1 x5 = some r) (i0 : (vl t_fold_Field x1 v2).holds ok w0) (i1 : (vl t_fold_Field x5 v6).holds ok w0) :
    Calls Try.prog 33 #[v2, v6] w0 fun e w' => ∃ v, e = .returned v ∧ ∃ y : Unit, v = .bool r ∧ St ok (bz w0) w' [] [] := by
  unfold esref32_EqualField at hf
  refine calls_of_W (fn := Try.f33) (N := 52) Try.func33 rfl Try.ntmps33 rfl ?_
  have hs : St ok (bz w0) w0 [vl t_fold_Field x1 v2, vl t_fold_Field x5 v6] [] := St.init (All.cons i0 (All.cons i1 All.nil))
  clear i0 i1
  obtain ⟨cs3, hl4, rfl⟩ := hs.aggv (n := 12) 0 rfl rfl rfl
  obtain ⟨cs7, hl8, rfl⟩ := hs.aggv (n := 12) 1 rfl rfl rfl
  refine W.seqK fun K9 hK9 => ?_
  refine W.region ?_
  refine WL.box (vs := cs3) hs rfl rfl (fun g10 w hs => ?_)
  refine WL.box (vs := cs7) hs rfl rfl (fun g11 w hs => ?_)
  refine WL.assign (v := .bool false) rfl ?_
  refine WL.nil ?_
  refine hK9 _ _ ?_
  refine W.seqK fun K12 hK12 => ?_
  have Jk15 : ∀ (x14 : Bool) (ρ : Env) (w : World), ρ 4 = .bool x14 → St ok (bz w0) w [] [] → esref32_EqualField.j1 x14 = some r → K12 ρ w := by
    intro x14 ρ w h13_4 hs hf
    refine hK12 _ _ ?_
    unfold esref32_EqualField.j1 at hf
    refine W.ret ?_
    have hr := Option.some.inj hf; subst hr
    exact ⟨_, resOk_one rfl h13_4, (), rfl, (hs.mask []).pick []⟩
  refine W.region ?_
  refine WL.fieldAddr (m := 0) rfl FA57_0 rfl ?_
  refine WL.loadF (z := x1.Name) F_fold_Field_Name hs 1 rfl 0 rfl rfl TI9 (.inr rfl) rfl rfl (fun v16 hs => ?_)
  obtain rfl := hs.str 0 rfl
  refine WL.fieldAddr (m := 0) rfl FA57_0 rfl ?_
  refine WL.loadF (z := x5.Name) F_fold_Field_Name hs 0 rfl 2 rfl rfl TI9 (.inr rfl) rfl rfl (fun v17 hs => ?_)
  obtain rfl := hs.str 0 rfl
  refine WL.binS (v := .bool (x1.Name == x5.Name)) rfl rfl (sb_eql _ _) ?_
  refine WL.move (v := .bool (x1.Name == x5.Name)) rfl ?_
  rcases iteE hf with ⟨hc18, hf⟩ | ⟨hc18, hf⟩
  {
  refine WL.fieldAddr (m := 1) rfl FA57_1 rfl ?_ (hg := (wanted_of rfl rfl (bool_tr rfl hc18)).trans rfl)
  refine WL.loadF (z := x1.Register) F_fold_Field_Register hs 1 rfl 2 rfl rfl TI54 (.inl rfl) rfl rfl (fun v19 hs => ?_) (hg := (wanted_of rfl rfl (bool_tr rfl hc18)).trans rfl)
  obtain ⟨cs20, hl21, rfl⟩ := hs.aggv (n := 6) 0 rfl rfl rfl
  refine WL.fieldAddr (m := 1) rfl FA57_1 rfl ?_ (hg := (wanted_of rfl rfl (bool_tr rfl hc18)).trans rfl)
  refine WL.loadF (z := x5.Register) F_fold_Field_Register hs 0 rfl 4 rfl rfl TI54 (.inl rfl) rfl rfl (fun v22 hs => ?_) (hg := (wanted_of rfl rfl (bool_tr rfl hc18)).trans rfl)
  obtain ⟨cs23, hl24, rfl⟩ := hs.aggv (n := 6) 0 rfl rfl rfl
  obtain rfl := open_fold_Register hs 1 rfl
  obtain rfl := open_fold_Register hs 0 rfl
  refine WL.eqA rfl rfl EG54 (EQ54 (⟨x1.Register.Set, x1.Register.Tag, x1.Register.Client, x1.Register.Seq, x1.Register.N, x1.Register.S⟩ : fold_Register) (⟨x5.Register.Set, x5.Register.Tag, x5.Register.Client, x5.Register.Seq, x5.Register.N, x5.Register.S⟩ : fold_Register)) ?_ (hg := (wanted_of rfl rfl (bool_tr rfl hc18)).trans rfl)
  refine WL.pickT (v := .bool (decide ((⟨x1.Register.Set, x1.Register.Tag, x1.Register.Client, x1.Register.Seq, x1.Register.N, x1.Register.S⟩ : fold_Register) = (⟨x5.Register.Set, x5.Register.Tag, x5.Register.Client, x5.Register.Seq, x5.Register.N, x5.Register.S⟩ : fold_Register)))) (bool_tr rfl hc18) rfl ?_
  refine WL.move (v := .bool (decide ((⟨x1.Register.Set, x1.Register.Tag, x1.Register.Client, x1.Register.Seq, x1.Register.N, x1.Register.S⟩ : fold_Register) = (⟨x5.Register.Set, x5.Register.Tag, x5.Register.Client, x5.Register.Seq, x5.Register.N, x5.Register.S⟩ : fold_Register)))) rfl ?_
  rcases iteE hf with ⟨hc25, hf⟩ | ⟨hc25, hf⟩
  {
  refine WL.fieldAddr (m := 7) rfl FA57_2 rfl ?_ (hg := (wanted_of rfl rfl (bool_tr rfl hc25)).trans rfl)
  refine WL.loadF (z := x1.HasMax) F_fold_Field_HasMax hs 1 rfl 4 rfl rfl TI4 (.inr rfl) rfl rfl (fun v26 hs => ?_) (hg := (wanted_of rfl rfl (bool_tr rfl hc25)).trans rfl)
  obtain rfl := hs.bool 0 rfl
  refine WL.fieldAddr (m := 7) rfl FA57_2 rfl ?_ (hg := (wanted_of rfl rfl (bool_tr rfl hc25)).trans rfl)
  refine WL.loadF (z := x5.HasMax) F_fold_Field_HasMax hs 0 rfl 6 rfl rfl TI4 (.inr rfl) rfl rfl (fun v27 hs => ?_) (hg := (wanted_of rfl rfl (bool_tr rfl hc25)).trans rfl)
  obtain rfl := hs.bool 0 rfl
  refine WL.eqB UN4 rfl rfl ?_ (hg := (wanted_of rfl rfl (bool_tr rfl hc25)).trans rfl)
  refine WL.pickT (v := .bool (x1.HasMax == x5.HasMax)) (bool_tr rfl hc25) rfl ?_
  refine WL.move (v := .bool (x1.HasMax == x5.HasMax)) rfl ?_
  rcases iteE hf with ⟨hc28, hf⟩ | ⟨hc28, hf⟩
  {
  refine WL.fieldAddr (m := 8) rfl FA57_3 rfl ?_ (hg := (wanted_of rfl rfl (bool_tr rfl hc28)).trans rfl)
  refine WL.loadF (z := x1.Max) F_fold_Field_Max hs 1 rfl 6 rfl rfl TI2 (.inr rfl) rfl rfl (fun v29 hs => ?_) (hg := (wanted_of rfl rfl (bool_tr rfl hc28)).trans rfl)
  obtain rfl := hs.int 0 rfl
  refine WL.fieldAddr (m := 8) rfl FA57_3 rfl ?_ (hg := (wanted_of rfl rfl (bool_tr rfl hc28)).trans rfl)
  refine WL.loadF (z := x5.Max) F_fold_Field_Max hs 0 rfl 8 rfl rfl TI2 (.inr rfl) rfl rfl (fun v30 hs => ?_) (hg := (wanted_of rfl rfl (bool_tr rfl hc28)).trans rfl)
  obtain rfl := hs.int 0 rfl
  refine WL.bin (v := .bool (x1.Max == x5.Max)) rfl rfl (ib_eql _ _ _) ?_ (hg := (wanted_of rfl rfl (bool_tr rfl hc28)).trans rfl)
  refine WL.pickT (v := .bool (x1.Max == x5.Max)) (bool_tr rfl hc28) rfl ?_
  refine WL.move (v := .bool (x1.Max == x5.Max)) rfl ?_
  rcases iteE hf with ⟨hc31, hf⟩ | ⟨hc31, hf⟩
  {
  refine WL.fieldAddr (m := 9) rfl FA57_4 rfl ?_ (hg := (wanted_of rfl rfl (bool_tr rfl hc31)).trans rfl)
  refine WL.loadF (z := x1.Sum) F_fold_Field_Sum hs 1 rfl 8 rfl rfl TI2 (.inr rfl) rfl rfl (fun v32 hs => ?_) (hg := (wanted_of rfl rfl (bool_tr rfl hc31)).trans rfl)
  obtain rfl := hs.int 0 rfl
  refine WL.fieldAddr (m := 9) rfl FA57_4 rfl ?_ (hg := (wanted_of rfl rfl (bool_tr rfl hc31)).trans rfl)
  refine WL.loadF (z := x5.Sum) F_fold_Field_Sum hs 0 rfl 10 rfl rfl TI2 (.inr rfl) rfl rfl (fun v33 hs => ?_) (hg := (wanted_of rfl rfl (bool_tr rfl hc31)).trans rfl)
  obtain rfl := hs.int 0 rfl
  refine WL.bin (v := .bool (x1.Sum == x5.Sum)) rfl rfl (ib_eql _ _ _) ?_ (hg := (wanted_of rfl rfl (bool_tr rfl hc31)).trans rfl)
  refine WL.pickT (v := .bool (x1.Sum == x5.Sum)) (bool_tr rfl hc31) rfl ?_
  refine WL.move (v := .bool (x1.Sum == x5.Sum)) rfl ?_
  rcases iteE hf with ⟨hc34, hf⟩ | ⟨hc34, hf⟩
  {
  refine WL.fieldAddr (m := 11) rfl FA57_6 rfl ?_ (hg := (wanted_of rfl rfl (bool_tr rfl hc34)).trans rfl)
  refine WL.loadF (z := x1.Flag) F_fold_Field_Flag hs 1 rfl 10 rfl rfl TI4 (.inr rfl) rfl rfl (fun v35 hs => ?_) (hg := (wanted_of rfl rfl (bool_tr rfl hc34)).trans rfl)
  obtain rfl := hs.bool 0 rfl
  refine WL.fieldAddr (m := 11) rfl FA57_6 rfl ?_ (hg := (wanted_of rfl rfl (bool_tr rfl hc34)).trans rfl)
  refine WL.loadF (z := x5.Flag) F_fold_Field_Flag hs 0 rfl 12 rfl rfl TI4 (.inr rfl) rfl rfl (fun v36 hs => ?_) (hg := (wanted_of rfl rfl (bool_tr rfl hc34)).trans rfl)
  obtain rfl := hs.bool 0 rfl
  refine WL.eqB UN4 rfl rfl ?_ (hg := (wanted_of rfl rfl (bool_tr rfl hc34)).trans rfl)
  refine WL.pickT (v := .bool (x1.Flag == x5.Flag)) (bool_tr rfl hc34) rfl ?_
  refine WL.move (v := .bool (x1.Flag == x5.Flag)) rfl ?_
  rcases iteE hf with ⟨hc37, hf⟩ | ⟨hc37, hf⟩
  {
  refine WL.fieldAddr (m := 10) rfl FA57_5 rfl ?_ (hg := (wanted_of rfl rfl (bool_tr rfl hc37)).trans rfl)
  refine WL.loadF (z := x1.Elems) F_fold_Field_Elems hs 1 rfl 12 rfl rfl TI55 (.inr rfl) rfl rfl (fun v38 hs => ?_) (hg := (wanted_of rfl rfl (bool_tr rfl hc37)).trans rfl)
  obtain ⟨a39, c40, rfl⟩ := hs.slice 0 rfl
  refine WL.fieldAddr (m := 10) rfl FA57_5 rfl ?_ (hg := (wanted_of rfl rfl (bool_tr rfl hc37)).trans rfl)
  refine WL.loadF (z := x5.Elems) F_fold_Field_Elems hs 0 rfl 14 rfl rfl TI55 (.inr rfl) rfl rfl (fun v41 hs => ?_) (hg := (wanted_of rfl rfl (bool_tr rfl hc37)).trans rfl)
  obtain ⟨a42, c43, rfl⟩ := hs.slice 0 rfl
  obtain ⟨x44, hxx44, hf⟩ := bindE hf
  refine WL.call (vs := [.slice a39 (x1.Elems).length c40, .slice a42 (x5.Elems).length c43]) hs FN56 ⟨rfl, ⟨rfl, trivial⟩⟩ (fun ok hA => esref32_EqualStrings.calls (x1 := x1.Elems) (x4 := x5.Elems) hxx44 (hA.get 1 rfl) (hA.get 0 rfl)) ?_ (hg := (wanted_of rfl rfl (bool_tr rfl hc37)).trans rfl)
  rintro _ w hs
  refine WL.pickT (v := .bool x44) (bool_tr rfl hc37) rfl ?_
  refine WL.assign (v := .bool x44) rfl ?_
  refine WL.nil ?_
  exact Jk15 x44 _ _ rfl ((hs.mask []).pick []) hf }
  {
  refine WL.pass ((wanted_of rfl rfl (bool_tr rfl hc37)).trans rfl) rfl ?_
  refine WL.pass ((wanted_of rfl rfl (bool_tr rfl hc37)).trans rfl) rfl ?_
  refine WL.pass ((wanted_of rfl rfl (bool_tr rfl hc37)).trans rfl) rfl ?_
  refine WL.pass ((wanted_of rfl rfl (bool_tr rfl hc37)).trans rfl) rfl ?_
  refine WL.pass ((wanted_of rfl rfl (bool_tr rfl hc37)).trans rfl) rfl ?_
  refine WL.pickF (v := .bool false) (bool_tr rfl hc37) rfl ?_
  refine WL.assign (v := .bool false) rfl ?_
  refine WL.nil ?_
  exact Jk15 false _ _ rfl ((hs.mask []).pick []) hf } }
  {
  refine WL.pass ((wanted_of rfl rfl (bool_tr rfl hc34)).trans rfl) rfl ?_
  refine WL.pass ((wanted_of rfl rfl (bool_tr rfl hc34)).trans rfl) rfl ?_
  refine WL.pass ((wanted_of rfl rfl (bool_tr rfl hc34)).trans rfl) rfl ?_
  refine WL.pass ((wanted_of rfl rfl (bool_tr rfl hc34)).trans rfl) rfl ?_
  refine WL.pass ((wanted_of rfl rfl (bool_tr rfl hc34)).trans rfl) rfl ?_
  refine WL.pickF (v := .bool false) (bool_tr rfl hc34) rfl ?_
  refine WL.move (v := .bool false) rfl ?_
  refine WL.pass ((wanted_of rfl rfl rfl).trans rfl) rfl ?_
  refine WL.pass ((wanted_of rfl rfl rfl).trans rfl) rfl ?_
  refine WL.pass ((wanted_of rfl rfl rfl).trans rfl) rfl ?_
  refine WL.pass ((wanted_of rfl rfl rfl).trans rfl) rfl ?_
  refine WL.pass ((wanted_of rfl rfl rfl).trans rfl) rfl ?_
  refine WL.pickF (v := .bool false) rfl rfl ?_
  refine WL.assign (v := .bool false) rfl ?_
  refine WL.nil ?_
  exact Jk15 false _ _ rfl ((hs.mask []).pick []) hf } }
  {
  refine WL.pass ((wanted_of rfl rfl (bool_tr rfl hc31)).trans rfl) rfl ?_
  refine WL.pass ((wanted_of rfl rfl (bool_tr rfl hc31)).trans rfl) rfl ?_
  refine WL.pass ((wanted_of rfl rfl (bool_tr rfl hc31)).trans rfl) rfl ?_
  refine WL.pass ((wanted_of rfl rfl (bool_tr rfl hc31)).trans rfl) rfl ?_
  refine WL.pass ((wanted_of rfl rfl (bool_tr rfl hc31)).trans rfl) rfl ?_
  refine WL.pickF (v := .bool false) (bool_tr rfl hc31) rfl ?_
  refine WL.move (v := .bool false) rfl ?_
  refine WL.pass ((wanted_of rfl rfl rfl).trans rfl) rfl ?_
  refine WL.pass ((wanted_of rfl rfl rfl).trans rfl) rfl ?_
  refine WL.pass ((wanted_of rfl rfl rfl).trans rfl) rfl ?_
  refine WL.pass ((wanted_of rfl rfl rfl).trans rfl) rfl ?_
  refine WL.pass ((wanted_of rfl rfl rfl).trans rfl) rfl ?_
  refine WL.pickF (v := .bool false) rfl rfl ?_
  refine WL.move (v := .bool false) rfl ?_
  refine WL.pass ((wanted_of rfl rfl rfl).trans rfl) rfl ?_
  refine WL.pass ((wanted_of rfl rfl rfl).trans rfl) rfl ?_
  refine WL.pass ((wanted_of rfl rfl rfl).trans rfl) rfl ?_
  refine WL.pass ((wanted_of rfl rfl rfl).trans rfl) rfl ?_
  refine WL.pass ((wanted_of rfl rfl rfl).trans rfl) rfl ?_
  refine WL.pickF (v := .bool false) rfl rfl ?_
  refine WL.assign (v := .bool false) rfl ?_
  refine WL.nil ?_
  exact Jk15 false _ _ rfl ((hs.mask []).pick []) hf } }
  {
  refine WL.pass ((wanted_of rfl rfl (bool_tr rfl hc28)).trans rfl) rfl ?_
  refine WL.pass ((wanted_of rfl rfl (bool_tr rfl hc28)).trans rfl) rfl ?_
  refine WL.pass ((wanted_of rfl rfl (bool_tr rfl hc28)).trans rfl) rfl ?_
  refine WL.pass ((wanted_of rfl rfl (bool_tr rfl hc28)).trans rfl) rfl ?_
  refine WL.pass ((wanted_of rfl rfl (bool_tr rfl hc28)).trans rfl) rfl ?_
  refine WL.pickF (v := .bool false) (bool_tr rfl hc28) rfl ?_
  refine WL.move (v := .bool false) rfl ?_
  refine WL.pass ((wanted_of rfl rfl rfl).trans rfl) rfl ?_
  refine WL.pass ((wanted_of rfl rfl rfl).trans rfl) rfl ?_
  refine WL.pass ((wanted_of rfl rfl rfl).trans rfl) rfl ?_
  refine WL.pass ((wanted_of rfl rfl rfl).trans rfl) rfl ?_
  refine WL.pass ((wanted_of rfl rfl rfl).trans rfl) rfl ?_
  refine WL.pickF (v := .bool false) rfl rfl ?_
  refine WL.move (v := .bool false) rfl ?_
  refine WL.pass ((wanted_of rfl rfl rfl).trans rfl) rfl ?_
  refine WL.pass ((wanted_of rfl rfl rfl).trans rfl) rfl ?_
  refine WL.pass ((wanted_of rfl rfl rfl).trans rfl) rfl ?_
  refine WL.pass ((wanted_of rfl rfl rfl).trans rfl) rfl ?_
  refine WL.pass ((wanted_of rfl rfl rfl).trans rfl) rfl ?_
  refine WL.pickF (v := .bool false) rfl rfl ?_
  refine WL.move (v := .bool false) rfl ?_
  refine WL.pass ((wanted_of rfl rfl rfl).trans rfl) rfl ?_
  refine WL.pass ((wanted_of rfl rfl rfl).trans rfl) rfl ?_
  refine WL.pass ((wanted_of rfl rfl rfl).trans rfl) rfl ?_
  refine WL.pass ((wanted_of rfl rfl rfl).trans rfl) rfl ?_
  refine WL.pass ((wanted_of rfl rfl rfl).trans rfl) rfl ?_
  refine WL.pickF (v := .bool false) rfl rfl ?_
  refine WL.assign (v := .bool false) rfl ?_
  refine WL.nil ?_
  exact Jk15 false _ _ rfl ((hs.mask []).pick []) hf } }
  {
  refine WL.pass ((wanted_of rfl rfl (bool_tr rfl hc25)).trans rfl) rfl ?_
  refine WL.pass ((wanted_of rfl rfl (bool_tr rfl hc25)).trans rfl) rfl ?_
  refine WL.pass ((wanted_of rfl rfl (bool_tr rfl hc25)).trans rfl) rfl ?_
  refine WL.pass ((wanted_of rfl rfl (bool_tr rfl hc25)).trans rfl) rfl ?_
  refine WL.pass ((wanted_of rfl rfl (bool_tr rfl hc25)).trans rfl) rfl ?_
  refine WL.pickF (v := .bool false) (bool_tr rfl hc25) rfl ?_
  refine WL.move (v := .bool false) rfl ?_
  refine WL.pass ((wanted_of rfl rfl rfl).trans rfl) rfl ?_
  refine WL.pass ((wanted_of rfl rfl rfl).trans rfl) rfl ?_
  refine WL.pass ((wanted_of rfl rfl rfl).trans rfl) rfl ?_
  refine WL.pass ((wanted_of rfl rfl rfl).trans rfl) rfl ?_
  refine WL.pass ((wanted_of rfl rfl rfl).trans rfl) rfl ?_
  refine WL.pickF (v := .bool false) rfl rfl ?_
  refine WL.move (v := .bool false) rfl ?_
  refine WL.pass ((wanted_of rfl rfl rfl).trans rfl) rfl ?_
  refine WL.pass ((wanted_of rfl rfl rfl).trans rfl) rfl ?_
  refine WL.pass ((wanted_of rfl rfl rfl).trans rfl) rfl ?_
  refine WL.pass ((wanted_of rfl rfl rfl).trans rfl) rfl ?_
  refine WL.pass ((wanted_of rfl rfl rfl).trans rfl) rfl ?_
  refine WL.pickF (v := .bool false) rfl rfl ?_
  refine WL.move (v := .bool false) rfl ?_
  refine WL.pass ((wanted_of rfl rfl rfl).trans rfl) rfl ?_
  refine WL.pass ((wanted_of rfl rfl rfl).trans rfl) rfl ?_
  refine WL.pass ((wanted_of rfl rfl rfl).trans rfl) rfl ?_
  refine WL.pass ((wanted_of rfl rfl rfl).trans rfl) rfl ?_
  refine WL.pass ((wanted_of rfl rfl rfl).trans rfl) rfl ?_
  refine WL.pickF (v := .bool false) rfl rfl ?_
  refine WL.move (v := .bool false) rfl ?_
  refine WL.pass ((wanted_of rfl rfl rfl).trans rfl) rfl ?_
  refine WL.pass ((wanted_of rfl rfl rfl).trans rfl) rfl ?_
  refine WL.pass ((wanted_of rfl rfl rfl).trans rfl) rfl ?_
  refine WL.pass ((wanted_of rfl rfl rfl).trans rfl) rfl ?_
  refine WL.pass ((wanted_of rfl rfl rfl).trans rfl) rfl ?_
  refine WL.pickF (v := .bool false) rfl rfl ?_
  refine WL.assign (v := .bool false) rfl ?_
  refine WL.nil ?_
  exact Jk15 false _ _ rfl ((hs.mask []).pick []) hf } }
  {
  refine WL.pass ((wanted_of rfl rfl (bool_tr rfl hc18)).trans rfl) rfl ?_
  refine WL.pass ((wanted_of rfl rfl (bool_tr rfl hc18)).trans rfl) rfl ?_
  refine WL.pass ((wanted_of rfl rfl (bool_tr rfl hc18)).trans rfl) rfl ?_
  refine WL.pass ((wanted_of rfl rfl (bool_tr rfl hc18)).trans rfl) rfl ?_
  refine WL.pass ((wanted_of rfl rfl (bool_tr rfl hc18)).trans rfl) rfl ?_
  refine WL.pickF (v := .bool false) (bool_tr rfl hc18) rfl ?_
  refine WL.move (v := .bool false) rfl ?_
  refine WL.pass ((wanted_of rfl rfl rfl).trans rfl) rfl ?_
  refine WL.pass ((wanted_of rfl rfl rfl).trans rfl) rfl ?_
  refine WL.pass ((wanted_of rfl rfl rfl).trans rfl) rfl ?_
  refine WL.pass ((wanted_of rfl rfl rfl).trans rfl) rfl ?_
  refine WL.pass ((wanted_of rfl rfl rfl).trans rfl) rfl ?_
  refine WL.pickF (v := .bool false) rfl rfl ?_
  refine WL.move (v := .bool false) rfl ?_
  refine WL.pass ((wanted_of rfl rfl rfl).trans rfl) rfl ?_
  refine WL.pass ((wanted_of rfl rfl rfl).trans rfl) rfl ?_
  refine WL.pass ((wanted_of rfl rfl rfl).trans rfl) rfl ?_
  refine WL.pass ((wanted_of rfl rfl rfl).trans rfl) rfl ?_
  refine WL.pass ((wanted_of rfl rfl rfl).trans rfl) rfl ?_
  refine WL.pickF (v := .bool false) rfl rfl ?_
  refine WL.move (v := .bool false) rfl ?_
  refine WL.pass ((wanted_of rfl rfl rfl).trans rfl) rfl ?_
  refine WL.pass ((wanted_of rfl rfl rfl).trans rfl) rfl ?_
  refine WL.pass ((wanted_of rfl rfl rfl).trans rfl) rfl ?_
  refine WL.pass ((wanted_of rfl rfl rfl).trans rfl) rfl ?_
  refine WL.pass ((wanted_of rfl rfl rfl).trans rfl) rfl ?_
  refine WL.pickF (v := .bool false) rfl rfl ?_
  refine WL.move (v := .bool false) rfl ?_
  refine WL.pass ((wanted_of rfl rfl rfl).trans rfl) rfl ?_
  refine WL.pass ((wanted_of rfl rfl rfl).trans rfl) rfl ?_
  refine WL.pass ((wanted_of rfl rfl rfl).trans rfl) rfl ?_
  refine WL.pass ((wanted_of rfl rfl rfl).trans rfl) rfl ?_
  refine WL.pass ((wanted_of rfl rfl rfl).trans rfl) rfl ?_
  refine WL.pickF (v := .bool false) rfl rfl ?_
  refine WL.move (v := .bool false) rfl ?_
  refine WL.pass ((wanted_of rfl rfl rfl).trans rfl) rfl ?_
  refine WL.pass ((wanted_of rfl rfl rfl).trans rfl) rfl ?_
  refine WL.pass ((wanted_of rfl rfl rfl).trans rfl) rfl ?_
  refine WL.pass ((wanted_of rfl rfl rfl).trans rfl) rfl ?_
  refine WL.pass ((wanted_of rfl rfl rfl).trans rfl) rfl ?_
  refine WL.pickF (v := .bool false) rfl rfl ?_
  refine WL.assign (v := .bool false) rfl ?_
  refine WL.nil ?_
  exact Jk15 false _ _ rfl ((hs.mask []).pick []) hf }
end Go.Proofs.Ytlbcfjblpopcnaa
set_option linter.unusedVariables false
set_option linter.unusedSimpArgs false
namespace Go.Proofs.Ytlbcfjblpopcnaa
open Go Go.RowKit Go.Proofs.YtlbcfjblpopcnaaL
set_option maxRecDepth 100000
set_option maxHeartbeats 4000000
theorem esref32_EqualObject.calls {ok : Nat → Prop} {w0 : World} {x1 : fold_Object} {x5 : fold_Object} {v2 : Value} {v6 : Value} {r : Bool} (hf : esref32_EqualObject x1 x5 = some r) (i0 : (vl t_fold_Object x1 v2).holds ok w0) (i1 : (vl t_fold_Object x5 v6).holds ok w0) :
    Calls Try.prog 31 #[v2, v6] w0 fun e w' => ∃ v, e = .returned v ∧ ∃ y : Unit, v = .bool r ∧ St ok (bz w0) w' [] [] := by
  unfold esref32_EqualObject at hf
  refine calls_of_W (fn := Try.f31) (N := 39) Try.func31 rfl Try.ntmps31 rfl ?_
  have hs : St ok (bz w0) w0 [vl t_fold_Object x1 v2, vl t_fold_Object x5 v6] [] := St.init (All.cons i0 (All.cons i1 All.nil))
  clear i0 i1
  obtain ⟨cs3, hl4, rfl⟩ := hs.aggv (n := 2) 0 rfl rfl rfl
  obtain ⟨cs7, hl8, rfl⟩ := hs.aggv (n := 2) 1 rfl rfl rfl
  refine W.seqK fun K9 hK9 => ?_
  refine W.region ?_
  refine WL.box (vs := cs3) hs rfl rfl (fun g10 w hs => ?_)
  refine WL.box (vs := cs7) hs rfl rfl (fun g11 w hs => ?_)
  refine WL.assign (v := .bool false) rfl ?_
  refine WL.nil ?_
  refine hK9 _ _ ?_
  refine W.seqK fun K12 hK12 => ?_
  refine W.seqK fun K13 hK13 => ?_
  have Jk16 : ∀ (x15 : Bool) (ρ : Env) (w : World), ρ 2 = .pointer (some ⟨g10, 0, none⟩) → ρ 3 = .pointer (some ⟨g11, 0, none⟩) → ρ 19 = .bool x15 → St ok (bz w0) w [vl t_fold_Object x5 (.agg cs7.toArray), vl t_fold_Object x1 (.agg cs3.toArray)] [blk g11 51 cs7, blk g10 51 cs3] → esref32_EqualObject.j2 x1 x5 x15 = some r → K13 ρ w := by
    intro x15 ρ w h14_2 h14_3 h14_19 hs hf
    refine hK13 _ _ ?_
    unfold esref32_EqualObject.j2 at hf
    rcases iteE hf with ⟨hc17, hf⟩ | ⟨hc17, hf⟩
    {
    refine W.cond_true (bool_tr h14_19 hc17) ?_
    refine W.seqK fun K18 hK18 => ?_
    refine W.region ?_
    refine WL.assign (v := .bool false) rfl ?_
    refine WL.nil ?_
    refine hK18 _ _ ?_
    refine W.ret ?_
    have hr := Option.some.inj hf; subst hr
    exact ⟨_, resOk_one rfl rfl, (), rfl, (hs.mask []).pick []⟩ }
    {
    refine W.cond_false (bool_tr h14_19 hc17) ?_
    refine W.skip ?_
    refine hK12 _ _ ?_
    refine W.seqK fun K19 hK19 => ?_
    have Jk21 : ∀  (ρ : Env) (w : World), St ok (bz w0) w [] [] → esref32_EqualObject.j1 = some r → K19 ρ w := by
      intro  ρ w  hs hf
      refine hK19 _ _ ?_
      unfold esref32_EqualObject.j1 at hf
      refine W.seqK fun K22 hK22 => ?_
      refine W.region ?_
      refine WL.assign (v := .bool true) rfl ?_
      refine WL.nil ?_
      refine hK22 _ _ ?_
      refine W.ret ?_
      have hr := Option.some.inj hf; subst hr
      exact ⟨_, resOk_one rfl rfl, (), rfl, (hs.mask []).pick []⟩
    refine W.seqK fun K23 hK23 => ?_
    refine W.region ?_
    refine WL.assign (v := .int .i64 0) rfl ?_
    refine WL.nil ?_
    refine hK23 _ _ ?_
    refine W.block ?_
    obtain ⟨bs26, hbs26, hfs26⟩ := bindE hf
    refine W.loop hbs26 (fun s ρ w => match s with | x25 => ρ 2 = .pointer (some ⟨g10, 0, none⟩) ∧ ρ 3 = .pointer (some ⟨g11, 0, none⟩) ∧ ρ 5 = .int .i64 x25 ∧ St ok (bz w0) w [vl t_fold_Object x5 (.agg cs7.toArray), vl t_fold_Object x1 (.agg cs3.toArray)] [blk g11 51 cs7, blk g10 51 cs3]) ⟨h14_2, h14_3, rfl, (hs.mask [true, true]).pick [0, 1]⟩ ?_
    intro x25 ρ w os26 hI hf hbbs26
    obtain ⟨h24_2, h24_3, h24_5, hs⟩ := hI
    unfold esref32_EqualObject.l1 at hf
    refine W.seqK fun K27 hK27 => ?_
    refine W.seqK fun K28 hK28 => ?_
    refine W.region ?_
    refine WL.move (v := .int .i64 x25) h24_5 ?_
    refine WL.fieldAddr (m := 1) h24_2 FA51_1 rfl ?_
    refine WL.loadF (z := x1.Fields) F_fold_Object_Fields hs 1 rfl 1 rfl rfl TI49 (.inr rfl) rfl rfl (fun v29 hs => ?_)
    obtain ⟨a30, c31, rfl⟩ := hs.slice 0 rfl
    refine WL.len (v := .slice a30 (x1.Fields).length c31) rfl (len_slice UN49) ?_
    refine WL.bin (v := .bool (decide (x25 < ((x1.Fields).length : Int)))) rfl rfl (ib_lss _ _ _) ?_
    refine WL.nil ?_
    refine hK28 _ _ ?_
    rcases iteE hf with ⟨hc32, hf⟩ | ⟨hc32, hf⟩
    {
    refine W.cond_true (bool_tr rfl hc32) ?_
    refine W.skip ?_
    refine hK27 _ _ ?_
    refine W.seqK fun K33 hK33 => ?_
    refine W.block ?_
    refine W.seqK fun K34 hK34 => ?_
    obtain ⟨x38, hxx38, hf⟩ := bindE hf
    obtain ⟨x46, hxx46, hf⟩ := bindE hf
    obtain ⟨x51, hxx51, hf⟩ := bindE hf
    refine W.any (by kernel_rfl) 12 0 [true, true, true, true, true, true, true, true, true, true, true, true] rfl rfl (poAt [pv (.pointer (some ⟨g10, 1, none⟩)), pq (fun y : (Option Addr × Nat) => .slice y.1 (x1.Fields).length y.2) (fun v => [vl (tSlice t_fold_Field) x1.Fields v]) (fun v => []), pv (.int .i64 x25), pq (fun y : Addr => .pointer (some y)) (fun v => [pl t_fold_Field x38 (adOf v)]) (fun v => []), pq (fun y : List Value => .agg y.toArray) (fun v => [vl t_fold_Field x38 v]) (fun v => []), pv (.pointer (some ⟨g11, 1, none⟩)), pq (fun y : (Option Addr × Nat) => .slice y.1 (x5.Fields).length y.2) (fun v => [vl (tSlice t_fold_Field) x5.Fields v]) (fun v => []), pv (.int .i64 x25), pq (fun y : Addr => .pointer (some y)) (fun v => [pl t_fold_Field x46 (adOf v)]) (fun v => []), pq (fun y : List Value => .agg y.toArray) (fun v => [vl t_fold_Field x46 v]) (fun v => []), pv (.bool x51), pv (.bool (!x51))]) (Λ := [blk g11 51 cs7, blk g10 51 cs3]) hs (by kernel_rfl) (by kernel_rfl) (by kernel_rfl) ⟨⟨⟨⟨⟨⟨⟨⟨⟨⟨⟨⟨trivial, ?_⟩, ?_⟩, ?_⟩, ?_⟩, ?_⟩, ?_⟩, ?_⟩, ?_⟩, ?_⟩, ?_⟩, ?_⟩, ?_⟩ ?_
    {
    intro ρ w Γx Λx hs hu hp
    refine WL.fieldAddr (m := 1) ((hu 2 rfl).trans h24_2) FA51_1 rfl ?_
    exact WL.nil ⟨rfl, _, rfl, rfl, hs.cutG 0 0⟩ }
    {
    intro ρ w Γx Λx hs hu hp
    have e52 : ρ 27 = .pointer (some ⟨g10, 1, none⟩) := (hp 0 rfl).1
    refine WL.loadF (z := x1.Fields) F_fold_Object_Fields hs (Λx.length + 1) (getApp rfl) (Γx.length + 2) (getApp rfl) rfl TI49 (.inr rfl) e52 rfl (fun v35 hs => ?_)
    obtain ⟨a36, c37, rfl⟩ := hs.slice 0 rfl
    have hs := hs.add (it := vl (tSlice t_fold_Field) x1.Fields (.slice a36 (x1.Fields).length c37)) fun ok hA => hA.get 0 rfl
    exact WL.nil ⟨rfl, _, rfl, ⟨(a36, c37), rfl⟩, hs.cutG 1 1⟩ }
    {
    intro ρ w Γx Λx hs hu hp
    refine WL.move (v := .int .i64 x25) ((hu 5 rfl).trans h24_5) ?_
    exact WL.nil ⟨rfl, _, rfl, rfl, hs.cutG 0 0⟩ }
    {
    intro ρ w Γx Λx hs hu hp
    obtain ⟨⟨⟨a53, c54⟩, e55r⟩, hm56⟩ := hp 1 rfl
    have e55 : ρ 28 = .slice a53 (x1.Fields).length c54 := e55r
    rw [e55r] at hm56
    have hs := hs.memo1 (it := vl (tSlice t_fold_Field) x1.Fields (.slice a53 (x1.Fields).length c54)) (List.mem_append.2 (.inl (hm56 _ (List.mem_of_getElem? (i := 0) rfl))))
    have e57 : ρ 29 = .int .i64 x25 := (hp 2 rfl).1
    refine WL.indexAddr hs 0 rfl UN49 TI57 e55 e57 hxx38 (fun ad39 hs => ?_)
    have hs := hs.add (it := pl t_fold_Field x38 ad39) fun ok hA => hA.get 0 rfl
    exact WL.nil ⟨rfl, _, rfl, ⟨ad39, rfl⟩, hs.cutG 1 2⟩ }
    {
    intro ρ w Γx Λx hs hu hp
    obtain ⟨⟨ad58, e59r⟩, hm60⟩ := hp 3 rfl
    have e59 : ρ 30 = .pointer (some ad58) := e59r
    rw [e59r] at hm60
    have hs := hs.memo1 (it := pl t_fold_Field x38 ad58) (List.mem_append.2 (.inl (hm60 _ (List.mem_of_getElem? (i := 0) rfl))))
    refine WL.loadP hs 0 rfl TI57 (.inl rfl) e59 (fun v40 hs => ?_)
    obtain ⟨cs41, hl42, rfl⟩ := hs.aggv (n := 12) 0 rfl rfl rfl
    have hs := hs.add (it := vl t_fold_Field x38 (.agg cs41.toArray)) fun ok hA => hA.get 0 rfl
    exact WL.nil ⟨rfl, _, rfl, ⟨cs41, rfl⟩, hs.cutG 1 2⟩ }
    {
    intro ρ w Γx Λx hs hu hp
    refine WL.fieldAddr (m := 1) ((hu 3 rfl).trans h24_3) FA51_1 rfl ?_
    exact WL.nil ⟨rfl, _, rfl, rfl, hs.cutG 0 0⟩ }
    {
    intro ρ w Γx Λx hs hu hp
    have e61 : ρ 32 = .pointer (some ⟨g11, 1, none⟩) := (hp 5 rfl).1
    refine WL.loadF (z := x5.Fields) F_fold_Object_Fields hs (Λx.length + 0) (getApp rfl) (Γx.length + 1) (getApp rfl) rfl TI49 (.inr rfl) e61 rfl (fun v43 hs => ?_)
    obtain ⟨a44, c45, rfl⟩ := hs.slice 0 rfl
    have hs := hs.add (it := vl (tSlice t_fold_Field) x5.Fields (.slice a44 (x5.Fields).length c45)) fun ok hA => hA.get 0 rfl
    exact WL.nil ⟨rfl, _, rfl, ⟨(a44, c45), rfl⟩, hs.cutG 1 1⟩ }
    {
    intro ρ w Γx Λx hs hu hp
    refine WL.move (v := .int .i64 x25) ((hu 5 rfl).trans h24_5) ?_
    exact WL.nil ⟨rfl, _, rfl, rfl, hs.cutG 0 0⟩ }
    {
    intro ρ w Γx Λx hs hu hp
    obtain ⟨⟨⟨a62, c63⟩, e64r⟩, hm65⟩ := hp 6 rfl
    have e64 : ρ 33 = .slice a62 (x5.Fields).length c63 := e64r
    rw [e64r] at hm65
    have hs := hs.memo1 (it := vl (tSlice t_fold_Field) x5.Fields (.slice a62 (x5.Fields).length c63)) (List.mem_append.2 (.inl (hm65 _ (List.mem_of_getElem? (i := 0) rfl))))
    have e66 : ρ 34 = .int .i64 x25 := (hp 7 rfl).1
    refine WL.indexAddr hs 0 rfl UN49 TI57 e64 e66 hxx46 (fun ad47 hs => ?_)
    have hs := hs.add (it := pl t_fold_Field x46 ad47) fun ok hA => hA.get 0 rfl
    exact WL.nil ⟨rfl, _, rfl, ⟨ad47, rfl⟩, hs.cutG 1 2⟩ }
    {
    intro ρ w Γx Λx hs hu hp
    obtain ⟨⟨ad67, e68r⟩, hm69⟩ := hp 8 rfl
    have e68 : ρ 35 = .pointer (some ad67) := e68r
    rw [e68r] at hm69
    have hs := hs.memo1 (it := pl t_fold_Field x46 ad67) (List.mem_append.2 (.inl (hm69 _ (List.mem_of_getElem? (i := 0) rfl))))
    refine WL.loadP hs 0 rfl TI57 (.inl rfl) e68 (fun v48 hs => ?_)
    obtain ⟨cs49, hl50, rfl⟩ := hs.aggv (n := 12) 0 rfl rfl rfl
    have hs := hs.add (it := vl t_fold_Field x46 (.agg cs49.toArray)) fun ok hA => hA.get 0 rfl
    exact WL.nil ⟨rfl, _, rfl, ⟨cs49, rfl⟩, hs.cutG 1 2⟩ }
    {
    intro ρ w Γx Λx hs hu hp
    obtain ⟨⟨cs70, e72r⟩, hm73⟩ := hp 4 rfl
    have e72 : ρ 31 = .agg cs70.toArray := e72r
    rw [e72r] at hm73
    have hs := hs.memo1 (it := vl t_fold_Field x38 (.agg cs70.toArray)) (List.mem_append.2 (.inl (hm73 _ (List.mem_of_getElem? (i := 0) rfl))))
    have hl71 := hs.agglen (n := 12) 0 rfl rfl rfl
    obtain ⟨⟨cs74, e76r⟩, hm77⟩ := hp 9 rfl
    have e76 : ρ 36 = .agg cs74.toArray := e76r
    rw [e76r] at hm77
    have hs := hs.memo1 (it := vl t_fold_Field x46 (.agg cs74.toArray)) (List.mem_cons_of_mem _ (List.mem_append.2 (.inl (hm77 _ (List.mem_of_getElem? (i := 0) rfl)))))
    have hl75 := hs.agglen (n := 12) 0 rfl rfl rfl
    refine WL.call (vs := [.agg cs70.toArray, .agg cs74.toArray]) hs FN33 ⟨e72, ⟨e76, trivial⟩⟩ (fun ok hA => esref32_EqualField.calls (x1 := x38) (x5 := x46) hxx51 (hA.get 1 rfl) (hA.get 0 rfl)) ?_
    rintro _ w hs
    exact WL.nil ⟨rfl, _, rfl, rfl, hs.cutG 0 2⟩ }
    {
    intro ρ w Γx Λx hs hu hp
    have e78 : ρ 37 = .bool x51 := (hp 10 rfl).1
    refine WL.not e78 ?_
    exact WL.nil ⟨rfl, _, rfl, rfl, hs.cutG 0 0⟩ }
    {
    intro ρ w hs hu79 hp
    obtain ⟨⟨⟨⟨⟨⟨⟨⟨⟨⟨⟨⟨_, hp0_⟩, hp1_⟩, hp2_⟩, hp3_⟩, hp4_⟩, hp5_⟩, hp6_⟩, hp7_⟩, hp8_⟩, hp9_⟩, hp10_⟩, hp11_⟩ := hp
    have hs : St ok (bz w0) w [vl t_fold_Field x46 (ρ 36), pl t_fold_Field x46 (adOf (ρ 35)), vl (tSlice t_fold_Field) x5.Fields (ρ 33), vl t_fold_Field x38 (ρ 31), pl t_fold_Field x38 (adOf (ρ 30)), vl (tSlice t_fold_Field) x1.Fields (ρ 28), vl (tSlice t_fold_Field) x1.Fields (.slice a30 (x1.Fields).length c31), vl t_fold_Object x5 (.agg cs7.toArray), vl t_fold_Object x1 (.agg cs3.toArray)] [blk g11 51 cs7, blk g10 51 cs3] := hs
    have e80 : ρ 38 = .bool (!x51) := hp11_
    have e81 : ρ 37 = .bool x51 := hp10_
    obtain ⟨cs82, e84⟩ := hp9_
    have e84 : ρ 36 = .agg cs82.toArray := e84
    try rw [e84] at hs
    obtain ⟨ad85, e86⟩ := hp8_
    have e86 : ρ 35 = .pointer (some ad85) := e86
    try rw [e86] at hs
    have e87 : ρ 34 = .int .i64 x25 := hp7_
    obtain ⟨⟨a88, c89⟩, e90⟩ := hp6_
    have e90 : ρ 33 = .slice a88 (x5.Fields).length c89 := e90
    try rw [e90] at hs
    have e91 : ρ 32 = .pointer (some ⟨g11, 1, none⟩) := hp5_
    obtain ⟨cs92, e94⟩ := hp4_
    have e94 : ρ 31 = .agg cs92.toArray := e94
    try rw [e94] at hs
    obtain ⟨ad95, e96⟩ := hp3_
    have e96 : ρ 30 = .pointer (some ad95) := e96
    try rw [e96] at hs
    have e97 : ρ 29 = .int .i64 x25 := hp2_
    obtain ⟨⟨a98, c99⟩, e100⟩ := hp1_
    have e100 : ρ 28 = .slice a98 (x1.Fields).length c99 := e100
    try rw [e100] at hs
    have e101 : ρ 27 = .pointer (some ⟨g10, 1, none⟩) := hp0_
    have hl93 := hs.agglen (n := 12) 3 rfl rfl rfl
    have hl83 := hs.agglen (n := 12) 0 rfl rfl rfl
    refine WA.done (by kernel_rfl) ?_
    refine hK34 _ _ ?_
    rcases iteE hf with ⟨hc102, hf⟩ | ⟨hc102, hf⟩
    {
    refine W.cond_true (bool_tr e80 hc102) ?_
    refine W.seqK fun K103 hK103 => ?_
    refine W.region ?_
    refine WL.assign (v := .bool false) rfl ?_
    refine WL.nil ?_
    refine hK103 _ _ ?_
    refine W.ret ?_
    have hr := Option.some.inj hf; subst hr
    have hr := hbbs26 _ rfl; subst hr
    have hf := hfs26
    have hr := Option.some.inj hf; subst hr
    exact ⟨_, resOk_one rfl rfl, (), rfl, (hs.mask []).pick []⟩ }
    {
    refine W.cond_false (bool_tr e80 hc102) ?_
    refine W.skip ?_
    refine hK33 _ _ ?_
    refine W.region ?_
    refine WL.move (v := .int .i64 x25) ((hu79 5 rfl).trans h24_5) ?_
    obtain ⟨x104, ex104, hf⟩ := letE hf
    refine WL.bin (v := .int .i64 x104) rfl rfl (ib_as ex104 (ib_add _ _ _)) ?_
    refine WL.assign (v := .int .i64 x104) rfl ?_
    refine WL.nil ?_
    exact ⟨_, (Option.some.inj hf).symm, ((hu79 2 rfl).trans h24_2), ((hu79 3 rfl).trans h24_3), rfl, (hs.mask [true, true]).pick [7, 8]⟩ } } }
    {
    refine W.cond_false (bool_tr rfl hc32) ?_
    refine W.exit ?_
    have hr := Option.some.inj hf; subst hr
    have hr := hbbs26 _ rfl; subst hr
    have hf := hfs26
    exact Jk21  _ _  ((hs.mask []).pick []) hf } }
  refine W.region ?_
  refine WL.fieldAddr (m := 0) rfl FA51_0 rfl ?_
  refine WL.loadF (z := x1.Name) F_fold_Object_Name hs 1 rfl 0 rfl rfl TI9 (.inr rfl) rfl rfl (fun v106 hs => ?_)
  obtain rfl := hs.str 0 rfl
  refine WL.fieldAddr (m := 0) rfl FA51_0 rfl ?_
  refine WL.loadF (z := x5.Name) F_fold_Object_Name hs 0 rfl 2 rfl rfl TI9 (.inr rfl) rfl rfl (fun v107 hs => ?_)
  obtain rfl := hs.str 0 rfl
  refine WL.binS (v := .bool (x1.Name != x5.Name)) rfl rfl (sb_neq _ _) ?_
  refine WL.move (v := .bool (x1.Name != x5.Name)) rfl ?_
  rcases iteE hf with ⟨hc108, hf⟩ | ⟨hc108, hf⟩
  {
  refine WL.pass ((wanted_of rfl rfl (bool_tr rfl hc108)).trans rfl) rfl ?_
  refine WL.pass ((wanted_of rfl rfl (bool_tr rfl hc108)).trans rfl) rfl ?_
  refine WL.pass ((wanted_of rfl rfl (bool_tr rfl hc108)).trans rfl) rfl ?_
  refine WL.pass ((wanted_of rfl rfl (bool_tr rfl hc108)).trans rfl) rfl ?_
  refine WL.pass ((wanted_of rfl rfl (bool_tr rfl hc108)).trans rfl) rfl ?_
  refine WL.pass ((wanted_of rfl rfl (bool_tr rfl hc108)).trans rfl) rfl ?_
  refine WL.pass ((wanted_of rfl rfl (bool_tr rfl hc108)).trans rfl) rfl ?_
  refine WL.pickT (v := .bool true) (bool_tr rfl hc108) rfl ?_
  refine WL.nil ?_
  exact Jk16 true _ _ rfl rfl rfl ((hs.mask [true, true]).pick [3, 2]) hf }
  {
  refine WL.fieldAddr (m := 1) rfl FA51_1 rfl ?_ (hg := (wanted_of rfl rfl (bool_tr rfl hc108)).trans rfl)
  refine WL.loadF (z := x1.Fields) F_fold_Object_Fields hs 1 rfl 2 rfl rfl TI49 (.inr rfl) rfl rfl (fun v109 hs => ?_) (hg := (wanted_of rfl rfl (bool_tr rfl hc108)).trans rfl)
  obtain ⟨a110, c111, rfl⟩ := hs.slice 0 rfl
  refine WL.len (v := .slice a110 (x1.Fields).length c111) rfl (len_slice UN49) ?_ (hg := (wanted_of rfl rfl (bool_tr rfl hc108)).trans rfl)
  refine WL.fieldAddr (m := 1) rfl FA51_1 rfl ?_ (hg := (wanted_of rfl rfl (bool_tr rfl hc108)).trans rfl)
  refine WL.loadF (z := x5.Fields) F_fold_Object_Fields hs 0 rfl 4 rfl rfl TI49 (.inr rfl) rfl rfl (fun v112 hs => ?_) (hg := (wanted_of rfl rfl (bool_tr rfl hc108)).trans rfl)
  obtain ⟨a113, c114, rfl⟩ := hs.slice 0 rfl
  refine WL.len (v := .slice a113 (x5.Fields).length c114) rfl (len_slice UN49) ?_ (hg := (wanted_of rfl rfl (bool_tr rfl hc108)).trans rfl)
  refine WL.bin (v := .bool (((x1.Fields).length : Int) != ((x5.Fields).length : Int))) rfl rfl (ib_neq _ _ _) ?_ (hg := (wanted_of rfl rfl (bool_tr rfl hc108)).trans rfl)
  refine WL.pickF (v := .bool (((x1.Fields).length : Int) != ((x5.Fields).length : Int))) (bool_tr rfl hc108) rfl ?_
  refine WL.nil ?_
  exact Jk16 (((x1.Fields).length : Int) != ((x5.Fields).length : Int)) _ _ rfl rfl rfl ((hs.mask [true, true]).pick [5, 4]) hf }
theorem esref32_Equal.calls {ok : Nat → Prop} {w0 : World} {x1 : fold_Store} {x5 : fold_Store} {v2 : Value} {v6 : Value} {r : Bool} (hf : esref32_Equal x1 x5 = some r) (i0 : (vl t_fold_Store x1 v2).holds ok w0) (i1 : (vl t_fold_Store x5 v6).holds ok w0) :
    Calls Try.prog 14 #[v2, v6] w0 fun e w' => ∃ v, e = .returned v ∧ ∃ y : Unit, v = .bool r ∧ St ok (bz w0) w' [] [] := by
  unfold esref32_Equal at hf
  refine calls_of_W (fn := Try.f14) (N := 32) Try.func14 rfl Try.ntmps14 rfl ?_
  have hs : St ok (bz w0) w0 [vl t_fold_Store x1 v2, vl t_fold_Store x5 v6] [] := St.init (All.cons i0 (All.cons i1 All.nil))
  clear i0 i1
  obtain ⟨cs3, hl4, rfl⟩ := hs.aggv (n := 1) 0 rfl rfl rfl
  obtain ⟨cs7, hl8, rfl⟩ := hs.aggv (n := 1) 1 rfl rfl rfl
  refine W.seqK fun K9 hK9 => ?_
  refine W.region ?_
  refine WL.box (vs := cs3) hs rfl rfl (fun g10 w hs => ?_)
  refine WL.box (vs := cs7) hs rfl rfl (fun g11 w hs => ?_)
  refine WL.assign (v := .bool false) rfl ?_
  refine WL.nil ?_
  refine hK9 _ _ ?_
  refine W.seqK fun K12 hK12 => ?_
  refine W.seqK fun K13 hK13 => ?_
  refine W.region ?_
  refine WL.fieldAddr (m := 0) rfl FA29_0 rfl ?_
  refine WL.loadF (z := x1.Objects) F_fold_Store_Objects hs 1 rfl 0 rfl rfl TI27 (.inr rfl) rfl rfl (fun v14 hs => ?_)
  obtain ⟨a15, c16, rfl⟩ := hs.slice 0 rfl
  refine WL.len (v := .slice a15 (x1.Objects).length c16) rfl (len_slice UN27) ?_
  refine WL.fieldAddr (m := 0) rfl FA29_0 rfl ?_
  refine WL.loadF (z := x5.Objects) F_fold_Store_Objects hs 0 rfl 2 rfl rfl TI27 (.inr rfl) rfl rfl (fun v17 hs => ?_)
  obtain ⟨a18, c19, rfl⟩ := hs.slice 0 rfl
  refine WL.len (v := .slice a18 (x5.Objects).length c19) rfl (len_slice UN27) ?_
  refine WL.bin (v := .bool (((x1.Objects).length : Int) != ((x5.Objects).length : Int))) rfl rfl (ib_neq _ _ _) ?_
  refine WL.nil ?_
  refine hK13 _ _ ?_
  rcases iteE hf with ⟨hc20, hf⟩ | ⟨hc20, hf⟩
  {
  refine W.cond_true (bool_tr rfl hc20) ?_
  refine W.seqK fun K21 hK21 => ?_
  refine W.region ?_
  refine WL.assign (v := .bool false) rfl ?_
  refine WL.nil ?_
  refine hK21 _ _ ?_
  refine W.ret ?_
  have hr := Option.some.inj hf; subst hr
  exact ⟨_, resOk_one rfl rfl, (), rfl, (hs.mask []).pick []⟩ }
  {
  refine W.cond_false (bool_tr rfl hc20) ?_
  refine W.skip ?_
  refine hK12 _ _ ?_
  refine W.seqK fun K22 hK22 => ?_
  have Jk24 : ∀  (ρ : Env) (w : World), St ok (bz w0) w [] [] → esref32_Equal.j1 = some r → K22 ρ w := by
    intro  ρ w  hs hf
    refine hK22 _ _ ?_
    unfold esref32_Equal.j1 at hf
    refine W.seqK fun K25 hK25 => ?_
    refine W.region ?_
    refine WL.assign (v := .bool true) rfl ?_
    refine WL.nil ?_
    refine hK25 _ _ ?_
    refine W.ret ?_
    have hr := Option.some.inj hf; subst hr
    exact ⟨_, resOk_one rfl rfl, (), rfl, (hs.mask []).pick []⟩
  refine W.seqK fun K26 hK26 => ?_
  refine W.region ?_
  refine WL.assign (v := .int .i64 0) rfl ?_
  refine WL.nil ?_
  refine hK26 _ _ ?_
  refine W.block ?_
  obtain ⟨bs29, hbs29, hfs29⟩ := bindE hf
  refine W.loop hbs29 (fun s ρ w => match s with | x28 => ρ 2 = .pointer (some ⟨g10, 0, none⟩) ∧ ρ 3 = .pointer (some ⟨g11, 0, none⟩) ∧ ρ 5 = .int .i64 x28 ∧ St ok (bz w0) w [vl t_fold_Store x5 (.agg cs7.toArray), vl t_fold_Store x1 (.agg cs3.toArray)] [blk g11 29 cs7, blk g10 29 cs3]) ⟨rfl, rfl, rfl, (hs.mask [true, true]).pick [3, 2]⟩ ?_
  intro x28 ρ w os29 hI hf hbbs29
  obtain ⟨h27_2, h27_3, h27_5, hs⟩ := hI
  unfold esref32_Equal.l1 at hf
  refine W.seqK fun K30 hK30 => ?_
  refine W.seqK fun K31 hK31 => ?_
  refine W.region ?_
  refine WL.move (v := .int .i64 x28) h27_5 ?_
  refine WL.fieldAddr (m := 0) h27_2 FA29_0 rfl ?_
  refine WL.loadF (z := x1.Objects) F_fold_Store_Objects hs 1 rfl 1 rfl rfl TI27 (.inr rfl) rfl rfl (fun v32 hs => ?_)
  obtain ⟨a33, c34, rfl⟩ := hs.slice 0 rfl
  refine WL.len (v := .slice a33 (x1.Objects).length c34) rfl (len_slice UN27) ?_
  refine WL.bin (v := .bool (decide (x28 < ((x1.Objects).length : Int)))) rfl rfl (ib_lss _ _ _) ?_
  refine WL.nil ?_
  refine hK31 _ _ ?_
  rcases iteE hf with ⟨hc35, hf⟩ | ⟨hc35, hf⟩
  {
  refine W.cond_true (bool_tr rfl hc35) ?_
  refine W.skip ?_
  refine hK30 _ _ ?_
  refine W.seqK fun K36 hK36 => ?_
  refine W.block ?_
  refine W.seqK fun K37 hK37 => ?_
  obtain ⟨x41, hxx41, hf⟩ := bindE hf
  obtain ⟨x49, hxx49, hf⟩ := bindE hf
  obtain ⟨x54, hxx54, hf⟩ := bindE hf
  refine W.any (by kernel_rfl) 12 0 [true, true, true, true, true, true, true, true, true, true, true, true] rfl rfl (poAt [pv (.pointer (some ⟨g10, 0, none⟩)), pq (fun y : (Option Addr × Nat) => .slice y.1 (x1.Objects).length y.2) (fun v => [vl (tSlice t_fold_Object) x1.Objects v]) (fun v => []), pv (.int .i64 x28), pq (fun y : Addr => .pointer (some y)) (fun v => [pl t_fold_Object x41 (adOf v)]) (fun v => []), pq (fun y : List Value => .agg y.toArray) (fun v => [vl t_fold_Object x41 v]) (fun v => []), pv (.pointer (some ⟨g11, 0, none⟩)), pq (fun y : (Option Addr × Nat) => .slice y.1 (x5.Objects).length y.2) (fun v => [vl (tSlice t_fold_Object) x5.Objects v]) (fun v => []), pv (.int .i64 x28), pq (fun y : Addr => .pointer (some y)) (fun v => [pl t_fold_Object x49 (adOf v)]) (fun v => []), pq (fun y : List Value => .agg y.toArray) (fun v => [vl t_fold_Object x49 v]) (fun v => []), pv (.bool x54), pv (.bool (!x54))]) (Λ := [blk g11 29 cs7, blk g10 29 cs3]) hs (by kernel_rfl) (by kernel_rfl) (by kernel_rfl) ⟨⟨⟨⟨⟨⟨⟨⟨⟨⟨⟨⟨trivial, ?_⟩, ?_⟩, ?_⟩, ?_⟩, ?_⟩, ?_⟩, ?_⟩, ?_⟩, ?_⟩, ?_⟩, ?_⟩, ?_⟩ ?_
  {
  intro ρ w Γx Λx hs hu hp
  refine WL.fieldAddr (m := 0) ((hu 2 rfl).trans h27_2) FA29_0 rfl ?_
  exact WL.nil ⟨rfl, _, rfl, rfl, hs.cutG 0 0⟩ }
  {
  intro ρ w Γx Λx hs hu hp
  have e55 : ρ 20 = .pointer (some ⟨g10, 0, none⟩) := (hp 0 rfl).1
  refine WL.loadF (z := x1.Objects) F_fold_Store_Objects hs (Λx.length + 1) (getApp rfl) (Γx.length + 2) (getApp rfl) rfl TI27 (.inr rfl) e55 rfl (fun v38 hs => ?_)
  obtain ⟨a39, c40, rfl⟩ := hs.slice 0 rfl
  have hs := hs.add (it := vl (tSlice t_fold_Object) x1.Objects (.slice a39 (x1.Objects).length c40)) fun ok hA => hA.get 0 rfl
  exact WL.nil ⟨rfl, _, rfl, ⟨(a39, c40), rfl⟩, hs.cutG 1 1⟩ }
  {
  intro ρ w Γx Λx hs hu hp
  refine WL.move (v := .int .i64 x28) ((hu 5 rfl).trans h27_5) ?_
  exact WL.nil ⟨rfl, _, rfl, rfl, hs.cutG 0 0⟩ }
  {
  intro ρ w Γx Λx hs hu hp
  obtain ⟨⟨⟨a56, c57⟩, e58r⟩, hm59⟩ := hp 1 rfl
  have e58 : ρ 21 = .slice a56 (x1.Objects).length c57 := e58r
  rw [e58r] at hm59
  have hs := hs.memo1 (it := vl (tSlice t_fold_Object) x1.Objects (.slice a56 (x1.Objects).length c57)) (List.mem_append.2 (.inl (hm59 _ (List.mem_of_getElem? (i := 0) rfl))))
  have e60 : ρ 22 = .int .i64 x28 := (hp 2 rfl).1
  refine WL.indexAddr hs 0 rfl UN27 TI51 e58 e60 hxx41 (fun ad42 hs => ?_)
  have hs := hs.add (it := pl t_fold_Object x41 ad42) fun ok hA => hA.get 0 rfl
  exact WL.nil ⟨rfl, _, rfl, ⟨ad42, rfl⟩, hs.cutG 1 2⟩ }
  {
  intro ρ w Γx Λx hs hu hp
  obtain ⟨⟨ad61, e62r⟩, hm63⟩ := hp 3 rfl
  have e62 : ρ 23 = .pointer (some ad61) := e62r
  rw [e62r] at hm63
  have hs := hs.memo1 (it := pl t_fold_Object x41 ad61) (List.mem_append.2 (.inl (hm63 _ (List.mem_of_getElem? (i := 0) rfl))))
  refine WL.loadP hs 0 rfl TI51 (.inl rfl) e62 (fun v43 hs => ?_)
  obtain ⟨cs44, hl45, rfl⟩ := hs.aggv (n := 2) 0 rfl rfl rfl
  have hs := hs.add (it := vl t_fold_Object x41 (.agg cs44.toArray)) fun ok hA => hA.get 0 rfl
  exact WL.nil ⟨rfl, _, rfl, ⟨cs44, rfl⟩, hs.cutG 1 2⟩ }
  {
  intro ρ w Γx Λx hs hu hp
  refine WL.fieldAddr (m := 0) ((hu 3 rfl).trans h27_3) FA29_0 rfl ?_
  exact WL.nil ⟨rfl, _, rfl, rfl, hs.cutG 0 0⟩ }
  {
  intro ρ w Γx Λx hs hu hp
  have e64 : ρ 25 = .pointer (some ⟨g11, 0, none⟩) := (hp 5 rfl).1
  refine WL.loadF (z := x5.Objects) F_fold_Store_Objects hs (Λx.length + 0) (getApp rfl) (Γx.length + 1) (getApp rfl) rfl TI27 (.inr rfl) e64 rfl (fun v46 hs => ?_)
  obtain ⟨a47, c48, rfl⟩ := hs.slice 0 rfl
  have hs := hs.add (it := vl (tSlice t_fold_Object) x5.Objects (.slice a47 (x5.Objects).length c48)) fun ok hA => hA.get 0 rfl
  exact WL.nil ⟨rfl, _, rfl, ⟨(a47, c48), rfl⟩, hs.cutG 1 1⟩ }
  {
  intro ρ w Γx Λx hs hu hp
  refine WL.move (v := .int .i64 x28) ((hu 5 rfl).trans h27_5) ?_
  exact WL.nil ⟨rfl, _, rfl, rfl, hs.cutG 0 0⟩ }
  {
  intro ρ w Γx Λx hs hu hp
  obtain ⟨⟨⟨a65, c66⟩, e67r⟩, hm68⟩ := hp 6 rfl
  have e67 : ρ 26 = .slice a65 (x5.Objects).length c66 := e67r
  rw [e67r] at hm68
  have hs := hs.memo1 (it := vl (tSlice t_fold_Object) x5.Objects (.slice a65 (x5.Objects).length c66)) (List.mem_append.2 (.inl (hm68 _ (List.mem_of_getElem? (i := 0) rfl))))
  have e69 : ρ 27 = .int .i64 x28 := (hp 7 rfl).1
  refine WL.indexAddr hs 0 rfl UN27 TI51 e67 e69 hxx49 (fun ad50 hs => ?_)
  have hs := hs.add (it := pl t_fold_Object x49 ad50) fun ok hA => hA.get 0 rfl
  exact WL.nil ⟨rfl, _, rfl, ⟨ad50, rfl⟩, hs.cutG 1 2⟩ }
  {
  intro ρ w Γx Λx hs hu hp
  obtain ⟨⟨ad70, e71r⟩, hm72⟩ := hp 8 rfl
  have e71 : ρ 28 = .pointer (some ad70) := e71r
  rw [e71r] at hm72
  have hs := hs.memo1 (it := pl t_fold_Object x49 ad70) (List.mem_append.2 (.inl (hm72 _ (List.mem_of_getElem? (i := 0) rfl))))
  refine WL.loadP hs 0 rfl TI51 (.inl rfl) e71 (fun v51 hs => ?_)
  obtain ⟨cs52, hl53, rfl⟩ := hs.aggv (n := 2) 0 rfl rfl rfl
  have hs := hs.add (it := vl t_fold_Object x49 (.agg cs52.toArray)) fun ok hA => hA.get 0 rfl
  exact WL.nil ⟨rfl, _, rfl, ⟨cs52, rfl⟩, hs.cutG 1 2⟩ }
  {
  intro ρ w Γx Λx hs hu hp
  obtain ⟨⟨cs73, e75r⟩, hm76⟩ := hp 4 rfl
  have e75 : ρ 24 = .agg cs73.toArray := e75r
  rw [e75r] at hm76
  have hs := hs.memo1 (it := vl t_fold_Object x41 (.agg cs73.toArray)) (List.mem_append.2 (.inl (hm76 _ (List.mem_of_getElem? (i := 0) rfl))))
  have hl74 := hs.agglen (n := 2) 0 rfl rfl rfl
  obtain ⟨⟨cs77, e79r⟩, hm80⟩ := hp 9 rfl
  have e79 : ρ 29 = .agg cs77.toArray := e79r
  rw [e79r] at hm80
  have hs := hs.memo1 (it := vl t_fold_Object x49 (.agg cs77.toArray)) (List.mem_cons_of_mem _ (List.mem_append.2 (.inl (hm80 _ (List.mem_of_getElem? (i := 0) rfl)))))
  have hl78 := hs.agglen (n := 2) 0 rfl rfl rfl
  refine WL.call (vs := [.agg cs73.toArray, .agg cs77.toArray]) hs FN31 ⟨e75, ⟨e79, trivial⟩⟩ (fun ok hA => esref32_EqualObject.calls (x1 := x41) (x5 := x49) hxx54 (hA.get 1 rfl) (hA.get 0 rfl)) ?_
  rintro _ w hs
  exact WL.nil ⟨rfl, _, rfl, rfl, hs.cutG 0 2⟩ }
  {
  intro ρ w Γx Λx hs hu hp
  have e81 : ρ 30 = .bool x54 := (hp 10 rfl).1
  refine WL.not e81 ?_
  exact WL.nil ⟨rfl, _, rfl, rfl, hs.cutG 0 0⟩ }
  {
  intro ρ w hs hu82 hp
  obtain ⟨⟨⟨⟨⟨⟨⟨⟨⟨⟨⟨⟨_, hp0_⟩, hp1_⟩, hp2_⟩, hp3_⟩, hp4_⟩, hp5_⟩, hp6_⟩, hp7_⟩, hp8_⟩, hp9_⟩, hp10_⟩, hp11_⟩ := hp
  have hs : St ok (bz w0) w [vl t_fold_Object x49 (ρ 29), pl t_fold_Object x49 (adOf (ρ 28)), vl (tSlice t_fold_Object) x5.Objects (ρ 26), vl t_fold_Object x41 (ρ 24), pl t_fold_Object x41 (adOf (ρ 23)), vl (tSlice t_fold_Object) x1.Objects (ρ 21), vl (tSlice t_fold_Object) x1.Objects (.slice a33 (x1.Objects).length c34), vl t_fold_Store x5 (.agg cs7.toArray), vl t_fold_Store x1 (.agg cs3.toArray)] [blk g11 29 cs7, blk g10 29 cs3] := hs
  have e83 : ρ 31 = .bool (!x54) := hp11_
  have e84 : ρ 30 = .bool x54 := hp10_
  obtain ⟨cs85, e87⟩ := hp9_
  have e87 : ρ 29 = .agg cs85.toArray := e87
  try rw [e87] at hs
  obtain ⟨ad88, e89⟩ := hp8_
  have e89 : ρ 28 = .pointer (some ad88) := e89
  try rw [e89] at hs
  have e90 : ρ 27 = .int .i64 x28 := hp7_
  obtain ⟨⟨a91, c92⟩, e93⟩ := hp6_
  have e93 : ρ 26 = .slice a91 (x5.Objects).length c92 := e93
  try rw [e93] at hs
  have e94 : ρ 25 = .pointer (some ⟨g11, 0, none⟩) := hp5_
  obtain ⟨cs95, e97⟩ := hp4_
  have e97 : ρ 24 = .agg cs95.toArray := e97
  try rw [e97] at hs
  obtain ⟨ad98, e99⟩ := hp3_
  have e99 : ρ 23 = .pointer (some ad98) := e99
  try rw [e99] at hs
  have e100 : ρ 22 = .int .i64 x28 := hp2_
  obtain ⟨⟨a101, c102⟩, e103⟩ := hp1_
  have e103 : ρ 21 = .slice a101 (x1.Objects).length c102 := e103
  try rw [e103] at hs
  have e104 : ρ 20 = .pointer (some ⟨g10, 0, none⟩) := hp0_
  have hl96 := hs.agglen (n := 2) 3 rfl rfl rfl
  have hl86 := hs.agglen (n := 2) 0 rfl rfl rfl
  refine WA.done (by kernel_rfl) ?_
  refine hK37 _ _ ?_
  rcases iteE hf with ⟨hc105, hf⟩ | ⟨hc105, hf⟩
  {
  refine W.cond_true (bool_tr e83 hc105) ?_
  refine W.seqK fun K106 hK106 => ?_
  refine W.region ?_
  refine WL.assign (v := .bool false) rfl ?_
  refine WL.nil ?_
  refine hK106 _ _ ?_
  refine W.ret ?_
  have hr := Option.some.inj hf; subst hr
  have hr := hbbs29 _ rfl; subst hr
  have hf := hfs29
  have hr := Option.some.inj hf; subst hr
  exact ⟨_, resOk_one rfl rfl, (), rfl, (hs.mask []).pick []⟩ }
  {
  refine W.cond_false (bool_tr e83 hc105) ?_
  refine W.skip ?_
  refine hK36 _ _ ?_
  refine W.region ?_
  refine WL.move (v := .int .i64 x28) ((hu82 5 rfl).trans h27_5) ?_
  obtain ⟨x107, ex107, hf⟩ := letE hf
  refine WL.bin (v := .int .i64 x107) rfl rfl (ib_as ex107 (ib_add _ _ _)) ?_
  refine WL.assign (v := .int .i64 x107) rfl ?_
  refine WL.nil ?_
  exact ⟨_, (Option.some.inj hf).symm, ((hu82 2 rfl).trans h27_2), ((hu82 3 rfl).trans h27_3), rfl, (hs.mask [true, true]).pick [7, 8]⟩ } } }
  {
  refine W.cond_false (bool_tr rfl hc35) ?_
  refine W.exit ?_
  have hr := Option.some.inj hf; subst hr
  have hr := hbbs29 _ rfl; subst hr
  have hf := hfs29
  exact Jk24  _ _  ((hs.mask []).pick []) hf } }
theorem esref03_AppendUint.calls {ok : Nat → Prop} {w0 : World} {x1 : List Int} {x4 : Int} {a2 : Option Addr} {c3 : Nat} {r : List Int} (hf : esref03_AppendUint x1 x4 = some r) (i0 : (vl (tSlice (tInt .u8)) x1 (.slice a2 x1.length c3)).holds ok w0) :
    Calls Try.prog 42 #[.slice a2 x1.length c3, .int .u64 x4] w0 fun e w' => ∃ v, e = .returned v ∧ ∃ y : (Option Addr × Nat × Nat), v = .slice y.1 y.2.1 y.2.2 ∧ St ok (bz w0) w' [] [own (tInt .u8) 5 (.slice y.1 y.2.1 y.2.2) r] := by
  unfold esref03_AppendUint at hf
  refine calls_of_W (fn := Try.f42) (N := 25) Try.func42 rfl Try.ntmps42 rfl ?_
  have hs : St ok (bz w0) w0 [vl (tSlice (tInt .u8)) x1 (.slice a2 x1.length c3)] [] := St.init (All.cons i0 All.nil)
  clear i0
  refine W.seqK fun K5 hK5 => ?_
  refine W.region ?_
  refine WL.assign (v := .slice none 0 0) rfl ?_
  refine WL.nil ?_
  refine hK5 _ _ ?_
  refine W.seqK fun K6 hK6 => ?_
  refine W.region ?_
  refine WL.buildSlice0 hs UN72 TI5 (fun a7 w hs => ?_)
  refine WL.move (v := .slice a2 x1.length c3) rfl ?_
  have hs := hs.ownEmpty (tInt .u8) 5 a7
  obtain ⟨x8, hxx8, hf⟩ := bindE hf
  obtain ⟨hbx8, hex8⟩ := appE hxx8
  refine WL.appendS (zs := x8) hs 0 rfl 0 rfl UN72 UN72 EI5 rfl rfl hbx8 (by omega) hex8 (fun v9 w hs => ?_)
  obtain ⟨a10, n12, c11, rfl⟩ := hs.ownv3 0 rfl
  refine WL.assign (v := .slice a10 n12 c11) rfl ?_
  refine WL.nil ?_
  refine hK6 _ _ ?_
  refine W.seqK fun K13 hK13 => ?_
  have Jk20 : ∀ (x15 : Int) (x16 : List Int) (a17 : Option Addr) (c18 : Nat) (n19 : Nat) (ρ : Env) (w : World), ρ 1 = .int .u64 x15 → ρ 5 = .slice a17 n19 c18 → St ok (bz w0) w [] [own (tInt .u8) 5 (.slice a17 n19 c18) x16] → esref03_AppendUint.j1 x15 x16 = some r → K13 ρ w := by
    intro x15 x16 a17 c18 n19 ρ w h14_1 h14_5 hs hf
    refine hK13 _ _ ?_
    unfold esref03_AppendUint.j1 at hf
    refine W.seqK fun K21 hK21 => ?_
    refine W.region ?_
    refine WL.move (v := .slice a17 n19 c18) h14_5 ?_
    refine WL.move (v := .int .u64 x15) h14_1 ?_
    refine WL.convI UN32 UN5 rfl ?_
    refine WL.buildSlice (n := 1) (vs := [(0, .int .u8 (IntKind.u8.wrap x15))]) (cs := [.int .u8 (IntKind.u8.wrap x15)]) hs ⟨⟨rfl, rfl⟩, trivial⟩ (bls PS72 (by decide) rfl) (fun g22 w hs => ?_)
    obtain ⟨x23, hxx23, hf⟩ := bindE hf
    obtain ⟨hbx23, hex23⟩ := appE hxx23
    refine WL.append (ys := [(IntKind.u8.wrap x15)]) (zs := x23) hs 1 rfl 0 rfl UN72 EI5 rfl rfl (fun ok hA => (Cells.one (T := tInt .u8) rfl)) hbx23 (by omega) hex23 (fun v24 w hs => ?_)
    obtain ⟨a25, n27, c26, rfl⟩ := hs.ownv3 1 rfl
    refine WL.assign (v := .slice a25 n27 c26) rfl ?_
    refine WL.nil ?_
    refine hK21 _ _ ?_
    refine W.ret ?_
    have hr := Option.some.inj hf; subst hr
    exact ⟨_, resOk_one rfl rfl, (a25, n27, c26), rfl, (hs.mask [false, true]).pick []⟩
  refine W.block ?_
  obtain ⟨bs34, hbs34, hfs34⟩ := bindE hf
  refine W.loop hbs34 (fun s ρ w => match s with | (x29, x30) => ∃ (a31 : Option Addr), ∃ (c32 : Nat), ∃ (n33 : Nat), ρ 1 = .int .u64 x29 ∧ ρ 5 = .slice a31 n33 c32 ∧ St ok (bz w0) w [] [own (tInt .u8) 5 (.slice a31 n33 c32) x30]) ⟨a10, c11, n12, rfl, rfl, (hs.mask [true]).pick []⟩ ?_
  intro s ρ w os34 hI hf hbbs34
  obtain ⟨x29, x30⟩ := s
  obtain ⟨a31, c32, n33, h28_1, h28_5, hs⟩ := hI
  unfold esref03_AppendUint.l1 at hf
  refine W.seqK fun K35 hK35 => ?_
  refine W.seqK fun K36 hK36 => ?_
  refine W.region ?_
  refine WL.move (v := .int .u64 x29) h28_1 ?_
  refine WL.bin (v := .bool (decide (128 ≤ x29))) rfl rfl (ib_geq _ _ _) ?_
  refine WL.nil ?_
  refine hK36 _ _ ?_
  rcases iteE hf with ⟨hc37, hf⟩ | ⟨hc37, hf⟩
  {
  refine W.cond_true (bool_tr rfl hc37) ?_
  refine W.skip ?_
  refine hK35 _ _ ?_
  refine W.block ?_
  refine W.seqK fun K38 hK38 => ?_
  refine W.region ?_
  refine WL.move (v := .slice a31 n33 c32) h28_5 ?_
  refine WL.move (v := .int .u64 x29) h28_1 ?_
  refine WL.bin (v := .int .u64 (Int.tmod x29 128)) rfl rfl (ib_rem _ _ _ (by decide)) ?_
  obtain ⟨x39, ex39, hf⟩ := letE hf
  refine WL.convI_ UN32 UN5 rfl ex39 ?_
  obtain ⟨x40, ex40, hf⟩ := letE hf
  refine WL.bin (v := .int .u8 x40) rfl rfl (ib_as ex40 (ib_add _ _ _)) ?_
  refine WL.buildSlice (n := 1) (vs := [(0, .int .u8 x40)]) (cs := [.int .u8 x40]) hs ⟨⟨rfl, rfl⟩, trivial⟩ (bls PS72 (by decide) rfl) (fun g41 w hs => ?_)
  obtain ⟨x42, hxx42, hf⟩ := bindE hf
  obtain ⟨hbx42, hex42⟩ := appE hxx42
  refine WL.append (ys := [x40]) (zs := x42) hs 1 rfl 0 rfl UN72 EI5 rfl rfl (fun ok hA => (Cells.one (T := tInt .u8) rfl)) hbx42 (by omega) hex42 (fun v43 w hs => ?_)
  obtain ⟨a44, n46, c45, rfl⟩ := hs.ownv3 1 rfl
  refine WL.assign (v := .slice a44 n46 c45) rfl ?_
  refine WL.nil ?_
  refine hK38 _ _ ?_
  refine W.region ?_
  refine WL.move (v := .int .u64 x29) h28_1 ?_
  obtain ⟨x47, ex47, hf⟩ := letE hf
  refine WL.bin (v := .int .u64 x47) rfl rfl (ib_as ex47 (ib_quo _ _ _ (by decide))) ?_
  refine WL.assign (v := .int .u64 x47) rfl ?_
  refine WL.nil ?_
  exact ⟨_, (Option.some.inj hf).symm, a44, c45, n46, rfl, rfl, (hs.mask [false, true]).pick []⟩ }
  {
  refine W.cond_false (bool_tr rfl hc37) ?_
  refine W.exit ?_
  have hr := Option.some.inj hf; subst hr
  have hr := hbbs34 _ rfl; subst hr
  have hf := hfs34
  exact Jk20 x29 x30 a31 c32 n33 _ _ h28_1 h28_5 ((hs.mask [true]).pick []) hf }
theorem esref03_AppendString.calls {ok : Nat → Prop} {w0 : World} {x1 : List Int} {x4 : List UInt8} {a2 : Option Addr} {c3 : Nat} {r : List Int} (hf : esref03_AppendString x1 x4 = some r) (i0 : (vl (tSlice (tInt .u8)) x1 (.slice a2 x1.length c3)).holds ok w0) :
    Calls Try.prog 40 #[.slice a2 x1.length c3, bstr x4] w0 fun e w' => ∃ v, e = .returned v ∧ ∃ y : (Option Addr × Nat × Nat), v = .slice y.1 y.2.1 y.2.2 ∧ St ok (bz w0) w' [] [own (tInt .u8) 5 (.slice y.1 y.2.1 y.2.2) r] := by
  unfold esref03_AppendString at hf
  refine calls_of_W (fn := Try.f40) (N := 12) Try.func40 rfl Try.ntmps40 rfl ?_
  have hs : St ok (bz w0) w0 [vl (tSlice (tInt .u8)) x1 (.slice a2 x1.length c3)] [] := St.init (All.cons i0 All.nil)
  clear i0
  refine W.seqK fun K5 hK5 => ?_
  refine W.region ?_
  refine WL.assign (v := .slice none 0 0) rfl ?_
  refine WL.nil ?_
  refine hK5 _ _ ?_
  refine W.seqK fun K6 hK6 => ?_
  refine W.region ?_
  refine WL.move (v := .slice a2 x1.length c3) rfl ?_
  refine WL.move (v := bstr x4) rfl ?_
  refine WL.len (v := bstr x4) rfl (len_string UN9) ?_
  obtain ⟨x7, ex7, hf⟩ := letE hf
  refine WL.convI_ UN3 UN32 rfl ex7 ?_
  obtain ⟨x8, hxx8, hf⟩ := bindE hf
  refine WL.call (vs := [.slice a2 x1.length c3, .int .u64 x7]) hs FN42 ⟨rfl, ⟨rfl, trivial⟩⟩ (fun ok hA => esref03_AppendUint.calls (x1 := x1) (x4 := x7) hxx8 (hA.get 0 rfl)) ?_
  rintro ⟨a9, n10, c11⟩ w hs
  refine WL.move (v := bstr x4) rfl ?_
  obtain ⟨x12, hxx12, hf⟩ := bindE hf
  obtain ⟨hbx12, hex12⟩ := appE hxx12
  refine WL.appendStr (zs := x12) hs 0 rfl UN72 UN9 EI5 rfl rfl hbx12 (by omega) hex12 (fun v13 w hs => ?_)
  obtain ⟨a14, n16, c15, rfl⟩ := hs.ownv3 0 rfl
  refine WL.assign (v := .slice a14 n16 c15) rfl ?_
  refine WL.nil ?_
  refine hK6 _ _ ?_
  refine W.ret ?_
  have hr := Option.some.inj hf; subst hr
  exact ⟨_, resOk_one rfl rfl, (a14, n16, c15), rfl, (hs.mask [true]).pick []⟩
theorem esref03_AppendBool.calls {ok : Nat → Prop} {w0 : World} {x1 : List Int} {x4 : Bool} {a2 : Option Addr} {c3 : Nat} {r : List Int} (hf : esref03_AppendBool x1 x4 = some r) (i0 : (vl (tSlice (tInt .u8)) x1 (.slice a2 x1.length c3)).holds ok w0) :
    Calls Try.prog 41 #[.slice a2 x1.length c3, .bool x4] w0 fun e w' => ∃ v, e = .returned v ∧ ∃ y : (Option Addr × Nat × Nat), v = .slice y.1 y.2.1 y.2.2 ∧ St ok (bz w0) w' [] [own (tInt .u8) 5 (.slice y.1 y.2.1 y.2.2) r] := by
  unfold esref03_AppendBool at hf
  refine calls_of_W (fn := Try.f41) (N := 16) Try.func41 rfl Try.ntmps41 rfl ?_
  have hs : St ok (bz w0) w0 [vl (tSlice (tInt .u8)) x1 (.slice a2 x1.length c3)] [] := St.init (All.cons i0 All.nil)
  clear i0
  refine W.seqK fun K5 hK5 => ?_
  refine W.region ?_
  refine WL.assign (v := .slice none 0 0) rfl ?_
  refine WL.nil ?_
  refine hK5 _ _ ?_
  refine W.seqK fun K6 hK6 => ?_
  refine W.seqK fun K7 hK7 => ?_
  refine W.region ?_
  refine WL.move (v := .bool x4) rfl ?_
  refine WL.nil ?_
  refine hK7 _ _ ?_
  rcases iteE hf with ⟨hc8, hf⟩ | ⟨hc8, hf⟩
  {
  refine W.cond_true (bool_tr rfl hc8) ?_
  refine W.seqK fun K9 hK9 => ?_
  refine W.region ?_
  refine WL.buildSlice0 hs UN72 TI5 (fun a10 w hs => ?_)
  refine WL.move (v := .slice a2 x1.length c3) rfl ?_
  have hs := hs.ownEmpty (tInt .u8) 5 a10
  obtain ⟨x11, hxx11, hf⟩ := bindE hf
  obtain ⟨hbx11, hex11⟩ := appE hxx11
  refine WL.appendS (zs := x11) hs 0 rfl 0 rfl UN72 UN72 EI5 rfl rfl hbx11 (by omega) hex11 (fun v12 w hs => ?_)
  obtain ⟨a13, n15, c14, rfl⟩ := hs.ownv3 0 rfl
  refine WL.buildSlice (n := 1) (vs := [(0, .int .u8 1)]) (cs := [.int .u8 1]) hs ⟨⟨rfl, rfl⟩, trivial⟩ (bls PS72 (by decide) rfl) (fun g16 w hs => ?_)
  obtain ⟨x17, hxx17, hf⟩ := bindE hf
  obtain ⟨hbx17, hex17⟩ := appE hxx17
  refine WL.append (ys := [1]) (zs := x17) hs 1 rfl 0 rfl UN72 EI5 rfl rfl (fun ok hA => (Cells.one (T := tInt .u8) rfl)) hbx17 (by omega) hex17 (fun v18 w hs => ?_)
  obtain ⟨a19, n21, c20, rfl⟩ := hs.ownv3 1 rfl
  refine WL.assign (v := .slice a19 n21 c20) rfl ?_
  refine WL.nil ?_
  refine hK9 _ _ ?_
  refine W.ret ?_
  have hr := Option.some.inj hf; subst hr
  exact ⟨_, resOk_one rfl rfl, (a19, n21, c20), rfl, (hs.mask [false, true]).pick []⟩ }
  {
  refine W.cond_false (bool_tr rfl hc8) ?_
  refine W.skip ?_
  refine hK6 _ _ ?_
  refine W.seqK fun K22 hK22 => ?_
  refine W.region ?_
  refine WL.buildSlice0 hs UN72 TI5 (fun a23 w hs => ?_)
  refine WL.move (v := .slice a2 x1.length c3) rfl ?_
  have hs := hs.ownEmpty (tInt .u8) 5 a23
  obtain ⟨x24, hxx24, hf⟩ := bindE hf
  obtain ⟨hbx24, hex24⟩ := appE hxx24
  refine WL.appendS (zs := x24) hs 0 rfl 0 rfl UN72 UN72 EI5 rfl rfl hbx24 (by omega) hex24 (fun v25 w hs => ?_)
  obtain ⟨a26, n28, c27, rfl⟩ := hs.ownv3 0 rfl
  refine WL.buildSlice (n := 1) (vs := [(0, .int .u8 0)]) (cs := [.int .u8 0]) hs ⟨⟨rfl, rfl⟩, trivial⟩ (bls PS72 (by decide) rfl) (fun g29 w hs => ?_)
  obtain ⟨x30, hxx30, hf⟩ := bindE hf
  obtain ⟨hbx30, hex30⟩ := appE hxx30
  refine WL.append (ys := [0]) (zs := x30) hs 1 rfl 0 rfl UN72 EI5 rfl rfl (fun ok hA => (Cells.one (T := tInt .u8) rfl)) hbx30 (by omega) hex30 (fun v31 w hs => ?_)
  obtain ⟨a32, n34, c33, rfl⟩ := hs.ownv3 1 rfl
  refine WL.assign (v := .slice a32 n34 c33) rfl ?_
  refine WL.nil ?_
  refine hK22 _ _ ?_
  refine W.ret ?_
  have hr := Option.some.inj hf; subst hr
  exact ⟨_, resOk_one rfl rfl, (a32, n34, c33), rfl, (hs.mask [false, true]).pick []⟩ }
theorem esref03_Zigzag.calls {ok : Nat → Prop} {w0 : World} {x1 : Int}  {r : Int} (hf : esref03_Zigzag x1 = some r)  :
    Calls Try.prog 67 #[.int .i64 x1] w0 fun e w' => ∃ v, e = .returned v ∧ ∃ y : Unit, v = .int .u64 r ∧ St ok (bz w0) w' [] [] := by
  unfold esref03_Zigzag at hf
  refine calls_of_W (fn := Try.f67) (N := 14) Try.func67 rfl Try.ntmps67 rfl ?_
  have hs : St ok (bz w0) w0 [] [] := St.init All.nil
  refine W.seqK fun K2 hK2 => ?_
  refine W.region ?_
  refine WL.assign (v := .int .u64 0) rfl ?_
  refine WL.nil ?_
  refine hK2 _ _ ?_
  refine W.seqK fun K3 hK3 => ?_
  refine W.seqK fun K4 hK4 => ?_
  refine W.region ?_
  refine WL.move (v := .int .i64 x1) rfl ?_
  refine WL.bin (v := .bool (decide (0 ≤ x1))) rfl rfl (ib_geq _ _ _) ?_
  refine WL.nil ?_
  refine hK4 _ _ ?_
  rcases iteE hf with ⟨hc5, hf⟩ | ⟨hc5, hf⟩
  {
  refine W.cond_true (bool_tr rfl hc5) ?_
  refine W.seqK fun K6 hK6 => ?_
  refine W.region ?_
  refine WL.move (v := .int .i64 x1) rfl ?_
  refine WL.convI UN2 UN32 rfl ?_
  obtain ⟨x7, ex7, hf⟩ := letE hf
  refine WL.bin (v := .int .u64 x7) rfl rfl (ib_as ex7 (ib_mul _ _ _)) ?_
  refine WL.assign (v := .int .u64 x7) rfl ?_
  refine WL.nil ?_
  refine hK6 _ _ ?_
  refine W.ret ?_
  have hr := Option.some.inj hf; subst hr
  exact ⟨_, resOk_one rfl rfl, (), rfl, (hs.mask []).pick []⟩ }
  {
  refine W.cond_false (bool_tr rfl hc5) ?_
  refine W.skip ?_
  refine hK3 _ _ ?_
  refine W.seqK fun K8 hK8 => ?_
  refine W.region ?_
  refine WL.move (v := .int .i64 x1) rfl ?_
  obtain ⟨x9, ex9, hf⟩ := letE hf
  refine WL.bin (v := .int .i64 x9) rfl rfl (ib_as ex9 (ib_add _ _ _)) ?_
  refine WL.neg rfl ?_
  obtain ⟨x10, ex10, hf⟩ := letE hf
  refine WL.convI_ UN2 UN32 rfl ex10 ?_
  obtain ⟨x11, ex11, hf⟩ := letE hf
  refine WL.bin (v := .int .u64 x11) rfl rfl (ib_as ex11 (ib_mul _ _ _)) ?_
  obtain ⟨x12, ex12, hf⟩ := letE hf
  refine WL.bin (v := .int .u64 x12) rfl rfl (ib_as ex12 (ib_add _ _ _)) ?_
  refine WL.assign (v := .int .u64 x12) rfl ?_
  refine WL.nil ?_
  refine hK8 _ _ ?_
  refine W.ret ?_
  have hr := Option.some.inj hf; subst hr
  exact ⟨_, resOk_one rfl rfl, (), rfl, (hs.mask []).pick []⟩ }
theorem esref03_AppendInt.calls {ok : Nat → Prop} {w0 : World} {x1 : List Int} {x4 : Int} {a2 : Option Addr} {c3 : Nat} {r : List Int} (hf : esref03_AppendInt x1 x4 = some r) (i0 : (vl (tSlice (tInt .u8)) x1 (.slice a2 x1.length c3)).holds ok w0) :
    Calls Try.prog 43 #[.slice a2 x1.length c3, .int .i64 x4] w0 fun e w' => ∃ v, e = .returned v ∧ ∃ y : (Option Addr × Nat × Nat), v = .slice y.1 y.2.1 y.2.2 ∧ St ok (bz w0) w' [] [own (tInt .u8) 5 (.slice y.1 y.2.1 y.2.2) r] := by
  unfold esref03_AppendInt at hf
  refine calls_of_W (fn := Try.f43) (N := 9) Try.func43 rfl Try.ntmps43 rfl ?_
  have hs : St ok (bz w0) w0 [vl (tSlice (tInt .u8)) x1 (.slice a2 x1.length c3)] [] := St.init (All.cons i0 All.nil)
  clear i0
  refine W.seqK fun K5 hK5 => ?_
  refine W.region ?_
  refine WL.assign (v := .slice none 0 0) rfl ?_
  refine WL.nil ?_
  refine hK5 _ _ ?_
  refine W.seqK fun K6 hK6 => ?_
  refine W.region ?_
  refine WL.move (v := .slice a2 x1.length c3) rfl ?_
  refine WL.move (v := .int .i64 x4) rfl ?_
  obtain ⟨x7, hxx7, hf⟩ := bindE hf
  refine WL.call (vs := [.int .i64 x4]) hs FN67 ⟨rfl, trivial⟩ (fun ok hA => esref03_Zigzag.calls (x1 := x4) hxx7) ?_
  rintro _ w hs
  obtain ⟨x8, hxx8, hf⟩ := bindE hf
  refine WL.call (vs := [.slice a2 x1.length c3, .int .u64 x7]) hs FN42 ⟨rfl, ⟨rfl, trivial⟩⟩ (fun ok hA => esref03_AppendUint.calls (x1 := x1) (x4 := x7) hxx8 (hA.get 0 rfl)) ?_
  rintro ⟨a9, n10, c11⟩ w hs
  refine WL.assign (v := .slice a9 n10 c11) rfl ?_
  refine WL.nil ?_
  refine hK6 _ _ ?_
  refine W.ret ?_
  have hr := Option.some.inj hf; subst hr
  exact ⟨_, resOk_one rfl rfl, (a9, n10, c11), rfl, (hs.mask [true]).pick []⟩
end Go.Proofs.Ytlbcfjblpopcnaa
set_option linter.unusedVariables false
set_option linter.unusedSimpArgs false
namespace Go.Proofs.Ytlbcfjblpopcnaa
open Go Go.RowKit Go.Proofs.YtlbcfjblpopcnaaL
set_option maxRecDepth 100000
set_option maxHeartbeats 4000000
theorem esref32_Hash.calls {ok : Nat → Prop} {w0 : World} {x1 : fold_Store} {v2 : Value} {r : Int} (hf : esref32_Hash x1 = some r) (i0 : (vl t_fold_Store x1 v2).holds ok w0) :
    Calls Try.prog 17 #[v2] w0 fun e w' => ∃ v, e = .returned v ∧ ∃ y : Unit, v = .int .u64 r ∧ St ok (bz w0) w' [] [] := by
  unfold esref32_Hash at hf
  refine calls_of_W (fn := Try.f17) (N := 127) Try.func17 rfl Try.ntmps17 rfl ?_
  have hs : St ok (bz w0) w0 [vl t_fold_Store x1 v2] [] := St.init (All.cons i0 All.nil)
  clear i0
  obtain ⟨cs3, hl4, rfl⟩ := hs.aggv (n := 1) 0 rfl rfl rfl
  refine W.seqK fun K5 hK5 => ?_
  refine W.region ?_
  refine WL.box (vs := cs3) hs rfl rfl (fun g6 w hs => ?_)
  refine WL.assign (v := .int .u64 0) rfl ?_
  refine WL.nil ?_
  refine hK5 _ _ ?_
  refine W.seqK fun K7 hK7 => ?_
  refine W.region ?_
  refine WL.assign (v := .slice none 0 0) rfl ?_
  refine WL.nil ?_
  refine hK7 _ _ ?_
  refine W.seqK fun K8 hK8 => ?_
  have Jk13 : ∀ (x10 : List Int) (a11 : Option Addr) (c12 : Nat) (ρ : Env) (w : World), ρ 3 = .slice a11 x10.length c12 → St ok (bz w0) w [vl (tSlice (tInt .u8)) x10 (.slice a11 x10.length c12)] [] → esref32_Hash.j2 x10 = some r → K8 ρ w := by
    intro x10 a11 c12 ρ w h9_3 hs hf
    refine hK8 _ _ ?_
    unfold esref32_Hash.j2 at hf
    refine W.seqK fun K14 hK14 => ?_
    refine W.region ?_
    refine WL.assign (v := .int .u64 14695981039346656037) rfl ?_
    refine WL.nil ?_
    refine hK14 _ _ ?_
    refine W.seqK fun K15 hK15 => ?_
    have Jk18 : ∀ (x17 : Int) (ρ : Env) (w : World), ρ 9 = .int .u64 x17 → St ok (bz w0) w [] [] → esref32_Hash.j1 x17 = some r → K15 ρ w := by
      intro x17 ρ w h16_9 hs hf
      refine hK15 _ _ ?_
      unfold esref32_Hash.j1 at hf
      refine W.seqK fun K19 hK19 => ?_
      refine W.region ?_
      refine WL.move (v := .int .u64 x17) h16_9 ?_
      refine WL.assign (v := .int .u64 x17) rfl ?_
      refine WL.nil ?_
      refine hK19 _ _ ?_
      refine W.ret ?_
      have hr := Option.some.inj hf; subst hr
      exact ⟨_, resOk_one rfl rfl, (), rfl, (hs.mask []).pick []⟩
    refine W.seqK fun K20 hK20 => ?_
    refine W.region ?_
    refine WL.assign (v := .int .i64 0) rfl ?_
    refine WL.nil ?_
    refine hK20 _ _ ?_
    refine W.block ?_
    obtain ⟨bs24, hbs24, hfs24⟩ := bindE hf
    refine W.loop hbs24 (fun s ρ w => match s with | (x22, x23) => ρ 3 = .slice a11 x10.length c12 ∧ ρ 9 = .int .u64 x22 ∧ ρ 10 = .int .i64 x23 ∧ St ok (bz w0) w [vl (tSlice (tInt .u8)) x10 (.slice a11 x10.length c12)] []) ⟨h9_3, rfl, rfl, (hs.mask []).pick [0]⟩ ?_
    intro s ρ w os24 hI hf hbbs24
    obtain ⟨x22, x23⟩ := s
    obtain ⟨h21_3, h21_9, h21_10, hs⟩ := hI
    unfold esref32_Hash.l1 at hf
    refine W.seqK fun K25 hK25 => ?_
    refine W.seqK fun K26 hK26 => ?_
    refine W.region ?_
    refine WL.move (v := .int .i64 x23) h21_10 ?_
    refine WL.move (v := .slice a11 x10.length c12) h21_3 ?_
    refine WL.len (v := .slice a11 x10.length c12) rfl (len_slice UN72) ?_
    refine WL.bin (v := .bool (decide (x23 < (x10.length : Int)))) rfl rfl (ib_lss _ _ _) ?_
    refine WL.nil ?_
    refine hK26 _ _ ?_
    rcases iteE hf with ⟨hc27, hf⟩ | ⟨hc27, hf⟩
    {
    refine W.cond_true (bool_tr rfl hc27) ?_
    refine W.skip ?_
    refine hK25 _ _ ?_
    refine W.seqK fun K28 hK28 => ?_
    refine W.block ?_
    refine W.region ?_
    refine WL.move (v := .int .u64 x22) h21_9 ?_
    refine WL.move (v := .slice a11 x10.length c12) h21_3 ?_
    refine WL.move (v := .int .i64 x23) h21_10 ?_
    obtain ⟨x29, hxx29, hf⟩ := bindE hf
    refine WL.indexAddr hs 0 rfl UN72 TI5 rfl rfl hxx29 (fun ad30 hs => ?_)
    refine WL.loadP hs 0 rfl TI5 (.inr rfl) rfl (fun v31 hs => ?_)
    obtain rfl := hs.int 0 rfl
    refine WL.convI UN5 UN32 rfl ?_
    obtain ⟨x32, ex32, hf⟩ := letE hf
    refine WL.bin (v := .int .u64 x32) rfl rfl (ib_as ex32 (ib_xor _ _ _)) ?_
    obtain ⟨x33, ex33, hf⟩ := letE hf
    refine WL.bin (v := .int .u64 x33) rfl rfl (ib_as ex33 (ib_mul _ _ _)) ?_
    refine WL.assign (v := .int .u64 x33) rfl ?_
    refine WL.nil ?_
    refine hK28 _ _ ?_
    refine W.region ?_
    refine WL.move (v := .int .i64 x23) h21_10 ?_
    obtain ⟨x34, ex34, hf⟩ := letE hf
    refine WL.bin (v := .int .i64 x34) rfl rfl (ib_as ex34 (ib_add _ _ _)) ?_
    refine WL.assign (v := .int .i64 x34) rfl ?_
    refine WL.nil ?_
    exact ⟨_, (Option.some.inj hf).symm, h21_3, rfl, rfl, (hs.mask []).pick [2]⟩ }
    {
    refine W.cond_false (bool_tr rfl hc27) ?_
    refine W.exit ?_
    have hr := Option.some.inj hf; subst hr
    have hr := hbbs24 _ rfl; subst hr
    have hf := hfs24
    exact Jk18 x22 _ _ h21_9 ((hs.mask []).pick []) hf }
  refine W.seqK fun K36 hK36 => ?_
  refine W.region ?_
  refine WL.assign (v := .int .i64 0) rfl ?_
  refine WL.nil ?_
  refine hK36 _ _ ?_
  refine W.block ?_
  obtain ⟨bs42, hbs42, hfs42⟩ := bindE hf
  have hs := hs.add (it := vl (tSlice (tInt .u8)) [] (.slice none 0 0)) fun ok hA => V_nil
  refine W.loop hbs42 (fun s ρ w => match s with | (x38, x41) => ∃ (a39 : Option Addr), ∃ (c40 : Nat), ρ 1 = .pointer (some ⟨g6, 0, none⟩) ∧ ρ 3 = .slice a39 x38.length c40 ∧ ρ 4 = .int .i64 x41 ∧ St ok (bz w0) w [vl (tSlice (tInt .u8)) x38 (.slice a39 x38.length c40), vl t_fold_Store x1 (.agg cs3.toArray)] [blk g6 29 cs3]) ⟨none, 0, rfl, rfl, rfl, (hs.mask [true]).pick [0, 1]⟩ ?_
  intro s ρ w os42 hI hf hbbs42
  obtain ⟨x38, x41⟩ := s
  obtain ⟨a39, c40, h37_1, h37_3, h37_4, hs⟩ := hI
  unfold esref32_Hash.l4 at hf
  refine W.seqK fun K43 hK43 => ?_
  refine W.seqK fun K44 hK44 => ?_
  refine W.region ?_
  refine WL.move (v := .int .i64 x41) h37_4 ?_
  refine WL.fieldAddr (m := 0) h37_1 FA29_0 rfl ?_
  refine WL.loadF (z := x1.Objects) F_fold_Store_Objects hs 0 rfl 1 rfl rfl TI27 (.inr rfl) rfl rfl (fun v45 hs => ?_)
  obtain ⟨a46, c47, rfl⟩ := hs.slice 0 rfl
  refine WL.len (v := .slice a46 (x1.Objects).length c47) rfl (len_slice UN27) ?_
  refine WL.bin (v := .bool (decide (x41 < ((x1.Objects).length : Int)))) rfl rfl (ib_lss _ _ _) ?_
  refine WL.nil ?_
  refine hK44 _ _ ?_
  rcases iteE hf with ⟨hc48, hf⟩ | ⟨hc48, hf⟩
  {
  refine W.cond_true (bool_tr rfl hc48) ?_
  refine W.skip ?_
  refine hK43 _ _ ?_
  refine W.seqK fun K49 hK49 => ?_
  have Jk54 : ∀ (x51 : List Int) (a52 : Option Addr) (c53 : Nat) (ρ : Env) (w : World), ρ 1 = .pointer (some ⟨g6, 0, none⟩) → ρ 3 = .slice a52 x51.length c53 → ρ 4 = .int .i64 x41 → St ok (bz w0) w [vl (tSlice (tInt .u8)) x51 (.slice a52 x51.length c53), vl t_fold_Store x1 (.agg cs3.toArray)] [blk g6 29 cs3] → esref32_Hash.j3 x41 x51 = some os42 → K49 ρ w := by
    intro x51 a52 c53 ρ w h50_1 h50_3 h50_4 hs hf
    refine hK49 _ _ ?_
    unfold esref32_Hash.j3 at hf
    refine W.region ?_
    refine WL.move (v := .int .i64 x41) h50_4 ?_
    obtain ⟨x55, ex55, hf⟩ := letE hf
    refine WL.bin (v := .int .i64 x55) rfl rfl (ib_as ex55 (ib_add _ _ _)) ?_
    refine WL.assign (v := .int .i64 x55) rfl ?_
    refine WL.nil ?_
    exact ⟨_, (Option.some.inj hf).symm, a52, c53, h50_1, h50_3, rfl, (hs.mask [true]).pick [0, 1]⟩
  refine W.block ?_
  refine W.seqK fun K56 hK56 => ?_
  refine W.region ?_
  refine WL.fieldAddr (m := 0) h37_1 FA29_0 rfl ?_
  refine WL.loadF (z := x1.Objects) F_fold_Store_Objects hs 0 rfl 2 rfl rfl TI27 (.inr rfl) rfl rfl (fun v57 hs => ?_)
  obtain ⟨a58, c59, rfl⟩ := hs.slice 0 rfl
  refine WL.move (v := .int .i64 x41) h37_4 ?_
  obtain ⟨x60, hxx60, hf⟩ := bindE hf
  refine WL.indexAddr hs 0 rfl UN27 TI51 rfl rfl hxx60 (fun ad61 hs => ?_)
  refine WL.loadP hs 0 rfl TI51 (.inl rfl) rfl (fun v62 hs => ?_)
  obtain ⟨cs63, hl64, rfl⟩ := hs.aggv (n := 2) 0 rfl rfl rfl
  refine WL.alloc hs ZV51 (fun g65 w hs => ?_)
  refine WL.storeAll (vs := cs63) hs 0 rfl TI51 rfl rfl rfl hl64 (hs.ones 0 rfl rfl) rfl (fun w hs => ?_)
  refine WL.nil ?_
  refine hK56 _ _ ?_
  refine W.seqK fun K66 hK66 => ?_
  refine W.region ?_
  refine WL.assign (v := .int .i64 0) rfl ?_
  refine WL.nil ?_
  refine hK66 _ _ ?_
  refine W.block ?_
  obtain ⟨bs72, hbs72, hfs72⟩ := bindE hf
  refine W.loop hbs72 (fun s ρ w => match s with | (x68, x71) => ∃ (a69 : Option Addr), ∃ (c70 : Nat), ρ 1 = .pointer (some ⟨g6, 0, none⟩) ∧ ρ 3 = .slice a69 x68.length c70 ∧ ρ 4 = .int .i64 x41 ∧ ρ 5 = .pointer (some ⟨g65, 0, none⟩) ∧ ρ 6 = .int .i64 x71 ∧ St ok (bz w0) w [vl (tSlice (tInt .u8)) x68 (.slice a69 x68.length c70), vl t_fold_Object x60 (.agg cs63.toArray), vl t_fold_Store x1 (.agg cs3.toArray)] [blk g65 51 cs63, blk g6 29 cs3]) ⟨a39, c40, h37_1, h37_3, h37_4, rfl, rfl, (hs.mask [true, true]).pick [4, 0, 5]⟩ ?_
  intro s ρ w os72 hI hf hbbs72
  obtain ⟨x68, x71⟩ := s
  obtain ⟨a69, c70, h67_1, h67_3, h67_4, h67_5, h67_6, hs⟩ := hI
  unfold esref32_Hash.l3 at hf
  refine W.seqK fun K73 hK73 => ?_
  refine W.seqK fun K74 hK74 => ?_
  refine W.region ?_
  refine WL.move (v := .int .i64 x71) h67_6 ?_
  refine WL.fieldAddr (m := 1) h67_5 FA51_1 rfl ?_
  refine WL.loadF (z := x60.Fields) F_fold_Object_Fields hs 0 rfl 1 rfl rfl TI49 (.inr rfl) rfl rfl (fun v75 hs => ?_)
  obtain ⟨a76, c77, rfl⟩ := hs.slice 0 rfl
  refine WL.len (v := .slice a76 (x60.Fields).length c77) rfl (len_slice UN49) ?_
  refine WL.bin (v := .bool (decide (x71 < ((x60.Fields).length : Int)))) rfl rfl (ib_lss _ _ _) ?_
  refine WL.nil ?_
  refine hK74 _ _ ?_
  rcases iteE hf with ⟨hc78, hf⟩ | ⟨hc78, hf⟩
  {
  refine W.cond_true (bool_tr rfl hc78) ?_
  refine W.skip ?_
  refine hK73 _ _ ?_
  refine W.seqK fun K79 hK79 => ?_
  have Jk84 : ∀ (x81 : List Int) (a82 : Option Addr) (c83 : Nat) (ρ : Env) (w : World), ρ 1 = .pointer (some ⟨g6, 0, none⟩) → ρ 3 = .slice a82 x81.length c83 → ρ 4 = .int .i64 x41 → ρ 5 = .pointer (some ⟨g65, 0, none⟩) → ρ 6 = .int .i64 x71 → St ok (bz w0) w [vl (tSlice (tInt .u8)) x81 (.slice a82 x81.length c83), vl t_fold_Object x60 (.agg cs63.toArray), vl t_fold_Store x1 (.agg cs3.toArray)] [blk g65 51 cs63, blk g6 29 cs3] → esref32_Hash.j4 x71 x81 = some os72 → K79 ρ w := by
    intro x81 a82 c83 ρ w h80_1 h80_3 h80_4 h80_5 h80_6 hs hf
    refine hK79 _ _ ?_
    unfold esref32_Hash.j4 at hf
    refine W.region ?_
    refine WL.move (v := .int .i64 x71) h80_6 ?_
    obtain ⟨x85, ex85, hf⟩ := letE hf
    refine WL.bin (v := .int .i64 x85) rfl rfl (ib_as ex85 (ib_add _ _ _)) ?_
    refine WL.assign (v := .int .i64 x85) rfl ?_
    refine WL.nil ?_
    exact ⟨_, (Option.some.inj hf).symm, a82, c83, h80_1, h80_3, h80_4, h80_5, rfl, (hs.mask [true, true]).pick [0, 1, 2]⟩
  refine W.block ?_
  refine W.seqK fun K86 hK86 => ?_
  refine W.region ?_
  refine WL.fieldAddr (m := 1) h67_5 FA51_1 rfl ?_
  refine WL.loadF (z := x60.Fields) F_fold_Object_Fields hs 0 rfl 2 rfl rfl TI49 (.inr rfl) rfl rfl (fun v87 hs => ?_)
  obtain ⟨a88, c89, rfl⟩ := hs.slice 0 rfl
  refine WL.move (v := .int .i64 x71) h67_6 ?_
  obtain ⟨x90, hxx90, hf⟩ := bindE hf
  refine WL.indexAddr hs 0 rfl UN49 TI57 rfl rfl hxx90 (fun ad91 hs => ?_)
  refine WL.loadP hs 0 rfl TI57 (.inl rfl) rfl (fun v92 hs => ?_)
  obtain ⟨cs93, hl94, rfl⟩ := hs.aggv (n := 12) 0 rfl rfl rfl
  refine WL.alloc hs ZV57 (fun g95 w hs => ?_)
  refine WL.storeAll (vs := cs93) hs 0 rfl TI57 rfl rfl rfl hl94 (hs.ones 0 rfl rfl) rfl (fun w hs => ?_)
  refine WL.nil ?_
  refine hK86 _ _ ?_
  refine W.seqK fun K96 hK96 => ?_
  refine W.region ?_
  refine WL.move (v := .slice a69 x68.length c70) h67_3 ?_
  refine WL.fieldAddr (m := 0) h67_5 FA51_0 rfl ?_
  refine WL.loadF (z := x60.Name) F_fold_Object_Name hs 1 rfl 5 rfl rfl TI9 (.inr rfl) rfl rfl (fun v97 hs => ?_)
  obtain rfl := hs.str 0 rfl
  obtain ⟨x98, hxx98, hf⟩ := bindE hf
  refine WL.call (vs := [.slice a69 x68.length c70, bstr x60.Name]) hs FN40 ⟨rfl, ⟨rfl, trivial⟩⟩ (fun ok hA => esref03_AppendString.calls (x1 := x68) (x4 := x60.Name) hxx98 (hA.get 5 rfl)) ?_
  rintro ⟨a99, n100, c101⟩ w hs
  refine WL.assign (v := .slice a99 n100 c101) rfl ?_
  refine WL.nil ?_
  refine hK96 _ _ ?_
  refine W.seqK fun K102 hK102 => ?_
  refine W.region ?_
  refine WL.move (v := .slice a99 n100 c101) rfl ?_
  refine WL.fieldAddr (m := 0) rfl FA57_0 rfl ?_
  refine WL.loadF (z := x90.Name) F_fold_Field_Name hs 1 rfl 1 rfl rfl TI9 (.inr rfl) rfl rfl (fun v103 hs => ?_)
  obtain rfl := hs.str 0 rfl
  obtain rfl := hs.ownLen 0 rfl
  have hs := hs.freezeOwn 0 rfl
  obtain ⟨x104, hxx104, hf⟩ := bindE hf
  refine WL.call (vs := [.slice a99 x98.length c101, bstr x90.Name]) hs FN40 ⟨rfl, ⟨rfl, trivial⟩⟩ (fun ok hA => esref03_AppendString.calls (x1 := x98) (x4 := x90.Name) hxx104 (hA.get 0 rfl)) ?_
  rintro ⟨a105, n106, c107⟩ w hs
  refine WL.assign (v := .slice a105 n106 c107) rfl ?_
  refine WL.nil ?_
  refine hK102 _ _ ?_
  refine W.seqK fun K108 hK108 => ?_
  refine W.region ?_
  refine WL.move (v := .slice a105 n106 c107) rfl ?_
  refine WL.fieldAddr (m := 1) rfl FA57_1 rfl ?_
  refine WL.fieldAddr (m := 1) rfl FA54_0 rfl ?_
  refine WL.loadF (z := x90.Register.Set) (F_fold_Field_Register.comp F_fold_Register_Set) hs 1 rfl 3 rfl rfl TI4 (.inr rfl) rfl rfl (fun v109 hs => ?_)
  obtain rfl := hs.bool 0 rfl
  obtain rfl := hs.ownLen 0 rfl
  have hs := hs.freezeOwn 0 rfl
  obtain ⟨x110, hxx110, hf⟩ := bindE hf
  refine WL.call (vs := [.slice a105 x104.length c107, .bool x90.Register.Set]) hs FN41 ⟨rfl, ⟨rfl, trivial⟩⟩ (fun ok hA => esref03_AppendBool.calls (x1 := x104) (x4 := x90.Register.Set) hxx110 (hA.get 0 rfl)) ?_
  rintro ⟨a111, n112, c113⟩ w hs
  refine WL.assign (v := .slice a111 n112 c113) rfl ?_
  refine WL.nil ?_
  refine hK108 _ _ ?_
  refine W.seqK fun K114 hK114 => ?_
  refine W.region ?_
  refine WL.move (v := .slice a111 n112 c113) rfl ?_
  refine WL.fieldAddr (m := 1) rfl FA57_1 rfl ?_
  refine WL.fieldAddr (m := 2) rfl FA54_1 rfl ?_
  refine WL.loadF (z := x90.Register.Tag) (F_fold_Field_Register.comp F_fold_Register_Tag) hs 1 rfl 5 rfl rfl TI3 (.inr rfl) rfl rfl (fun v115 hs => ?_)
  obtain rfl := hs.int 0 rfl
  obtain ⟨x116, ex116, hf⟩ := letE hf
  refine WL.convI_ UN3 UN32 rfl ex116 ?_
  obtain rfl := hs.ownLen 0 rfl
  have hs := hs.freezeOwn 0 rfl
  obtain ⟨x117, hxx117, hf⟩ := bindE hf
  refine WL.call (vs := [.slice a111 x110.length c113, .int .u64 x116]) hs FN42 ⟨rfl, ⟨rfl, trivial⟩⟩ (fun ok hA => esref03_AppendUint.calls (x1 := x110) (x4 := x116) hxx117 (hA.get 0 rfl)) ?_
  rintro ⟨a118, n119, c120⟩ w hs
  refine WL.assign (v := .slice a118 n119 c120) rfl ?_
  refine WL.nil ?_
  refine hK114 _ _ ?_
  refine W.seqK fun K121 hK121 => ?_
  refine W.region ?_
  refine WL.move (v := .slice a118 n119 c120) rfl ?_
  refine WL.fieldAddr (m := 1) rfl FA57_1 rfl ?_
  refine WL.fieldAddr (m := 3) rfl FA54_2 rfl ?_
  refine WL.loadF (z := x90.Register.Client) (F_fold_Field_Register.comp F_fold_Register_Client) hs 1 rfl 7 rfl rfl TI3 (.inr rfl) rfl rfl (fun v122 hs => ?_)
  obtain rfl := hs.int 0 rfl
  obtain ⟨x123, ex123, hf⟩ := letE hf
  refine WL.convI_ UN3 UN32 rfl ex123 ?_
  obtain rfl := hs.ownLen 0 rfl
  have hs := hs.freezeOwn 0 rfl
  obtain ⟨x124, hxx124, hf⟩ := bindE hf
  refine WL.call (vs := [.slice a118 x117.length c120, .int .u64 x123]) hs FN42 ⟨rfl, ⟨rfl, trivial⟩⟩ (fun ok hA => esref03_AppendUint.calls (x1 := x117) (x4 := x123) hxx124 (hA.get 0 rfl)) ?_
  rintro ⟨a125, n126, c127⟩ w hs
  refine WL.assign (v := .slice a125 n126 c127) rfl ?_
  refine WL.nil ?_
  refine hK121 _ _ ?_
  refine W.seqK fun K128 hK128 => ?_
  refine W.region ?_
  refine WL.move (v := .slice a125 n126 c127) rfl ?_
  refine WL.fieldAddr (m := 1) rfl FA57_1 rfl ?_
  refine WL.fieldAddr (m := 4) rfl FA54_3 rfl ?_
  refine WL.loadF (z := x90.Register.Seq) (F_fold_Field_Register.comp F_fold_Register_Seq) hs 1 rfl 9 rfl rfl TI3 (.inr rfl) rfl rfl (fun v129 hs => ?_)
  obtain rfl := hs.int 0 rfl
  obtain ⟨x130, ex130, hf⟩ := letE hf
  refine WL.convI_ UN3 UN32 rfl ex130 ?_
  obtain rfl := hs.ownLen 0 rfl
  have hs := hs.freezeOwn 0 rfl
  obtain ⟨x131, hxx131, hf⟩ := bindE hf
  refine WL.call (vs := [.slice a125 x124.length c127, .int .u64 x130]) hs FN42 ⟨rfl, ⟨rfl, trivial⟩⟩ (fun ok hA => esref03_AppendUint.calls (x1 := x124) (x4 := x130) hxx131 (hA.get 0 rfl)) ?_
  rintro ⟨a132, n133, c134⟩ w hs
  refine WL.assign (v := .slice a132 n133 c134) rfl ?_
  refine WL.nil ?_
  refine hK128 _ _ ?_
  refine W.seqK fun K135 hK135 => ?_
  refine W.region ?_
  refine WL.move (v := .slice a132 n133 c134) rfl ?_
  refine WL.fieldAddr (m := 1) rfl FA57_1 rfl ?_
  refine WL.fieldAddr (m := 5) rfl FA54_4 rfl ?_
  refine WL.loadF (z := x90.Register.N) (F_fold_Field_Register.comp F_fold_Register_N) hs 1 rfl 11 rfl rfl TI2 (.inr rfl) rfl rfl (fun v136 hs => ?_)
  obtain rfl := hs.int 0 rfl
  obtain rfl := hs.ownLen 0 rfl
  have hs := hs.freezeOwn 0 rfl
  obtain ⟨x137, hxx137, hf⟩ := bindE hf
  refine WL.call (vs := [.slice a132 x131.length c134, .int .i64 x90.Register.N]) hs FN43 ⟨rfl, ⟨rfl, trivial⟩⟩ (fun ok hA => esref03_AppendInt.calls (x1 := x131) (x4 := x90.Register.N) hxx137 (hA.get 0 rfl)) ?_
  rintro ⟨a138, n139, c140⟩ w hs
  refine WL.assign (v := .slice a138 n139 c140) rfl ?_
  refine WL.nil ?_
  refine hK135 _ _ ?_
  refine W.seqK fun K141 hK141 => ?_
  refine W.region ?_
  refine WL.move (v := .slice a138 n139 c140) rfl ?_
  refine WL.fieldAddr (m := 1) rfl FA57_1 rfl ?_
  refine WL.fieldAddr (m := 6) rfl FA54_5 rfl ?_
  refine WL.loadF (z := x90.Register.S) (F_fold_Field_Register.comp F_fold_Register_S) hs 1 rfl 13 rfl rfl TI9 (.inr rfl) rfl rfl (fun v142 hs => ?_)
  obtain rfl := hs.str 0 rfl
  obtain rfl := hs.ownLen 0 rfl
  have hs := hs.freezeOwn 0 rfl
  obtain ⟨x143, hxx143, hf⟩ := bindE hf
  refine WL.call (vs := [.slice a138 x137.length c140, bstr x90.Register.S]) hs FN40 ⟨rfl, ⟨rfl, trivial⟩⟩ (fun ok hA => esref03_AppendString.calls (x1 := x137) (x4 := x90.Register.S) hxx143 (hA.get 0 rfl)) ?_
  rintro ⟨a144, n145, c146⟩ w hs
  refine WL.assign (v := .slice a144 n145 c146) rfl ?_
  refine WL.nil ?_
  refine hK141 _ _ ?_
  refine W.seqK fun K147 hK147 => ?_
  refine W.region ?_
  refine WL.move (v := .slice a144 n145 c146) rfl ?_
  refine WL.fieldAddr (m := 7) rfl FA57_2 rfl ?_
  refine WL.loadF (z := x90.HasMax) F_fold_Field_HasMax hs 1 rfl 15 rfl rfl TI4 (.inr rfl) rfl rfl (fun v148 hs => ?_)
  obtain rfl := hs.bool 0 rfl
  obtain rfl := hs.ownLen 0 rfl
  have hs := hs.freezeOwn 0 rfl
  obtain ⟨x149, hxx149, hf⟩ := bindE hf
  refine WL.call (vs := [.slice a144 x143.length c146, .bool x90.HasMax]) hs FN41 ⟨rfl, ⟨rfl, trivial⟩⟩ (fun ok hA => esref03_AppendBool.calls (x1 := x143) (x4 := x90.HasMax) hxx149 (hA.get 0 rfl)) ?_
  rintro ⟨a150, n151, c152⟩ w hs
  refine WL.assign (v := .slice a150 n151 c152) rfl ?_
  refine WL.nil ?_
  refine hK147 _ _ ?_
  refine W.seqK fun K153 hK153 => ?_
  refine W.region ?_
  refine WL.move (v := .slice a150 n151 c152) rfl ?_
  refine WL.fieldAddr (m := 8) rfl FA57_3 rfl ?_
  refine WL.loadF (z := x90.Max) F_fold_Field_Max hs 1 rfl 17 rfl rfl TI2 (.inr rfl) rfl rfl (fun v154 hs => ?_)
  obtain rfl := hs.int 0 rfl
  obtain rfl := hs.ownLen 0 rfl
  have hs := hs.freezeOwn 0 rfl
  obtain ⟨x155, hxx155, hf⟩ := bindE hf
  refine WL.call (vs := [.slice a150 x149.length c152, .int .i64 x90.Max]) hs FN43 ⟨rfl, ⟨rfl, trivial⟩⟩ (fun ok hA => esref03_AppendInt.calls (x1 := x149) (x4 := x90.Max) hxx155 (hA.get 0 rfl)) ?_
  rintro ⟨a156, n157, c158⟩ w hs
  refine WL.assign (v := .slice a156 n157 c158) rfl ?_
  refine WL.nil ?_
  refine hK153 _ _ ?_
  refine W.seqK fun K159 hK159 => ?_
  refine W.region ?_
  refine WL.move (v := .slice a156 n157 c158) rfl ?_
  refine WL.fieldAddr (m := 9) rfl FA57_4 rfl ?_
  refine WL.loadF (z := x90.Sum) F_fold_Field_Sum hs 1 rfl 19 rfl rfl TI2 (.inr rfl) rfl rfl (fun v160 hs => ?_)
  obtain rfl := hs.int 0 rfl
  obtain rfl := hs.ownLen 0 rfl
  have hs := hs.freezeOwn 0 rfl
  obtain ⟨x161, hxx161, hf⟩ := bindE hf
  refine WL.call (vs := [.slice a156 x155.length c158, .int .i64 x90.Sum]) hs FN43 ⟨rfl, ⟨rfl, trivial⟩⟩ (fun ok hA => esref03_AppendInt.calls (x1 := x155) (x4 := x90.Sum) hxx161 (hA.get 0 rfl)) ?_
  rintro ⟨a162, n163, c164⟩ w hs
  refine WL.assign (v := .slice a162 n163 c164) rfl ?_
  refine WL.nil ?_
  refine hK159 _ _ ?_
  refine W.seqK fun K165 hK165 => ?_
  refine W.region ?_
  refine WL.move (v := .slice a162 n163 c164) rfl ?_
  refine WL.fieldAddr (m := 10) rfl FA57_5 rfl ?_
  refine WL.loadF (z := x90.Elems) F_fold_Field_Elems hs 1 rfl 21 rfl rfl TI55 (.inr rfl) rfl rfl (fun v166 hs => ?_)
  obtain ⟨a167, c168, rfl⟩ := hs.slice 0 rfl
  refine WL.len (v := .slice a167 (x90.Elems).length c168) rfl (len_slice UN55) ?_
  obtain ⟨x169, ex169, hf⟩ := letE hf
  refine WL.convI_ UN3 UN32 rfl ex169 ?_
  obtain rfl := hs.ownLen 0 rfl
  have hs := hs.freezeOwn 0 rfl
  obtain ⟨x170, hxx170, hf⟩ := bindE hf
  refine WL.call (vs := [.slice a162 x161.length c164, .int .u64 x169]) hs FN42 ⟨rfl, ⟨rfl, trivial⟩⟩ (fun ok hA => esref03_AppendUint.calls (x1 := x161) (x4 := x169) hxx170 (hA.get 0 rfl)) ?_
  rintro ⟨a171, n172, c173⟩ w hs
  refine WL.assign (v := .slice a171 n172 c173) rfl ?_
  refine WL.nil ?_
  refine hK165 _ _ ?_
  refine W.seqK fun K174 hK174 => ?_
  have Jk179 : ∀ (x176 : List Int) (a177 : Option Addr) (c178 : Nat) (ρ : Env) (w : World), ρ 1 = .pointer (some ⟨g6, 0, none⟩) → ρ 3 = .slice a177 x176.length c178 → ρ 4 = .int .i64 x41 → ρ 5 = .pointer (some ⟨g65, 0, none⟩) → ρ 6 = .int .i64 x71 → ρ 7 = .pointer (some ⟨g95, 0, none⟩) → St ok (bz w0) w [vl (tSlice (tInt .u8)) x176 (.slice a177 x176.length c178), vl t_fold_Field x90 (.agg cs93.toArray), vl t_fold_Object x60 (.agg cs63.toArray), vl t_fold_Store x1 (.agg cs3.toArray)] [blk g95 57 cs93, blk g65 51 cs63, blk g6 29 cs3] → esref32_Hash.j5 x71 x90 x176 = some os72 → K174 ρ w := by
    intro x176 a177 c178 ρ w h175_1 h175_3 h175_4 h175_5 h175_6 h175_7 hs hf
    refine hK174 _ _ ?_
    unfold esref32_Hash.j5 at hf
    refine W.region ?_
    refine WL.move (v := .slice a177 x176.length c178) h175_3 ?_
    refine WL.fieldAddr (m := 11) h175_7 FA57_6 rfl ?_
    refine WL.loadF (z := x90.Flag) F_fold_Field_Flag hs 0 rfl 1 rfl rfl TI4 (.inr rfl) rfl rfl (fun v180 hs => ?_)
    obtain rfl := hs.bool 0 rfl
    obtain ⟨x181, hxx181, hf⟩ := bindE hf
    refine WL.call (vs := [.slice a177 x176.length c178, .bool x90.Flag]) hs FN41 ⟨rfl, ⟨rfl, trivial⟩⟩ (fun ok hA => esref03_AppendBool.calls (x1 := x176) (x4 := x90.Flag) hxx181 (hA.get 1 rfl)) ?_
    rintro ⟨a182, n183, c184⟩ w hs
    refine WL.assign (v := .slice a182 n183 c184) rfl ?_
    refine WL.nil ?_
    obtain rfl := hs.ownLen 0 rfl
    have hs := hs.freezeOwn 0 rfl
    exact Jk84 x181 a182 c184 _ _ h175_1 rfl h175_4 h175_5 h175_6 ((hs.mask [false, true, true]).pick [0, 4, 5]) hf
  refine W.seqK fun K185 hK185 => ?_
  refine W.region ?_
  refine WL.assign (v := .int .i64 0) rfl ?_
  refine WL.nil ?_
  refine hK185 _ _ ?_
  refine W.block ?_
  obtain ⟨bs191, hbs191, hfs191⟩ := bindE hf
  obtain rfl := hs.ownLen 0 rfl
  have hs := hs.freezeOwn 0 rfl
  refine W.loop hbs191 (fun s ρ w => match s with | (x187, x190) => ∃ (a188 : Option Addr), ∃ (c189 : Nat), ρ 1 = .pointer (some ⟨g6, 0, none⟩) ∧ ρ 3 = .slice a188 x187.length c189 ∧ ρ 4 = .int .i64 x41 ∧ ρ 5 = .pointer (some ⟨g65, 0, none⟩) ∧ ρ 6 = .int .i64 x71 ∧ ρ 7 = .pointer (some ⟨g95, 0, none⟩) ∧ ρ 8 = .int .i64 x190 ∧ St ok (bz w0) w [vl (tSlice (tInt .u8)) x187 (.slice a188 x187.length c189), vl t_fold_Field x90 (.agg cs93.toArray), vl t_fold_Object x60 (.agg cs63.toArray), vl t_fold_Store x1 (.agg cs3.toArray)] [blk g95 57 cs93, blk g65 51 cs63, blk g6 29 cs3]) ⟨a171, c173, h67_1, rfl, h67_4, h67_5, h67_6, rfl, rfl, (hs.mask [true, true, true]).pick [0, 24, 29, 30]⟩ ?_
  intro s ρ w os191 hI hf hbbs191
  obtain ⟨x187, x190⟩ := s
  obtain ⟨a188, c189, h186_1, h186_3, h186_4, h186_5, h186_6, h186_7, h186_8, hs⟩ := hI
  unfold esref32_Hash.l2 at hf
  refine W.seqK fun K192 hK192 => ?_
  refine W.seqK fun K193 hK193 => ?_
  refine W.region ?_
  refine WL.move (v := .int .i64 x190) h186_8 ?_
  refine WL.fieldAddr (m := 10) h186_7 FA57_5 rfl ?_
  refine WL.loadF (z := x90.Elems) F_fold_Field_Elems hs 0 rfl 1 rfl rfl TI55 (.inr rfl) rfl rfl (fun v194 hs => ?_)
  obtain ⟨a195, c196, rfl⟩ := hs.slice 0 rfl
  refine WL.len (v := .slice a195 (x90.Elems).length c196) rfl (len_slice UN55) ?_
  refine WL.bin (v := .bool (decide (x190 < ((x90.Elems).length : Int)))) rfl rfl (ib_lss _ _ _) ?_
  refine WL.nil ?_
  refine hK193 _ _ ?_
  rcases iteE hf with ⟨hc197, hf⟩ | ⟨hc197, hf⟩
  {
  refine W.cond_true (bool_tr rfl hc197) ?_
  refine W.skip ?_
  refine hK192 _ _ ?_
  refine W.seqK fun K198 hK198 => ?_
  refine W.block ?_
  refine W.region ?_
  refine WL.move (v := .slice a188 x187.length c189) h186_3 ?_
  refine WL.fieldAddr (m := 10) h186_7 FA57_5 rfl ?_
  refine WL.loadF (z := x90.Elems) F_fold_Field_Elems hs 0 rfl 2 rfl rfl TI55 (.inr rfl) rfl rfl (fun v199 hs => ?_)
  obtain ⟨a200, c201, rfl⟩ := hs.slice 0 rfl
  refine WL.move (v := .int .i64 x190) h186_8 ?_
  obtain ⟨x202, hxx202, hf⟩ := bindE hf
  refine WL.indexAddr hs 0 rfl UN55 TI9 rfl rfl hxx202 (fun ad203 hs => ?_)
  refine WL.loadP hs 0 rfl TI9 (.inr rfl) rfl (fun v204 hs => ?_)
  obtain rfl := hs.str 0 rfl
  obtain ⟨x205, hxx205, hf⟩ := bindE hf
  refine WL.call (vs := [.slice a188 x187.length c189, bstr x202]) hs FN40 ⟨rfl, ⟨rfl, trivial⟩⟩ (fun ok hA => esref03_AppendString.calls (x1 := x187) (x4 := x202) hxx205 (hA.get 4 rfl)) ?_
  rintro ⟨a206, n207, c208⟩ w hs
  refine WL.assign (v := .slice a206 n207 c208) rfl ?_
  refine WL.nil ?_
  refine hK198 _ _ ?_
  refine W.region ?_
  refine WL.move (v := .int .i64 x190) h186_8 ?_
  obtain ⟨x209, ex209, hf⟩ := letE hf
  refine WL.bin (v := .int .i64 x209) rfl rfl (ib_as ex209 (ib_add _ _ _)) ?_
  refine WL.assign (v := .int .i64 x209) rfl ?_
  refine WL.nil ?_
  obtain rfl := hs.ownLen 0 rfl
  have hs := hs.freezeOwn 0 rfl
  exact ⟨_, (Option.some.inj hf).symm, a206, c208, h186_1, rfl, h186_4, h186_5, h186_6, h186_7, rfl, (hs.mask [true, true, true]).pick [0, 6, 7, 8]⟩ }
  {
  refine W.cond_false (bool_tr rfl hc197) ?_
  refine W.exit ?_
  have hr := Option.some.inj hf; subst hr
  have hr := hbbs191 _ rfl; subst hr
  have hf := hfs191
  exact Jk179 x187 a188 c189 _ _ h186_1 h186_3 h186_4 h186_5 h186_6 h186_7 ((hs.mask [true, true, true]).pick [1, 2, 3, 4]) hf } }
  {
  refine W.cond_false (bool_tr rfl hc78) ?_
  refine W.exit ?_
  have hr := Option.some.inj hf; subst hr
  have hr := hbbs72 _ rfl; subst hr
  have hf := hfs72
  exact Jk54 x68 a69 c70 _ _ h67_1 h67_3 h67_4 ((hs.mask [false, true]).pick [1, 3]) hf } }
  {
  refine W.cond_false (bool_tr rfl hc48) ?_
  refine W.exit ?_
  have hr := Option.some.inj hf; subst hr
  have hr := hbbs42 _ rfl; subst hr
  have hf := hfs42
  exact Jk13 x38 a39 c40 _ _ h37_3 ((hs.mask []).pick [1]) hf }
theorem eslaw30_FoldSome.calls {ok : Nat → Prop} {w0 : World} {x1 : List Int} {x4 : Int} {a2 : Option Addr} {c3 : Nat} {r : Bool} (hf : eslaw30_FoldSome x1 x4 = some r) (i0 : (vl (tSlice (tInt .i64)) x1 (.slice a2 x1.length c3)).holds ok w0) :
    Calls Try.prog 4 #[.slice a2 x1.length c3, .int .i64 x4] w0 fun e w' => ∃ v, e = .returned v ∧ ∃ y : Unit, v = .bool r ∧ St ok (bz w0) w' [] [] := by
  unfold eslaw30_FoldSome at hf
  refine calls_of_W (fn := Try.f4) (N := 27) Try.func4 rfl Try.ntmps4 rfl ?_
  have hs : St ok (bz w0) w0 [vl (tSlice (tInt .i64)) x1 (.slice a2 x1.length c3)] [] := St.init (All.cons i0 All.nil)
  clear i0
  refine W.seqK fun K5 hK5 => ?_
  refine W.region ?_
  refine WL.assign (v := .bool false) rfl ?_
  refine WL.nil ?_
  refine hK5 _ _ ?_
  refine W.seqK fun K6 hK6 => ?_
  refine W.region ?_
  refine WL.move (v := .slice a2 x1.length c3) rfl ?_
  obtain ⟨x7, hxx7, hf⟩ := bindE hf
  refine WL.call (vs := [.slice a2 x1.length c3]) hs FN19 ⟨rfl, trivial⟩ (fun ok hA => eslaw00_Updates.calls (x1 := x1) hxx7 (hA.get 0 rfl)) ?_
  rintro ⟨a8, n9, c10⟩ w hs
  refine WL.move (v := .int .i64 x4) rfl ?_
  obtain rfl := hs.ownLen 0 rfl
  have hs := hs.freezeOwn 0 rfl
  obtain ⟨x11, hxx11, hf⟩ := bindE hf
  refine WL.call (vs := [.slice a8 x7.length c10, .int .i64 x4]) hs FN18 ⟨rfl, ⟨rfl, trivial⟩⟩ (fun ok hA => eslaw00_Some.calls (x1 := x7) (x4 := x4) hxx11 (hA.get 0 rfl)) ?_
  rintro ⟨a12, n13, c14⟩ w hs
  refine WL.assign (v := .slice a12 n13 c14) rfl ?_
  refine WL.nil ?_
  refine hK6 _ _ ?_
  refine W.seqK fun K15 hK15 => ?_
  refine W.region ?_
  refine WL.move (v := .slice a12 n13 c14) rfl ?_
  obtain rfl := hs.ownLen 0 rfl
  have hs := hs.freezeOwn 0 rfl
  obtain ⟨x16, hxx16, hf⟩ := bindE hf
  refine WL.call (vs := [.slice a12 x11.length c14]) hs FN13 ⟨rfl, trivial⟩ (fun ok hA => fold_Fold.calls (x1 := x11) hxx16 (hA.get 0 rfl)) ?_
  rintro cs17 w hs
  have hl18 := hs.agglen (n := 1) 0 rfl rfl rfl
  refine WL.alloc hs ZV29 (fun g19 w hs => ?_)
  refine WL.storeAll (vs := cs17) hs 0 rfl TI29 rfl rfl rfl hl18 (hs.ones 0 rfl rfl) rfl (fun w hs => ?_)
  refine WL.nil ?_
  refine hK15 _ _ ?_
  refine W.seqK fun K20 hK20 => ?_
  have Jk23 : ∀ (x22 : Bool) (ρ : Env) (w : World), ρ 4 = .bool x22 → St ok (bz w0) w [] [] → eslaw30_FoldSome.j1 x22 = some r → K20 ρ w := by
    intro x22 ρ w h21_4 hs hf
    refine hK20 _ _ ?_
    unfold eslaw30_FoldSome.j1 at hf
    refine W.ret ?_
    have hr := Option.some.inj hf; subst hr
    exact ⟨_, resOk_one rfl h21_4, (), rfl, (hs.mask []).pick []⟩
  obtain ⟨x24, hxx24, hf⟩ := bindE hf
  obtain ⟨x27, hxx27, hf⟩ := bindE hf
  rcases iteE hf with ⟨hc28, hf⟩ | ⟨hc28, hf⟩
  {
  obtain ⟨x29, hxx29, hf⟩ := bindE hf
  obtain ⟨x30, hxx30, hf⟩ := bindE hf
  rcases iteE hf with ⟨hc31, hf⟩ | ⟨hc31, hf⟩
  {
  obtain ⟨x32, hxx32, hf⟩ := bindE hf
  refine W.any (by kernel_rfl) 14 1 [true, true, true, true, true, true, true, true, true, true, true, true, true, true, false] rfl rfl (poAt [pv (.agg cs17.toArray), pv (.slice a12 x11.length c14), pq (fun y : List Value => .agg y.toArray) (fun v => [vl t_fold_Store x24 v]) (fun v => []), pv (.bool x27), pv (.bool x27), pv (.agg cs17.toArray), pv (.int .u64 x29), pv (.agg cs17.toArray), pv (.int .u64 x30), pv (.bool (x29 == x30)), pv (.bool (x29 == x30)), pv (.bool (x29 == x30)), pv (.bool x32), pv (.bool x32)]) (Λ := [blk g19 29 cs17]) hs (by kernel_rfl) (by kernel_rfl) (by kernel_rfl) ⟨⟨⟨⟨⟨⟨⟨⟨⟨⟨⟨⟨⟨⟨trivial, ?_⟩, ?_⟩, ?_⟩, ?_⟩, ?_⟩, ?_⟩, ?_⟩, ?_⟩, ?_⟩, ?_⟩, ?_⟩, ?_⟩, ?_⟩, ?_⟩ ?_
  {
  intro ρ w Γx Λx hs hu hp
  refine WL.loadAll hs (Λx.length + 0) (getApp rfl) TI29 (hu 6 rfl) hl18 ?_
  exact WL.nil ⟨rfl, _, rfl, rfl, hs.cutG 0 0⟩ }
  {
  intro ρ w Γx Λx hs hu hp
  refine WL.move (v := .slice a12 x11.length c14) (hu 5 rfl) ?_
  exact WL.nil ⟨rfl, _, rfl, rfl, hs.cutG 0 0⟩ }
  {
  intro ρ w Γx Λx hs hu hp
  have e33 : ρ 14 = .slice a12 x11.length c14 := (hp 1 rfl).1
  refine WL.call (vs := [.slice a12 x11.length c14]) hs FN15 ⟨e33, trivial⟩ (fun ok hA => esref32_Fold.calls (x1 := x11) hxx24 (hA.get (Γx.length + 1) (getApp rfl))) ?_
  rintro cs25 w hs
  have hl26 := hs.agglen (n := 1) 0 rfl rfl rfl
  have hs := hs.add (it := vl t_fold_Store x24 (.agg cs25.toArray)) fun ok hA => hA.get 0 rfl
  exact WL.nil ⟨rfl, _, rfl, ⟨cs25, rfl⟩, hs.cutG 1 1⟩ }
  {
  intro ρ w Γx Λx hs hu hp
  have e34 : ρ 13 = .agg cs17.toArray := (hp 0 rfl).1
  obtain ⟨⟨cs35, e37r⟩, hm38⟩ := hp 2 rfl
  have e37 : ρ 15 = .agg cs35.toArray := e37r
  rw [e37r] at hm38
  have hs := hs.memo1 (it := vl t_fold_Store x24 (.agg cs35.toArray)) (List.mem_append.2 (.inl (hm38 _ (List.mem_of_getElem? (i := 0) rfl))))
  have hl36 := hs.agglen (n := 1) 0 rfl rfl rfl
  refine WL.call (vs := [.agg cs17.toArray, .agg cs35.toArray]) hs FN14 ⟨e34, ⟨e37, trivial⟩⟩ (fun ok hA => esref32_Equal.calls (x1 := x16) (x5 := x24) hxx27 (hA.get (Γx.length + 0 + 1) (getApp1 rfl)) (hA.get 0 rfl)) ?_
  rintro _ w hs
  exact WL.nil ⟨rfl, _, rfl, rfl, hs.cutG 0 1⟩ }
  {
  intro ρ w Γx Λx hs hu hp
  have e39 : ρ 16 = .bool x27 := (hp 3 rfl).1
  refine WL.move (v := .bool x27) e39 ?_
  exact WL.nil ⟨rfl, _, rfl, rfl, hs.cutG 0 0⟩ }
  {
  intro ρ w Γx Λx hs hu hp
  have e40 : ρ 17 = .bool x27 := (hp 4 rfl).1
  refine WL.loadAll hs (Λx.length + 0) (getApp rfl) TI29 (hu 6 rfl) hl18 ?_ (hg := (wanted_of rfl rfl (bool_tr e40 hc28)).trans rfl)
  exact WL.nil ⟨rfl, _, rfl, rfl, hs.cutG 0 0⟩ }
  {
  intro ρ w Γx Λx hs hu hp
  have e41 : ρ 18 = .agg cs17.toArray := (hp 5 rfl).1
  have e42 : ρ 17 = .bool x27 := (hp 4 rfl).1
  refine WL.call (vs := [.agg cs17.toArray]) hs FN16 ⟨e41, trivial⟩ (fun ok hA => fold_Hash.calls (x1 := x16) hxx29 (hA.get (Γx.length + 0) (getApp rfl))) ?_ (hg := (wanted_of rfl rfl (bool_tr e42 hc28)).trans rfl)
  rintro _ w hs
  exact WL.nil ⟨rfl, _, rfl, rfl, hs.cutG 0 0⟩ }
  {
  intro ρ w Γx Λx hs hu hp
  have e43 : ρ 17 = .bool x27 := (hp 4 rfl).1
  refine WL.loadAll hs (Λx.length + 0) (getApp rfl) TI29 (hu 6 rfl) hl18 ?_ (hg := (wanted_of rfl rfl (bool_tr e43 hc28)).trans rfl)
  exact WL.nil ⟨rfl, _, rfl, rfl, hs.cutG 0 0⟩ }
  {
  intro ρ w Γx Λx hs hu hp
  have e44 : ρ 20 = .agg cs17.toArray := (hp 7 rfl).1
  have e45 : ρ 17 = .bool x27 := (hp 4 rfl).1
  refine WL.call (vs := [.agg cs17.toArray]) hs FN17 ⟨e44, trivial⟩ (fun ok hA => esref32_Hash.calls (x1 := x16) hxx30 (hA.get (Γx.length + 0) (getApp rfl))) ?_ (hg := (wanted_of rfl rfl (bool_tr e45 hc28)).trans rfl)
  rintro _ w hs
  exact WL.nil ⟨rfl, _, rfl, rfl, hs.cutG 0 0⟩ }
  {
  intro ρ w Γx Λx hs hu hp
  have e46 : ρ 19 = .int .u64 x29 := (hp 6 rfl).1
  have e47 : ρ 21 = .int .u64 x30 := (hp 8 rfl).1
  have e48 : ρ 17 = .bool x27 := (hp 4 rfl).1
  refine WL.bin (v := .bool (x29 == x30)) e46 e47 (ib_eql _ _ _) ?_ (hg := (wanted_of rfl rfl (bool_tr e48 hc28)).trans rfl)
  exact WL.nil ⟨rfl, _, rfl, rfl, hs.cutG 0 0⟩ }
  {
  intro ρ w Γx Λx hs hu hp
  have e49 : ρ 17 = .bool x27 := (hp 4 rfl).1
  have e50 : ρ 22 = .bool (x29 == x30) := (hp 9 rfl).1
  refine WL.pickT (v := .bool (x29 == x30)) (bool_tr e49 hc28) e50 ?_
  exact WL.nil ⟨rfl, _, rfl, rfl, hs.cutG 0 0⟩ }
  {
  intro ρ w Γx Λx hs hu hp
  have e51 : ρ 23 = .bool (x29 == x30) := (hp 10 rfl).1
  refine WL.move (v := .bool (x29 == x30)) e51 ?_
  exact WL.nil ⟨rfl, _, rfl, rfl, hs.cutG 0 0⟩ }
  {
  intro ρ w Γx Λx hs hu hp
  have e52 : ρ 24 = .bool (x29 == x30) := (hp 11 rfl).1
  refine WL.call (vs := []) hs FN12 trivial (fun ok hA => eslaw30_awake.calls hxx32) ?_ (hg := (wanted_of rfl rfl (bool_tr e52 hc31)).trans rfl)
  rintro _ w hs
  exact WL.nil ⟨rfl, _, rfl, rfl, hs.cutG 0 0⟩ }
  {
  intro ρ w Γx Λx hs hu hp
  have e53 : ρ 24 = .bool (x29 == x30) := (hp 11 rfl).1
  have e54 : ρ 25 = .bool x32 := (hp 12 rfl).1
  refine WL.pickT (v := .bool x32) (bool_tr e53 hc31) e54 ?_
  exact WL.nil ⟨rfl, _, rfl, rfl, hs.cutG 0 0⟩ }
  {
  intro ρ w hs hu55 hp
  obtain ⟨⟨⟨⟨⟨⟨⟨⟨⟨⟨⟨⟨⟨⟨_, hp0_⟩, hp1_⟩, hp2_⟩, hp3_⟩, hp4_⟩, hp5_⟩, hp6_⟩, hp7_⟩, hp8_⟩, hp9_⟩, hp10_⟩, hp11_⟩, hp12_⟩, hp13_⟩ := hp
  have hs : St ok (bz w0) w [vl t_fold_Store x24 (ρ 15), vl t_fold_Store x16 (.agg cs17.toArray), vl (tSlice t_api_Update) x11 (.slice a12 x11.length c14), vl (tSlice t_api_Update) x7 (.slice a8 x7.length c10), vl (tSlice (tInt .i64)) x1 (.slice a2 x1.length c3)] [blk g19 29 cs17] := hs
  have e56 : ρ 26 = .bool x32 := hp13_
  have e57 : ρ 25 = .bool x32 := hp12_
  have e58 : ρ 24 = .bool (x29 == x30) := hp11_
  have e59 : ρ 23 = .bool (x29 == x30) := hp10_
  have e60 : ρ 22 = .bool (x29 == x30) := hp9_
  have e61 : ρ 21 = .int .u64 x30 := hp8_
  have e62 : ρ 20 = .agg cs17.toArray := hp7_
  have e63 : ρ 19 = .int .u64 x29 := hp6_
  have e64 : ρ 18 = .agg cs17.toArray := hp5_
  have e65 : ρ 17 = .bool x27 := hp4_
  have e66 : ρ 16 = .bool x27 := hp3_
  obtain ⟨cs67, e69⟩ := hp2_
  have e69 : ρ 15 = .agg cs67.toArray := e69
  try rw [e69] at hs
  have e70 : ρ 14 = .slice a12 x11.length c14 := hp1_
  have e71 : ρ 13 = .agg cs17.toArray := hp0_
  have hl68 := hs.agglen (n := 1) 0 rfl rfl rfl
  refine WA.step [14] (by kernel_rfl) (by simp) ⟨?_, trivial⟩
  refine WL.assign (v := .bool x32) e56 ?_
  refine WL.nil ⟨rfl, _, rfl, ?_⟩
  refine WA.done (by kernel_rfl) ?_
  exact Jk23 x32 _ _ rfl ((hs.mask []).pick []) hf } }
  {
  refine W.any (by kernel_rfl) 14 1 [true, true, true, true, true, true, true, true, true, true, true, true, true, true, false] rfl rfl (poAt [pv (.agg cs17.toArray), pv (.slice a12 x11.length c14), pq (fun y : List Value => .agg y.toArray) (fun v => [vl t_fold_Store x24 v]) (fun v => []), pv (.bool x27), pv (.bool x27), pv (.agg cs17.toArray), pv (.int .u64 x29), pv (.agg cs17.toArray), pv (.int .u64 x30), pv (.bool (x29 == x30)), pv (.bool (x29 == x30)), pv (.bool (x29 == x30)), pv (undef), pv (.bool false)]) (Λ := [blk g19 29 cs17]) hs (by kernel_rfl) (by kernel_rfl) (by kernel_rfl) ⟨⟨⟨⟨⟨⟨⟨⟨⟨⟨⟨⟨⟨⟨trivial, ?_⟩, ?_⟩, ?_⟩, ?_⟩, ?_⟩, ?_⟩, ?_⟩, ?_⟩, ?_⟩, ?_⟩, ?_⟩, ?_⟩, ?_⟩, ?_⟩ ?_
  {
  intro ρ w Γx Λx hs hu hp
  refine WL.loadAll hs (Λx.length + 0) (getApp rfl) TI29 (hu 6 rfl) hl18 ?_
  exact WL.nil ⟨rfl, _, rfl, rfl, hs.cutG 0 0⟩ }
  {
  intro ρ w Γx Λx hs hu hp
  refine WL.move (v := .slice a12 x11.length c14) (hu 5 rfl) ?_
  exact WL.nil ⟨rfl, _, rfl, rfl, hs.cutG 0 0⟩ }
  {
  intro ρ w Γx Λx hs hu hp
  have e72 : ρ 14 = .slice a12 x11.length c14 := (hp 1 rfl).1
  refine WL.call (vs := [.slice a12 x11.length c14]) hs FN15 ⟨e72, trivial⟩ (fun ok hA => esref32_Fold.calls (x1 := x11) hxx24 (hA.get (Γx.length + 1) (getApp rfl))) ?_
  rintro cs25 w hs
  have hl26 := hs.agglen (n := 1) 0 rfl rfl rfl
  have hs := hs.add (it := vl t_fold_Store x24 (.agg cs25.toArray)) fun ok hA => hA.get 0 rfl
  exact WL.nil ⟨rfl, _, rfl, ⟨cs25, rfl⟩, hs.cutG 1 1⟩ }
  {
  intro ρ w Γx Λx hs hu hp
  have e73 : ρ 13 = .agg cs17.toArray := (hp 0 rfl).1
  obtain ⟨⟨cs74, e76r⟩, hm77⟩ := hp 2 rfl
  have e76 : ρ 15 = .agg cs74.toArray := e76r
  rw [e76r] at hm77
  have hs := hs.memo1 (it := vl t_fold_Store x24 (.agg cs74.toArray)) (List.mem_append.2 (.inl (hm77 _ (List.mem_of_getElem? (i := 0) rfl))))
  have hl75 := hs.agglen (n := 1) 0 rfl rfl rfl
  refine WL.call (vs := [.agg cs17.toArray, .agg cs74.toArray]) hs FN14 ⟨e73, ⟨e76, trivial⟩⟩ (fun ok hA => esref32_Equal.calls (x1 := x16) (x5 := x24) hxx27 (hA.get (Γx.length + 0 + 1) (getApp1 rfl)) (hA.get 0 rfl)) ?_
  rintro _ w hs
  exact WL.nil ⟨rfl, _, rfl, rfl, hs.cutG 0 1⟩ }
  {
  intro ρ w Γx Λx hs hu hp
  have e78 : ρ 16 = .bool x27 := (hp 3 rfl).1
  refine WL.move (v := .bool x27) e78 ?_
  exact WL.nil ⟨rfl, _, rfl, rfl, hs.cutG 0 0⟩ }
  {
  intro ρ w Γx Λx hs hu hp
  have e79 : ρ 17 = .bool x27 := (hp 4 rfl).1
  refine WL.loadAll hs (Λx.length + 0) (getApp rfl) TI29 (hu 6 rfl) hl18 ?_ (hg := (wanted_of rfl rfl (bool_tr e79 hc28)).trans rfl)
  exact WL.nil ⟨rfl, _, rfl, rfl, hs.cutG 0 0⟩ }
  {
  intro ρ w Γx Λx hs hu hp
  have e80 : ρ 18 = .agg cs17.toArray := (hp 5 rfl).1
  have e81 : ρ 17 = .bool x27 := (hp 4 rfl).1
  refine WL.call (vs := [.agg cs17.toArray]) hs FN16 ⟨e80, trivial⟩ (fun ok hA => fold_Hash.calls (x1 := x16) hxx29 (hA.get (Γx.length + 0) (getApp rfl))) ?_ (hg := (wanted_of rfl rfl (bool_tr e81 hc28)).trans rfl)
  rintro _ w hs
  exact WL.nil ⟨rfl, _, rfl, rfl, hs.cutG 0 0⟩ }
  {
  intro ρ w Γx Λx hs hu hp
  have e82 : ρ 17 = .bool x27 := (hp 4 rfl).1
  refine WL.loadAll hs (Λx.length + 0) (getApp rfl) TI29 (hu 6 rfl) hl18 ?_ (hg := (wanted_of rfl rfl (bool_tr e82 hc28)).trans rfl)
  exact WL.nil ⟨rfl, _, rfl, rfl, hs.cutG 0 0⟩ }
  {
  intro ρ w Γx Λx hs hu hp
  have e83 : ρ 20 = .agg cs17.toArray := (hp 7 rfl).1
  have e84 : ρ 17 = .bool x27 := (hp 4 rfl).1
  refine WL.call (vs := [.agg cs17.toArray]) hs FN17 ⟨e83, trivial⟩ (fun ok hA => esref32_Hash.calls (x1 := x16) hxx30 (hA.get (Γx.length + 0) (getApp rfl))) ?_ (hg := (wanted_of rfl rfl (bool_tr e84 hc28)).trans rfl)
  rintro _ w hs
  exact WL.nil ⟨rfl, _, rfl, rfl, hs.cutG 0 0⟩ }
  {
  intro ρ w Γx Λx hs hu hp
  have e85 : ρ 19 = .int .u64 x29 := (hp 6 rfl).1
  have e86 : ρ 21 = .int .u64 x30 := (hp 8 rfl).1
  have e87 : ρ 17 = .bool x27 := (hp 4 rfl).1
  refine WL.bin (v := .bool (x29 == x30)) e85 e86 (ib_eql _ _ _) ?_ (hg := (wanted_of rfl rfl (bool_tr e87 hc28)).trans rfl)
  exact WL.nil ⟨rfl, _, rfl, rfl, hs.cutG 0 0⟩ }
  {
  intro ρ w Γx Λx hs hu hp
  have e88 : ρ 17 = .bool x27 := (hp 4 rfl).1
  have e89 : ρ 22 = .bool (x29 == x30) := (hp 9 rfl).1
  refine WL.pickT (v := .bool (x29 == x30)) (bool_tr e88 hc28) e89 ?_
  exact WL.nil ⟨rfl, _, rfl, rfl, hs.cutG 0 0⟩ }
  {
  intro ρ w Γx Λx hs hu hp
  have e90 : ρ 23 = .bool (x29 == x30) := (hp 10 rfl).1
  refine WL.move (v := .bool (x29 == x30)) e90 ?_
  exact WL.nil ⟨rfl, _, rfl, rfl, hs.cutG 0 0⟩ }
  {
  intro ρ w Γx Λx hs hu hp
  have e91 : ρ 24 = .bool (x29 == x30) := (hp 11 rfl).1
  refine WL.pass ((wanted_of rfl rfl (bool_tr e91 hc31)).trans rfl) rfl ?_
  exact WL.nil ⟨rfl, _, rfl, rfl, hs.cutG 0 0⟩ }
  {
  intro ρ w Γx Λx hs hu hp
  have e92 : ρ 24 = .bool (x29 == x30) := (hp 11 rfl).1
  have e93 : ρ 25 = undef := (hp 12 rfl).1
  refine WL.pickF (v := .bool false) (bool_tr e92 hc31) rfl ?_
  exact WL.nil ⟨rfl, _, rfl, rfl, hs.cutG 0 0⟩ }
  {
  intro ρ w hs hu94 hp
  obtain ⟨⟨⟨⟨⟨⟨⟨⟨⟨⟨⟨⟨⟨⟨_, hp0_⟩, hp1_⟩, hp2_⟩, hp3_⟩, hp4_⟩, hp5_⟩, hp6_⟩, hp7_⟩, hp8_⟩, hp9_⟩, hp10_⟩, hp11_⟩, hp12_⟩, hp13_⟩ := hp
  have hs : St ok (bz w0) w [vl t_fold_Store x24 (ρ 15), vl t_fold_Store x16 (.agg cs17.toArray), vl (tSlice t_api_Update) x11 (.slice a12 x11.length c14), vl (tSlice t_api_Update) x7 (.slice a8 x7.length c10), vl (tSlice (tInt .i64)) x1 (.slice a2 x1.length c3)] [blk g19 29 cs17] := hs
  have e95 : ρ 26 = .bool false := hp13_
  have e96 : ρ 25 = undef := hp12_
  have e97 : ρ 24 = .bool (x29 == x30) := hp11_
  have e98 : ρ 23 = .bool (x29 == x30) := hp10_
  have e99 : ρ 22 = .bool (x29 == x30) := hp9_
  have e100 : ρ 21 = .int .u64 x30 := hp8_
  have e101 : ρ 20 = .agg cs17.toArray := hp7_
  have e102 : ρ 19 = .int .u64 x29 := hp6_
  have e103 : ρ 18 = .agg cs17.toArray := hp5_
  have e104 : ρ 17 = .bool x27 := hp4_
  have e105 : ρ 16 = .bool x27 := hp3_
  obtain ⟨cs106, e108⟩ := hp2_
  have e108 : ρ 15 = .agg cs106.toArray := e108
  try rw [e108] at hs
  have e109 : ρ 14 = .slice a12 x11.length c14 := hp1_
  have e110 : ρ 13 = .agg cs17.toArray := hp0_
  have hl107 := hs.agglen (n := 1) 0 rfl rfl rfl
  refine WA.step [14] (by kernel_rfl) (by simp) ⟨?_, trivial⟩
  refine WL.assign (v := .bool false) e95 ?_
  refine WL.nil ⟨rfl, _, rfl, ?_⟩
  refine WA.done (by kernel_rfl) ?_
  exact Jk23 false _ _ rfl ((hs.mask []).pick []) hf } } }
  {
  refine W.any (by kernel_rfl) 14 1 [true, true, true, true, true, true, true, true, true, true, true, true, true, true, false] rfl rfl (poAt [pv (.agg cs17.toArray), pv (.slice a12 x11.length c14), pq (fun y : List Value => .agg y.toArray) (fun v => [vl t_fold_Store x24 v]) (fun v => []), pv (.bool x27), pv (.bool x27), pv (undef), pv (undef), pv (undef), pv (undef), pv (undef), pv (.bool false), pv (.bool false), pv (undef), pv (.bool false)]) (Λ := [blk g19 29 cs17]) hs (by kernel_rfl) (by kernel_rfl) (by kernel_rfl) ⟨⟨⟨⟨⟨⟨⟨⟨⟨⟨⟨⟨⟨⟨trivial, ?_⟩, ?_⟩, ?_⟩, ?_⟩, ?_⟩, ?_⟩, ?_⟩, ?_⟩, ?_⟩, ?_⟩, ?_⟩, ?_⟩, ?_⟩, ?_⟩ ?_
  {
  intro ρ w Γx Λx hs hu hp
  refine WL.loadAll hs (Λx.length + 0) (getApp rfl) TI29 (hu 6 rfl) hl18 ?_
  exact WL.nil ⟨rfl, _, rfl, rfl, hs.cutG 0 0⟩ }
  {
  intro ρ w Γx Λx hs hu hp
  refine WL.move (v := .slice a12 x11.length c14) (hu 5 rfl) ?_
  exact WL.nil ⟨rfl, _, rfl, rfl, hs.cutG 0 0⟩ }
  {
  intro ρ w Γx Λx hs hu hp
  have e111 : ρ 14 = .slice a12 x11.length c14 := (hp 1 rfl).1
  refine WL.call (vs := [.slice a12 x11.length c14]) hs FN15 ⟨e111, trivial⟩ (fun ok hA => esref32_Fold.calls (x1 := x11) hxx24 (hA.get (Γx.length + 1) (getApp rfl))) ?_
  rintro cs25 w hs
  have hl26 := hs.agglen (n := 1) 0 rfl rfl rfl
  have hs := hs.add (it := vl t_fold_Store x24 (.agg cs25.toArray)) fun ok hA => hA.get 0 rfl
  exact WL.nil ⟨rfl, _, rfl, ⟨cs25, rfl⟩, hs.cutG 1 1⟩ }
  {
  intro ρ w Γx Λx hs hu hp
  have e112 : ρ 13 = .agg cs17.toArray := (hp 0 rfl).1
  obtain ⟨⟨cs113, e115r⟩, hm116⟩ := hp 2 rfl
  have e115 : ρ 15 = .agg cs113.toArray := e115r
  rw [e115r] at hm116
  have hs := hs.memo1 (it := vl t_fold_Store x24 (.agg cs113.toArray)) (List.mem_append.2 (.inl (hm116 _ (List.mem_of_getElem? (i := 0) rfl))))
  have hl114 := hs.agglen (n := 1) 0 rfl rfl rfl
  refine WL.call (vs := [.agg cs17.toArray, .agg cs113.toArray]) hs FN14 ⟨e112, ⟨e115, trivial⟩⟩ (fun ok hA => esref32_Equal.calls (x1 := x16) (x5 := x24) hxx27 (hA.get (Γx.length + 0 + 1) (getApp1 rfl)) (hA.get 0 rfl)) ?_
  rintro _ w hs
  exact WL.nil ⟨rfl, _, rfl, rfl, hs.cutG 0 1⟩ }
  {
  intro ρ w Γx Λx hs hu hp
  have e117 : ρ 16 = .bool x27 := (hp 3 rfl).1
  refine WL.move (v := .bool x27) e117 ?_
  exact WL.nil ⟨rfl, _, rfl, rfl, hs.cutG 0 0⟩ }
  {
  intro ρ w Γx Λx hs hu hp
  have e118 : ρ 17 = .bool x27 := (hp 4 rfl).1
  refine WL.pass ((wanted_of rfl rfl (bool_tr e118 hc28)).trans rfl) rfl ?_
  exact WL.nil ⟨rfl, _, rfl, rfl, hs.cutG 0 0⟩ }
  {
  intro ρ w Γx Λx hs hu hp
  have e119 : ρ 18 = undef := (hp 5 rfl).1
  have e120 : ρ 17 = .bool x27 := (hp 4 rfl).1
  refine WL.pass ((wanted_of rfl rfl (bool_tr e120 hc28)).trans rfl) rfl ?_
  exact WL.nil ⟨rfl, _, rfl, rfl, hs.cutG 0 0⟩ }
  {
  intro ρ w Γx Λx hs hu hp
  have e121 : ρ 17 = .bool x27 := (hp 4 rfl).1
  refine WL.pass ((wanted_of rfl rfl (bool_tr e121 hc28)).trans rfl) rfl ?_
  exact WL.nil ⟨rfl, _, rfl, rfl, hs.cutG 0 0⟩ }
  {
  intro ρ w Γx Λx hs hu hp
  have e122 : ρ 20 = undef := (hp 7 rfl).1
  have e123 : ρ 17 = .bool x27 := (hp 4 rfl).1
  refine WL.pass ((wanted_of rfl rfl (bool_tr e123 hc28)).trans rfl) rfl ?_
  exact WL.nil ⟨rfl, _, rfl, rfl, hs.cutG 0 0⟩ }
  {
  intro ρ w Γx Λx hs hu hp
  have e124 : ρ 19 = undef := (hp 6 rfl).1
  have e125 : ρ 21 = undef := (hp 8 rfl).1
  have e126 : ρ 17 = .bool x27 := (hp 4 rfl).1
  refine WL.pass ((wanted_of rfl rfl (bool_tr e126 hc28)).trans rfl) rfl ?_
  exact WL.nil ⟨rfl, _, rfl, rfl, hs.cutG 0 0⟩ }
  {
  intro ρ w Γx Λx hs hu hp
  have e127 : ρ 17 = .bool x27 := (hp 4 rfl).1
  have e128 : ρ 22 = undef := (hp 9 rfl).1
  refine WL.pickF (v := .bool false) (bool_tr e127 hc28) rfl ?_
  exact WL.nil ⟨rfl, _, rfl, rfl, hs.cutG 0 0⟩ }
  {
  intro ρ w Γx Λx hs hu hp
  have e129 : ρ 23 = .bool false := (hp 10 rfl).1
  refine WL.move (v := .bool false) e129 ?_
  exact WL.nil ⟨rfl, _, rfl, rfl, hs.cutG 0 0⟩ }
  {
  intro ρ w Γx Λx hs hu hp
  have e130 : ρ 24 = .bool false := (hp 11 rfl).1
  refine WL.pass ((wanted_of rfl rfl e130).trans rfl) rfl ?_
  exact WL.nil ⟨rfl, _, rfl, rfl, hs.cutG 0 0⟩ }
  {
  intro ρ w Γx Λx hs hu hp
  have e131 : ρ 24 = .bool false := (hp 11 rfl).1
  have e132 : ρ 25 = undef := (hp 12 rfl).1
  refine WL.pickF (v := .bool false) e131 rfl ?_
  exact WL.nil ⟨rfl, _, rfl, rfl, hs.cutG 0 0⟩ }
  {
  intro ρ w hs hu133 hp
  obtain ⟨⟨⟨⟨⟨⟨⟨⟨⟨⟨⟨⟨⟨⟨_, hp0_⟩, hp1_⟩, hp2_⟩, hp3_⟩, hp4_⟩, hp5_⟩, hp6_⟩, hp7_⟩, hp8_⟩, hp9_⟩, hp10_⟩, hp11_⟩, hp12_⟩, hp13_⟩ := hp
  have hs : St ok (bz w0) w [vl t_fold_Store x24 (ρ 15), vl t_fold_Store x16 (.agg cs17.toArray), vl (tSlice t_api_Update) x11 (.slice a12 x11.length c14), vl (tSlice t_api_Update) x7 (.slice a8 x7.length c10), vl (tSlice (tInt .i64)) x1 (.slice a2 x1.length c3)] [blk g19 29 cs17] := hs
  have e134 : ρ 26 = .bool false := hp13_
  have e135 : ρ 25 = undef := hp12_
  have e136 : ρ 24 = .bool false := hp11_
  have e137 : ρ 23 = .bool false := hp10_
  have e138 : ρ 22 = undef := hp9_
  have e139 : ρ 21 = undef := hp8_
  have e140 : ρ 20 = undef := hp7_
  have e141 : ρ 19 = undef := hp6_
  have e142 : ρ 18 = undef := hp5_
  have e143 : ρ 17 = .bool x27 := hp4_
  have e144 : ρ 16 = .bool x27 := hp3_
  obtain ⟨cs145, e147⟩ := hp2_
  have e147 : ρ 15 = .agg cs145.toArray := e147
  try rw [e147] at hs
  have e148 : ρ 14 = .slice a12 x11.length c14 := hp1_
  have e149 : ρ 13 = .agg cs17.toArray := hp0_
  have hl146 := hs.agglen (n := 1) 0 rfl rfl rfl
  refine WA.step [14] (by kernel_rfl) (by simp) ⟨?_, trivial⟩
  refine WL.assign (v := .bool false) e134 ?_
  refine WL.nil ⟨rfl, _, rfl, ?_⟩
  refine WA.done (by kernel_rfl) ?_
  exact Jk23 false _ _ rfl ((hs.mask []).pick []) hf } }
end Go.Proofs.Ytlbcfjblpopcnaa
set_option linter.unusedVariables false
set_option linter.unusedSimpArgs false
namespace Go.Proofs.Ytlbcfjblpopcnaa
open Go Go.Proofs.YtlbcfjblpopcnaaL
theorem Index_ex (n k : Int) (h1 : 1 ≤ k) (h2 : k ≤ 4611686018427387904) : ∃ d, eslaw00_Index n k = some d ∧ 0 ≤ d ∧ d < k := by
  unfold eslaw00_Index
  rw [if_neg (by simp; omega), if_pos (by omega)]
  have e1 : Int.tmod n k < k := Int.tmod_lt_of_pos _ (by omega)
  have e2 : -k < Int.tmod n k := by
    have : Int.tmod (-n) k < k := Int.tmod_lt_of_pos _ (by omega)
    rw [Int.neg_tmod] at this
    omega
  simp only [letV_of]
  rw [w64 (by omega) (by omega), if_pos (by omega)]
  exact ⟨_, rfl, Int.tmod_nonneg _ (by omega), Int.tmod_lt_of_pos _ (by omega)⟩
theorem Digit_ex (n b : Int) (i : Nat) (h1 : 2 ≤ b) (h2 : b ≤ 16) (hi : i ≤ 100000) : ∃ d, eslaw00_Digit n b (i : Int) = some d ∧ 0 ≤ d ∧ d < b := by
  obtain ⟨x, hx, hx0, hx1⟩ := Index_ex n 1099511627776 (by decide) (by decide)
  unfold eslaw00_Digit
  rw [hx]
  simp only [Option.bind_some]
  have key : ∃ r, loopO (eslaw00_Digit.l1 b (i : Int)) (x, 0) = some r ∧ 0 ≤ r := by
    refine loopO_inv (fun k s => ∃ y : Int, s = (y, (k : Int)) ∧ 0 ≤ y ∧ y < 1099511627776) i ⟨x, rfl, hx0, hx1⟩ (fun k s hk hI => ?_) (fun s hI => ?_)
    · obtain ⟨y, rfl, h3, h4⟩ := hI
      simp only [eslaw00_Digit.l1]
      rw [if_pos (by simpa using hk), if_pos (by omega)]
      have h5 : 0 ≤ Int.tdiv y b := Int.tdiv_nonneg h3 (by omega)
      have h6 : Int.tdiv y b ≤ y := by
        rw [Int.tdiv_eq_ediv_of_nonneg h3]
        exact Int.ediv_le_self _ h3
      simp only [letV_of]
      rw [w64 (x := Int.tdiv y b) (by omega) (by omega), wcast hk (by omega)]
      exact ⟨_, rfl, _, rfl, h5, by omega⟩
    · obtain ⟨y, rfl, h3, h4⟩ := hI
      simp only [eslaw00_Digit.l1]
      rw [if_neg (by simp)]
      exact ⟨_, rfl, h3⟩
  obtain ⟨r, hr, hr0⟩ := key
  rw [hr]
  simp only [Option.bind_some, eslaw00_Digit.j1]
  rw [if_pos (by omega)]
  exact ⟨_, rfl, Int.tmod_nonneg _ hr0, Int.tmod_lt_of_pos _ (by omega)⟩
theorem name_ex (d : Int) : ∃ s, eslaw00_name d = some s ∧ s.length ≤ 2 ∧ s ≠ [] := by
  unfold eslaw00_name
  obtain ⟨x, hx, h0, h1⟩ := Index_ex d 4 (by decide) (by decide)
  rw [hx, Option.bind_some]
  have : x = 0 ∨ x = 1 ∨ x = 2 ∨ x = 3 := by omega
  rcases this with rfl | rfl | rfl | rfl
  · exact ⟨[97], rfl, by decide, by decide⟩
  · exact ⟨[98], rfl, by decide, by decide⟩
  · exact ⟨[99], rfl, by decide, by decide⟩
  · exact ⟨[120, 49], rfl, by decide, by decide⟩
end Go.Proofs.Ytlbcfjblpopcnaa
set_option linter.unusedVariables false
set_option linter.unusedSimpArgs false
namespace Go.Proofs.Ytlbcfjblpopcnaa
open Go Go.Proofs.YtlbcfjblpopcnaaL
structure GD (n : Nat) (objs : List fold_Object) : Prop where
  asc : SA ON_ objs
  len : objs.length ≤ n
  name : ∀ o ∈ objs, o.Name.length ≤ 1000
  ne : ∀ o ∈ objs, o.Fields ≠ []
  fasc : ∀ o ∈ objs, SA FN_ o.Fields
  flen : ∀ o ∈ objs, o.Fields.length ≤ n
  good : ∀ o ∈ objs, ∀ y ∈ o.Fields, GF n y
theorem GD.mono {n m : Nat} {objs : List fold_Object} (h : GD n objs) (hm : n ≤ m) : GD m objs :=
  ⟨h.asc, Nat.le_trans h.len hm, h.name, h.ne, h.fasc, fun o ho => Nat.le_trans (h.flen o ho) hm, fun o ho y hy => (h.good o ho y hy).mono hm⟩
theorem GD_nil (n : Nat) : GD n [] := ⟨List.Pairwise.nil, Nat.zero_le _, by simp, by simp, by simp, by simp, by simp⟩
def appT (u : api_Update) (objs : List fold_Object) : List fold_Object := u.Effects.foldl (effT u) objs
def foldT (s : List api_Update) (objs : List fold_Object) : List fold_Object := s.foldl (fun o u => appT u o) objs
theorem apply_ex {u : api_Update} {n : Nat} {x : fold_B} (h : BI n x) (he : ∀ e ∈ u.Effects, EF e) (hn : n + u.Effects.length ≤ 1000000) :
    ∃ x', fold_apply u x = some x' ∧ BI (n + u.Effects.length) x' ∧ canonB x' = appT u (canonB x) := by
  unfold fold_apply
  refine loopO_inv (I := fun k s => s.1 = (k : Int) ∧ BI (n + k) s.2 ∧ canonB s.2 = (u.Effects.take k).foldl (effT u) (canonB x)) u.Effects.length ⟨rfl, h, rfl⟩ ?_ ?_
  · rintro k ⟨i, y⟩ hk ⟨hi, h1, h2⟩
    simp only at hi h1 h2
    subst hi
    obtain ⟨x', e1, e2, e3⟩ := eff_eq (u := u) h1 (he _ (List.getElem_mem hk)) (by omega)
    refine ⟨(((k + 1 : Nat) : Int), x'), ?_, rfl, e2, ?_⟩
    · unfold fold_apply.l1
      simp only [lt_of_len hk, if_true, idx_nat hk, Option.bind_some, e1, letV, wcast hk (by omega)]
    · rw [take_snoc hk, List.foldl_append, ← h2, e3]
      rfl
  · rintro ⟨i, y⟩ ⟨hi, h1, h2⟩
    simp only at hi h1 h2
    subst hi
    rw [List.take_length] at h2
    refine ⟨y, ?_, h1, h2⟩
    unfold fold_apply.l1
    simp only [not_lt_len, Bool.false_eq_true, if_false]
theorem clone_eq {l : List (List UInt8)} (h : l.length ≤ 1000000) : slices_Clone_string l = some l := by
  unfold slices_Clone_string
  rw [app_of (by simp; omega)]
  rfl
theorem names_ne {α : Type} {key : α → List UInt8} {l : List α} (h : SA key l) : (l.map key).Nodup := by
  refine List.pairwise_map.2 (h.imp fun {a b} hab e => ?_)
  rw [e, bl_irrefl] at hab
  cases hab
def loaded (objs : List fold_Object) : fold_B := objs.map fun o => (o.Name, o.Fields)
theorem load_fields {n : Nat} {o : fold_Object} (h1 : SA FN_ o.Fields) (h2 : o.Fields.length ≤ n) (h3 : ∀ y ∈ o.Fields, GF n y) (hn : n ≤ 1000000) : loopO (fold_load.l1 o) (0, []) = some o.Fields := by
  have := loopO_up (step := fold_load.l1 o) (fun k => ((k : Int), o.Fields.take k)) o.Fields.length (b := o.Fields) (fun k hk => ?_) ?_
  · exact this
  · have hg := h3 _ (List.getElem_mem hk)
    unfold fold_load.l1
    simp only [lt_of_len hk, if_true, idx_nat hk, Option.bind_some]
    rw [clone_eq (by have := hg.len; omega), Option.bind_some, letV, wcast hk (by omega)]
    have e : fput fold_Field.Name o.Fields[k] (o.Fields.take k) = o.Fields.take (k + 1) := by
      rw [take_snoc hk, fput_none]
      rw [List.find?_eq_none]
      intro y hy
      obtain ⟨j, hj, rfl⟩ := List.getElem_of_mem hy
      rw [List.length_take] at hj
      have := List.pairwise_iff_getElem.1 h1 j k (by omega) hk (by omega)
      rw [List.getElem_take]
      intro he
      have he : o.Fields[k].Name = (o.Fields[j]'(by omega)).Name := by simpa using he
      have this : Op.bytesLess (o.Fields[j]'(by omega)).Name o.Fields[k].Name = true := this
      rw [he, bl_irrefl] at this
      cases this
    rw [show ({ o.Fields[k] with Elems := o.Fields[k].Elems } : fold_Field) = o.Fields[k] from rfl, e]
  · unfold fold_load.l1
    simp only [not_lt_len, Bool.false_eq_true, if_false, List.take_length]
theorem load_eq {n : Nat} {t : fold_Store} (h : GD n t.Objects) (hn : n ≤ 1000000) : fold_load t = some (loaded t.Objects) := by
  unfold fold_load
  have hlen := h.len
  have := loopO_up (step := fold_load.l2 t) (fun k => ((k : Int), loaded (t.Objects.take k))) t.Objects.length (b := loaded t.Objects) (fun k hk => ?_) ?_
  · exact this
  · have hm := List.getElem_mem hk
    unfold fold_load.l2
    simp only [lt_of_len hk, if_true, idx_nat hk, Option.bind_some]
    rw [load_fields (h.fasc _ hm) (h.flen _ hm) (h.good _ hm) hn, Option.bind_some, letV, wcast hk (by omega)]
    have e : mset (loaded (t.Objects.take k)) t.Objects[k].Name t.Objects[k].Fields = loaded (t.Objects.take (k + 1)) := by
      unfold loaded
      rw [take_snoc hk, List.map_append, mset_none]
      · rfl
      · cases hl : (List.map (fun o : fold_Object => (o.Name, o.Fields)) (List.take k t.Objects)).lookup t.Objects[k].Name with
        | none => rfl
        | some fs =>
          exfalso
          obtain ⟨o, ho, he⟩ := List.mem_map.1 (lookup_mem hl)
          have he : o.Name = t.Objects[k].Name := congrArg Prod.fst he
          obtain ⟨j, hj, rfl⟩ := List.getElem_of_mem ho
          rw [List.length_take] at hj
          have := List.pairwise_iff_getElem.1 h.asc j k (by omega) hk (by omega)
          rw [List.getElem_take] at he
          have this : Op.bytesLess (t.Objects[j]'(by omega)).Name t.Objects[k].Name = true := this
          rw [he, bl_irrefl] at this
          cases this
    rw [e]
  · unfold fold_load.l2
    simp only [not_lt_len, Bool.false_eq_true, if_false, List.take_length]
theorem BI_loaded {n : Nat} {objs : List fold_Object} (h : GD n objs) : BI n (loaded objs) := by
  have hm : ∀ o ∈ loaded objs, ∃ p ∈ objs, o = (p.Name, p.Fields) := fun o ho => by
    obtain ⟨p, hp, rfl⟩ := List.mem_map.1 ho
    exact ⟨p, hp, rfl⟩
  refine ⟨?_, by unfold loaded; rw [List.length_map]; exact h.len, fun o ho => ?_, fun o ho => ?_, fun o ho => ?_, fun o ho => ?_, fun o ho => ?_⟩
  · unfold loaded
    rw [List.map_map]
    exact names_ne h.asc
  all_goals obtain ⟨p, hp, rfl⟩ := hm o ho
  · exact h.name p hp
  · exact h.ne p hp
  · exact names_ne (h.fasc p hp)
  · exact h.flen p hp
  · exact h.good p hp
theorem canonF_self {fs : List fold_Field} (h : SA FN_ fs) : canonF fs = fs := SA_ext (SA_canonF (names_ne h)) h fun k => get_canonF fs k
theorem loaded_lookup (objs : List fold_Object) (k : List UInt8) : (loaded objs).lookup k = (get ON_ objs k).map (·.Fields) := by
  induction objs with
  | nil => rfl
  | cons a objs ih =>
    unfold loaded at ih ⊢
    rw [List.map_cons, List.lookup_cons, get_cons]
    by_cases h : ON_ a = k
    · rw [if_pos h, show (k == a.Name) = true by rw [← h]; simp]
      rfl
    · rw [if_neg h, show (k == a.Name) = false by rw [beq_eq_false_iff_ne]; exact fun e => h e.symm]
      exact ih
theorem canon_loaded {n : Nat} {objs : List fold_Object} (h : GD n objs) : canonB (loaded objs) = objs := by
  refine SA_ext (SA_canonB (BI_loaded h).keys) h.asc fun k => ?_
  rw [get_canonB, loaded_lookup]
  cases hg : get ON_ objs k with
  | none => rfl
  | some o =>
    show some (⟨k, canonF o.Fields⟩ : fold_Object) = some o
    rw [canonF_self (h.fasc o (get_mem hg)), ← get_key hg]
theorem canonF_mem {fs : List fold_Field} {y : fold_Field} (h : y ∈ canonF fs) : y ∈ fs := by
  unfold canonF at h
  obtain ⟨n, hn, rfl⟩ := List.mem_map.1 h
  rw [mem_srt, get_names] at hn
  cases hg : get FN_ fs n with
  | none => rw [hg] at hn; cases hn
  | some y => exact get_mem hg
theorem GD_canon {n : Nat} {x : fold_B} (h : BI n x) : GD n (canonB x) := by
  have hm : ∀ o ∈ canonB x, ∃ fs, (o.Name, fs) ∈ x ∧ o.Fields = canonF fs := by
    intro o ho
    have hg := get_mem_self (SA_canonB h.keys) ho
    rw [get_canonB] at hg
    cases hl : x.lookup (ON_ o) with
    | none => rw [hl] at hg; cases hg
    | some fs =>
      rw [hl] at hg
      have := Option.some.inj hg
      exact ⟨fs, lookup_mem hl, by rw [← this]⟩
  refine ⟨SA_canonB h.keys, ?_, fun o ho => ?_, fun o ho => ?_, fun o ho => ?_, fun o ho => ?_, fun o ho y hy => ?_⟩
  · unfold canonB
    rw [List.length_map, List.length_mergeSort, List.length_map]
    exact h.len
  all_goals obtain ⟨fs, h1, h2⟩ := hm o ho
  · exact h.name _ h1
  · rw [h2]
    intro he
    have := congrArg List.length he
    unfold canonF at this
    rw [List.length_map, List.length_mergeSort, List.length_map] at this
    exact h.ne _ h1 (List.length_eq_zero_iff.1 this)
  · rw [h2]; exact SA_canonF (h.names _ h1)
  · rw [h2]
    unfold canonF
    rw [List.length_map, List.length_mergeSort, List.length_map]
    exact h.flen _ h1
  · rw [h2] at hy
    exact h.good _ h1 y (canonF_mem hy)
theorem Apply_eq {n : Nat} {t : fold_Store} {u : api_Update} (h : GD n t.Objects) (he : ∀ e ∈ u.Effects, EF e) (hn : n + u.Effects.length ≤ 1000000) :
    fold_Apply t u = some ⟨appT u t.Objects⟩ ∧ GD (n + u.Effects.length) (appT u t.Objects) := by
  unfold fold_Apply
  obtain ⟨x', e1, e2, e3⟩ := apply_ex (u := u) (BI_loaded h) he hn
  rw [canon_loaded h] at e3
  rw [load_eq h (by omega), Option.bind_some, e1, Option.bind_some, fold_store_eq e2 hn, e3]
  exact ⟨rfl, e3 ▸ GD_canon e2⟩
end Go.Proofs.Ytlbcfjblpopcnaa
set_option linter.unusedVariables false
set_option linter.unusedSimpArgs false
namespace Go.Proofs.Ytlbcfjblpopcnaa
open Go Go.Proofs.YtlbcfjblpopcnaaL
def effN (s : List api_Update) : Nat := (s.map fun u => u.Effects.length).sum
theorem Fold_eq {s : List api_Update} (he : ∀ u ∈ s, ∀ e ∈ u.Effects, EF e) (hn : effN s ≤ 1000000) (hl : s.length ≤ 1000000) :
    fold_Fold s = some ⟨foldT s []⟩ ∧ GD (effN s) (foldT s []) := by
  unfold fold_Fold
  have key : ∃ b, loopO (fold_Fold.l1 s) (0, []) = some b ∧ BI (effN s) b ∧ canonB b = foldT s [] := by
    have hsum : ∀ k, k ≤ s.length → effN (s.take k) ≤ effN s := by
      intro k hk
      unfold effN
      have : s.map (fun u => u.Effects.length) = (s.take k).map (fun u => u.Effects.length) ++ (s.drop k).map (fun u => u.Effects.length) := by rw [← List.map_append, List.take_append_drop]
      rw [this, List.sum_append]
      omega
    refine loopO_inv (I := fun k s' => s'.1 = (k : Int) ∧ BI (effN (s.take k)) s'.2 ∧ canonB s'.2 = foldT (s.take k) []) s.length ⟨rfl, ?_, ?_⟩ ?_ ?_
    · exact ⟨List.nodup_nil, Nat.zero_le _, by simp, by simp, by simp, by simp, by simp⟩
    · simp [canonB, srtN, foldT]
    · rintro k ⟨i, y⟩ hk ⟨hi, h1, h2⟩
      simp only at hi h1 h2
      subst hi
      have hs := hsum (k + 1) hk
      have es : effN (s.take (k + 1)) = effN (s.take k) + s[k].Effects.length := by
        unfold effN
        rw [take_snoc hk, List.map_append, List.sum_append]
        simp
      obtain ⟨x', e1, e2, e3⟩ := apply_ex (u := s[k]) h1 (he _ (List.getElem_mem hk)) (by omega)
      refine ⟨(((k + 1 : Nat) : Int), x'), ?_, rfl, by rw [es]; exact e2, ?_⟩
      · unfold fold_Fold.l1
        simp only [lt_of_len hk, if_true, idx_nat hk, Option.bind_some, e1, letV, wcast hk (by omega)]
      · show canonB x' = _
        rw [e3, h2, take_snoc hk]
        unfold foldT
        rw [List.foldl_append]
        rfl
    · rintro ⟨i, y⟩ ⟨hi, h1, h2⟩
      simp only at hi h1 h2
      subst hi
      rw [List.take_length] at h1 h2
      refine ⟨y, ?_, h1, h2⟩
      unfold fold_Fold.l1
      simp only [not_lt_len, Bool.false_eq_true, if_false]
  obtain ⟨b, e1, e2, e3⟩ := key
  rw [e1, Option.bind_some, fold_store_eq e2 hn, e3]
  exact ⟨rfl, e3 ▸ GD_canon e2⟩
theorem GD_one {n : Nat} {objs : List fold_Object} (h : GD n objs) {o : fold_Object} (ho : o ∈ objs) : GD n [o] := by
  refine ⟨List.pairwise_singleton _ _, ?_, ?_, ?_, ?_, ?_, ?_⟩
  · have := List.length_pos_of_mem ho
    have := h.len
    simp only [List.length_singleton]
    omega
  all_goals intro p hp; simp at hp; subst hp
  · exact h.name _ ho
  · exact h.ne _ ho
  · exact h.fasc _ ho
  · exact h.flen _ ho
  · exact h.good _ ho
end Go.Proofs.Ytlbcfjblpopcnaa
set_option linter.unusedVariables false
set_option linter.unusedSimpArgs false
namespace Go.Proofs.Ytlbcfjblpopcnaa
open Go Go.Proofs.YtlbcfjblpopcnaaL
theorem Effect_ex (n : Int) (b : Bool) : ∃ e, eslaw00_Effect n b = some e ∧ EF e ∧ (b = false → e.Kind ≠ 1) := by
  unfold eslaw00_Effect
  obtain ⟨d1, e1, _⟩ := Digit_ex n 4 1 (by decide) (by decide) (by decide)
  obtain ⟨s1, f1, l1, _⟩ := name_ex d1
  obtain ⟨d2, e2, _⟩ := Digit_ex n 4 2 (by decide) (by decide) (by decide)
  obtain ⟨s2, f2, l2, _⟩ := name_ex d2
  obtain ⟨d3, e3, _⟩ := Digit_ex n 16 3 (by decide) (by decide) (by decide)
  obtain ⟨d5, e5, _⟩ := Digit_ex n 4 5 (by decide) (by decide) (by decide)
  obtain ⟨s5, f5, l5, _⟩ := name_ex d5
  obtain ⟨d0, e0, _⟩ := Digit_ex n 4 0 (by decide) (by decide) (by decide)
  have e1 : eslaw00_Digit n 4 1 = some d1 := e1
  have e2 : eslaw00_Digit n 4 2 = some d2 := e2
  have e3 : eslaw00_Digit n 16 3 = some d3 := e3
  have e5 : eslaw00_Digit n 4 5 = some d5 := e5
  have e0 : eslaw00_Digit n 4 0 = some d0 := e0
  simp only [e1, f1, e2, f2, e3, e5, f5, e0, Option.bind_some, letV_of, eslaw00_Effect.j1]
  have m1 : s1.length ≤ 1000 := by omega
  have m2 : s2.length ≤ 1000 := by omega
  have m5 : s5.length ≤ 1000 := by omega
  cases b with
  | true => exact ⟨_, rfl, ⟨m1, m2, m5⟩, by simp⟩
  | false =>
    simp only [Bool.false_eq_true, if_false]
    split
    · exact ⟨_, rfl, ⟨m1, m2, by simp⟩, by simp⟩
    · split
      · exact ⟨_, rfl, ⟨m1, m2, by simp⟩, by simp⟩
      · split
        · exact ⟨_, rfl, ⟨m1, m2, m5⟩, by simp⟩
        · exact ⟨_, rfl, ⟨m1, m2, by simp⟩, by simp⟩
structure UOK (u : api_Update) : Prop where
  len : u.Effects.length ≤ 4
  ef : ∀ e ∈ u.Effects, EF e
  one : u.Effects.length ≤ 1 ∨ ∀ e ∈ u.Effects, e.Kind ≠ 1
theorem Update_ex (c s n : Int) : ∃ u, eslaw00_Update c s n = some u ∧ u.Client = c ∧ u.Seq = s ∧ UOK u := by
  unfold eslaw00_Update
  obtain ⟨d8, e8, _⟩ := Digit_ex n 3 8 (by decide) (by decide) (by decide)
  obtain ⟨d4, e4, _⟩ := Digit_ex n 16 4 (by decide) (by decide) (by decide)
  obtain ⟨ef, hef, hE, _⟩ := Effect_ex n true
  have e8 : eslaw00_Digit n 3 8 = some d8 := e8
  have e4 : eslaw00_Digit n 16 4 = some d4 := e4
  simp only [e8, Option.bind_some]
  split
  · simp only [e4, hef, Option.bind_some]
    refine ⟨_, rfl, rfl, rfl, ⟨by simp, fun e he => ?_, .inl (by simp)⟩⟩
    simp at he
    subst he
    exact hE
  · obtain ⟨d9, e9, h90, h91⟩ := Digit_ex n 3 9 (by decide) (by decide) (by decide)
    have e9 : eslaw00_Digit n 3 9 = some d9 := e9
    have key : ∃ l, loopO (eslaw00_Update.l1 n) (0, []) = some l ∧ (l.length ≤ 4 ∧ ∀ e ∈ l, EF e ∧ e.Kind ≠ 1) := by
      refine loopO_mu (fun s : Int × List api_Effect => 0 ≤ s.1 ∧ s.1 ≤ 3 ∧ s.2.length ≤ s.1.toNat ∧ ∀ e ∈ s.2, EF e ∧ e.Kind ≠ 1) (fun s => (4 - s.1).toNat) ⟨by decide, by decide, by simp, by simp⟩ ?_
      rintro ⟨i, l⟩ ⟨h0, h1, h2, h3⟩
      simp only at h0 h1 h2 h3
      unfold eslaw00_Update.l1
      simp only [e9, Option.bind_some]
      by_cases hc : i ≤ d9
      · rw [if_pos (by simpa using hc)]
        obtain ⟨x, hx, hx0, hx1⟩ := Index_ex n 1099511627776 (by decide) (by decide)
        simp only [hx, Option.bind_some, letV_of]
        rw [w64 (x := i + 1) (by omega) (by omega), if_pos (by omega)]
        obtain ⟨e, he, hE, hk⟩ := Effect_ex (IntKind.i64.wrap (Int.tdiv x (i + 1))) false
        rw [he, Option.bind_some, app_of (by simp only [List.length_singleton]; omega), Option.bind_some]
        refine .inl ⟨_, rfl, ⟨by omega, by omega, ?_, fun q hq => ?_⟩, by simp only; omega⟩
        · simp only [List.length_append, List.length_singleton]; omega
        · rcases List.mem_append.1 hq with hq | hq
          · exact h3 q hq
          · simp at hq; subst hq; exact ⟨hE, hk rfl⟩
      · rw [if_neg (by simpa using hc)]
        exact .inr ⟨l, rfl, by omega, h3⟩
    obtain ⟨l, hl, h1, h2⟩ := key
    rw [hl, Option.bind_some]
    exact ⟨_, rfl, rfl, rfl, ⟨h1, fun e he => (h2 e he).1, .inr fun e he => (h2 e he).2⟩⟩
def ult (a b : api_Update) : Prop := a.Client < b.Client ∨ a.Client = b.Client ∧ a.Seq < b.Seq
structure US (c q : Int) (s : List api_Update) : Prop where
  ok : ∀ u ∈ s, UOK u
  cl : ∀ u ∈ s, 101 ≤ u.Client ∧ (u.Client < 101 + c ∨ u.Client = 101 + c ∧ u.Seq ≤ q)
  sq : ∀ u ∈ s, 1 ≤ u.Seq ∧ u.Seq ≤ 8
  asc : s.Pairwise ult
  len : (s.length : Int) ≤ 8 * c + q
theorem Updates_ex (l : List Int) : ∃ s, eslaw00_Updates l = some s ∧ US 3 0 s := by
  unfold eslaw00_Updates
  have key : ∃ s, loopO (eslaw00_Updates.l2 l) ([], 0) = some s ∧ US 3 0 s := by
    refine loopO_inv (I := fun k s => s.2 = (k : Int) ∧ US (k : Int) 0 s.1) 3 ⟨rfl, ⟨by simp, by simp, by simp, List.Pairwise.nil, by simp⟩⟩ ?_ ?_
    · rintro k ⟨s, c⟩ hk ⟨hc, hU⟩
      simp only at hc hU
      subst hc
      unfold eslaw00_Updates.l2
      simp only
      rw [if_pos (by rw [decide_eq_true_eq]; omega)]
      have inner : ∃ s', loopO (eslaw00_Updates.l1 l (k : Int)) (s, 0, 0) = some s' ∧ US ((k : Int) + 1) 0 s' := by
        refine loopO_mu (fun t : List api_Update × Int × Int => 0 ≤ t.2.2 ∧ t.2.2 ≤ 24 ∧ 0 ≤ t.2.1 ∧ t.2.1 ≤ 8 ∧ US (k : Int) t.2.1 t.1) (fun t => (25 - t.2.2).toNat) ⟨Int.le_refl 0, (by decide : (0 : Int) ≤ 24), Int.le_refl 0, (by decide : (0 : Int) ≤ 8), hU⟩ ?_
        rintro ⟨s, q, i⟩ ⟨h0, h1, h2, h3, hU⟩
        simp only at h0 h1 h2 h3 hU
        have stop : US ((k : Int) + 1) 0 s := ⟨hU.ok, fun u hu => ⟨(hU.cl u hu).1, .inl (by rcases (hU.cl u hu).2 with h | h <;> omega)⟩, hU.sq, hU.asc, by have := hU.len; omega⟩
        unfold eslaw00_Updates.l1
        simp only
        have next : ∀ (s' : List api_Update) (q' : Int), 0 ≤ q' → q' ≤ 8 → US (k : Int) q' s' → i < 24 → (∃ t, eslaw00_Updates.j3 i s' q' = some (.inl t) ∧ (0 ≤ t.2.2 ∧ t.2.2 ≤ 24 ∧ 0 ≤ t.2.1 ∧ t.2.1 ≤ 8 ∧ US (k : Int) t.2.1 t.1) ∧ (25 - t.2.2).toNat < (25 - i).toNat) := by
          intro s' q' hq0 hq1 hU' hi
          unfold eslaw00_Updates.j3
          rw [letV_of, w64 (x := i + 1) (by omega) (by omega)]
          exact ⟨_, rfl, ⟨by simp only; omega, by simp only; omega, hq0, hq1, hU'⟩, by simp only; omega⟩
        by_cases hi1 : i < (l.length : Int)
        · rw [if_pos (by simpa using hi1)]
          by_cases hi2 : i < 24
          · rw [show decide (i < 24) = true by simpa using hi2]
            unfold eslaw00_Updates.j5
            rw [if_pos rfl]
            obtain ⟨j, rfl⟩ : ∃ j : Nat, i = j := ⟨i.toNat, by omega⟩
            have hj : j < l.length := by omega
            rw [idx_nat hj, Option.bind_some]
            obtain ⟨d, hd, hd0, hd1⟩ := Digit_ex l[j] 3 0 (by decide) (by decide) (by decide)
            have hd : eslaw00_Digit l[j] 3 0 = some d := hd
            rw [hd, Option.bind_some]
            have skip := next s q h2 h3 hU hi2
            have j4f : eslaw00_Updates.j4 l (k : Int) s q (j : Int) false = eslaw00_Updates.j3 (j : Int) s q := by
              unfold eslaw00_Updates.j4
              rw [if_neg (by simp)]
            split
            · by_cases hq : q < 8
              · rw [show decide (q < 8) = true by simpa using hq]
                unfold eslaw00_Updates.j4
                rw [if_pos rfl, letV_of, letV_of, idx_nat hj, Option.bind_some]
                obtain ⟨x, hx, hx0, hx1⟩ := Index_ex l[j] 1099511627776 (by decide) (by decide)
                rw [hx, Option.bind_some, letV_of]
                rw [w64 (x := 101 + (k : Int)) (by omega) (by omega), w64 (x := q + 1) (by omega) (by omega)]
                obtain ⟨u, hu, huc, hus, hok⟩ := Update_ex (101 + (k : Int)) (q + 1) (IntKind.i64.wrap (Int.tdiv x 3))
                have hlen := hU.len
                rw [hu, Option.bind_some, app_of (by simp only [List.length_singleton]; omega), Option.bind_some]
                refine .inl (next _ (q + 1) (by omega) (by omega) ?_ hi2)
                have eu : (⟨u.Client, u.Seq, u.Tag, u.Effects⟩ : api_Update) = u := rfl
                rw [eu]
                refine ⟨fun v hv => ?_, fun v hv => ?_, fun v hv => ?_, ?_, by simp only [List.length_append, List.length_singleton]; omega⟩
                · rcases List.mem_append.1 hv with hv | hv
                  · exact hU.ok v hv
                  · simp at hv; subst hv; exact hok
                · rcases List.mem_append.1 hv with hv | hv
                  · obtain ⟨a, b⟩ := hU.cl v hv
                    exact ⟨a, by rcases b with b | b <;> omega⟩
                  · simp at hv; subst hv; rw [huc, hus]; omega
                · rcases List.mem_append.1 hv with hv | hv
                  · exact hU.sq v hv
                  · simp at hv; subst hv; rw [hus]; omega
                · rw [List.pairwise_append]
                  refine ⟨hU.asc, List.pairwise_singleton _ _, fun a ha b hb => ?_⟩
                  simp at hb; subst hb
                  unfold ult
                  rw [huc, hus]
                  rcases (hU.cl a ha).2 with h | h <;> omega
              · rw [show decide (q < 8) = false by simpa using hq, j4f]
                exact .inl skip
            · rw [j4f]
              exact .inl skip
          · rw [show decide (i < 24) = false by simpa using hi2]
            exact .inr ⟨s, rfl, stop⟩
        · rw [if_neg (by simpa using hi1)]
          exact .inr ⟨s, rfl, stop⟩
      obtain ⟨s', e1, e2⟩ := inner
      rw [e1, Option.bind_some]
      unfold eslaw00_Updates.j2
      rw [letV_of, w64n (by omega)]
      refine ⟨_, rfl, rfl, ?_⟩
      have : ((k + 1 : Nat) : Int) = (k : Int) + 1 := by omega
      rw [this]
      exact e2
    · rintro ⟨s, c⟩ ⟨hc, hU⟩
      simp only at hc hU
      subst hc
      exact ⟨s, rfl, hU⟩
  obtain ⟨s, e1, e2⟩ := key
  rw [e1]
  exact ⟨s, rfl, e2⟩
theorem US_effN {c q : Int} {s : List api_Update} (h : US c q s) : effN s ≤ 4 * s.length := by
  have : ∀ l : List api_Update, (∀ u ∈ l, UOK u) → effN l ≤ 4 * l.length := by
    intro l
    induction l with
    | nil => intro _; exact Nat.zero_le _
    | cons u l ih =>
      intro h
      have h1 := (h u (by simp)).len
      have h2 := ih fun v hv => h v (by simp [hv])
      unfold effN at h2 ⊢
      rw [List.map_cons, List.sum_cons, List.length_cons]
      omega
  exact this s h.ok
theorem US_sub {c q : Int} {s t : List api_Update} (h : US c q s) (ht : t.Sublist s) : US c q t :=
  ⟨fun u hu => h.ok u (ht.subset hu), fun u hu => h.cl u (ht.subset hu), fun u hu => h.sq u (ht.subset hu), h.asc.sublist ht, by have := h.len; have := ht.length_le; omega⟩
theorem Some_ex {s : List api_Update} (h : US 3 0 s) (n : Int) : ∃ p : api_Update → Bool, eslaw00_Some s n = some (s.filter p) := by
  refine ⟨fun u => decide (u.Seq ≤ (eslaw00_Digit n 9 (u.Client - 101)).getD 0), ?_⟩
  obtain ⟨p, hp⟩ : ∃ p : api_Update → Bool, p = fun u => decide (u.Seq ≤ (eslaw00_Digit n 9 (u.Client - 101)).getD 0) := ⟨_, rfl⟩
  rw [← hp]
  unfold eslaw00_Some
  have hlen := h.len
  have := loopO_up (step := eslaw00_Some.l1 s n) (fun k => ((s.take k).filter p, (k : Int))) s.length (b := s.filter p) (fun k hk => ?_) ?_
  · have this : loopO (eslaw00_Some.l1 s n) ([], 0) = some (s.filter p) := this
    rw [this]
    rfl
  · have hm := List.getElem_mem hk
    have hc := h.cl _ hm
    unfold eslaw00_Some.l1
    simp only [lt_of_len hk, if_true, idx_nat hk, Option.bind_some, letV_of]
    rw [w64 (x := s[k].Client - 101) (by omega) (by omega)]
    obtain ⟨d, hd, _⟩ := Digit_ex n 9 (s[k].Client - 101).toNat (by decide) (by decide) (by omega)
    rw [show (((s[k].Client - 101).toNat : Nat) : Int) = s[k].Client - 101 by omega] at hd
    rw [hd, Option.bind_some, take_snoc hk, List.filter_append]
    have ep : p s[k] = decide (s[k].Seq ≤ d) := by rw [hp]; simp only [hd, Option.getD_some]
    have hle : ((s.take k).filter p).length ≤ s.length := Nat.le_trans (List.length_filter_le _ _) (by rw [List.length_take]; omega)
    unfold eslaw00_Some.j2
    by_cases hs : s[k].Seq ≤ d
    · rw [if_pos (by simpa using hs), app_of (by simp only [List.length_singleton]; omega), Option.bind_some, letV_of, wcast hk (by omega)]
      have : [s[k]].filter p = [s[k]] := by rw [List.filter_cons, ep, if_pos (by simpa using hs)]; rfl
      rw [this]
    · rw [if_neg (by simpa using hs), letV_of, wcast hk (by omega)]
      have : [s[k]].filter p = [] := by rw [List.filter_cons, ep, if_neg (by simpa using hs)]; rfl
      rw [this, List.append_nil]
  · unfold eslaw00_Some.l1
    simp only [not_lt_len, Bool.false_eq_true, if_false, List.take_length]
end Go.Proofs.Ytlbcfjblpopcnaa
set_option linter.unusedVariables false
namespace Go.Proofs.Ytlbcfjblpopcnaa
open Go Go.Proofs.YtlbcfjblpopcnaaL
theorem made_fold {s : List api_Update} (h : US 3 0 s) : fold_Fold s = some ⟨foldT s []⟩ ∧ GD 100 (foldT s []) := by
  have h1 := h.len
  have h2 := US_effN h
  obtain ⟨a, b⟩ := Fold_eq (s := s) (fun u hu => (h.ok u hu).ef) (by omega) (by omega)
  exact ⟨a, b.mono (by omega)⟩
end Go.Proofs.Ytlbcfjblpopcnaa
set_option linter.unusedVariables false
set_option linter.unusedSimpArgs false
namespace Go.Proofs.Ytlbcfjblpopcnaa
open Go Go.Proofs.YtlbcfjblpopcnaaL
theorem Find_eq {n : Nat} {t : fold_Store} (h : GD n t.Objects) (hn : n ≤ 1000000) (k : List UInt8) : fold_Find t k = some ((get ON_ t.Objects k).getD ⟨k, []⟩) := by
  unfold fold_Find
  have hlen := h.len
  have key : loopO (fold_Find.l1 t k) 0 = some (match get ON_ t.Objects k with | some o => .inr o | none => .inl ()) := by
    have h1 := loopO_runL (step := fold_Find.l1 t k) (fun i (_ : Unit) => (i : Int)) (fun _ o (_ : Unit) => if o.Name = k then some (.inr (.inr o)) else some (.inl ())) (fun _ => some (.inl ())) t.Objects (fun i hi _ => ?_) (fun _ => ?_) ()
    · have h2 : ∀ (l : List fold_Object) (i : Nat), runL (fun _ (o : fold_Object) (_ : Unit) => if o.Name = k then some (.inr (.inr o : Unit ⊕ fold_Object)) else some (.inl ())) (fun _ => some (.inl ())) i l () = some (match get ON_ l k with | some o => .inr o | none => .inl ()) := by
        intro l
        induction l with
        | nil => intro i; rfl
        | cons o l ih =>
          intro i
          rw [runL, get_cons]
          by_cases he : o.Name = k
          · rw [if_pos he, if_pos he]
          · rw [if_neg he, if_neg he]
            exact ih _
      rw [← h2 t.Objects 0]
      exact h1
    · have hm := List.getElem_mem hi
      unfold fold_Find.l1
      simp only [lt_of_len hi, if_true, idx_nat hi, Option.bind_some]
      by_cases he : t.Objects[i].Name = k
      · rw [if_pos (by simp [he]), if_pos he]
        have hone := GD_one h hm
        rw [load_eq (t := ⟨[t.Objects[i]]⟩) hone hn, Option.bind_some, fold_store_eq (BI_loaded hone) hn, Option.bind_some, canon_loaded hone]
        rfl
      · rw [if_neg (by simpa using he), if_neg he, letV, wcast hi (by omega)]
    · unfold fold_Find.l1
      simp only [not_lt_len, Bool.false_eq_true, if_false]
      rfl
  rw [key, Option.bind_some]
  cases get ON_ t.Objects k with
  | none => rfl
  | some o => rfl
theorem FieldOf_eq {n : Nat} {o : fold_Object} (h1 : o.Fields.length ≤ n) (h2 : ∀ y ∈ o.Fields, GF n y) (hn : n ≤ 1000000) (k : List UInt8) :
    fold_FieldOf o k = some ((get FN_ o.Fields k).getD { fold_zero with Name := k }) := by
  unfold fold_FieldOf
  have key : loopO (fold_FieldOf.l1 o k) (0, (⟨[], (⟨false, 0, 0, 0, 0, []⟩ : fold_Register), false, 0, 0, [], false⟩ : fold_Field)) = some (match get FN_ o.Fields k with | some y => .inr y | none => .inl ⟨[], ⟨false, 0, 0, 0, 0, []⟩, false, 0, 0, [], false⟩) := by
    have h1 := loopO_runL (step := fold_FieldOf.l1 o k) (fun i (z : fold_Field) => ((i : Int), z)) (fun _ y (z : fold_Field) => if y.Name = k then some (.inr (.inr y)) else some (.inl z)) (fun z => some (.inl z)) o.Fields (fun i hi z => ?_) (fun z => ?_) ⟨[], ⟨false, 0, 0, 0, 0, []⟩, false, 0, 0, [], false⟩
    · have h2 : ∀ (l : List fold_Field) (i : Nat) (z : fold_Field), runL (fun _ (y : fold_Field) (z : fold_Field) => if y.Name = k then some (.inr (.inr y : fold_Field ⊕ fold_Field)) else some (.inl z)) (fun z => some (.inl z)) i l z = some (match get FN_ l k with | some y => .inr y | none => .inl z) := by
        intro l
        induction l with
        | nil => intro i z; rfl
        | cons o l ih =>
          intro i z
          rw [runL, get_cons]
          by_cases he : o.Name = k
          · rw [if_pos he, if_pos he]
          · rw [if_neg he, if_neg he]
            exact ih _ z
      rw [← h2 o.Fields 0]
      exact h1
    · have hm := List.getElem_mem hi
      unfold fold_FieldOf.l1
      simp only [lt_of_len hi, if_true, idx_nat hi, Option.bind_some]
      by_cases he : o.Fields[i].Name = k
      · rw [if_pos (by simp [he]), if_pos he, clone_eq (by have := (h2 _ hm).len; omega)]
        rfl
      · rw [if_neg (by simpa using he), if_neg he, letV, wcast hi (by omega)]
    · unfold fold_FieldOf.l1
      simp only [not_lt_len, Bool.false_eq_true, if_false]
      rfl
  rw [key, Option.bind_some]
  cases get FN_ o.Fields k with
  | none => rfl
  | some o => rfl
end Go.Proofs.Ytlbcfjblpopcnaa
set_option linter.unusedVariables false
set_option linter.unusedSimpArgs false
namespace Go.Proofs.Ytlbcfjblpopcnaa
open Go Go.Proofs.YtlbcfjblpopcnaaL
theorem strings_refl {l : List (List UInt8)} (h : l.length ≤ 1000000) : slices_Equal_string l l = some true := by
  unfold slices_Equal_string
  rw [if_neg (by simp)]
  have := loopO_up (step := slices_Equal_string.l1 l l) (fun k => (k : Int)) l.length (b := .inl ()) (fun k hk => ?_) ?_
  · have this : loopO (slices_Equal_string.l1 l l) 0 = some (.inl ()) := this
    rw [this]; rfl
  · unfold slices_Equal_string.l1
    simp only [lt_of_len hk, if_true, idx_nat hk, Option.bind_some, bne_self_eq_false, Bool.false_eq_true, if_false, letV_of, wcast hk (by omega)]
  · unfold slices_Equal_string.l1
    simp only [not_lt_len, Bool.false_eq_true, if_false]
theorem field_refl {n : Nat} {y : fold_Field} (h : GF n y) (hn : n ≤ 1000000) : fold_equalFields y y = some true := by
  unfold fold_equalFields
  have := h.len
  simp only [beq_self_eq_true, if_true, decide_true, strings_refl (show y.Elems.length ≤ 1000000 by omega), Option.bind_some, fold_equalFields.j1]
theorem fields_refl {n : Nat} {l : List fold_Field} (h : ∀ y ∈ l, GF n y) (hl : l.length ≤ n) (hn : n ≤ 1000000) : slices_EqualFunc_Field l l (fun p => fold_equalFields p.1 p.2) = some true := by
  unfold slices_EqualFunc_Field
  rw [if_neg (by simp)]
  have := loopO_up (step := slices_EqualFunc_Field.l1 l l (fun p => fold_equalFields p.1 p.2)) (fun k => (k : Int)) l.length (b := .inl ()) (fun k hk => ?_) ?_
  · have this : loopO (slices_EqualFunc_Field.l1 l l (fun p => fold_equalFields p.1 p.2)) 0 = some (.inl ()) := this
    rw [this]; rfl
  · unfold slices_EqualFunc_Field.l1
    simp only [lt_of_len hk, if_true, idx_nat hk, Option.bind_some, field_refl (h _ (List.getElem_mem hk)) hn, Bool.not_true, Bool.false_eq_true, if_false, letV_of, wcast hk (by omega)]
  · unfold slices_EqualFunc_Field.l1
    simp only [not_lt_len, Bool.false_eq_true, if_false]
theorem object_refl {n : Nat} {o : fold_Object} (h : ∀ y ∈ o.Fields, GF n y) (hl : o.Fields.length ≤ n) (hn : n ≤ 1000000) : fold_equalObjects o o = some true := by
  unfold fold_equalObjects
  simp only [beq_self_eq_true, if_true, fields_refl h hl hn, Option.bind_some, fold_equalObjects.j1]
theorem Equal_refl {n : Nat} {t : fold_Store} (h : GD n t.Objects) (hn : n ≤ 1000000) : fold_Equal t t = some true := by
  unfold fold_Equal slices_EqualFunc_Object
  have hlen := h.len
  rw [if_neg (by simp)]
  have := loopO_up (step := slices_EqualFunc_Object.l1 t.Objects t.Objects (fun p => fold_equalObjects p.1 p.2)) (fun k => (k : Int)) t.Objects.length (b := .inl ()) (fun k hk => ?_) ?_
  · have this : loopO (slices_EqualFunc_Object.l1 t.Objects t.Objects (fun p => fold_equalObjects p.1 p.2)) 0 = some (.inl ()) := this
    rw [this]; rfl
  · have hm := List.getElem_mem hk
    unfold slices_EqualFunc_Object.l1
    simp only [lt_of_len hk, if_true, idx_nat hk, Option.bind_some, object_refl (h.good _ hm) (h.flen _ hm) hn, Bool.not_true, Bool.false_eq_true, if_false, letV_of, wcast hk (by omega)]
  · unfold slices_EqualFunc_Object.l1
    simp only [not_lt_len, Bool.false_eq_true, if_false]
def wU : api_Update := ⟨101, 1, 0, [⟨3, [120], [99], 2, []⟩]⟩
def wV : api_Update := ⟨102, 1, 0, [⟨3, [120], [99], 3, []⟩, ⟨4, [97], [115], 0, [113]⟩]⟩
def wT : List fold_Object := [⟨[97], [⟨[115], ⟨false, 0, 0, 0, 0, []⟩, false, 0, 0, [[113]], false⟩]⟩, ⟨[120], [⟨[99], ⟨false, 0, 0, 0, 0, []⟩, false, 0, 5, [], false⟩]⟩]
theorem wU_ef : ∀ e ∈ wU.Effects, EF e := by
  intro e he
  simp [wU] at he
  subst he
  exact ⟨by decide, by decide, by decide⟩
theorem wV_ef : ∀ e ∈ wV.Effects, EF e := by
  intro e he
  simp [wV] at he
  rcases he with rfl | rfl <;> exact ⟨by decide, by decide, by decide⟩
theorem awake_true : eslaw30_awake = some true := by
  unfold eslaw30_awake
  obtain ⟨e1, g1⟩ := Apply_eq (n := 0) (t := ⟨[]⟩) (u := wV) (GD_nil 0) wV_ef (by decide)
  have e1 : fold_Apply (⟨[]⟩ : fold_Store) (⟨102, 1, 0, [(⟨3, ([120] : List UInt8), ([99] : List UInt8), 3, []⟩ : api_Effect), (⟨4, ([97] : List UInt8), ([115] : List UInt8), 0, ([113] : List UInt8)⟩ : api_Effect)]⟩ : api_Update) = some ⟨appT wV []⟩ := e1
  obtain ⟨e2, g2⟩ := Apply_eq (t := ⟨appT wV []⟩) (u := wU) g1 wU_ef (by decide)
  have ew : appT wU (appT wV []) = wT := by decide
  have ew2 : foldT [wU, wV] [] = wT := by decide
  rw [ew] at e2 g2
  have e2 : fold_Apply ⟨appT wV []⟩ (⟨101, 1, 0, [(⟨3, ([120] : List UInt8), ([99] : List UInt8), 2, []⟩ : api_Effect)]⟩ : api_Update) = some ⟨wT⟩ := e2
  rw [e1, Option.bind_some, e2, Option.bind_some]
  obtain ⟨e3, _⟩ := Fold_eq (s := [wU, wV]) (by
    intro u hu
    simp at hu
    rcases hu with rfl | rfl
    · exact wU_ef
    · exact wV_ef) (by decide) (by decide)
  rw [ew2] at e3
  have e3 : fold_Fold ([(⟨101, 1, 0, [(⟨3, ([120] : List UInt8), ([99] : List UInt8), 2, []⟩ : api_Effect)]⟩ : api_Update), (⟨102, 1, 0, [(⟨3, ([120] : List UInt8), ([99] : List UInt8), 3, []⟩ : api_Effect), (⟨4, ([97] : List UInt8), ([115] : List UInt8), 0, ([113] : List UInt8)⟩ : api_Effect)]⟩ : api_Update)]) = some ⟨wT⟩ := e3
  have e4 := Find_eq (t := ⟨wT⟩) g2 (by decide) [120]
  have e5 : (get ON_ wT [120]).getD ⟨[120], []⟩ = ⟨[120], [⟨[99], ⟨false, 0, 0, 0, 0, []⟩, false, 0, 5, [], false⟩]⟩ := by decide
  rw [show (⟨wT⟩ : fold_Store).Objects = wT from rfl, e5] at e4
  have e6 := FieldOf_eq (n := 1) (o := ⟨[120], [⟨[99], ⟨false, 0, 0, 0, 0, []⟩, false, 0, 5, [], false⟩]⟩) (by decide) (by
    intro y hy
    simp at hy
    subst hy
    exact ⟨by decide, List.Pairwise.nil, by decide, by simp, by decide⟩) (by decide) [99]
  have e7 : (get FN_ [⟨[99], ⟨false, 0, 0, 0, 0, []⟩, false, 0, 5, [], false⟩] [99]).getD { fold_zero with Name := [99] } = ⟨[99], ⟨false, 0, 0, 0, 0, []⟩, false, 0, 5, [], false⟩ := by decide
  rw [show (⟨[120], [⟨[99], ⟨false, 0, 0, 0, 0, []⟩, false, 0, 5, [], false⟩]⟩ : fold_Object).Fields = [⟨[99], ⟨false, 0, 0, 0, 0, []⟩, false, 0, 5, [], false⟩] from rfl, e7] at e6
  have e8 := Equal_refl (t := ⟨wT⟩) g2 (by decide)
  have e9 : fold_Equal ⟨wT⟩ ⟨[]⟩ = some false := by
    unfold fold_Equal slices_EqualFunc_Object
    rw [if_pos (by decide)]
    rfl
  have e10 : fold_Hash ⟨[]⟩ = some 14695981039346656037 := by
    unfold fold_Hash
    rw [loopO_done (b := 14695981039346656037) (by unfold fold_Hash.l3; rfl)]
    rfl
  rw [if_pos (by decide)]
  rw [show idx (⟨wT⟩ : fold_Store).Objects 0 = some ⟨[97], [⟨[115], ⟨false, 0, 0, 0, 0, []⟩, false, 0, 0, [[113]], false⟩]⟩ from rfl, Option.bind_some, if_pos (by decide), e4, Option.bind_some, e6, Option.bind_some, if_pos (by decide), e3, Option.bind_some, e8, Option.bind_some, if_pos rfl, e9, Option.bind_some, if_pos (by decide), e10, Option.bind_some]
  rfl
end Go.Proofs.Ytlbcfjblpopcnaa
set_option linter.unusedVariables false
set_option linter.unusedSimpArgs false
namespace Go.Proofs.Ytlbcfjblpopcnaa
open Go Go.Proofs.YtlbcfjblpopcnaaL
theorem rstrings_refl {l : List (List UInt8)} (h : l.length ≤ 1000000) : esref32_EqualStrings l l = some true := by
  unfold esref32_EqualStrings
  rw [if_neg (by simp)]
  have := loopO_up (step := esref32_EqualStrings.l1 l l) (fun k => (k : Int)) l.length (b := .inl ()) (fun k hk => ?_) ?_
  · have this : loopO (esref32_EqualStrings.l1 l l) 0 = some (.inl ()) := this
    rw [this]; rfl
  · unfold esref32_EqualStrings.l1
    simp only [lt_of_len hk, if_true, idx_nat hk, Option.bind_some, bne_self_eq_false, Bool.false_eq_true, if_false, letV_of, wcast hk (by omega)]
  · unfold esref32_EqualStrings.l1
    simp only [not_lt_len, Bool.false_eq_true, if_false]
theorem rfield_refl {n : Nat} {y : fold_Field} (h : GF n y) (hn : n ≤ 1000000) : esref32_EqualField y y = some true := by
  unfold esref32_EqualField
  have := h.len
  simp only [beq_self_eq_true, if_true, decide_true, rstrings_refl (show y.Elems.length ≤ 1000000 by omega), Option.bind_some, esref32_EqualField.j1]
theorem robject_refl {n : Nat} {o : fold_Object} (h : ∀ y ∈ o.Fields, GF n y) (hl : o.Fields.length ≤ n) (hn : n ≤ 1000000) : esref32_EqualObject o o = some true := by
  unfold esref32_EqualObject
  rw [if_neg (by simp)]
  unfold esref32_EqualObject.j2
  rw [if_neg (by simp)]
  have := loopO_up (step := esref32_EqualObject.l1 o o) (fun k => (k : Int)) o.Fields.length (b := .inl ()) (fun k hk => ?_) ?_
  · have this : loopO (esref32_EqualObject.l1 o o) 0 = some (.inl ()) := this
    rw [this]; rfl
  · unfold esref32_EqualObject.l1
    simp only [lt_of_len hk, if_true, idx_nat hk, Option.bind_some, rfield_refl (h _ (List.getElem_mem hk)) hn, Bool.not_true, Bool.false_eq_true, if_false, letV_of, wcast hk (by omega)]
  · unfold esref32_EqualObject.l1
    simp only [not_lt_len, Bool.false_eq_true, if_false]
theorem rEqual_refl {n : Nat} {t : fold_Store} (h : GD n t.Objects) (hn : n ≤ 1000000) : esref32_Equal t t = some true := by
  unfold esref32_Equal
  have hlen := h.len
  rw [if_neg (by simp)]
  have := loopO_up (step := esref32_Equal.l1 t t) (fun k => (k : Int)) t.Objects.length (b := .inl ()) (fun k hk => ?_) ?_
  · have this : loopO (esref32_Equal.l1 t t) 0 = some (.inl ()) := this
    rw [this]; rfl
  · have hm := List.getElem_mem hk
    unfold esref32_Equal.l1
    simp only [lt_of_len hk, if_true, idx_nat hk, Option.bind_some, robject_refl (h.good _ hm) (h.flen _ hm) hn, Bool.not_true, Bool.false_eq_true, if_false, letV_of, wcast hk (by omega)]
  · unfold esref32_Equal.l1
    simp only [not_lt_len, Bool.false_eq_true, if_false]
end Go.Proofs.Ytlbcfjblpopcnaa
set_option linter.unusedVariables false
set_option linter.unusedSimpArgs false
namespace Go.Proofs.Ytlbcfjblpopcnaa
open Go Go.Proofs.YtlbcfjblpopcnaaL
theorem w8n (v : Nat) : IntKind.u8.wrap (v : Int) = ((v % 256 : Nat) : Int) := by
  simp only [IntKind.wrap, IntKind.bits, IntKind.signed]
  simp
theorem wu64n (v : Nat) (h : v < 18446744073709551616) : IntKind.u64.wrap (v : Int) = (v : Int) := by
  simp only [IntKind.wrap, IntKind.bits, IntKind.signed]; simp; omega
theorem wu64_lt (x : Int) : ∃ v : Nat, IntKind.u64.wrap x = (v : Int) ∧ v < 18446744073709551616 := by
  refine ⟨(IntKind.u64.wrap x).toNat, ?_, ?_⟩ <;> simp only [IntKind.wrap, IntKind.bits, IntKind.signed] <;> simp <;> omega
theorem or8 : ∀ m : Nat, m < 256 → bitsOf .or .u8 (m : Int) 128 = ((m % 128 + 128 : Nat) : Int) := by decide +kernel
theorem shr7 (v : Nat) : shrI .u64 (v : Int) 7 = ((v / 128 : Nat) : Int) := by
  unfold shrI
  show (v : Int).fdiv (2 ^ 7) = _
  rw [Int.fdiv_eq_ediv_of_nonneg _ (by decide)]
  rfl
def vlI : Nat → Nat → List Int
  | 0, _ => []
  | f + 1, v => if 128 ≤ v then ((v % 128 + 128 : Nat) : Int) :: vlI f (v / 128) else []
def vla : Nat → Nat → Nat
  | 0, v => v
  | f + 1, v => if 128 ≤ v then vla f (v / 128) else v
def vu (v : Nat) : List Int := vlI 9 v ++ [IntKind.u8.wrap (vla 9 v : Int)]
theorem vlI_len : ∀ f v, (vlI f v).length ≤ f
  | 0, _ => Nat.le_refl 0
  | f + 1, v => by
    unfold vlI
    split
    · have := vlI_len f (v / 128)
      simp only [List.length_cons]
      omega
    · simp
theorem vu_len (v : Nat) : (vu v).length ≤ 10 ∧ 0 < (vu v).length := by
  have := vlI_len 9 v
  unfold vu
  simp only [List.length_append, List.length_singleton]
  omega
theorem wuint_loop : ∀ (f v : Nat) (acc : List Int), v < 128 ^ (f + 1) → acc.length + f ≤ 1000000000000 → loopO wire_AppendUint.l1 ((v : Int), acc) = some ((vla f v : Int), acc ++ vlI f v)
  | 0, v, acc, hv, _ => by
    rw [loopO_done (b := ((v : Int), acc))]
    · simp [vla, vlI]
    · unfold wire_AppendUint.l1
      dsimp only
      rw [if_neg (by simp; omega)]
  | f + 1, v, acc, hv, hl => by
    unfold vla vlI
    by_cases h : 128 ≤ v
    · rw [loopO_next (s' := (((v / 128 : Nat) : Int), acc ++ [((v % 128 + 128 : Nat) : Int)]))]
      · rw [wuint_loop f (v / 128) _ (by rw [Nat.pow_succ] at hv; exact Nat.div_lt_of_lt_mul (by omega)) (by simp; omega), if_pos h, if_pos h, List.append_assoc]
        rfl
      · unfold wire_AppendUint.l1
        dsimp only
        rw [if_pos (by simp; omega), w8n, or8 _ (Nat.mod_lt _ (by decide)), letV_of, app_of (by simp; omega), Option.bind_some, shr7, show v % 256 % 128 = v % 128 by omega]
    · rw [loopO_done (b := ((v : Int), acc)), if_neg h, if_neg h, List.append_nil]
      unfold wire_AppendUint.l1
      dsimp only
      rw [if_neg (by simp; omega)]
theorem wuint_eq {x : List Int} {v : Nat} (hv : v < 18446744073709551616) (hx : x.length ≤ 100000000000) : wire_AppendUint x (v : Int) = some (x ++ vu v) := by
  unfold wire_AppendUint
  rw [wuint_loop 9 v [] (Nat.lt_of_lt_of_le hv (by decide)) (by simp), Option.bind_some]
  show wire_AppendUint.j1 x (vla 9 v : Int) ([] ++ vlI 9 v) = _
  have hl := vlI_len 9 v
  unfold wire_AppendUint.j1
  rw [List.nil_append, app_of (by simp; omega), Option.bind_some, cut_of (Int.le_refl 0) (by omega) (Int.le_refl _), Option.bind_some, if_pos (by simp)]
  have e : (x.take (x.length : Int).toNat).drop (0 : Int).toNat = x := by simp
  rw [e, app_of (by simp only [List.length_append, List.length_singleton]; omega)]
  rfl
def strB (s : List UInt8) : List Int := vu s.length ++ sby s
theorem strB_len (s : List UInt8) : (strB s).length ≤ 10 + s.length := by
  have := (vu_len s.length).1
  unfold strB sby
  rw [List.length_append, List.length_map]
  omega
theorem wstr_eq {x : List Int} {s : List UInt8} (hs : s.length ≤ 1000) (hx : x.length ≤ 90000000000) : wire_AppendString x s = some (x ++ strB s) := by
  unfold wire_AppendString
  have hl := (vu_len s.length).1
  rw [letV_of, wu64n _ (by omega), wuint_eq (by omega) (by omega), Option.bind_some, app_of (by unfold sby; simp only [List.length_append, List.length_map]; omega)]
  simp [strB]
def boolB (b : Bool) : List Int := [if b then 1 else 0]
theorem wbool_eq {x : List Int} {b : Bool} (hx : x.length ≤ 90000000000) : wire_AppendBool x b = some (x ++ boolB b) := by
  have hc : cut x 0 (x.length : Int) = some x := by
    rw [cut_of (Int.le_refl 0) (by omega) (Int.le_refl _)]
    simp
  unfold wire_AppendBool
  cases b with
  | true =>
    rw [if_pos rfl, hc, Option.bind_some, app_of (by simp only [List.length_singleton]; omega)]
    rfl
  | false =>
    rw [if_neg (by simp), hc, Option.bind_some, app_of (by simp only [List.length_singleton]; omega)]
    rfl
def zzI (n : Int) : Int := bitsOf .xor .u64 (shlI .u64 (IntKind.u64.wrap n) 1) (IntKind.u64.wrap (shrI .i64 n 63))
def zz (n : Int) : Nat := (zzI n).toNat
theorem zz_lt (n : Int) : zzI n = (zz n : Int) ∧ zz n < 18446744073709551616 := by
  obtain ⟨v, h1, h2⟩ := wu64_lt (((BitVec.ofInt 64 (shlI .u64 (IntKind.u64.wrap n) 1) ^^^ BitVec.ofInt 64 (IntKind.u64.wrap (shrI .i64 n 63))).toNat : Nat) : Int)
  have h3 : zzI n = (v : Int) := h1
  unfold zz
  rw [h3]
  exact ⟨rfl, h2⟩
theorem wint_eq {x : List Int} {n : Int} (hx : x.length ≤ 90000000000) : wire_AppendInt x n = some (x ++ vu (zz n)) := by
  unfold wire_AppendInt
  obtain ⟨h1, h2⟩ := zz_lt n
  simp only [letV_of]
  have e : bitsOf .xor .u64 (shlI .u64 (IntKind.u64.wrap n) 1) (IntKind.u64.wrap (shrI .i64 n 63)) = (zz n : Int) := h1
  rw [e, wuint_eq h2 (by omega)]
  rfl
def uN (x : Int) : Nat := (IntKind.u64.wrap x).toNat
theorem uN_eq (x : Int) : IntKind.u64.wrap x = (uN x : Int) ∧ uN x < 18446744073709551616 := by
  obtain ⟨v, h1, h2⟩ := wu64_lt x
  unfold uN
  rw [h1]
  exact ⟨rfl, h2⟩
def headB (nm : List UInt8) (f : fold_Field) : List Int :=
  strB nm ++ (strB f.Name ++ (boolB f.Register.Set ++ (vu (uN f.Register.Tag) ++ (vu (uN f.Register.Client) ++ (vu (uN f.Register.Seq) ++ (vu (zz f.Register.N) ++ (strB f.Register.S ++ (boolB f.HasMax ++ (vu (zz f.Max) ++ (vu (zz f.Sum) ++ vu f.Elems.length))))))))))
def fieldB (nm : List UInt8) (f : fold_Field) : List Int := headB nm f ++ (f.Elems.flatMap strB ++ boolB f.Flag)
theorem boolB_len (b : Bool) : (boolB b).length = 1 := rfl
theorem headB_len {nm : List UInt8} {f : fold_Field} (h1 : nm.length ≤ 1000) (h2 : f.Name.length ≤ 1000) (h3 : f.Register.S.length ≤ 1000) : (headB nm f).length ≤ 10000 := by
  unfold headB
  simp only [List.length_append, boolB_len]
  have a := strB_len nm
  have b := strB_len f.Name
  have c := strB_len f.Register.S
  have d1 := (vu_len (uN f.Register.Tag)).1
  have d2 := (vu_len (uN f.Register.Client)).1
  have d3 := (vu_len (uN f.Register.Seq)).1
  have d4 := (vu_len (zz f.Register.N)).1
  have d5 := (vu_len (zz f.Max)).1
  have d6 := (vu_len (zz f.Sum)).1
  have d7 := (vu_len f.Elems.length).1
  omega
theorem elems_len : ∀ l : List (List UInt8), (∀ s ∈ l, s.length ≤ 1000) → (l.flatMap strB).length ≤ 1010 * l.length
  | [], _ => by simp
  | s :: l, h => by
    have h1 := strB_len s
    have h2 := h s (by simp)
    have h3 := elems_len l fun q hq => h q (by simp [hq])
    rw [List.flatMap_cons, List.length_append, List.length_cons]
    omega
theorem fieldB_len {n : Nat} {nm : List UInt8} {f : fold_Field} (h1 : nm.length ≤ 1000) (g : GF n f) (hn : n ≤ 1000000) : (fieldB nm f).length ≤ 2000000000 := by
  have a := headB_len h1 g.name g.reg
  have b := elems_len f.Elems g.els
  have c := g.len
  unfold fieldB
  simp only [List.length_append, boolB_len]
  omega
theorem appendField_eq {n : Nat} {nm : List UInt8} {f : fold_Field} (h1 : nm.length ≤ 1000) (g : GF n f) (hn : n ≤ 1000000) : fold_appendField [] nm f = some (fieldB nm f) := by
  unfold fold_appendField
  have a := strB_len nm
  have b := strB_len f.Name
  have c := strB_len f.Register.S
  have g1 := g.name
  have g2 := g.reg
  have g3 := g.len
  have d1 := (vu_len (uN f.Register.Tag)).1
  have d2 := (vu_len (uN f.Register.Client)).1
  have d3 := (vu_len (uN f.Register.Seq)).1
  have d4 := (vu_len (zz f.Register.N)).1
  have d5 := (vu_len (zz f.Max)).1
  have d6 := (vu_len (zz f.Sum)).1
  have d7 := (vu_len f.Elems.length).1
  rw [wstr_eq h1 (by simp), Option.bind_some, wstr_eq g1 (by simp only [List.length_append, List.length_nil]; omega), Option.bind_some, wbool_eq (by simp only [List.length_append, List.length_nil]; omega), Option.bind_some]
  obtain ⟨x0, hx0⟩ : ∃ x0, x0 = [] ++ strB nm ++ strB f.Name ++ boolB f.Register.Set := ⟨_, rfl⟩
  have l0 : x0.length ≤ 3000 := by rw [hx0]; simp only [List.length_append, List.length_nil, boolB_len]; omega
  rw [← hx0]
  obtain ⟨t1, t2⟩ := uN_eq f.Register.Tag
  obtain ⟨c1, c2⟩ := uN_eq f.Register.Client
  obtain ⟨s1, s2⟩ := uN_eq f.Register.Seq
  have key : loopO (fold_appendField.l2 f) (x0, 0) = some (x0 ++ vu (uN f.Register.Tag) ++ vu (uN f.Register.Client) ++ vu (uN f.Register.Seq)) := by
    rw [loopO_next (s' := (x0 ++ vu (uN f.Register.Tag), 1)) (by
      unfold fold_appendField.l2
      dsimp only
      rw [if_pos (by decide), show idx [f.Register.Tag, f.Register.Client, f.Register.Seq] 0 = some f.Register.Tag from rfl, Option.bind_some, t1, wuint_eq t2 (by omega)]
      rfl)]
    rw [loopO_next (s' := (x0 ++ vu (uN f.Register.Tag) ++ vu (uN f.Register.Client), 2)) (by
      unfold fold_appendField.l2
      dsimp only
      rw [if_pos (by decide), show idx [f.Register.Tag, f.Register.Client, f.Register.Seq] 1 = some f.Register.Client from rfl, Option.bind_some, c1, wuint_eq c2 (by simp only [List.length_append]; omega)]
      rfl)]
    rw [loopO_next (s' := (x0 ++ vu (uN f.Register.Tag) ++ vu (uN f.Register.Client) ++ vu (uN f.Register.Seq), 3)) (by
      unfold fold_appendField.l2
      dsimp only
      rw [if_pos (by decide), show idx [f.Register.Tag, f.Register.Client, f.Register.Seq] 2 = some f.Register.Seq from rfl, Option.bind_some, s1, wuint_eq s2 (by simp only [List.length_append]; omega)]
      rfl)]
    exact loopO_done (by unfold fold_appendField.l2; rfl)
  rw [key, Option.bind_some]
  obtain ⟨x1, hx1⟩ : ∃ x1, x1 = x0 ++ vu (uN f.Register.Tag) ++ vu (uN f.Register.Client) ++ vu (uN f.Register.Seq) := ⟨_, rfl⟩
  have l1 : x1.length ≤ 3030 := by rw [hx1]; simp only [List.length_append]; omega
  rw [← hx1]
  unfold fold_appendField.j2
  rw [wint_eq (by omega), Option.bind_some, wstr_eq g2 (by simp only [List.length_append]; omega), Option.bind_some, wbool_eq (by simp only [List.length_append]; omega), Option.bind_some,
    wint_eq (by simp only [List.length_append, boolB_len]; omega), Option.bind_some, wint_eq (by simp only [List.length_append, boolB_len]; omega), Option.bind_some, letV_of, wu64n _ (by omega), wuint_eq (by omega) (by simp only [List.length_append, boolB_len]; omega), Option.bind_some]
  obtain ⟨x2, hx2⟩ : ∃ x2, x2 = x1 ++ vu (zz f.Register.N) ++ strB f.Register.S ++ boolB f.HasMax ++ vu (zz f.Max) ++ vu (zz f.Sum) ++ vu f.Elems.length := ⟨_, rfl⟩
  have l2 : x2.length ≤ 5000 := by rw [hx2]; simp only [List.length_append, boolB_len]; omega
  rw [← hx2]
  have key2 : loopO (fold_appendField.l1 f) (x2, 0) = some (x2 ++ f.Elems.flatMap strB) := by
    have := loopO_up (step := fold_appendField.l1 f) (fun k => (x2 ++ (f.Elems.take k).flatMap strB, (k : Int))) f.Elems.length (b := x2 ++ f.Elems.flatMap strB) (fun k hk => ?_) ?_
    · simpa using this
    · have h3 := elems_len (f.Elems.take k) (fun s hs => g.els s (List.mem_of_mem_take hs))
      have h4 : (f.Elems.take k).length ≤ n := by rw [List.length_take]; omega
      unfold fold_appendField.l1
      dsimp only
      rw [if_pos (lt_of_len hk), idx_nat hk, Option.bind_some, wstr_eq (g.els _ (List.getElem_mem hk)) (by rw [List.length_append]; omega), Option.bind_some, letV_of, wcast hk (by omega), take_snoc hk, List.flatMap_append]
      simp
    · unfold fold_appendField.l1
      dsimp only
      rw [if_neg (by simp), List.take_length]
  have h5 := elems_len f.Elems g.els
  rw [key2, Option.bind_some]
  unfold fold_appendField.j1
  rw [wbool_eq (by rw [List.length_append]; omega), Option.bind_some, hx2, hx1, hx0]
  simp [fieldB, headB, List.append_assoc]
def hashB (h c : Int) : Int := IntKind.u64.wrap (bitsOf .xor .u64 h (IntKind.u64.wrap c) * 1099511628211)
def storeB (objs : List fold_Object) : List Int := objs.flatMap fun o => o.Fields.flatMap fun f => fieldB o.Name f
theorem hash_loop {l : List Int} (hl : l.length ≤ 3000000000) (h : Int) : loopO (fold_Hash.l1 l) (h, 0) = some (l.foldl hashB h) := by
  have := loopO_up (step := fold_Hash.l1 l) (fun k => ((l.take k).foldl hashB h, (k : Int))) l.length (b := l.foldl hashB h) (fun k hk => ?_) ?_
  · exact this
  · unfold fold_Hash.l1
    simp only [lt_of_len hk, if_true, idx_nat hk, Option.bind_some, letV_of, wcast hk (by omega), take_snoc hk, List.foldl_append, List.foldl_cons, List.foldl_nil]
    rfl
  · unfold fold_Hash.l1
    simp only [not_lt_len, Bool.false_eq_true, if_false, List.take_length]
theorem Hash_eq {n : Nat} {t : fold_Store} (g : GD n t.Objects) (hn : n ≤ 1000000) : fold_Hash t = some ((storeB t.Objects).foldl hashB 14695981039346656037) := by
  unfold fold_Hash
  have hlen := g.len
  have key : loopO (fold_Hash.l3 t) (14695981039346656037, 0) = some ((storeB t.Objects).foldl hashB 14695981039346656037) := by
    have := loopO_up (step := fold_Hash.l3 t) (fun k => ((storeB (t.Objects.take k)).foldl hashB 14695981039346656037, (k : Int))) t.Objects.length (b := (storeB t.Objects).foldl hashB 14695981039346656037) (fun k hk => ?_) ?_
    · exact this
    · have hm := List.getElem_mem hk
      have hfl := g.flen _ hm
      obtain ⟨o, ho⟩ : ∃ o, o = t.Objects[k] := ⟨_, rfl⟩
      have inner : ∀ h : Int, loopO (fold_Hash.l2 o) (h, 0) = some ((o.Fields.flatMap fun f => fieldB o.Name f).foldl hashB h) := by
        intro h
        rw [← ho] at hm hfl
        have := loopO_up (step := fold_Hash.l2 o) (fun j => (((o.Fields.take j).flatMap fun f => fieldB o.Name f).foldl hashB h, (j : Int))) o.Fields.length (b := (o.Fields.flatMap fun f => fieldB o.Name f).foldl hashB h) (fun j hj => ?_) ?_
        · exact this
        · have hg := g.good _ hm _ (List.getElem_mem hj)
          unfold fold_Hash.l2
          simp only [lt_of_len hj, if_true, idx_nat hj, Option.bind_some]
          rw [appendField_eq (g.name _ hm) hg hn, Option.bind_some, hash_loop (by have := fieldB_len (nm := o.Name) (g.name _ hm) hg hn; omega), Option.bind_some]
          unfold fold_Hash.j3
          rw [letV_of, wcast hj (by omega), take_snoc hj, List.flatMap_append, List.foldl_append]
          simp
        · unfold fold_Hash.l2
          simp only [not_lt_len, Bool.false_eq_true, if_false, List.take_length]
      unfold fold_Hash.l3
      simp only [lt_of_len hk, if_true, idx_nat hk, Option.bind_some]
      rw [← ho, inner, Option.bind_some]
      unfold fold_Hash.j2
      rw [letV_of, wcast hk (by omega), take_snoc hk]
      unfold storeB
      rw [List.flatMap_append, List.foldl_append, ← ho]
      simp
    · unfold fold_Hash.l3
      simp only [not_lt_len, Bool.false_eq_true, if_false, List.take_length]
  rw [key]
  rfl
end Go.Proofs.Ytlbcfjblpopcnaa
set_option linter.unusedVariables false
set_option linter.unusedSimpArgs false
namespace Go.Proofs.Ytlbcfjblpopcnaa
open Go Go.Proofs.YtlbcfjblpopcnaaL
abbrev inr (n : Int) : Prop := -9223372036854775808 ≤ n ∧ n ≤ 9223372036854775807
theorem shl1 (a : Int) : shlI .u64 a 1 = IntKind.u64.wrap (a * 2) := rfl
theorem wu64s {x : Int} (h0 : 0 ≤ x) (h1 : x < 18446744073709551616) : IntKind.u64.wrap x = x := by
  simp only [IntKind.wrap, IntKind.bits, IntKind.signed]; simp; omega
theorem wu64m (x : Int) : IntKind.u64.wrap x = x % 18446744073709551616 := by
  simp only [IntKind.wrap, IntKind.bits, IntKind.signed]; simp
theorem zz_eq {n : Int} (h : inr n) : esref03_Zigzag n = some (zz n : Int) := by
  rw [← (zz_lt n).1]
  unfold esref03_Zigzag zzI
  obtain ⟨h1, h2⟩ := h
  have xor : ∀ a b : Int, bitsOf .xor .u64 a b = IntKind.u64.wrap (((BitVec.ofInt 64 a ^^^ BitVec.ofInt 64 b).toNat : Nat) : Int) := fun a b => rfl
  have shr : shrI .i64 n 63 = n.fdiv (2 ^ 63) := rfl
  rw [xor, shr, Int.fdiv_eq_ediv_of_nonneg _ (by decide), shl1]
  by_cases h0 : 0 ≤ n
  · rw [if_pos (by simpa using h0), letV_of]
    congr 1
    have e0 : n / 2 ^ 63 = 0 := Int.ediv_eq_zero_of_lt h0 (by omega)
    rw [e0, wu64s (x := 0) (by decide) (by decide), wu64s h0 (by omega), wu64s (x := n * 2) (by omega) (by omega)]
    have : BitVec.ofInt 64 0 = 0#64 := rfl
    rw [this, BitVec.xor_zero, BitVec.toNat_ofInt]
    have e1 : (n * 2 % ((2 ^ 64 : Nat) : Int)).toNat = (n * 2).toNat := by
      congr 1
      exact Int.emod_eq_of_lt (by omega) (by omega)
    rw [e1, Int.toNat_of_nonneg (by omega), wu64s (by omega) (by omega)]
  · rw [if_neg (by simpa using h0), letV_of, letV_of, letV_of, letV_of]
    congr 1
    have e0 : n / 2 ^ 63 = -1 := by omega
    rw [e0]
    have e1 : BitVec.ofInt 64 (IntKind.u64.wrap (-1)) = BitVec.allOnes 64 := by decide
    rw [e1, BitVec.xor_allOnes, BitVec.toNat_not, BitVec.toNat_ofInt]
    rw [w64 (x := n + 1) (by omega) (by omega), w64 (x := 0 - (n + 1)) (by omega) (by omega), wu64s (x := 0 - (n + 1)) (by omega) (by omega), wu64s (x := (0 - (n + 1)) * 2) (by omega) (by omega), wu64s (x := (0 - (n + 1)) * 2 + 1) (by omega) (by omega)]
    have e2 : IntKind.u64.wrap (IntKind.u64.wrap n * 2) = 18446744073709551616 + 2 * n := by
      rw [wu64m, wu64m]
      omega
    rw [e2]
    have e3 : ((18446744073709551616 + 2 * n) % ((2 ^ 64 : Nat) : Int)).toNat = (18446744073709551616 + 2 * n).toNat := by
      congr 1
      exact Int.emod_eq_of_lt (by omega) (by omega)
    rw [e3]
    have e4 : ((2 ^ 64 - 1 - (18446744073709551616 + 2 * n).toNat : Nat) : Int) = (0 - (n + 1)) * 2 + 1 := by omega
    rw [e4, wu64s (by omega) (by omega)]
theorem ruint_loop : ∀ (f v : Nat) (acc : List Int), v < 128 ^ (f + 1) → v < 18446744073709551616 → acc.length + f ≤ 1000000000000 → loopO esref03_AppendUint.l1 ((v : Int), acc) = some ((vla f v : Int), acc ++ vlI f v)
  | 0, v, acc, hv, _, hl => by
    rw [loopO_done (b := ((v : Int), acc))]
    · simp [vla, vlI]
    · unfold esref03_AppendUint.l1
      dsimp only
      rw [if_neg (by simp; omega)]
  | f + 1, v, acc, hv, hv2, hl => by
    unfold vla vlI
    by_cases h : 128 ≤ v
    · rw [loopO_next (s' := (((v / 128 : Nat) : Int), acc ++ [((v % 128 + 128 : Nat) : Int)]))]
      · rw [ruint_loop f (v / 128) _ (by rw [Nat.pow_succ] at hv; exact Nat.div_lt_of_lt_mul (by omega)) (by omega) (by simp; omega), if_pos h, if_pos h, List.append_assoc]
        rfl
      · unfold esref03_AppendUint.l1
        dsimp only
        have t1 : Int.tmod (v : Int) 128 = ((v % 128 : Nat) : Int) := rfl
        have t2 : Int.tdiv (v : Int) 128 = ((v / 128 : Nat) : Int) := rfl
        rw [if_pos (by simp; omega), t1, w8n, letV_of, show ((v % 128 % 256 : Nat) : Int) + 128 = ((v % 128 % 256 + 128 : Nat) : Int) by omega, w8n, letV_of, app_of (by simp; omega), Option.bind_some, t2, wu64n _ (by omega), letV_of]
        congr 5
        congr 1
        omega
    · rw [loopO_done (b := ((v : Int), acc)), if_neg h, if_neg h, List.append_nil]
      unfold esref03_AppendUint.l1
      dsimp only
      rw [if_neg (by simp; omega)]
theorem ruint_eq {x : List Int} {v : Nat} (hv : v < 18446744073709551616) (hx : x.length ≤ 100000000000) : esref03_AppendUint x (v : Int) = some (x ++ vu v) := by
  unfold esref03_AppendUint
  have hl := vlI_len 9 v
  rw [app_of (by simp; omega), Option.bind_some, List.nil_append, ruint_loop 9 v x (Nat.lt_of_lt_of_le hv (by decide)) hv (by omega), Option.bind_some]
  show esref03_AppendUint.j1 (vla 9 v : Int) (x ++ vlI 9 v) = _
  unfold esref03_AppendUint.j1
  rw [app_of (by simp; omega), Option.bind_some, List.append_assoc]
  rfl
theorem rstr_eq {x : List Int} {s : List UInt8} (hs : s.length ≤ 1000) (hx : x.length ≤ 90000000000) : esref03_AppendString x s = some (x ++ strB s) := by
  unfold esref03_AppendString
  have hl := (vu_len s.length).1
  rw [letV_of, wu64n _ (by omega), ruint_eq (by omega) (by omega), Option.bind_some, app_of (by unfold sby; simp only [List.length_append, List.length_map]; omega)]
  simp [strB]
theorem rbool_eq {x : List Int} {b : Bool} (hx : x.length ≤ 90000000000) : esref03_AppendBool x b = some (x ++ boolB b) := by
  unfold esref03_AppendBool
  cases b with
  | true =>
    rw [if_pos rfl, app_of (by simp; omega), Option.bind_some, List.nil_append, app_of (by simp only [List.length_singleton]; omega)]
    rfl
  | false =>
    rw [if_neg (by simp), app_of (by simp; omega), Option.bind_some, List.nil_append, app_of (by simp only [List.length_singleton]; omega)]
    rfl
theorem rint_eq {x : List Int} {n : Int} (h : inr n) (hx : x.length ≤ 90000000000) : esref03_AppendInt x n = some (x ++ vu (zz n)) := by
  unfold esref03_AppendInt
  obtain ⟨h1, h2⟩ := zz_lt n
  rw [zz_eq h, Option.bind_some, ruint_eq h2 (by omega)]
  rfl
structure RF (f : fold_Field) : Prop where
  reg : inr f.Register.N
  max : inr f.Max
  sum : inr f.Sum
theorem rfield_eq {n : Nat} {o : fold_Object} {x : List Int} {k : Nat} (hk : k < o.Fields.length) (hkl : o.Fields.length ≤ 1000000000) (h1 : o.Name.length ≤ 1000) (g : GF n o.Fields[k]) (hr : RF o.Fields[k]) (hn : n ≤ 1000000) (hx : x.length ≤ 50000000000) :
    esref32_Hash.l3 o (x, (k : Int)) = some (.inl (x ++ fieldB o.Name o.Fields[k], ((k + 1 : Nat) : Int))) := by
  unfold esref32_Hash.l3
  simp only [lt_of_len hk, if_true, idx_nat hk, Option.bind_some]
  obtain ⟨f, hf⟩ : ∃ f, f = o.Fields[k] := ⟨_, rfl⟩
  rw [← hf] at g hr ⊢
  have a := strB_len o.Name
  have b := strB_len f.Name
  have c := strB_len f.Register.S
  have g1 := g.name
  have g2 := g.reg
  have g3 := g.len
  have d1 := (vu_len (uN f.Register.Tag)).1
  have d2 := (vu_len (uN f.Register.Client)).1
  have d3 := (vu_len (uN f.Register.Seq)).1
  have d4 := (vu_len (zz f.Register.N)).1
  have d5 := (vu_len (zz f.Max)).1
  have d6 := (vu_len (zz f.Sum)).1
  have d7 := (vu_len f.Elems.length).1
  obtain ⟨t1, t2⟩ := uN_eq f.Register.Tag
  obtain ⟨c1, c2⟩ := uN_eq f.Register.Client
  obtain ⟨s1, s2⟩ := uN_eq f.Register.Seq
  rw [rstr_eq h1 (by omega), Option.bind_some, rstr_eq g1 (by simp only [List.length_append]; omega), Option.bind_some, rbool_eq (by simp only [List.length_append]; omega), Option.bind_some]
  obtain ⟨x0, hx0⟩ : ∃ x0, x0 = x ++ strB o.Name ++ strB f.Name ++ boolB f.Register.Set := ⟨_, rfl⟩
  have l0 : x0.length ≤ 50000003000 := by rw [hx0]; simp only [List.length_append, boolB_len]; omega
  rw [← hx0, letV_of, t1, ruint_eq t2 (by omega), Option.bind_some, letV_of, c1, ruint_eq c2 (by simp only [List.length_append]; omega), Option.bind_some, letV_of, s1, ruint_eq s2 (by simp only [List.length_append]; omega), Option.bind_some]
  obtain ⟨x1, hx1⟩ : ∃ x1, x1 = x0 ++ vu (uN f.Register.Tag) ++ vu (uN f.Register.Client) ++ vu (uN f.Register.Seq) := ⟨_, rfl⟩
  have l1 : x1.length ≤ 50000003030 := by rw [hx1]; simp only [List.length_append]; omega
  rw [← hx1, rint_eq hr.reg (by omega), Option.bind_some, rstr_eq g2 (by simp only [List.length_append]; omega), Option.bind_some, rbool_eq (by simp only [List.length_append]; omega), Option.bind_some,
    rint_eq hr.max (by simp only [List.length_append, boolB_len]; omega), Option.bind_some, rint_eq hr.sum (by simp only [List.length_append, boolB_len]; omega), Option.bind_some, letV_of, wu64n _ (by omega), ruint_eq (by omega) (by simp only [List.length_append, boolB_len]; omega), Option.bind_some]
  obtain ⟨x2, hx2⟩ : ∃ x2, x2 = x1 ++ vu (zz f.Register.N) ++ strB f.Register.S ++ boolB f.HasMax ++ vu (zz f.Max) ++ vu (zz f.Sum) ++ vu f.Elems.length := ⟨_, rfl⟩
  have l2 : x2.length ≤ 50000005000 := by rw [hx2]; simp only [List.length_append, boolB_len]; omega
  rw [← hx2]
  have key2 : loopO (esref32_Hash.l2 f) (x2, 0) = some (x2 ++ f.Elems.flatMap strB) := by
    have := loopO_up (step := esref32_Hash.l2 f) (fun k => (x2 ++ (f.Elems.take k).flatMap strB, (k : Int))) f.Elems.length (b := x2 ++ f.Elems.flatMap strB) (fun k hk => ?_) ?_
    · simpa using this
    · have h3 := elems_len (f.Elems.take k) (fun s hs => g.els s (List.mem_of_mem_take hs))
      have h4 : (f.Elems.take k).length ≤ n := by rw [List.length_take]; omega
      unfold esref32_Hash.l2
      dsimp only
      rw [if_pos (lt_of_len hk), idx_nat hk, Option.bind_some, rstr_eq (g.els _ (List.getElem_mem hk)) (by rw [List.length_append]; omega), Option.bind_some, letV_of, wcast hk (by omega), take_snoc hk, List.flatMap_append]
      simp
    · unfold esref32_Hash.l2
      dsimp only
      rw [if_neg (by simp), List.take_length]
  have h5 := elems_len f.Elems g.els
  rw [key2, Option.bind_some]
  unfold esref32_Hash.j5
  rw [rbool_eq (by rw [List.length_append]; omega), Option.bind_some]
  unfold esref32_Hash.j4
  rw [letV_of, wcast hk (by omega), hx2, hx1, hx0]
  simp [fieldB, headB, List.append_assoc]
theorem flat_len {α : Type} {g : α → List Int} {B : Nat} : ∀ l : List α, (∀ a ∈ l, (g a).length ≤ B) → (l.flatMap g).length ≤ B * l.length
  | [], _ => by simp
  | a :: l, h => by
    have h1 := h a (by simp)
    have h2 := flat_len l fun b hb => h b (by simp [hb])
    rw [List.flatMap_cons, List.length_append, List.length_cons, Nat.mul_add, Nat.mul_one]
    omega
theorem fieldB_len2 {n : Nat} {nm : List UInt8} {f : fold_Field} (h1 : nm.length ≤ 1000) (g : GF n f) (hn : n ≤ 200) : (fieldB nm f).length ≤ 220000 := by
  have a := headB_len h1 g.name g.reg
  have b := elems_len f.Elems g.els
  have c := g.len
  unfold fieldB
  simp only [List.length_append, boolB_len]
  omega
theorem rhash_loop {l : List Int} (hl : l.length ≤ 30000000000) (h : Int) : loopO (esref32_Hash.l1 l) (h, 0) = some (l.foldl hashB h) := by
  have := loopO_up (step := esref32_Hash.l1 l) (fun k => ((l.take k).foldl hashB h, (k : Int))) l.length (b := l.foldl hashB h) (fun k hk => ?_) ?_
  · exact this
  · unfold esref32_Hash.l1
    simp only [lt_of_len hk, if_true, idx_nat hk, Option.bind_some, letV_of, take_snoc hk, List.foldl_append, List.foldl_cons, List.foldl_nil]
    rw [w64 (x := (k : Int) + 1) (by omega) (by omega)]
    rfl
  · unfold esref32_Hash.l1
    simp only [not_lt_len, Bool.false_eq_true, if_false, List.take_length]
theorem rHash_eq {n : Nat} {t : fold_Store} (g : GD n t.Objects) (hn : n ≤ 200) (hr : ∀ o ∈ t.Objects, ∀ y ∈ o.Fields, RF y) : esref32_Hash t = fold_Hash t := by
  rw [Hash_eq g (by omega)]
  unfold esref32_Hash
  have hlen := g.len
  have hob : ∀ o ∈ t.Objects, ∀ m, ((o.Fields.take m).flatMap fun f => fieldB o.Name f).length ≤ 44000000 := by
    intro o ho m
    have h1 := flat_len (g := fun f => fieldB o.Name f) (B := 220000) (o.Fields.take m) fun f hf => fieldB_len2 (g.name o ho) (g.good o ho f (List.mem_of_mem_take hf)) hn
    have h2 := g.flen o ho
    have h3 : (o.Fields.take m).length ≤ 200 := by rw [List.length_take]; omega
    have := Nat.mul_le_mul_left 220000 h3
    omega
  have hst : ∀ m, (storeB (t.Objects.take m)).length ≤ 8800000000 := by
    intro m
    have h1 := flat_len (g := fun o : fold_Object => o.Fields.flatMap fun f => fieldB o.Name f) (B := 44000000) (t.Objects.take m) fun o ho => by
      have := hob o (List.mem_of_mem_take ho) o.Fields.length
      rwa [List.take_length] at this
    have h3 : (t.Objects.take m).length ≤ 200 := by rw [List.length_take]; omega
    have := Nat.mul_le_mul_left 44000000 h3
    unfold storeB
    omega
  have key : loopO (esref32_Hash.l4 t) ([], 0) = some (storeB t.Objects) := by
    have := loopO_up (step := esref32_Hash.l4 t) (fun k => (storeB (t.Objects.take k), (k : Int))) t.Objects.length (b := storeB t.Objects) (fun k hk => ?_) ?_
    · exact this
    · have hm := List.getElem_mem hk
      have hfl := g.flen _ hm
      have hs0 := hst k
      obtain ⟨o, ho⟩ : ∃ o, o = t.Objects[k] := ⟨_, rfl⟩
      have inner : loopO (esref32_Hash.l3 o) (storeB (t.Objects.take k), 0) = some (storeB (t.Objects.take k) ++ o.Fields.flatMap fun f => fieldB o.Name f) := by
        rw [← ho] at hm hfl
        have := loopO_up (step := esref32_Hash.l3 o) (fun j => (storeB (t.Objects.take k) ++ (o.Fields.take j).flatMap fun f => fieldB o.Name f, (j : Int))) o.Fields.length (b := storeB (t.Objects.take k) ++ o.Fields.flatMap fun f => fieldB o.Name f) (fun j hj => ?_) ?_
        · simpa using this
        · have hj2 := List.getElem_mem hj
          have := hob o hm j
          rw [rfield_eq hj (by omega) (g.name _ hm) (g.good _ hm _ hj2) (hr _ hm _ hj2) (by omega) (by rw [List.length_append]; omega), take_snoc hj, List.flatMap_append]
          simp
        · unfold esref32_Hash.l3
          simp only [not_lt_len, Bool.false_eq_true, if_false, List.take_length]
      unfold esref32_Hash.l4
      simp only [lt_of_len hk, if_true, idx_nat hk, Option.bind_some]
      rw [← ho, inner, Option.bind_some]
      unfold esref32_Hash.j3
      rw [letV_of, wcast hk (by omega), take_snoc hk]
      unfold storeB
      rw [List.flatMap_append, ← ho]
      simp
    · unfold esref32_Hash.l4
      simp only [not_lt_len, Bool.false_eq_true, if_false, List.take_length]
  rw [key, Option.bind_some]
  unfold esref32_Hash.j2
  have hs := hst t.Objects.length
  rw [List.take_length] at hs
  rw [rhash_loop (by omega), Option.bind_some]
  rfl
end Go.Proofs.Ytlbcfjblpopcnaa
set_option linter.unusedVariables false
set_option linter.unusedSimpArgs false
namespace Go.Proofs.Ytlbcfjblpopcnaa
open Go Go.Proofs.YtlbcfjblpopcnaaL
theorem rInsert_eq {x : List (List UInt8)} {s : List UInt8} (ha : Asc x) (hl : x.length ≤ 1000000000) : esref32_Insert x s = some (insS x s) := by
  unfold esref32_Insert
  have hp := posS_le x s
  obtain ⟨p, hpe⟩ : ∃ p, p = posS x s := ⟨_, rfl⟩
  have gD : ∀ k (h : k < x.length), x.getD k s = x[k] := fun k h => by simp [h]
  have key : loopO (esref32_Insert.l1 x s) 0 = some (p : Int) := by
    have := loopO_up (step := esref32_Insert.l1 x s) (fun k => (k : Int)) p (b := (p : Int)) (fun k hk => ?_) ?_
    · exact this
    · have hkx : k < x.length := by omega
      have h1 := posS_lt x s k (by omega)
      rw [gD k hkx] at h1
      unfold esref32_Insert.l1
      simp only [lt_of_len hkx, if_true, idx_nat hkx, Option.bind_some, h1]
      unfold esref32_Insert.j4
      rw [if_pos rfl, letV_of, wcast hkx (by omega)]
    · unfold esref32_Insert.l1
      by_cases hpx : p < x.length
      · have h1 := posS_ge x s ha p (by omega)
        rw [gD p hpx] at h1
        simp only [lt_of_len hpx, if_true, idx_nat hpx, Option.bind_some, h1]
        unfold esref32_Insert.j4
        rw [if_neg (by simp)]
      · rw [if_neg (by simp; omega)]
        unfold esref32_Insert.j4
        rw [if_neg (by simp)]
  rw [key, Option.bind_some, insS_pos, ← hpe]
  have no : esref32_Insert.j2 x s (p : Int) false = some (x.take p ++ s :: x.drop p) := by
    unfold esref32_Insert.j2
    rw [if_neg (by simp), cut_of (by omega) (by omega) (by omega), Option.bind_some]
    simp only [Int.toNat_zero, List.drop_zero, Int.toNat_natCast]
    have hlt : (x.take p).length ≤ x.length := by rw [List.length_take]; omega
    rw [app_of (by rw [List.length_nil]; omega), Option.bind_some, List.nil_append, app_of (by rw [List.length_singleton]; omega), Option.bind_some, cut_of (by omega) (by omega) (by omega), Option.bind_some]
    simp only [Int.toNat_natCast, List.take_length]
    rw [app_of (by simp only [List.length_append, List.length_singleton, List.length_drop]; omega), Option.bind_some]
    unfold esref32_Insert.j1
    rw [List.append_assoc]
    rfl
  unfold esref32_Insert.j3
  by_cases hpx : p < x.length
  · rw [if_pos (by simpa using hpx), idx_nat hpx, Option.bind_some]
    by_cases he : x[p] = s
    · rw [if_pos ⟨hpx, by rw [gD p hpx]; exact he⟩, show (x[p] == s) = true by simp [he]]
      unfold esref32_Insert.j2
      rw [if_pos rfl, app_of (by rw [List.length_nil]; omega), Option.bind_some, List.nil_append]
    · rw [if_neg (fun h => he (by rw [← gD p hpx]; exact h.2)), show (x[p] == s) = false by simpa using he, no]
  · rw [if_neg (by simpa using hpx), if_neg (fun h => hpx h.1), no]
theorem rbefore_eq (u : api_Update) (r : fold_Register) : (if r.Set then esref32_before r u.Tag u.Client u.Seq else some true) = some (newerS u r) := by
  unfold newerS esref32_before
  cases r.Set with
  | false => rfl
  | true =>
    simp only [if_true, Bool.not_true, Bool.false_or]
    by_cases h1 : r.Tag = u.Tag
    · rw [if_neg (by simpa using h1)]
      by_cases h2 : r.Client = u.Client
      · rw [if_neg (by simpa using h2)]
        congr 1
        rw [Bool.eq_iff_iff, decide_eq_true_eq, decide_eq_true_eq]
        constructor
        · intro h; omega
        · intro h; omega
      · rw [if_pos (by simpa using h2)]
        congr 1
        rw [Bool.eq_iff_iff, decide_eq_true_eq, decide_eq_true_eq]
        constructor
        · intro h; omega
        · intro h; omega
    · rw [if_pos (by simpa using h1)]
      congr 1
      rw [Bool.eq_iff_iff, decide_eq_true_eq, decide_eq_true_eq]
      constructor
      · intro h; omega
      · intro h; omega
theorem r32_fld_eq {n : Nat} {u : api_Update} {e : api_Effect} {f : fold_Field} (h : GF n f) (hn : n ≤ 1000000) : r32_fld u e f = some (updF u e f) := by
  unfold r32_fld updF
  rw [rbefore_eq, Option.bind_some]
  have hl := h.len
  rw [rInsert_eq h.asc (by omega), Option.bind_some]
  by_cases h1 : e.Kind = 1
  · rw [if_pos h1, if_pos h1]
  rw [if_neg h1, if_neg h1]
  by_cases h2 : e.Kind = 2
  · rw [if_pos h2, if_pos h2]
    cases hm : f.HasMax with
    | false => simp
    | true =>
      by_cases hx : f.Max < e.N
      · simp [hx]
      · simp only [Bool.not_true, hx, decide_false, Bool.or_false, Bool.false_eq_true, if_false]
        rw [← hm]
  rw [if_neg h2, if_neg h2]
  by_cases h3 : e.Kind = 3
  · rw [if_pos h3, if_pos h3]
  rw [if_neg h3, if_neg h3]
  by_cases h4 : e.Kind = 4
  · rw [if_pos h4, if_pos h4]
  rw [if_neg h4, if_neg h4]
  by_cases h5 : e.Kind = 5
  · rw [if_pos h5, if_pos h5]
  rw [if_neg h5, if_neg h5]
theorem r32_eff_eq {n : Nat} {u : api_Update} {objs : List fold_Object} {e : api_Effect} (h : GD n objs) (hn : n ≤ 100000) (he : EF e) : r32_eff u objs e = some (effT u objs e) := by
  have hlen := h.len
  have hok : r32_ok objs := ⟨h.asc, by omega, fun o ho => ⟨by have := h.flen o ho; omega, h.fasc o ho⟩⟩
  unfold r32_eff
  rw [if_pos hok, r32_ins_eq]
  have g1 : get ON_ (insT objs e.Object e.Field) e.Object = some (inObj e.Object e.Field (fun o => o.getD { fold_zero with Name := e.Field }) (get ON_ objs e.Object)) := by
    unfold insT
    rw [get_upd (inObj_key _ _ _) _ h.asc, if_pos rfl]
  obtain ⟨fs, hfs⟩ : ∃ fs, fs = ((get ON_ objs e.Object).map (·.Fields)).getD [] := ⟨_, rfl⟩
  have hsa : SA FN_ fs := by
    rw [hfs]
    cases hg : get ON_ objs e.Object with
    | none => exact .nil
    | some o => exact h.fasc o (get_mem hg)
  have hgood : ∀ y ∈ fs, GF n y := by
    intro y hy
    rw [hfs] at hy
    cases hg : get ON_ objs e.Object with
    | none => rw [hg] at hy; simp at hy
    | some o => rw [hg] at hy; exact h.good o (get_mem hg) y hy
  have g1' : ((insT objs e.Object e.Field).find? fun o => o.Name == e.Object) = some ⟨e.Object, upd FN_ e.Field (fun o => o.getD { fold_zero with Name := e.Field }) fs⟩ := by
    rw [hfs]
    exact g1
  rw [g1', Option.bind_some]
  have g2 : get FN_ (upd FN_ e.Field (fun o => o.getD { fold_zero with Name := e.Field }) fs) e.Field = some ((get FN_ fs e.Field).getD { fold_zero with Name := e.Field }) := by
    rw [get_upd (insF_key _) _ hsa, if_pos rfl]
  have g2' : ((upd FN_ e.Field (fun o => o.getD { fold_zero with Name := e.Field }) fs).find? fun y => y.Name == e.Field) = some ((get FN_ fs e.Field).getD { fold_zero with Name := e.Field }) := g2
  simp only [g2', Option.bind_some]
  have hy : GF n ((get FN_ fs e.Field).getD { fold_zero with Name := e.Field }) := by
    cases hg : get FN_ fs e.Field with
    | none => exact GF_named (GF_zero n) he.fld
    | some y => exact hgood y (get_mem hg)
  have hyn : ((get FN_ fs e.Field).getD { fold_zero with Name := e.Field }).Name = e.Field := by
    cases hg : get FN_ fs e.Field with
    | none => rfl
    | some y => exact get_key hg
  rw [r32_fld_eq hy (by omega), Option.bind_some]
  congr 1
  rw [r32_upd_eq, r32_upd_eq]
  unfold insT effT
  have hk1 : ∀ o : Option fold_Object, (∀ a, o = some a → ON_ a = e.Object) → ON_ ((fun _ => (⟨e.Object, upd FN_ e.Field (fun _ => updF u e ((get FN_ fs e.Field).getD { fold_zero with Name := e.Field })) (upd FN_ e.Field (fun o => o.getD { fold_zero with Name := e.Field }) fs)⟩ : fold_Object)) o) = e.Object := fun _ _ => rfl
  have := upd_upd (g := fun _ => (⟨e.Object, upd FN_ e.Field (fun _ => updF u e ((get FN_ fs e.Field).getD { fold_zero with Name := e.Field })) (upd FN_ e.Field (fun o => o.getD { fold_zero with Name := e.Field }) fs)⟩ : fold_Object)) hk1 (inObj_key e.Object e.Field (fun o => o.getD { fold_zero with Name := e.Field })) h.asc
  refine this.trans ?_
  refine upd_congr (g := fun _ => (⟨e.Object, upd FN_ e.Field (fun _ => updF u e ((get FN_ fs e.Field).getD { fold_zero with Name := e.Field })) (upd FN_ e.Field (fun o => o.getD { fold_zero with Name := e.Field }) fs)⟩ : fold_Object)) (g' := inObj e.Object e.Field (inFld u e)) (fun _ _ => rfl) h.asc ?_ (inObj_key _ _ _)
  show (⟨e.Object, _⟩ : fold_Object) = ⟨e.Object, upd FN_ e.Field (inFld u e) (((get ON_ objs e.Object).map (·.Fields)).getD [])⟩
  rw [← hfs]
  congr 1
  have hk2 : ∀ o : Option fold_Field, (∀ a, o = some a → FN_ a = e.Field) → FN_ ((fun _ => updF u e ((get FN_ fs e.Field).getD { fold_zero with Name := e.Field })) o) = e.Field := fun _ _ => (updF_name _ _ _).trans hyn
  refine (upd_upd hk2 (insF_key e.Field) hsa).trans ?_
  refine upd_congr (fun _ _ => (updF_name _ _ _).trans hyn) hsa ?_ (inFld_key u e)
  unfold inFld
  cases hg : get FN_ fs e.Field with
  | none => rfl
  | some y =>
    have hk := get_key hg
    show updF u e y = updF u e { y with Name := e.Field }
    congr 1
    rw [← hk]
theorem eff_GD {n : Nat} {u : api_Update} {objs : List fold_Object} {e : api_Effect} (h : GD n objs) (hn : n + 1 ≤ 1000000) (he : EF e) : GD (n + 1) (effT u objs e) :=
  (Apply_eq (t := ⟨objs⟩) (u := { u with Effects := [e] }) h (fun q hq => by simp at hq; subst hq; exact he) hn).2
theorem rcopy_fields {n : Nat} {t : fold_Store} (h : GD n t.Objects) (hn : n ≤ 1000000) {k : Nat} (hk : k < t.Objects.length) : loopO (esref32_Copy.l1 t (k : Int)) (0, []) = some t.Objects[k].Fields := by
  have hm := List.getElem_mem hk
  have hfl := h.flen _ hm
  have := loopO_up (step := esref32_Copy.l1 t (k : Int)) (fun j => ((j : Int), t.Objects[k].Fields.take j)) t.Objects[k].Fields.length (b := t.Objects[k].Fields) (fun j hj => ?_) ?_
  · exact this
  · have hg := (h.good _ hm _ (List.getElem_mem hj)).len
    unfold esref32_Copy.l1
    simp only [idx_nat hk, Option.bind_some, lt_of_len hj, if_true, idx_nat hj]
    rw [app_of (by simp only [List.length_nil]; omega), Option.bind_some, List.nil_append, app_of (by simp only [List.length_take, List.length_singleton]; omega), Option.bind_some, letV_of, wcast hj (by omega), take_snoc hj]
  · unfold esref32_Copy.l1
    simp only [idx_nat hk, Option.bind_some, not_lt_len, Bool.false_eq_true, if_false, List.take_length]
theorem rCopy_eq {n : Nat} {t : fold_Store} (h : GD n t.Objects) (hn : n ≤ 1000000) : esref32_Copy t = some t := by
  unfold esref32_Copy
  have hlen := h.len
  have : loopO (esref32_Copy.l2 t) (0, []) = some t.Objects := by
    have := loopO_up (step := esref32_Copy.l2 t) (fun k => ((k : Int), t.Objects.take k)) t.Objects.length (b := t.Objects) (fun k hk => ?_) ?_
    · exact this
    · unfold esref32_Copy.l2
      simp only [lt_of_len hk, if_true, idx_nat hk, Option.bind_some]
      rw [rcopy_fields h hn hk, Option.bind_some]
      unfold esref32_Copy.j3
      rw [app_of (by simp only [List.length_take, List.length_singleton]; omega), Option.bind_some]
      unfold esref32_Copy.j2
      rw [letV_of, wcast hk (by omega), take_snoc hk]
    · unfold esref32_Copy.l2
      simp only [not_lt_len, Bool.false_eq_true, if_false, List.take_length]
  rw [this]
  rfl
theorem rApply_eq {n : Nat} {t : fold_Store} {u : api_Update} (h : GD n t.Objects) (he : ∀ e ∈ u.Effects, EF e) (hn : n + u.Effects.length ≤ 100000) :
    esref32_Apply t u = some ⟨appT u t.Objects⟩ := by
  unfold esref32_Apply
  rw [rCopy_eq h (by omega), Option.bind_some]
  have : loopO (esref32_Apply.l1 u) (0, t.Objects) = some (appT u t.Objects) := by
    have key := loopO_inv (step := esref32_Apply.l1 u) (I := fun k s => s.1 = (k : Int) ∧ s.2 = (u.Effects.take k).foldl (effT u) t.Objects ∧ GD (n + k) s.2) u.Effects.length (s0 := ((0 : Int), t.Objects)) (Q := fun b => b = appT u t.Objects) ⟨rfl, rfl, h⟩ ?_ ?_
    · obtain ⟨b, e1, rfl⟩ := key
      exact e1
    · rintro k ⟨i, o⟩ hk ⟨hi, ho, hg⟩
      dsimp only at hi ho hg
      subst hi
      have hek := he _ (List.getElem_mem hk)
      refine ⟨(((k + 1 : Nat) : Int), effT u o u.Effects[k]), ?_, rfl, ?_, eff_GD (n := n + k) hg (by omega) hek⟩
      · unfold esref32_Apply.l1
        simp only [lt_of_len hk, if_true, idx_nat hk, Option.bind_some]
        rw [r32_eff_eq hg (by omega) hek, Option.bind_some, letV_of, wcast hk (by omega)]
      · show effT u o u.Effects[k] = _
        rw [ho, take_snoc hk, List.foldl_append]
        rfl
    · rintro ⟨i, o⟩ ⟨hi, ho, hg⟩
      dsimp only at hi ho hg
      subst hi
      rw [List.take_length] at ho
      refine ⟨o, ?_, ho⟩
      unfold esref32_Apply.l1
      simp only [not_lt_len, Bool.false_eq_true, if_false]
  rw [this]
  rfl
theorem rFold_eq {s : List api_Update} (he : ∀ u ∈ s, ∀ e ∈ u.Effects, EF e) (hn : effN s ≤ 90000) (hl : s.length ≤ 1000000) : esref32_Fold s = some ⟨foldT s []⟩ := by
  unfold esref32_Fold
  have hsum : ∀ k, k ≤ s.length → effN (s.take k) ≤ effN s := by
    intro k hk
    unfold effN
    have : s.map (fun u => u.Effects.length) = (s.take k).map (fun u => u.Effects.length) ++ (s.drop k).map (fun u => u.Effects.length) := by rw [← List.map_append, List.take_append_drop]
    rw [this, List.sum_append]
    omega
  have : loopO (esref32_Fold.l1 s) (0, []) = some (foldT s []) := by
    have := loopO_up (step := esref32_Fold.l1 s) (fun k => ((k : Int), foldT (s.take k) [])) s.length (b := foldT s []) (fun k hk => ?_) ?_
    · exact this
    · have h1 := hsum (k + 1) hk
      have es : effN (s.take (k + 1)) = effN (s.take k) + s[k].Effects.length := by
        unfold effN
        rw [take_snoc hk, List.map_append, List.sum_append]
        simp
      obtain ⟨_, hg⟩ := Fold_eq (s := s.take k) (fun u hu => he u (List.mem_of_mem_take hu)) (by omega) (by rw [List.length_take]; omega)
      unfold esref32_Fold.l1
      simp only [lt_of_len hk, if_true, idx_nat hk, Option.bind_some]
      rw [rApply_eq (t := ⟨foldT (s.take k) []⟩) hg (he _ (List.getElem_mem hk)) (by omega), Option.bind_some, letV_of, wcast hk (by omega), take_snoc hk]
      unfold foldT
      rw [List.foldl_append]
      rfl
    · unfold esref32_Fold.l1
      simp only [not_lt_len, Bool.false_eq_true, if_false, List.take_length]
  rw [this]
  rfl
end Go.Proofs.Ytlbcfjblpopcnaa
