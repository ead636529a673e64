import Derived.Test.YtlbcfjblpopcnaaFh
import Derived.Test.YtlbcfjblpopcnaaLz
set_option linter.unusedVariables false
set_option linter.unusedSimpArgs false
namespace Go.Proofs.Ytlbcfjblpopcnaa
open Go Go.RowKit Go.Proofs.YtlbcfjblpopcnaaL
set_option maxRecDepth 100000
set_option maxHeartbeats 4000000
/-! elasticstore/elasticstorelaw30.in: function 35 -/
theorem eslaw30_in.calls {ok : Nat → Prop} {w0 : World} {x1 : List api_Update} {x4 : api_Update} {a2 : Option Addr} {c3 : Nat} {v5 : Value} {r : Bool} (hf : eslaw30_in x1 x4 = some r) (i0 : (vl (tSlice t_api_Update) x1 (.slice a2 x1.length c3)).holds ok w0) (i1 : (vl t_api_Update x4 v5).holds ok w0) :
    Calls Try.prog 35 #[.slice a2 x1.length c3, v5] w0 fun e w' => ∃ v, e = .returned v ∧ ∃ y : Unit, v = .bool r ∧ St ok (bz w0) w' [] [] := by
  unfold eslaw30_in at hf
  refine calls_of_W (fn := Try.f35) (N := 30) Try.func35 rfl Try.ntmps35 rfl ?_
  have hs : St ok (bz w0) w0 [vl (tSlice t_api_Update) x1 (.slice a2 x1.length c3), vl t_api_Update x4 v5] [] := St.init (All.cons i0 (All.cons i1 All.nil))
  clear i0 i1
  obtain ⟨cs6, hl7, rfl⟩ := hs.aggv (n := 4) 1 rfl rfl rfl
  refine W.seqK fun K8 hK8 => ?_
  refine W.region ?_
  refine WL.box (vs := cs6) hs rfl rfl (fun g9 w hs => ?_)
  refine WL.assign (v := .bool false) rfl ?_
  refine WL.nil ?_
  refine hK8 _ _ ?_
  refine W.seqK fun K10 hK10 => ?_
  have Jk12 : ∀  (ρ : Env) (w : World), St ok (bz w0) w [] [] → eslaw30_in.j1 = some r → K10 ρ w := by
    intro  ρ w  hs hf
    refine hK10 _ _ ?_
    unfold eslaw30_in.j1 at hf
    refine W.seqK fun K13 hK13 => ?_
    refine W.region ?_
    refine WL.assign (v := .bool false) rfl ?_
    refine WL.nil ?_
    refine hK13 _ _ ?_
    refine W.ret ?_
    have hr := Option.some.inj hf; subst hr
    exact ⟨_, resOk_one rfl rfl, (), rfl, (hs.mask []).pick []⟩
  refine W.seqK fun K14 hK14 => ?_
  refine W.region ?_
  refine WL.assign (v := .int .i64 0) rfl ?_
  refine WL.nil ?_
  refine hK14 _ _ ?_
  refine W.block ?_
  obtain ⟨bs17, hbs17, hfs17⟩ := bindE hf
  refine W.loop hbs17 (fun s ρ w => match s with | x16 => ρ 0 = .slice a2 x1.length c3 ∧ ρ 3 = .pointer (some ⟨g9, 0, none⟩) ∧ ρ 5 = .int .i64 x16 ∧ St ok (bz w0) w [vl (tSlice t_api_Update) x1 (.slice a2 x1.length c3), vl t_api_Update x4 (.agg cs6.toArray)] [blk g9 41 cs6]) ⟨rfl, rfl, rfl, (hs.mask [true]).pick [0, 1]⟩ ?_
  intro x16 ρ w os17 hI hf hbbs17
  obtain ⟨h15_0, h15_3, h15_5, hs⟩ := hI
  unfold eslaw30_in.l1 at hf
  refine W.seqK fun K18 hK18 => ?_
  refine W.seqK fun K19 hK19 => ?_
  refine W.region ?_
  refine WL.move (v := .int .i64 x16) h15_5 ?_
  refine WL.move (v := .slice a2 x1.length c3) h15_0 ?_
  refine WL.len (v := .slice a2 x1.length c3) rfl (len_slice UN23) ?_
  refine WL.bin (v := .bool (decide (x16 < (x1.length : Int)))) rfl rfl (ib_lss _ _ _) ?_
  refine WL.nil ?_
  refine hK19 _ _ ?_
  rcases iteE hf with ⟨hc20, hf⟩ | ⟨hc20, hf⟩
  · refine W.cond_true (bool_tr rfl hc20) ?_
    refine W.skip ?_
    refine hK18 _ _ ?_
    refine W.seqK fun K21 hK21 => ?_
    refine W.block ?_
    refine W.seqK fun K22 hK22 => ?_
    have Jk25 : ∀ (x24 : Bool) (ρ : Env) (w : World), ρ 0 = .slice a2 x1.length c3 → ρ 3 = .pointer (some ⟨g9, 0, none⟩) → ρ 5 = .int .i64 x16 → ρ 29 = .bool x24 → St ok (bz w0) w [vl (tSlice t_api_Update) x1 (.slice a2 x1.length c3), vl t_api_Update x4 (.agg cs6.toArray)] [blk g9 41 cs6] → eslaw30_in.j2 x16 x24 = some os17 → K22 ρ w := by
      intro x24 ρ w h23_0 h23_3 h23_5 h23_29 hs hf
      refine hK22 _ _ ?_
      unfold eslaw30_in.j2 at hf
      rcases iteE hf with ⟨hc26, hf⟩ | ⟨hc26, hf⟩
      · refine W.cond_true (bool_tr h23_29 hc26) ?_
        refine W.seqK fun K27 hK27 => ?_
        refine W.region ?_
        refine WL.assign (v := .bool true) rfl ?_
        refine WL.nil ?_
        refine hK27 _ _ ?_
        refine W.ret ?_
        have hr := Option.some.inj hf; subst hr
        have hr := hbbs17 _ rfl; subst hr
        have hf := hfs17
        have hr := Option.some.inj hf; subst hr
        exact ⟨_, resOk_one rfl rfl, (), rfl, (hs.mask []).pick []⟩
      · refine W.cond_false (bool_tr h23_29 hc26) ?_
        refine W.skip ?_
        refine hK21 _ _ ?_
        refine W.region ?_
        refine WL.move (v := .int .i64 x16) h23_5 ?_
        obtain ⟨x28, ex28, hf⟩ := letE hf
        refine WL.bin (v := .int .i64 x28) rfl rfl (ib_as ex28 (ib_add _ _ _)) ?_
        refine WL.assign (v := .int .i64 x28) rfl ?_
        refine WL.nil ?_
        exact ⟨_, (Option.some.inj hf).symm, h23_0, h23_3, rfl, (hs.mask [true]).pick [0, 1]⟩
    obtain ⟨x29, hxx29, hf⟩ := bindE hf
    rcases iteE hf with ⟨hc34, hf⟩ | ⟨hc34, hf⟩
    · obtain ⟨x35, hxx35, hf⟩ := bindE hf
      refine W.any (by kernel_rfl) 18 0 [true, true, true, true, true, true, true, true, true, true, true, true, true, true, true, true, true, true] rfl rfl (poAt [pv (.slice a2 x1.length c3), pv (.int .i64 x16), pq (fun y : Addr => .pointer (some y)) (fun v => [pl t_api_Update x29 (adOf v)]) (fun v => []), pq (fun y : Addr => .pointer (some y)) (fun v => [pl (tInt .i64) x29.Client (adOf v)]) (fun v => []), pv (.int .i64 x29.Client), pv (.pointer (some ⟨g9, 0, none⟩)), pv (.int .i64 x4.Client), pv (.bool (x29.Client == x4.Client)), pv (.bool (x29.Client == x4.Client)), pv (.slice a2 x1.length c3), pv (.int .i64 x16), pq (fun y : Addr => .pointer (some y)) (fun v => [pl t_api_Update x35 (adOf v)]) (fun v => []), pq (fun y : Addr => .pointer (some y)) (fun v => [pl (tInt .i64) x35.Seq (adOf v)]) (fun v => []), pv (.int .i64 x35.Seq), pv (.pointer (some ⟨g9, 1, none⟩)), pv (.int .i64 x4.Seq), pv (.bool (x35.Seq == x4.Seq)), pv (.bool (x35.Seq == x4.Seq))]) (Λ := [blk g9 41 cs6]) hs (by kernel_rfl) (by kernel_rfl) (by kernel_rfl) ⟨⟨⟨⟨⟨⟨⟨⟨⟨⟨⟨⟨⟨⟨⟨⟨⟨⟨trivial, ?_⟩, ?_⟩, ?_⟩, ?_⟩, ?_⟩, ?_⟩, ?_⟩, ?_⟩, ?_⟩, ?_⟩, ?_⟩, ?_⟩, ?_⟩, ?_⟩, ?_⟩, ?_⟩, ?_⟩, ?_⟩ ?_
      · intro ρ w Γx Λx hs hu hp
        refine WL.move (v := .slice a2 x1.length c3) ((hu 0 rfl).trans h15_0) ?_
        exact WL.nil ⟨rfl, _, rfl, rfl, hs.cutG 0 0⟩
      · intro ρ w Γx Λx hs hu hp
        refine WL.move (v := .int .i64 x16) ((hu 5 rfl).trans h15_5) ?_
        exact WL.nil ⟨rfl, _, rfl, rfl, hs.cutG 0 0⟩
      · intro ρ w Γx Λx hs hu hp
        have e40 : ρ 12 = .slice a2 x1.length c3 := (hp 0 rfl).1
        have e41 : ρ 13 = .int .i64 x16 := (hp 1 rfl).1
        refine WL.indexAddr hs (Γx.length + 0) (getApp rfl) UN23 TI41 e40 e41 hxx29 (fun ad30 hs => ?_)
        have hs := hs.add (it := pl t_api_Update x29 ad30) fun ok hA => hA.get 0 rfl
        exact WL.nil ⟨rfl, _, rfl, ⟨ad30, rfl⟩, hs.cutG 1 1⟩
      · intro ρ w Γx Λx hs hu hp
        obtain ⟨⟨ad42, e43r⟩, hm44⟩ := hp 2 rfl
        have e43 : ρ 14 = .pointer (some ad42) := e43r
        rw [e43r] at hm44
        have hs := hs.memo1 (it := pl t_api_Update x29 ad42) (List.mem_append.2 (.inl (hm44 _ (List.mem_of_getElem? (i := 0) rfl))))
        refine WL.fieldAddrP (z := x29.Client) F_api_Update_Client hs 0 rfl e43 FA41_0 rfl (fun ad31 hs => ?_)
        have hs := hs.add (it := pl (tInt .i64) x29.Client ad31) fun ok hA => hA.get 0 rfl
        exact WL.nil ⟨rfl, _, rfl, ⟨ad31, rfl⟩, hs.cutG 1 2⟩
      · intro ρ w Γx Λx hs hu hp
        obtain ⟨⟨ad45, e46r⟩, hm47⟩ := hp 3 rfl
        have e46 : ρ 15 = .pointer (some ad45) := e46r
        rw [e46r] at hm47
        have hs := hs.memo1 (it := pl (tInt .i64) x29.Client ad45) (List.mem_append.2 (.inl (hm47 _ (List.mem_of_getElem? (i := 0) rfl))))
        refine WL.loadP hs 0 rfl TI3 (.inr rfl) e46 (fun v32 hs => ?_)
        obtain rfl := hs.int 0 rfl
        exact WL.nil ⟨rfl, _, rfl, rfl, hs.cutG 0 2⟩
      · intro ρ w Γx Λx hs hu hp
        refine WL.fieldAddr (m := 0) ((hu 3 rfl).trans h15_3) FA41_0 rfl ?_
        exact WL.nil ⟨rfl, _, rfl, rfl, hs.cutG 0 0⟩
      · intro ρ w Γx Λx hs hu hp
        have e48 : ρ 17 = .pointer (some ⟨g9, 0, none⟩) := (hp 5 rfl).1
        refine WL.loadF (z := x4.Client) F_api_Update_Client hs (Λx.length + 0) (getApp rfl) (Γx.length + 1) (getApp rfl) rfl TI3 (.inr rfl) e48 rfl (fun v33 hs => ?_)
        obtain rfl := hs.int 0 rfl
        exact WL.nil ⟨rfl, _, rfl, rfl, hs.cutG 0 1⟩
      · intro ρ w Γx Λx hs hu hp
        have e49 : ρ 16 = .int .i64 x29.Client := (hp 4 rfl).1
        have e50 : ρ 18 = .int .i64 x4.Client := (hp 6 rfl).1
        refine WL.bin (v := .bool (x29.Client == x4.Client)) e49 e50 (ib_eql _ _ _) ?_
        exact WL.nil ⟨rfl, _, rfl, rfl, hs.cutG 0 0⟩
      · intro ρ w Γx Λx hs hu hp
        have e51 : ρ 19 = .bool (x29.Client == x4.Client) := (hp 7 rfl).1
        refine WL.move (v := .bool (x29.Client == x4.Client)) e51 ?_
        exact WL.nil ⟨rfl, _, rfl, rfl, hs.cutG 0 0⟩
      · intro ρ w Γx Λx hs hu hp
        have e52 : ρ 20 = .bool (x29.Client == x4.Client) := (hp 8 rfl).1
        refine WL.move (v := .slice a2 x1.length c3) ((hu 0 rfl).trans h15_0) ?_ (hg := (wanted_of rfl rfl (bool_tr e52 hc34)).trans rfl)
        exact WL.nil ⟨rfl, _, rfl, rfl, hs.cutG 0 0⟩
      · intro ρ w Γx Λx hs hu hp
        have e53 : ρ 20 = .bool (x29.Client == x4.Client) := (hp 8 rfl).1
        refine WL.move (v := .int .i64 x16) ((hu 5 rfl).trans h15_5) ?_ (hg := (wanted_of rfl rfl (bool_tr e53 hc34)).trans rfl)
        exact WL.nil ⟨rfl, _, rfl, rfl, hs.cutG 0 0⟩
      · intro ρ w Γx Λx hs hu hp
        have e54 : ρ 21 = .slice a2 x1.length c3 := (hp 9 rfl).1
        have e55 : ρ 22 = .int .i64 x16 := (hp 10 rfl).1
        have e56 : ρ 20 = .bool (x29.Client == x4.Client) := (hp 8 rfl).1
        refine WL.indexAddr hs (Γx.length + 0) (getApp rfl) UN23 TI41 e54 e55 hxx35 (fun ad36 hs => ?_) (hg := (wanted_of rfl rfl (bool_tr e56 hc34)).trans rfl)
        have hs := hs.add (it := pl t_api_Update x35 ad36) fun ok hA => hA.get 0 rfl
        exact WL.nil ⟨rfl, _, rfl, ⟨ad36, rfl⟩, hs.cutG 1 1⟩
      · intro ρ w Γx Λx hs hu hp
        obtain ⟨⟨ad57, e58r⟩, hm59⟩ := hp 11 rfl
        have e58 : ρ 23 = .pointer (some ad57) := e58r
        rw [e58r] at hm59
        have hs := hs.memo1 (it := pl t_api_Update x35 ad57) (List.mem_append.2 (.inl (hm59 _ (List.mem_of_getElem? (i := 0) rfl))))
        have e60 : ρ 20 = .bool (x29.Client == x4.Client) := (hp 8 rfl).1
        refine WL.fieldAddrP (z := x35.Seq) F_api_Update_Seq hs 0 rfl e58 FA41_1 rfl (fun ad37 hs => ?_) (hg := (wanted_of rfl rfl (bool_tr e60 hc34)).trans rfl)
        have hs := hs.add (it := pl (tInt .i64) x35.Seq ad37) fun ok hA => hA.get 0 rfl
        exact WL.nil ⟨rfl, _, rfl, ⟨ad37, rfl⟩, hs.cutG 1 2⟩
      · intro ρ w Γx Λx hs hu hp
        obtain ⟨⟨ad61, e62r⟩, hm63⟩ := hp 12 rfl
        have e62 : ρ 24 = .pointer (some ad61) := e62r
        rw [e62r] at hm63
        have hs := hs.memo1 (it := pl (tInt .i64) x35.Seq ad61) (List.mem_append.2 (.inl (hm63 _ (List.mem_of_getElem? (i := 0) rfl))))
        have e64 : ρ 20 = .bool (x29.Client == x4.Client) := (hp 8 rfl).1
        refine WL.loadP hs 0 rfl TI3 (.inr rfl) e62 (fun v38 hs => ?_) (hg := (wanted_of rfl rfl (bool_tr e64 hc34)).trans rfl)
        obtain rfl := hs.int 0 rfl
        exact WL.nil ⟨rfl, _, rfl, rfl, hs.cutG 0 2⟩
      · intro ρ w Γx Λx hs hu hp
        have e65 : ρ 20 = .bool (x29.Client == x4.Client) := (hp 8 rfl).1
        refine WL.fieldAddr (m := 1) ((hu 3 rfl).trans h15_3) FA41_1 rfl ?_ (hg := (wanted_of rfl rfl (bool_tr e65 hc34)).trans rfl)
        exact WL.nil ⟨rfl, _, rfl, rfl, hs.cutG 0 0⟩
      · intro ρ w Γx Λx hs hu hp
        have e66 : ρ 26 = .pointer (some ⟨g9, 1, none⟩) := (hp 14 rfl).1
        have e67 : ρ 20 = .bool (x29.Client == x4.Client) := (hp 8 rfl).1
        refine WL.loadF (z := x4.Seq) F_api_Update_Seq hs (Λx.length + 0) (getApp rfl) (Γx.length + 1) (getApp rfl) rfl TI3 (.inr rfl) e66 rfl (fun v39 hs => ?_) (hg := (wanted_of rfl rfl (bool_tr e67 hc34)).trans rfl)
        obtain rfl := hs.int 0 rfl
        exact WL.nil ⟨rfl, _, rfl, rfl, hs.cutG 0 1⟩
      · intro ρ w Γx Λx hs hu hp
        have e68 : ρ 25 = .int .i64 x35.Seq := (hp 13 rfl).1
        have e69 : ρ 27 = .int .i64 x4.Seq := (hp 15 rfl).1
        have e70 : ρ 20 = .bool (x29.Client == x4.Client) := (hp 8 rfl).1
        refine WL.bin (v := .bool (x35.Seq == x4.Seq)) e68 e69 (ib_eql _ _ _) ?_ (hg := (wanted_of rfl rfl (bool_tr e70 hc34)).trans rfl)
        exact WL.nil ⟨rfl, _, rfl, rfl, hs.cutG 0 0⟩
      · intro ρ w Γx Λx hs hu hp
        have e71 : ρ 20 = .bool (x29.Client == x4.Client) := (hp 8 rfl).1
        have e72 : ρ 28 = .bool (x35.Seq == x4.Seq) := (hp 16 rfl).1
        refine WL.pickT (v := .bool (x35.Seq == x4.Seq)) (bool_tr e71 hc34) e72 ?_
        exact WL.nil ⟨rfl, _, rfl, rfl, hs.cutG 0 0⟩
      · intro ρ w hs hu73 hp
        obtain ⟨⟨⟨⟨⟨⟨⟨⟨⟨⟨⟨⟨⟨⟨⟨⟨⟨⟨_, hp0_⟩, hp1_⟩, hp2_⟩, hp3_⟩, hp4_⟩, hp5_⟩, hp6_⟩, hp7_⟩, hp8_⟩, hp9_⟩, hp10_⟩, hp11_⟩, hp12_⟩, hp13_⟩, hp14_⟩, hp15_⟩, hp16_⟩, hp17_⟩ := hp
        have hs : St ok (bz w0) w [pl (tInt .i64) x35.Seq (adOf (ρ 24)), pl t_api_Update x35 (adOf (ρ 23)), pl (tInt .i64) x29.Client (adOf (ρ 15)), pl t_api_Update x29 (adOf (ρ 14)), vl (tSlice t_api_Update) x1 (.slice a2 x1.length c3), vl t_api_Update x4 (.agg cs6.toArray)] [blk g9 41 cs6] := hs
        have e74 : ρ 29 = .bool (x35.Seq == x4.Seq) := hp17_
        have e75 : ρ 28 = .bool (x35.Seq == x4.Seq) := hp16_
        have e76 : ρ 27 = .int .i64 x4.Seq := hp15_
        have e77 : ρ 26 = .pointer (some ⟨g9, 1, none⟩) := hp14_
        have e78 : ρ 25 = .int .i64 x35.Seq := hp13_
        obtain ⟨ad79, e80⟩ := hp12_
        have e80 : ρ 24 = .pointer (some ad79) := e80
        try rw [e80] at hs
        obtain ⟨ad81, e82⟩ := hp11_
        have e82 : ρ 23 = .pointer (some ad81) := e82
        try rw [e82] at hs
        have e83 : ρ 22 = .int .i64 x16 := hp10_
        have e84 : ρ 21 = .slice a2 x1.length c3 := hp9_
        have e85 : ρ 20 = .bool (x29.Client == x4.Client) := hp8_
        have e86 : ρ 19 = .bool (x29.Client == x4.Client) := hp7_
        have e87 : ρ 18 = .int .i64 x4.Client := hp6_
        have e88 : ρ 17 = .pointer (some ⟨g9, 0, none⟩) := hp5_
        have e89 : ρ 16 = .int .i64 x29.Client := hp4_
        obtain ⟨ad90, e91⟩ := hp3_
        have e91 : ρ 15 = .pointer (some ad90) := e91
        try rw [e91] at hs
        obtain ⟨ad92, e93⟩ := hp2_
        have e93 : ρ 14 = .pointer (some ad92) := e93
        try rw [e93] at hs
        have e94 : ρ 13 = .int .i64 x16 := hp1_
        have e95 : ρ 12 = .slice a2 x1.length c3 := hp0_
        refine WA.done (by kernel_rfl) ?_
        exact Jk25 (x35.Seq == x4.Seq) _ _ ((hu73 0 rfl).trans h15_0) ((hu73 3 rfl).trans h15_3) ((hu73 5 rfl).trans h15_5) e74 ((hs.mask [true]).pick [4, 5]) hf
    · refine W.any (by kernel_rfl) 18 0 [true, true, true, true, true, true, true, true, true, true, true, true, true, true, true, true, true, true] rfl rfl (poAt [pv (.slice a2 x1.length c3), pv (.int .i64 x16), pq (fun y : Addr => .pointer (some y)) (fun v => [pl t_api_Update x29 (adOf v)]) (fun v => []), pq (fun y : Addr => .pointer (some y)) (fun v => [pl (tInt .i64) x29.Client (adOf v)]) (fun v => []), pv (.int .i64 x29.Client), pv (.pointer (some ⟨g9, 0, none⟩)), pv (.int .i64 x4.Client), pv (.bool (x29.Client == x4.Client)), pv (.bool (x29.Client == x4.Client)), pv (undef), pv (undef), pv (undef), pv (undef), pv (undef), pv (undef), pv (undef), pv (undef), pv (.bool false)]) (Λ := [blk g9 41 cs6]) hs (by kernel_rfl) (by kernel_rfl) (by kernel_rfl) ⟨⟨⟨⟨⟨⟨⟨⟨⟨⟨⟨⟨⟨⟨⟨⟨⟨⟨trivial, ?_⟩, ?_⟩, ?_⟩, ?_⟩, ?_⟩, ?_⟩, ?_⟩, ?_⟩, ?_⟩, ?_⟩, ?_⟩, ?_⟩, ?_⟩, ?_⟩, ?_⟩, ?_⟩, ?_⟩, ?_⟩ ?_
      · intro ρ w Γx Λx hs hu hp
        refine WL.move (v := .slice a2 x1.length c3) ((hu 0 rfl).trans h15_0) ?_
        exact WL.nil ⟨rfl, _, rfl, rfl, hs.cutG 0 0⟩
      · intro ρ w Γx Λx hs hu hp
        refine WL.move (v := .int .i64 x16) ((hu 5 rfl).trans h15_5) ?_
        exact WL.nil ⟨rfl, _, rfl, rfl, hs.cutG 0 0⟩
      · intro ρ w Γx Λx hs hu hp
        have e96 : ρ 12 = .slice a2 x1.length c3 := (hp 0 rfl).1
        have e97 : ρ 13 = .int .i64 x16 := (hp 1 rfl).1
        refine WL.indexAddr hs (Γx.length + 0) (getApp rfl) UN23 TI41 e96 e97 hxx29 (fun ad30 hs => ?_)
        have hs := hs.add (it := pl t_api_Update x29 ad30) fun ok hA => hA.get 0 rfl
        exact WL.nil ⟨rfl, _, rfl, ⟨ad30, rfl⟩, hs.cutG 1 1⟩
      · intro ρ w Γx Λx hs hu hp
        obtain ⟨⟨ad98, e99r⟩, hm100⟩ := hp 2 rfl
        have e99 : ρ 14 = .pointer (some ad98) := e99r
        rw [e99r] at hm100
        have hs := hs.memo1 (it := pl t_api_Update x29 ad98) (List.mem_append.2 (.inl (hm100 _ (List.mem_of_getElem? (i := 0) rfl))))
        refine WL.fieldAddrP (z := x29.Client) F_api_Update_Client hs 0 rfl e99 FA41_0 rfl (fun ad31 hs => ?_)
        have hs := hs.add (it := pl (tInt .i64) x29.Client ad31) fun ok hA => hA.get 0 rfl
        exact WL.nil ⟨rfl, _, rfl, ⟨ad31, rfl⟩, hs.cutG 1 2⟩
      · intro ρ w Γx Λx hs hu hp
        obtain ⟨⟨ad101, e102r⟩, hm103⟩ := hp 3 rfl
        have e102 : ρ 15 = .pointer (some ad101) := e102r
        rw [e102r] at hm103
        have hs := hs.memo1 (it := pl (tInt .i64) x29.Client ad101) (List.mem_append.2 (.inl (hm103 _ (List.mem_of_getElem? (i := 0) rfl))))
        refine WL.loadP hs 0 rfl TI3 (.inr rfl) e102 (fun v32 hs => ?_)
        obtain rfl := hs.int 0 rfl
        exact WL.nil ⟨rfl, _, rfl, rfl, hs.cutG 0 2⟩
      · intro ρ w Γx Λx hs hu hp
        refine WL.fieldAddr (m := 0) ((hu 3 rfl).trans h15_3) FA41_0 rfl ?_
        exact WL.nil ⟨rfl, _, rfl, rfl, hs.cutG 0 0⟩
      · intro ρ w Γx Λx hs hu hp
        have e104 : ρ 17 = .pointer (some ⟨g9, 0, none⟩) := (hp 5 rfl).1
        refine WL.loadF (z := x4.Client) F_api_Update_Client hs (Λx.length + 0) (getApp rfl) (Γx.length + 1) (getApp rfl) rfl TI3 (.inr rfl) e104 rfl (fun v33 hs => ?_)
        obtain rfl := hs.int 0 rfl
        exact WL.nil ⟨rfl, _, rfl, rfl, hs.cutG 0 1⟩
      · intro ρ w Γx Λx hs hu hp
        have e105 : ρ 16 = .int .i64 x29.Client := (hp 4 rfl).1
        have e106 : ρ 18 = .int .i64 x4.Client := (hp 6 rfl).1
        refine WL.bin (v := .bool (x29.Client == x4.Client)) e105 e106 (ib_eql _ _ _) ?_
        exact WL.nil ⟨rfl, _, rfl, rfl, hs.cutG 0 0⟩
      · intro ρ w Γx Λx hs hu hp
        have e107 : ρ 19 = .bool (x29.Client == x4.Client) := (hp 7 rfl).1
        refine WL.move (v := .bool (x29.Client == x4.Client)) e107 ?_
        exact WL.nil ⟨rfl, _, rfl, rfl, hs.cutG 0 0⟩
      · intro ρ w Γx Λx hs hu hp
        have e108 : ρ 20 = .bool (x29.Client == x4.Client) := (hp 8 rfl).1
        refine WL.pass ((wanted_of rfl rfl (bool_tr e108 hc34)).trans rfl) rfl ?_
        exact WL.nil ⟨rfl, _, rfl, rfl, hs.cutG 0 0⟩
      · intro ρ w Γx Λx hs hu hp
        have e109 : ρ 20 = .bool (x29.Client == x4.Client) := (hp 8 rfl).1
        refine WL.pass ((wanted_of rfl rfl (bool_tr e109 hc34)).trans rfl) rfl ?_
        exact WL.nil ⟨rfl, _, rfl, rfl, hs.cutG 0 0⟩
      · intro ρ w Γx Λx hs hu hp
        have e110 : ρ 21 = undef := (hp 9 rfl).1
        have e111 : ρ 22 = undef := (hp 10 rfl).1
        have e112 : ρ 20 = .bool (x29.Client == x4.Client) := (hp 8 rfl).1
        refine WL.pass ((wanted_of rfl rfl (bool_tr e112 hc34)).trans rfl) rfl ?_
        exact WL.nil ⟨rfl, _, rfl, rfl, hs.cutG 0 0⟩
      · intro ρ w Γx Λx hs hu hp
        have e113 : ρ 23 = undef := (hp 11 rfl).1
        have e114 : ρ 20 = .bool (x29.Client == x4.Client) := (hp 8 rfl).1
        refine WL.pass ((wanted_of rfl rfl (bool_tr e114 hc34)).trans rfl) rfl ?_
        exact WL.nil ⟨rfl, _, rfl, rfl, hs.cutG 0 0⟩
      · intro ρ w Γx Λx hs hu hp
        have e115 : ρ 24 = undef := (hp 12 rfl).1
        have e116 : ρ 20 = .bool (x29.Client == x4.Client) := (hp 8 rfl).1
        refine WL.pass ((wanted_of rfl rfl (bool_tr e116 hc34)).trans rfl) rfl ?_
        exact WL.nil ⟨rfl, _, rfl, rfl, hs.cutG 0 0⟩
      · intro ρ w Γx Λx hs hu hp
        have e117 : ρ 20 = .bool (x29.Client == x4.Client) := (hp 8 rfl).1
        refine WL.pass ((wanted_of rfl rfl (bool_tr e117 hc34)).trans rfl) rfl ?_
        exact WL.nil ⟨rfl, _, rfl, rfl, hs.cutG 0 0⟩
      · intro ρ w Γx Λx hs hu hp
        have e118 : ρ 26 = undef := (hp 14 rfl).1
        have e119 : ρ 20 = .bool (x29.Client == x4.Client) := (hp 8 rfl).1
        refine WL.pass ((wanted_of rfl rfl (bool_tr e119 hc34)).trans rfl) rfl ?_
        exact WL.nil ⟨rfl, _, rfl, rfl, hs.cutG 0 0⟩
      · intro ρ w Γx Λx hs hu hp
        have e120 : ρ 25 = undef := (hp 13 rfl).1
        have e121 : ρ 27 = undef := (hp 15 rfl).1
        have e122 : ρ 20 = .bool (x29.Client == x4.Client) := (hp 8 rfl).1
        refine WL.pass ((wanted_of rfl rfl (bool_tr e122 hc34)).trans rfl) rfl ?_
        exact WL.nil ⟨rfl, _, rfl, rfl, hs.cutG 0 0⟩
      · intro ρ w Γx Λx hs hu hp
        have e123 : ρ 20 = .bool (x29.Client == x4.Client) := (hp 8 rfl).1
        have e124 : ρ 28 = undef := (hp 16 rfl).1
        refine WL.pickF (v := .bool false) (bool_tr e123 hc34) rfl ?_
        exact WL.nil ⟨rfl, _, rfl, rfl, hs.cutG 0 0⟩
      · intro ρ w hs hu125 hp
        obtain ⟨⟨⟨⟨⟨⟨⟨⟨⟨⟨⟨⟨⟨⟨⟨⟨⟨⟨_, hp0_⟩, hp1_⟩, hp2_⟩, hp3_⟩, hp4_⟩, hp5_⟩, hp6_⟩, hp7_⟩, hp8_⟩, hp9_⟩, hp10_⟩, hp11_⟩, hp12_⟩, hp13_⟩, hp14_⟩, hp15_⟩, hp16_⟩, hp17_⟩ := hp
        have hs : St ok (bz w0) w [pl (tInt .i64) x29.Client (adOf (ρ 15)), pl t_api_Update x29 (adOf (ρ 14)), vl (tSlice t_api_Update) x1 (.slice a2 x1.length c3), vl t_api_Update x4 (.agg cs6.toArray)] [blk g9 41 cs6] := hs
        have e126 : ρ 29 = .bool false := hp17_
        have e127 : ρ 28 = undef := hp16_
        have e128 : ρ 27 = undef := hp15_
        have e129 : ρ 26 = undef := hp14_
        have e130 : ρ 25 = undef := hp13_
        have e131 : ρ 24 = undef := hp12_
        have e132 : ρ 23 = undef := hp11_
        have e133 : ρ 22 = undef := hp10_
        have e134 : ρ 21 = undef := hp9_
        have e135 : ρ 20 = .bool (x29.Client == x4.Client) := hp8_
        have e136 : ρ 19 = .bool (x29.Client == x4.Client) := hp7_
        have e137 : ρ 18 = .int .i64 x4.Client := hp6_
        have e138 : ρ 17 = .pointer (some ⟨g9, 0, none⟩) := hp5_
        have e139 : ρ 16 = .int .i64 x29.Client := hp4_
        obtain ⟨ad140, e141⟩ := hp3_
        have e141 : ρ 15 = .pointer (some ad140) := e141
        try rw [e141] at hs
        obtain ⟨ad142, e143⟩ := hp2_
        have e143 : ρ 14 = .pointer (some ad142) := e143
        try rw [e143] at hs
        have e144 : ρ 13 = .int .i64 x16 := hp1_
        have e145 : ρ 12 = .slice a2 x1.length c3 := hp0_
        refine WA.done (by kernel_rfl) ?_
        exact Jk25 false _ _ ((hu125 0 rfl).trans h15_0) ((hu125 3 rfl).trans h15_3) ((hu125 5 rfl).trans h15_5) e126 ((hs.mask [true]).pick [2, 3]) hf
  · refine W.cond_false (bool_tr rfl hc20) ?_
    refine W.exit ?_
    have hr := Option.some.inj hf; subst hr
    have hr := hbbs17 _ rfl; subst hr
    have hf := hfs17
    exact Jk12  _ _  ((hs.mask []).pick []) hf
end Go.Proofs.Ytlbcfjblpopcnaa
