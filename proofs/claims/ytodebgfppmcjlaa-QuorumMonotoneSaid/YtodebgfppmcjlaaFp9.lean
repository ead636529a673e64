import Derived.Test.YtodebgfppmcjlaaFh
import Derived.Test.YtodebgfppmcjlaaFp3
import Derived.Test.YtodebgfppmcjlaaFp4
import Derived.Test.YtodebgfppmcjlaaFp7
import Derived.Test.YtodebgfppmcjlaaFp8
set_option linter.unusedVariables false
set_option linter.unusedSimpArgs false
namespace Go.Proofs.Ytodebgfppmcjlaa
open Go Go.RowKit Go.Proofs.YtodebgfppmcjlaaL
set_option maxRecDepth 100000
set_option maxHeartbeats 4000000
/-! elasticstore/elasticstorelaw04.QuorumMinimal: function 5 -/
theorem eslaw04_QuorumMinimal.calls {ok : Nat → Prop} {w0 : World} {x1 : api_View} {v2 : Value} {r : Bool} (hf : eslaw04_QuorumMinimal x1 = some r) (i0 : (vl t_api_View x1 v2).holds ok w0) :
    Calls Try.prog 5 #[v2] w0 fun e w' => ∃ v, e = .returned v ∧ ∃ y : Unit, v = .bool r ∧ St ok (bz w0) w' [] [] := by
  unfold eslaw04_QuorumMinimal at hf
  refine calls_of_W (fn := Try.f5) (N := 62) Try.func5 rfl Try.ntmps5 rfl ?_
  have hs : St ok (bz w0) w0 [vl t_api_View x1 v2] [] := St.init (All.cons i0 All.nil)
  clear i0
  obtain ⟨cs3, hl4, rfl⟩ := hs.aggv (n := 4) 0 rfl rfl rfl
  refine W.seqK fun K5 hK5 => ?_
  refine W.region ?_
  refine WL.box (vs := cs3) hs rfl rfl (fun g6 w hs => ?_)
  refine WL.assign (v := .bool false) rfl ?_
  refine WL.nil ?_
  refine hK5 _ _ ?_
  refine W.seqK fun K7 hK7 => ?_
  refine W.seqK fun K8 hK8 => ?_
  refine W.region ?_
  refine WL.loadAll hs 0 rfl TI26 rfl hl4 ?_
  obtain ⟨x9, hxx9, hf⟩ := bindE hf
  refine WL.call (vs := [.agg cs3.toArray, .int .i64 8]) hs FN17 ⟨rfl, ⟨rfl, trivial⟩⟩ (fun ok hA => eslaw04_small.calls (x1 := x1) (x5 := 8) hxx9 (hA.get 0 rfl)) ?_
  rintro _ w hs
  refine WL.not rfl ?_
  refine WL.nil ?_
  refine hK8 _ _ ?_
  rcases iteE hf with ⟨hc10, hf⟩ | ⟨hc10, hf⟩
  · refine W.cond_true (bool_tr rfl hc10) ?_
    refine W.seqK fun K11 hK11 => ?_
    refine W.region ?_
    obtain ⟨x12, hxx12, hf⟩ := bindE hf
    refine WL.call (vs := []) hs FN11 trivial (fun ok hA => eslaw04_awake.calls hxx12) ?_
    rintro _ w hs
    refine WL.assign (v := .bool x12) rfl ?_
    refine WL.nil ?_
    refine hK11 _ _ ?_
    refine W.ret ?_
    have hr := Option.some.inj hf; subst hr
    exact ⟨_, resOk_one rfl rfl, (), rfl, (hs.mask []).pick []⟩
  · refine W.cond_false (bool_tr rfl hc10) ?_
    refine W.skip ?_
    refine hK7 _ _ ?_
    refine W.seqK fun K13 hK13 => ?_
    obtain ⟨x14, hxx14, hf⟩ := bindE hf
    obtain ⟨x18, hxx18, hf⟩ := bindE hf
    refine W.any (by kernel_rfl) 4 2 [true, true, true, true, false, false] rfl rfl (poAt [pv (.agg cs3.toArray), pq (fun y : (Option Addr × Nat × Nat) => .slice y.1 y.2.1 y.2.2) (fun v => []) (fun v => [own (tSlice (tInt .i64)) 33 v x14]), pv (.agg cs3.toArray), pq (fun y : (Option Addr × Nat) => .slice y.1 x18.length y.2) (fun v => [vl (tSlice (tSlice (tInt .i64))) x18 v]) (fun v => [])]) (Λ := [blk g6 26 cs3]) hs (by kernel_rfl) (by kernel_rfl) (by kernel_rfl) ⟨⟨⟨⟨trivial, ?_⟩, ?_⟩, ?_⟩, ?_⟩ ?_
    · intro ρ w Γx Λx hs hu hp
      refine WL.loadAll hs (Λx.length + 0) (getApp rfl) TI26 (hu 1 rfl) hl4 ?_
      exact WL.nil ⟨rfl, _, rfl, rfl, hs.cutG 0 0⟩
    · intro ρ w Γx Λx hs hu hp
      have e21 : ρ 11 = .agg cs3.toArray := (hp 0 rfl).1
      refine WL.call (vs := [.agg cs3.toArray]) hs FN20 ⟨e21, trivial⟩ (fun ok hA => quorum_Minimal.calls (x1 := x1) hxx14 (hA.get (Γx.length + 0) (getApp rfl))) ?_
      rintro ⟨a15, n16, c17⟩ w hs
      exact WL.nil ⟨rfl, _, rfl, ⟨(a15, n16, c17), rfl⟩, hs.cutG 0 0⟩
    · intro ρ w Γx Λx hs hu hp
      refine WL.loadAll hs (Λx.length + 0) (getApp rfl) TI26 (hu 1 rfl) hl4 ?_
      exact WL.nil ⟨rfl, _, rfl, rfl, hs.cutG 0 0⟩
    · intro ρ w Γx Λx hs hu hp
      have e22 : ρ 13 = .agg cs3.toArray := (hp 2 rfl).1
      refine WL.call (vs := [.agg cs3.toArray]) hs FN21 ⟨e22, trivial⟩ (fun ok hA => esref06_Minimal.calls (x1 := x1) hxx18 (hA.get (Γx.length + 0) (getApp rfl))) ?_
      rintro ⟨a19, c20⟩ w hs
      have hs := hs.add (it := vl (tSlice (tSlice (tInt .i64))) x18 (.slice a19 x18.length c20)) fun ok hA => hA.get 0 rfl
      exact WL.nil ⟨rfl, _, rfl, ⟨(a19, c20), rfl⟩, hs.cutG 1 1⟩
    · intro ρ w hs hu23 hp
      obtain ⟨⟨⟨⟨_, hp0_⟩, hp1_⟩, hp2_⟩, hp3_⟩ := hp
      have hs : St ok (bz w0) w [vl (tSlice (tSlice (tInt .i64))) x18 (ρ 14), vl t_api_View x1 (.agg cs3.toArray)] [own (tSlice (tInt .i64)) 33 ((ρ 12)) x14, blk g6 26 cs3] := hs
      obtain ⟨⟨a24, c25⟩, e26⟩ := hp3_
      have e26 : ρ 14 = .slice a24 x18.length c25 := e26
      try rw [e26] at hs
      have e27 : ρ 13 = .agg cs3.toArray := hp2_
      obtain ⟨⟨a28, n30, c29⟩, e31⟩ := hp1_
      have e31 : ρ 12 = .slice a28 n30 c29 := e31
      try rw [e31] at hs
      have e32 : ρ 11 = .agg cs3.toArray := hp0_
      refine WA.step [4] (by kernel_rfl) (by simp) ⟨?_, trivial⟩
      refine WL.assign (v := .slice a28 n30 c29) e31 ?_
      refine WL.nil ⟨rfl, _, rfl, ?_⟩
      refine WA.step [5] (by kernel_rfl) (by simp) ⟨?_, trivial⟩
      refine WL.assign (v := .slice a24 x18.length c25) e26 ?_
      refine WL.nil ⟨rfl, _, rfl, ?_⟩
      refine WA.done (by kernel_rfl) ?_
      refine hK13 _ _ ?_
      refine W.seqK fun K33 hK33 => ?_
      refine W.seqK fun K34 hK34 => ?_
      refine W.region ?_
      refine WL.move (v := .slice a28 n30 c29) rfl ?_
      refine WL.len (v := .slice a28 n30 c29) rfl (len_own hs 0 rfl UN36) ?_
      refine WL.move (v := .slice a24 x18.length c25) rfl ?_
      refine WL.len (v := .slice a24 x18.length c25) rfl (len_slice UN36) ?_
      refine WL.bin (v := .bool ((x14.length : Int) != (x18.length : Int))) rfl rfl (ib_neq _ _ _) ?_
      refine WL.nil ?_
      refine hK34 _ _ ?_
      rcases iteE hf with ⟨hc35, hf⟩ | ⟨hc35, hf⟩
      · refine W.cond_true (bool_tr rfl hc35) ?_
        refine W.seqK fun K36 hK36 => ?_
        refine W.region ?_
        refine WL.assign (v := .bool false) rfl ?_
        refine WL.nil ?_
        refine hK36 _ _ ?_
        refine W.ret ?_
        have hr := Option.some.inj hf; subst hr
        exact ⟨_, resOk_one rfl rfl, (), rfl, (hs.mask []).pick []⟩
      · refine W.cond_false (bool_tr rfl hc35) ?_
        refine W.skip ?_
        refine hK33 _ _ ?_
        refine W.seqK fun K37 hK37 => ?_
        have Jk39 : ∀  (ρ : Env) (w : World), St ok (bz w0) w [] [] → eslaw04_QuorumMinimal.j1 = some r → K37 ρ w := by
          intro  ρ w  hs hf
          refine hK37 _ _ ?_
          unfold eslaw04_QuorumMinimal.j1 at hf
          refine W.seqK fun K40 hK40 => ?_
          refine W.region ?_
          obtain ⟨x41, hxx41, hf⟩ := bindE hf
          refine WL.call (vs := []) hs FN11 trivial (fun ok hA => eslaw04_awake.calls hxx41) ?_
          rintro _ w hs
          refine WL.assign (v := .bool x41) rfl ?_
          refine WL.nil ?_
          refine hK40 _ _ ?_
          refine W.ret ?_
          have hr := Option.some.inj hf; subst hr
          exact ⟨_, resOk_one rfl rfl, (), rfl, (hs.mask []).pick []⟩
        refine W.seqK fun K42 hK42 => ?_
        refine W.region ?_
        refine WL.assign (v := .int .i64 0) rfl ?_
        refine WL.nil ?_
        refine hK42 _ _ ?_
        refine W.block ?_
        obtain rfl := hs.ownLen 0 rfl
        have hs := hs.freezeOwn 0 rfl
        obtain ⟨bs206, hbs206, hfs206⟩ := bindE hf
        refine W.loop hbs206 (fun s ρ w => match s with | x205 => ρ 3 = .slice a28 x14.length c29 ∧ ρ 4 = .slice a24 x18.length c25 ∧ ρ 5 = .int .i64 x205 ∧ St ok (bz w0) w [vl (tSlice (tSlice (tInt .i64))) x14 (.slice a28 x14.length c29), vl (tSlice (tSlice (tInt .i64))) x18 (.slice a24 x18.length c25)] []) ⟨rfl, rfl, rfl, (hs.mask []).pick [0, 1]⟩ ?_
        intro x205 ρ w os206 hI hf hbbs206
        obtain ⟨h204_3, h204_4, h204_5, hs⟩ := hI
        unfold eslaw04_QuorumMinimal.l2 at hf
        refine W.seqK fun K207 hK207 => ?_
        refine W.seqK fun K208 hK208 => ?_
        refine W.region ?_
        refine WL.move (v := .int .i64 x205) h204_5 ?_
        refine WL.move (v := .slice a28 x14.length c29) h204_3 ?_
        refine WL.len (v := .slice a28 x14.length c29) rfl (len_slice UN36) ?_
        refine WL.bin (v := .bool (decide (x205 < (x14.length : Int)))) rfl rfl (ib_lss _ _ _) ?_
        refine WL.nil ?_
        refine hK208 _ _ ?_
        rcases iteE hf with ⟨hc209, hf⟩ | ⟨hc209, hf⟩
        · refine W.cond_true (bool_tr rfl hc209) ?_
          refine W.skip ?_
          refine hK207 _ _ ?_
          refine W.seqK fun K210 hK210 => ?_
          have Jk212 : ∀  (ρ : Env) (w : World), ρ 3 = .slice a28 x14.length c29 → ρ 4 = .slice a24 x18.length c25 → ρ 5 = .int .i64 x205 → St ok (bz w0) w [vl (tSlice (tSlice (tInt .i64))) x14 (.slice a28 x14.length c29), vl (tSlice (tSlice (tInt .i64))) x18 (.slice a24 x18.length c25)] [] → eslaw04_QuorumMinimal.j2 x205 = some os206 → K210 ρ w := by
            intro  ρ w h211_3 h211_4 h211_5 hs hf
            refine hK210 _ _ ?_
            unfold eslaw04_QuorumMinimal.j2 at hf
            refine W.region ?_
            refine WL.move (v := .int .i64 x205) h211_5 ?_
            obtain ⟨x213, ex213, hf⟩ := letE hf
            refine WL.bin (v := .int .i64 x213) rfl rfl (ib_as ex213 (ib_add _ _ _)) ?_
            refine WL.assign (v := .int .i64 x213) rfl ?_
            refine WL.nil ?_
            exact ⟨_, (Option.some.inj hf).symm, h211_3, h211_4, rfl, (hs.mask []).pick [0, 1]⟩
          refine W.block ?_
          refine W.seqK fun K214 hK214 => ?_
          refine W.seqK fun K215 hK215 => ?_
          obtain ⟨x216, hxx216, hf⟩ := bindE hf
          obtain ⟨x221, hxx221, hf⟩ := bindE hf
          refine W.any (by kernel_rfl) 11 0 [true, true, true, true, true, true, true, true, true, true, true] rfl rfl (poAt [pv (.slice a28 x14.length c29), pv (.int .i64 x205), pq (fun y : Addr => .pointer (some y)) (fun v => [pl (tSlice (tInt .i64)) x216 (adOf v)]) (fun v => []), pq (fun y : (Option Addr × Nat) => .slice y.1 x216.length y.2) (fun v => [vl (tSlice (tInt .i64)) x216 v]) (fun v => []), pv (.int .i64 (x216.length : Int)), pv (.slice a24 x18.length c25), pv (.int .i64 x205), pq (fun y : Addr => .pointer (some y)) (fun v => [pl (tSlice (tInt .i64)) x221 (adOf v)]) (fun v => []), pq (fun y : (Option Addr × Nat) => .slice y.1 x221.length y.2) (fun v => [vl (tSlice (tInt .i64)) x221 v]) (fun v => []), pv (.int .i64 (x221.length : Int)), pv (.bool ((x216.length : Int) != (x221.length : Int)))]) (Λ := []) hs (by kernel_rfl) (by kernel_rfl) (by kernel_rfl) ⟨⟨⟨⟨⟨⟨⟨⟨⟨⟨⟨trivial, ?_⟩, ?_⟩, ?_⟩, ?_⟩, ?_⟩, ?_⟩, ?_⟩, ?_⟩, ?_⟩, ?_⟩, ?_⟩ ?_
          · intro ρ w Γx Λx hs hu hp
            refine WL.move (v := .slice a28 x14.length c29) ((hu 3 rfl).trans h204_3) ?_
            exact WL.nil ⟨rfl, _, rfl, rfl, hs.cutG 0 0⟩
          · intro ρ w Γx Λx hs hu hp
            refine WL.move (v := .int .i64 x205) ((hu 5 rfl).trans h204_5) ?_
            exact WL.nil ⟨rfl, _, rfl, rfl, hs.cutG 0 0⟩
          · intro ρ w Γx Λx hs hu hp
            have e226 : ρ 26 = .slice a28 x14.length c29 := (hp 0 rfl).1
            have e227 : ρ 27 = .int .i64 x205 := (hp 1 rfl).1
            refine WL.indexAddr hs (Γx.length + 0) (getApp rfl) UN36 TI33 e226 e227 hxx216 (fun ad217 hs => ?_)
            have hs := hs.add (it := pl (tSlice (tInt .i64)) x216 ad217) fun ok hA => hA.get 0 rfl
            exact WL.nil ⟨rfl, _, rfl, ⟨ad217, rfl⟩, hs.cutG 1 1⟩
          · intro ρ w Γx Λx hs hu hp
            obtain ⟨⟨ad228, e229r⟩, hm230⟩ := hp 2 rfl
            have e229 : ρ 28 = .pointer (some ad228) := e229r
            rw [e229r] at hm230
            have hs := hs.memo1 (it := pl (tSlice (tInt .i64)) x216 ad228) (List.mem_append.2 (.inl (hm230 _ (List.mem_of_getElem? (i := 0) rfl))))
            refine WL.loadP hs 0 rfl TI33 (.inr rfl) e229 (fun v218 hs => ?_)
            obtain ⟨a219, c220, rfl⟩ := hs.slice 0 rfl
            have hs := hs.add (it := vl (tSlice (tInt .i64)) x216 (.slice a219 x216.length c220)) fun ok hA => hA.get 0 rfl
            exact WL.nil ⟨rfl, _, rfl, ⟨(a219, c220), rfl⟩, hs.cutG 1 2⟩
          · intro ρ w Γx Λx hs hu hp
            obtain ⟨⟨⟨a231, c232⟩, e233r⟩, hm234⟩ := hp 3 rfl
            have e233 : ρ 29 = .slice a231 x216.length c232 := e233r
            rw [e233r] at hm234
            have hs := hs.memo1 (it := vl (tSlice (tInt .i64)) x216 (.slice a231 x216.length c232)) (List.mem_append.2 (.inl (hm234 _ (List.mem_of_getElem? (i := 0) rfl))))
            refine WL.len (v := .slice a231 x216.length c232) e233 (len_slice UN33) ?_
            exact WL.nil ⟨rfl, _, rfl, rfl, hs.cutG 0 1⟩
          · intro ρ w Γx Λx hs hu hp
            refine WL.move (v := .slice a24 x18.length c25) ((hu 4 rfl).trans h204_4) ?_
            exact WL.nil ⟨rfl, _, rfl, rfl, hs.cutG 0 0⟩
          · intro ρ w Γx Λx hs hu hp
            refine WL.move (v := .int .i64 x205) ((hu 5 rfl).trans h204_5) ?_
            exact WL.nil ⟨rfl, _, rfl, rfl, hs.cutG 0 0⟩
          · intro ρ w Γx Λx hs hu hp
            have e235 : ρ 31 = .slice a24 x18.length c25 := (hp 5 rfl).1
            have e236 : ρ 32 = .int .i64 x205 := (hp 6 rfl).1
            refine WL.indexAddr hs (Γx.length + 1) (getApp rfl) UN36 TI33 e235 e236 hxx221 (fun ad222 hs => ?_)
            have hs := hs.add (it := pl (tSlice (tInt .i64)) x221 ad222) fun ok hA => hA.get 0 rfl
            exact WL.nil ⟨rfl, _, rfl, ⟨ad222, rfl⟩, hs.cutG 1 1⟩
          · intro ρ w Γx Λx hs hu hp
            obtain ⟨⟨ad237, e238r⟩, hm239⟩ := hp 7 rfl
            have e238 : ρ 33 = .pointer (some ad237) := e238r
            rw [e238r] at hm239
            have hs := hs.memo1 (it := pl (tSlice (tInt .i64)) x221 ad237) (List.mem_append.2 (.inl (hm239 _ (List.mem_of_getElem? (i := 0) rfl))))
            refine WL.loadP hs 0 rfl TI33 (.inr rfl) e238 (fun v223 hs => ?_)
            obtain ⟨a224, c225, rfl⟩ := hs.slice 0 rfl
            have hs := hs.add (it := vl (tSlice (tInt .i64)) x221 (.slice a224 x221.length c225)) fun ok hA => hA.get 0 rfl
            exact WL.nil ⟨rfl, _, rfl, ⟨(a224, c225), rfl⟩, hs.cutG 1 2⟩
          · intro ρ w Γx Λx hs hu hp
            obtain ⟨⟨⟨a240, c241⟩, e242r⟩, hm243⟩ := hp 8 rfl
            have e242 : ρ 34 = .slice a240 x221.length c241 := e242r
            rw [e242r] at hm243
            have hs := hs.memo1 (it := vl (tSlice (tInt .i64)) x221 (.slice a240 x221.length c241)) (List.mem_append.2 (.inl (hm243 _ (List.mem_of_getElem? (i := 0) rfl))))
            refine WL.len (v := .slice a240 x221.length c241) e242 (len_slice UN33) ?_
            exact WL.nil ⟨rfl, _, rfl, rfl, hs.cutG 0 1⟩
          · intro ρ w Γx Λx hs hu hp
            have e244 : ρ 30 = .int .i64 (x216.length : Int) := (hp 4 rfl).1
            have e245 : ρ 35 = .int .i64 (x221.length : Int) := (hp 9 rfl).1
            refine WL.bin (v := .bool ((x216.length : Int) != (x221.length : Int))) e244 e245 (ib_neq _ _ _) ?_
            exact WL.nil ⟨rfl, _, rfl, rfl, hs.cutG 0 0⟩
          · intro ρ w hs hu246 hp
            obtain ⟨⟨⟨⟨⟨⟨⟨⟨⟨⟨⟨_, hp0_⟩, hp1_⟩, hp2_⟩, hp3_⟩, hp4_⟩, hp5_⟩, hp6_⟩, hp7_⟩, hp8_⟩, hp9_⟩, hp10_⟩ := hp
            have hs : St ok (bz w0) w [vl (tSlice (tInt .i64)) x221 (ρ 34), pl (tSlice (tInt .i64)) x221 (adOf (ρ 33)), vl (tSlice (tInt .i64)) x216 (ρ 29), pl (tSlice (tInt .i64)) x216 (adOf (ρ 28)), vl (tSlice (tSlice (tInt .i64))) x14 (.slice a28 x14.length c29), vl (tSlice (tSlice (tInt .i64))) x18 (.slice a24 x18.length c25)] [] := hs
            have e247 : ρ 36 = .bool ((x216.length : Int) != (x221.length : Int)) := hp10_
            have e248 : ρ 35 = .int .i64 (x221.length : Int) := hp9_
            obtain ⟨⟨a249, c250⟩, e251⟩ := hp8_
            have e251 : ρ 34 = .slice a249 x221.length c250 := e251
            try rw [e251] at hs
            obtain ⟨ad252, e253⟩ := hp7_
            have e253 : ρ 33 = .pointer (some ad252) := e253
            try rw [e253] at hs
            have e254 : ρ 32 = .int .i64 x205 := hp6_
            have e255 : ρ 31 = .slice a24 x18.length c25 := hp5_
            have e256 : ρ 30 = .int .i64 (x216.length : Int) := hp4_
            obtain ⟨⟨a257, c258⟩, e259⟩ := hp3_
            have e259 : ρ 29 = .slice a257 x216.length c258 := e259
            try rw [e259] at hs
            obtain ⟨ad260, e261⟩ := hp2_
            have e261 : ρ 28 = .pointer (some ad260) := e261
            try rw [e261] at hs
            have e262 : ρ 27 = .int .i64 x205 := hp1_
            have e263 : ρ 26 = .slice a28 x14.length c29 := hp0_
            refine WA.done (by kernel_rfl) ?_
            refine hK215 _ _ ?_
            rcases iteE hf with ⟨hc264, hf⟩ | ⟨hc264, hf⟩
            · refine W.cond_true (bool_tr e247 hc264) ?_
              refine W.seqK fun K265 hK265 => ?_
              refine W.region ?_
              refine WL.assign (v := .bool false) rfl ?_
              refine WL.nil ?_
              refine hK265 _ _ ?_
              refine W.ret ?_
              have hr := Option.some.inj hf; subst hr
              have hr := hbbs206 _ rfl; subst hr
              have hf := hfs206
              have hr := Option.some.inj hf; subst hr
              exact ⟨_, resOk_one rfl rfl, (), rfl, (hs.mask []).pick []⟩
            · refine W.cond_false (bool_tr e247 hc264) ?_
              refine W.skip ?_
              refine hK214 _ _ ?_
              refine W.seqK fun K266 hK266 => ?_
              refine W.region ?_
              refine WL.assign (v := .int .i64 0) rfl ?_
              refine WL.nil ?_
              refine hK266 _ _ ?_
              refine W.block ?_
              obtain ⟨bs269, hbs269, hfs269⟩ := bindE hf
              refine W.loop hbs269 (fun s ρ w => match s with | x268 => ρ 3 = .slice a28 x14.length c29 ∧ ρ 4 = .slice a24 x18.length c25 ∧ ρ 5 = .int .i64 x205 ∧ ρ 6 = .int .i64 x268 ∧ St ok (bz w0) w [vl (tSlice (tSlice (tInt .i64))) x14 (.slice a28 x14.length c29), vl (tSlice (tSlice (tInt .i64))) x18 (.slice a24 x18.length c25)] []) ⟨((hu246 3 rfl).trans h204_3), ((hu246 4 rfl).trans h204_4), ((hu246 5 rfl).trans h204_5), rfl, (hs.mask []).pick [4, 5]⟩ ?_
              intro x268 ρ w os269 hI hf hbbs269
              obtain ⟨h267_3, h267_4, h267_5, h267_6, hs⟩ := hI
              unfold eslaw04_QuorumMinimal.l1 at hf
              refine W.seqK fun K270 hK270 => ?_
              refine W.seqK fun K271 hK271 => ?_
              refine W.region ?_
              refine WL.move (v := .int .i64 x268) h267_6 ?_
              refine WL.move (v := .slice a28 x14.length c29) h267_3 ?_
              refine WL.move (v := .int .i64 x205) h267_5 ?_
              obtain ⟨x272, hxx272, hf⟩ := bindE hf
              refine WL.indexAddr hs 0 rfl UN36 TI33 rfl rfl hxx272 (fun ad273 hs => ?_)
              refine WL.loadP hs 0 rfl TI33 (.inr rfl) rfl (fun v274 hs => ?_)
              obtain ⟨a275, c276, rfl⟩ := hs.slice 0 rfl
              refine WL.len (v := .slice a275 x272.length c276) rfl (len_slice UN33) ?_
              refine WL.bin (v := .bool (decide (x268 < (x272.length : Int)))) rfl rfl (ib_lss _ _ _) ?_
              refine WL.nil ?_
              refine hK271 _ _ ?_
              rcases iteE hf with ⟨hc277, hf⟩ | ⟨hc277, hf⟩
              · refine W.cond_true (bool_tr rfl hc277) ?_
                refine W.skip ?_
                refine hK270 _ _ ?_
                refine W.seqK fun K278 hK278 => ?_
                refine W.block ?_
                refine W.seqK fun K279 hK279 => ?_
                obtain ⟨x280, hxx280, hf⟩ := bindE hf
                obtain ⟨x285, hxx285, hf⟩ := bindE hf
                obtain ⟨x288, hxx288, hf⟩ := bindE hf
                obtain ⟨x293, hxx293, hf⟩ := bindE hf
                refine W.any (by kernel_rfl) 15 0 [true, true, true, true, true, true, true, true, true, true, true, true, true, true, true] rfl rfl (poAt [pv (.slice a28 x14.length c29), pv (.int .i64 x205), pq (fun y : Addr => .pointer (some y)) (fun v => [pl (tSlice (tInt .i64)) x280 (adOf v)]) (fun v => []), pq (fun y : (Option Addr × Nat) => .slice y.1 x280.length y.2) (fun v => [vl (tSlice (tInt .i64)) x280 v]) (fun v => []), pv (.int .i64 x268), pq (fun y : Addr => .pointer (some y)) (fun v => [pl (tInt .i64) x285 (adOf v)]) (fun v => []), pv (.int .i64 x285), pv (.slice a24 x18.length c25), pv (.int .i64 x205), pq (fun y : Addr => .pointer (some y)) (fun v => [pl (tSlice (tInt .i64)) x288 (adOf v)]) (fun v => []), pq (fun y : (Option Addr × Nat) => .slice y.1 x288.length y.2) (fun v => [vl (tSlice (tInt .i64)) x288 v]) (fun v => []), pv (.int .i64 x268), pq (fun y : Addr => .pointer (some y)) (fun v => [pl (tInt .i64) x293 (adOf v)]) (fun v => []), pv (.int .i64 x293), pv (.bool (x285 != x293))]) (Λ := []) hs (by kernel_rfl) (by kernel_rfl) (by kernel_rfl) ⟨⟨⟨⟨⟨⟨⟨⟨⟨⟨⟨⟨⟨⟨⟨trivial, ?_⟩, ?_⟩, ?_⟩, ?_⟩, ?_⟩, ?_⟩, ?_⟩, ?_⟩, ?_⟩, ?_⟩, ?_⟩, ?_⟩, ?_⟩, ?_⟩, ?_⟩ ?_
                · intro ρ w Γx Λx hs hu hp
                  refine WL.move (v := .slice a28 x14.length c29) ((hu 3 rfl).trans h267_3) ?_
                  exact WL.nil ⟨rfl, _, rfl, rfl, hs.cutG 0 0⟩
                · intro ρ w Γx Λx hs hu hp
                  refine WL.move (v := .int .i64 x205) ((hu 5 rfl).trans h267_5) ?_
                  exact WL.nil ⟨rfl, _, rfl, rfl, hs.cutG 0 0⟩
                · intro ρ w Γx Λx hs hu hp
                  have e296 : ρ 46 = .slice a28 x14.length c29 := (hp 0 rfl).1
                  have e297 : ρ 47 = .int .i64 x205 := (hp 1 rfl).1
                  refine WL.indexAddr hs (Γx.length + 2) (getApp rfl) UN36 TI33 e296 e297 hxx280 (fun ad281 hs => ?_)
                  have hs := hs.add (it := pl (tSlice (tInt .i64)) x280 ad281) fun ok hA => hA.get 0 rfl
                  exact WL.nil ⟨rfl, _, rfl, ⟨ad281, rfl⟩, hs.cutG 1 1⟩
                · intro ρ w Γx Λx hs hu hp
                  obtain ⟨⟨ad298, e299r⟩, hm300⟩ := hp 2 rfl
                  have e299 : ρ 48 = .pointer (some ad298) := e299r
                  rw [e299r] at hm300
                  have hs := hs.memo1 (it := pl (tSlice (tInt .i64)) x280 ad298) (List.mem_append.2 (.inl (hm300 _ (List.mem_of_getElem? (i := 0) rfl))))
                  refine WL.loadP hs 0 rfl TI33 (.inr rfl) e299 (fun v282 hs => ?_)
                  obtain ⟨a283, c284, rfl⟩ := hs.slice 0 rfl
                  have hs := hs.add (it := vl (tSlice (tInt .i64)) x280 (.slice a283 x280.length c284)) fun ok hA => hA.get 0 rfl
                  exact WL.nil ⟨rfl, _, rfl, ⟨(a283, c284), rfl⟩, hs.cutG 1 2⟩
                · intro ρ w Γx Λx hs hu hp
                  refine WL.move (v := .int .i64 x268) ((hu 6 rfl).trans h267_6) ?_
                  exact WL.nil ⟨rfl, _, rfl, rfl, hs.cutG 0 0⟩
                · intro ρ w Γx Λx hs hu hp
                  obtain ⟨⟨⟨a301, c302⟩, e303r⟩, hm304⟩ := hp 3 rfl
                  have e303 : ρ 49 = .slice a301 x280.length c302 := e303r
                  rw [e303r] at hm304
                  have hs := hs.memo1 (it := vl (tSlice (tInt .i64)) x280 (.slice a301 x280.length c302)) (List.mem_append.2 (.inl (hm304 _ (List.mem_of_getElem? (i := 0) rfl))))
                  have e305 : ρ 50 = .int .i64 x268 := (hp 4 rfl).1
                  refine WL.indexAddr hs 0 rfl UN33 TI3 e303 e305 hxx285 (fun ad286 hs => ?_)
                  have hs := hs.add (it := pl (tInt .i64) x285 ad286) fun ok hA => hA.get 0 rfl
                  exact WL.nil ⟨rfl, _, rfl, ⟨ad286, rfl⟩, hs.cutG 1 2⟩
                · intro ρ w Γx Λx hs hu hp
                  obtain ⟨⟨ad306, e307r⟩, hm308⟩ := hp 5 rfl
                  have e307 : ρ 51 = .pointer (some ad306) := e307r
                  rw [e307r] at hm308
                  have hs := hs.memo1 (it := pl (tInt .i64) x285 ad306) (List.mem_append.2 (.inl (hm308 _ (List.mem_of_getElem? (i := 0) rfl))))
                  refine WL.loadP hs 0 rfl TI3 (.inr rfl) e307 (fun v287 hs => ?_)
                  obtain rfl := hs.int 0 rfl
                  exact WL.nil ⟨rfl, _, rfl, rfl, hs.cutG 0 2⟩
                · intro ρ w Γx Λx hs hu hp
                  refine WL.move (v := .slice a24 x18.length c25) ((hu 4 rfl).trans h267_4) ?_
                  exact WL.nil ⟨rfl, _, rfl, rfl, hs.cutG 0 0⟩
                · intro ρ w Γx Λx hs hu hp
                  refine WL.move (v := .int .i64 x205) ((hu 5 rfl).trans h267_5) ?_
                  exact WL.nil ⟨rfl, _, rfl, rfl, hs.cutG 0 0⟩
                · intro ρ w Γx Λx hs hu hp
                  have e309 : ρ 53 = .slice a24 x18.length c25 := (hp 7 rfl).1
                  have e310 : ρ 54 = .int .i64 x205 := (hp 8 rfl).1
                  refine WL.indexAddr hs (Γx.length + 3) (getApp rfl) UN36 TI33 e309 e310 hxx288 (fun ad289 hs => ?_)
                  have hs := hs.add (it := pl (tSlice (tInt .i64)) x288 ad289) fun ok hA => hA.get 0 rfl
                  exact WL.nil ⟨rfl, _, rfl, ⟨ad289, rfl⟩, hs.cutG 1 1⟩
                · intro ρ w Γx Λx hs hu hp
                  obtain ⟨⟨ad311, e312r⟩, hm313⟩ := hp 9 rfl
                  have e312 : ρ 55 = .pointer (some ad311) := e312r
                  rw [e312r] at hm313
                  have hs := hs.memo1 (it := pl (tSlice (tInt .i64)) x288 ad311) (List.mem_append.2 (.inl (hm313 _ (List.mem_of_getElem? (i := 0) rfl))))
                  refine WL.loadP hs 0 rfl TI33 (.inr rfl) e312 (fun v290 hs => ?_)
                  obtain ⟨a291, c292, rfl⟩ := hs.slice 0 rfl
                  have hs := hs.add (it := vl (tSlice (tInt .i64)) x288 (.slice a291 x288.length c292)) fun ok hA => hA.get 0 rfl
                  exact WL.nil ⟨rfl, _, rfl, ⟨(a291, c292), rfl⟩, hs.cutG 1 2⟩
                · intro ρ w Γx Λx hs hu hp
                  refine WL.move (v := .int .i64 x268) ((hu 6 rfl).trans h267_6) ?_
                  exact WL.nil ⟨rfl, _, rfl, rfl, hs.cutG 0 0⟩
                · intro ρ w Γx Λx hs hu hp
                  obtain ⟨⟨⟨a314, c315⟩, e316r⟩, hm317⟩ := hp 10 rfl
                  have e316 : ρ 56 = .slice a314 x288.length c315 := e316r
                  rw [e316r] at hm317
                  have hs := hs.memo1 (it := vl (tSlice (tInt .i64)) x288 (.slice a314 x288.length c315)) (List.mem_append.2 (.inl (hm317 _ (List.mem_of_getElem? (i := 0) rfl))))
                  have e318 : ρ 57 = .int .i64 x268 := (hp 11 rfl).1
                  refine WL.indexAddr hs 0 rfl UN33 TI3 e316 e318 hxx293 (fun ad294 hs => ?_)
                  have hs := hs.add (it := pl (tInt .i64) x293 ad294) fun ok hA => hA.get 0 rfl
                  exact WL.nil ⟨rfl, _, rfl, ⟨ad294, rfl⟩, hs.cutG 1 2⟩
                · intro ρ w Γx Λx hs hu hp
                  obtain ⟨⟨ad319, e320r⟩, hm321⟩ := hp 12 rfl
                  have e320 : ρ 58 = .pointer (some ad319) := e320r
                  rw [e320r] at hm321
                  have hs := hs.memo1 (it := pl (tInt .i64) x293 ad319) (List.mem_append.2 (.inl (hm321 _ (List.mem_of_getElem? (i := 0) rfl))))
                  refine WL.loadP hs 0 rfl TI3 (.inr rfl) e320 (fun v295 hs => ?_)
                  obtain rfl := hs.int 0 rfl
                  exact WL.nil ⟨rfl, _, rfl, rfl, hs.cutG 0 2⟩
                · intro ρ w Γx Λx hs hu hp
                  have e322 : ρ 52 = .int .i64 x285 := (hp 6 rfl).1
                  have e323 : ρ 59 = .int .i64 x293 := (hp 13 rfl).1
                  refine WL.bin (v := .bool (x285 != x293)) e322 e323 (ib_neq _ _ _) ?_
                  exact WL.nil ⟨rfl, _, rfl, rfl, hs.cutG 0 0⟩
                · intro ρ w hs hu324 hp
                  obtain ⟨⟨⟨⟨⟨⟨⟨⟨⟨⟨⟨⟨⟨⟨⟨_, hp0_⟩, hp1_⟩, hp2_⟩, hp3_⟩, hp4_⟩, hp5_⟩, hp6_⟩, hp7_⟩, hp8_⟩, hp9_⟩, hp10_⟩, hp11_⟩, hp12_⟩, hp13_⟩, hp14_⟩ := hp
                  have hs : St ok (bz w0) w [pl (tInt .i64) x293 (adOf (ρ 58)), vl (tSlice (tInt .i64)) x288 (ρ 56), pl (tSlice (tInt .i64)) x288 (adOf (ρ 55)), pl (tInt .i64) x285 (adOf (ρ 51)), vl (tSlice (tInt .i64)) x280 (ρ 49), pl (tSlice (tInt .i64)) x280 (adOf (ρ 48)), vl (tSlice (tInt .i64)) x272 (.slice a275 x272.length c276), pl (tSlice (tInt .i64)) x272 ad273, vl (tSlice (tSlice (tInt .i64))) x14 (.slice a28 x14.length c29), vl (tSlice (tSlice (tInt .i64))) x18 (.slice a24 x18.length c25)] [] := hs
                  have e325 : ρ 60 = .bool (x285 != x293) := hp14_
                  have e326 : ρ 59 = .int .i64 x293 := hp13_
                  obtain ⟨ad327, e328⟩ := hp12_
                  have e328 : ρ 58 = .pointer (some ad327) := e328
                  try rw [e328] at hs
                  have e329 : ρ 57 = .int .i64 x268 := hp11_
                  obtain ⟨⟨a330, c331⟩, e332⟩ := hp10_
                  have e332 : ρ 56 = .slice a330 x288.length c331 := e332
                  try rw [e332] at hs
                  obtain ⟨ad333, e334⟩ := hp9_
                  have e334 : ρ 55 = .pointer (some ad333) := e334
                  try rw [e334] at hs
                  have e335 : ρ 54 = .int .i64 x205 := hp8_
                  have e336 : ρ 53 = .slice a24 x18.length c25 := hp7_
                  have e337 : ρ 52 = .int .i64 x285 := hp6_
                  obtain ⟨ad338, e339⟩ := hp5_
                  have e339 : ρ 51 = .pointer (some ad338) := e339
                  try rw [e339] at hs
                  have e340 : ρ 50 = .int .i64 x268 := hp4_
                  obtain ⟨⟨a341, c342⟩, e343⟩ := hp3_
                  have e343 : ρ 49 = .slice a341 x280.length c342 := e343
                  try rw [e343] at hs
                  obtain ⟨ad344, e345⟩ := hp2_
                  have e345 : ρ 48 = .pointer (some ad344) := e345
                  try rw [e345] at hs
                  have e346 : ρ 47 = .int .i64 x205 := hp1_
                  have e347 : ρ 46 = .slice a28 x14.length c29 := hp0_
                  refine WA.done (by kernel_rfl) ?_
                  refine hK279 _ _ ?_
                  rcases iteE hf with ⟨hc348, hf⟩ | ⟨hc348, hf⟩
                  · refine W.cond_true (bool_tr e325 hc348) ?_
                    refine W.seqK fun K349 hK349 => ?_
                    refine W.region ?_
                    refine WL.assign (v := .bool false) rfl ?_
                    refine WL.nil ?_
                    refine hK349 _ _ ?_
                    refine W.ret ?_
                    have hr := Option.some.inj hf; subst hr
                    have hr := hbbs269 _ rfl; subst hr
                    have hf := hfs269
                    have hr := Option.some.inj hf; subst hr
                    have hr := hbbs206 _ rfl; subst hr
                    have hf := hfs206
                    have hr := Option.some.inj hf; subst hr
                    exact ⟨_, resOk_one rfl rfl, (), rfl, (hs.mask []).pick []⟩
                  · refine W.cond_false (bool_tr e325 hc348) ?_
                    refine W.skip ?_
                    refine hK278 _ _ ?_
                    refine W.region ?_
                    refine WL.move (v := .int .i64 x268) ((hu324 6 rfl).trans h267_6) ?_
                    obtain ⟨x350, ex350, hf⟩ := letE hf
                    refine WL.bin (v := .int .i64 x350) rfl rfl (ib_as ex350 (ib_add _ _ _)) ?_
                    refine WL.assign (v := .int .i64 x350) rfl ?_
                    refine WL.nil ?_
                    exact ⟨_, (Option.some.inj hf).symm, ((hu324 3 rfl).trans h267_3), ((hu324 4 rfl).trans h267_4), ((hu324 5 rfl).trans h267_5), rfl, (hs.mask []).pick [8, 9]⟩
              · refine W.cond_false (bool_tr rfl hc277) ?_
                refine W.exit ?_
                have hr := Option.some.inj hf; subst hr
                have hr := hbbs269 _ rfl; subst hr
                have hf := hfs269
                exact Jk212  _ _ h267_3 h267_4 h267_5 ((hs.mask []).pick [2, 3]) hf
        · refine W.cond_false (bool_tr rfl hc209) ?_
          refine W.exit ?_
          have hr := Option.some.inj hf; subst hr
          have hr := hbbs206 _ rfl; subst hr
          have hf := hfs206
          exact Jk39  _ _  ((hs.mask []).pick []) hf
/-! elasticstore/elasticstorelaw00.Index: function 30 -/
theorem eslaw00_Index.calls {ok : Nat → Prop} {w0 : World} {x1 : Int} {x2 : Int}  {r : Int} (hf : eslaw00_Index x1 x2 = some r)  :
    Calls Try.prog 30 #[.int .i64 x1, .int .i64 x2] w0 fun e w' => ∃ v, e = .returned v ∧ ∃ y : Unit, v = .int .i64 r ∧ St ok (bz w0) w' [] [] := by
  unfold eslaw00_Index at hf
  refine calls_of_W (fn := Try.f30) (N := 14) Try.func30 rfl Try.ntmps30 rfl ?_
  have hs : St ok (bz w0) w0 [] [] := St.init All.nil
  refine W.seqK fun K3 hK3 => ?_
  refine W.region ?_
  refine WL.assign (v := .int .i64 0) rfl ?_
  refine WL.nil ?_
  refine hK3 _ _ ?_
  refine W.seqK fun K4 hK4 => ?_
  refine W.seqK fun K5 hK5 => ?_
  refine W.region ?_
  refine WL.move (v := .int .i64 x2) rfl ?_
  refine WL.bin (v := .bool (decide (x2 < 1))) rfl rfl (ib_lss _ _ _) ?_
  refine WL.nil ?_
  refine hK5 _ _ ?_
  rcases iteE hf with ⟨hc6, hf⟩ | ⟨hc6, hf⟩
  · refine W.cond_true (bool_tr rfl hc6) ?_
    refine W.seqK fun K7 hK7 => ?_
    refine W.region ?_
    refine WL.assign (v := .int .i64 0) rfl ?_
    refine WL.nil ?_
    refine hK7 _ _ ?_
    refine W.ret ?_
    have hr := Option.some.inj hf; subst hr
    exact ⟨_, resOk_one rfl rfl, (), rfl, (hs.mask []).pick []⟩
  · refine W.cond_false (bool_tr rfl hc6) ?_
    refine W.skip ?_
    refine hK4 _ _ ?_
    refine W.seqK fun K8 hK8 => ?_
    refine W.region ?_
    refine WL.move (v := .int .i64 x1) rfl ?_
    refine WL.move (v := .int .i64 x2) rfl ?_
    obtain ⟨hn9, hf⟩ := guardE hf
    refine WL.bin (v := .int .i64 (Int.tmod x1 x2)) rfl rfl (ib_rem _ _ _ hn9) ?_
    refine WL.move (v := .int .i64 x2) rfl ?_
    obtain ⟨x10, ex10, hf⟩ := letE hf
    refine WL.bin (v := .int .i64 x10) rfl rfl (ib_as ex10 (ib_add _ _ _)) ?_
    refine WL.move (v := .int .i64 x2) rfl ?_
    obtain ⟨hn11, hf⟩ := guardE hf
    refine WL.bin (v := .int .i64 (Int.tmod x10 x2)) rfl rfl (ib_rem _ _ _ hn11) ?_
    refine WL.assign (v := .int .i64 (Int.tmod x10 x2)) rfl ?_
    refine WL.nil ?_
    refine hK8 _ _ ?_
    refine W.ret ?_
    have hr := Option.some.inj hf; subst hr
    exact ⟨_, resOk_one rfl rfl, (), rfl, (hs.mask []).pick []⟩
/-! elasticstore/elasticstorelaw00.Digit: function 29 -/
theorem eslaw00_Digit.calls {ok : Nat → Prop} {w0 : World} {x1 : Int} {x2 : Int} {x3 : Int}  {r : Int} (hf : eslaw00_Digit x1 x2 x3 = some r)  :
    Calls Try.prog 29 #[.int .i64 x1, .int .i64 x2, .int .i64 x3] w0 fun e w' => ∃ v, e = .returned v ∧ ∃ y : Unit, v = .int .i64 r ∧ St ok (bz w0) w' [] [] := by
  unfold eslaw00_Digit at hf
  refine calls_of_W (fn := Try.f29) (N := 22) Try.func29 rfl Try.ntmps29 rfl ?_
  have hs : St ok (bz w0) w0 [] [] := St.init All.nil
  refine W.seqK fun K4 hK4 => ?_
  refine W.region ?_
  refine WL.assign (v := .int .i64 0) rfl ?_
  refine WL.nil ?_
  refine hK4 _ _ ?_
  refine W.seqK fun K5 hK5 => ?_
  refine W.region ?_
  refine WL.move (v := .int .i64 x1) rfl ?_
  obtain ⟨x6, hxx6, hf⟩ := bindE hf
  refine WL.call (vs := [.int .i64 x1, .int .i64 1099511627776]) hs FN30 ⟨rfl, ⟨rfl, trivial⟩⟩ (fun ok hA => eslaw00_Index.calls (x1 := x1) (x2 := 1099511627776) hxx6) ?_
  rintro _ w hs
  refine WL.assign (v := .int .i64 x6) rfl ?_
  refine WL.nil ?_
  refine hK5 _ _ ?_
  refine W.seqK fun K7 hK7 => ?_
  have Jk10 : ∀ (x9 : Int) (ρ : Env) (w : World), ρ 1 = .int .i64 x2 → ρ 7 = .int .i64 x9 → St ok (bz w0) w [] [] → eslaw00_Digit.j1 x2 x9 = some r → K7 ρ w := by
    intro x9 ρ w h8_1 h8_7 hs hf
    refine hK7 _ _ ?_
    unfold eslaw00_Digit.j1 at hf
    refine W.seqK fun K11 hK11 => ?_
    refine W.region ?_
    refine WL.move (v := .int .i64 x9) h8_7 ?_
    refine WL.move (v := .int .i64 x2) h8_1 ?_
    obtain ⟨hn12, hf⟩ := guardE hf
    refine WL.bin (v := .int .i64 (Int.tmod x9 x2)) rfl rfl (ib_rem _ _ _ hn12) ?_
    refine WL.assign (v := .int .i64 (Int.tmod x9 x2)) rfl ?_
    refine WL.nil ?_
    refine hK11 _ _ ?_
    refine W.ret ?_
    have hr := Option.some.inj hf; subst hr
    exact ⟨_, resOk_one rfl rfl, (), rfl, (hs.mask []).pick []⟩
  refine W.seqK fun K13 hK13 => ?_
  refine W.region ?_
  refine WL.assign (v := .int .i64 0) rfl ?_
  refine WL.nil ?_
  refine hK13 _ _ ?_
  refine W.block ?_
  obtain ⟨bs17, hbs17, hfs17⟩ := bindE hf
  refine W.loop hbs17 (fun s ρ w => match s with | (x15, x16) => ρ 1 = .int .i64 x2 ∧ ρ 2 = .int .i64 x3 ∧ ρ 7 = .int .i64 x15 ∧ ρ 8 = .int .i64 x16 ∧ St ok (bz w0) w [] []) ⟨rfl, rfl, rfl, rfl, (hs.mask []).pick []⟩ ?_
  intro s ρ w os17 hI hf hbbs17
  obtain ⟨x15, x16⟩ := s
  obtain ⟨h14_1, h14_2, h14_7, h14_8, hs⟩ := hI
  unfold eslaw00_Digit.l1 at hf
  refine W.seqK fun K18 hK18 => ?_
  refine W.seqK fun K19 hK19 => ?_
  refine W.region ?_
  refine WL.move (v := .int .i64 x16) h14_8 ?_
  refine WL.move (v := .int .i64 x3) h14_2 ?_
  refine WL.bin (v := .bool (decide (x16 < x3))) rfl rfl (ib_lss _ _ _) ?_
  refine WL.nil ?_
  refine hK19 _ _ ?_
  rcases iteE hf with ⟨hc20, hf⟩ | ⟨hc20, hf⟩
  · refine W.cond_true (bool_tr rfl hc20) ?_
    refine W.skip ?_
    refine hK18 _ _ ?_
    refine W.seqK fun K21 hK21 => ?_
    refine W.block ?_
    refine W.region ?_
    refine WL.move (v := .int .i64 x15) h14_7 ?_
    refine WL.move (v := .int .i64 x2) h14_1 ?_
    obtain ⟨hn23, hf⟩ := guardE hf
    obtain ⟨x22, ex22, hf⟩ := letE hf
    refine WL.bin (v := .int .i64 x22) rfl rfl (ib_as ex22 (ib_quo _ _ _ hn23)) ?_
    refine WL.assign (v := .int .i64 x22) rfl ?_
    refine WL.nil ?_
    refine hK21 _ _ ?_
    refine W.region ?_
    refine WL.move (v := .int .i64 x16) h14_8 ?_
    obtain ⟨x24, ex24, hf⟩ := letE hf
    refine WL.bin (v := .int .i64 x24) rfl rfl (ib_as ex24 (ib_add _ _ _)) ?_
    refine WL.assign (v := .int .i64 x24) rfl ?_
    refine WL.nil ?_
    exact ⟨_, (Option.some.inj hf).symm, h14_1, h14_2, rfl, rfl, (hs.mask []).pick []⟩
  · refine W.cond_false (bool_tr rfl hc20) ?_
    refine W.exit ?_
    have hr := Option.some.inj hf; subst hr
    have hr := hbbs17 _ rfl; subst hr
    have hf := hfs17
    exact Jk10 x15 _ _ h14_1 h14_7 ((hs.mask []).pick []) hf
/-! elasticstore/elasticstorelaw00.Rule: function 41 -/
theorem eslaw00_Rule.calls {ok : Nat → Prop} {w0 : World} {x1 : Int}  {r : api_Rule} (hf : eslaw00_Rule x1 = some r)  :
    Calls Try.prog 41 #[.int .i64 x1] w0 fun e w' => ∃ v, e = .returned v ∧ ∃ y : List Value, v = .agg y.toArray ∧ St ok (bz w0) w' [vl t_api_Rule r (.agg y.toArray)] [] := by
  unfold eslaw00_Rule at hf
  refine calls_of_W (fn := Try.f41) (N := 21) Try.func41 rfl Try.ntmps41 rfl ?_
  have hs : St ok (bz w0) w0 [] [] := St.init All.nil
  refine W.seqK fun K2 hK2 => ?_
  refine W.region ?_
  refine WL.alloc hs ZV23 (fun g3 w hs => ?_)
  refine WL.nil ?_
  refine hK2 _ _ ?_
  refine W.seqK fun K4 hK4 => ?_
  refine W.seqK fun K5 hK5 => ?_
  refine W.region ?_
  refine WL.move (v := .int .i64 x1) rfl ?_
  obtain ⟨x6, hxx6, hf⟩ := bindE hf
  refine WL.call (vs := [.int .i64 x1, .int .i64 8, .int .i64 0]) hs FN29 ⟨rfl, ⟨rfl, ⟨rfl, trivial⟩⟩⟩ (fun ok hA => eslaw00_Digit.calls (x1 := x1) (x2 := 8) (x3 := 0) hxx6) ?_
  rintro _ w hs
  refine WL.nil ?_
  refine hK5 _ _ ?_
  refine W.block ?_
  refine W.seqK fun K7 hK7 => ?_
  have Jk10 : ∀ (x9 : Bool) (ρ : Env) (w : World), ρ 0 = .int .i64 x1 → ρ 2 = .pointer (some ⟨g3, 0, none⟩) → ρ 4 = .int .i64 x6 → ρ 5 = .bool x9 → St ok (bz w0) w [] [blk g3 23 [.int .i64 0, .int .i64 0, .int .i64 0]] → eslaw00_Rule.j1 x1 x6 x9 = some r → K7 ρ w := by
    intro x9 ρ w h8_0 h8_2 h8_4 h8_5 hs hf
    refine hK7 _ _ ?_
    unfold eslaw00_Rule.j1 at hf
    rcases iteE hf with ⟨hc11, hf⟩ | ⟨hc11, hf⟩
    · refine W.cond_true (bool_tr h8_5 hc11) ?_
      refine W.seqK fun K12 hK12 => ?_
      refine W.region ?_
      refine WL.build (vs := [(0, .int .i64 2)]) (cs := [.int .i64 2, .int .i64 0, .int .i64 0]) ⟨⟨rfl, rfl⟩, trivial⟩ (bld PL23 rfl) ?_
      refine WL.storeAll (vs := [.int .i64 2, .int .i64 0, .int .i64 0]) hs 0 rfl TI23 h8_2 rfl rfl rfl (ones_of rfl) rfl (fun w hs => ?_)
      refine WL.nil ?_
      refine hK12 _ _ ?_
      refine W.ret ?_
      have hr := Option.some.inj hf; subst hr
      have hs := hs.add (it := vl t_api_Rule (⟨2, 0, 0⟩ : api_Rule) (.agg [.int .i64 2, .int .i64 0, .int .i64 0].toArray)) fun ok hA => V_agg (show t_api_Rule.R ok _ _ _ from ⟨[.int .i64 2], [.int .i64 0, .int .i64 0], rfl, rfl, ⟨[.int .i64 0], [.int .i64 0], rfl, rfl, rfl⟩⟩) rfl
      exact ⟨_, resOk_one rfl (res_all hs 0 rfl TI23 h8_2 rfl), [.int .i64 2, .int .i64 0, .int .i64 0], rfl, (hs.mask []).pick [0]⟩
    · refine W.cond_false (bool_tr h8_5 hc11) ?_
      refine W.seqK fun K13 hK13 => ?_
      refine W.region ?_
      refine WL.bin (v := .bool (x6 == 3)) h8_4 rfl (ib_eql _ _ _) ?_
      refine WL.assign (v := .bool (x6 == 3)) rfl ?_
      refine WL.nil ?_
      refine hK13 _ _ ?_
      rcases iteE hf with ⟨hc14, hf⟩ | ⟨hc14, hf⟩
      · refine W.cond_true (bool_tr rfl hc14) ?_
        refine W.seqK fun K15 hK15 => ?_
        refine W.region ?_
        refine WL.move (v := .int .i64 x1) h8_0 ?_
        obtain ⟨x16, hxx16, hf⟩ := bindE hf
        refine WL.call (vs := [.int .i64 x1, .int .i64 4, .int .i64 2]) hs FN29 ⟨rfl, ⟨rfl, ⟨rfl, trivial⟩⟩⟩ (fun ok hA => eslaw00_Digit.calls (x1 := x1) (x2 := 4) (x3 := 2) hxx16) ?_
        rintro _ w hs
        obtain ⟨x17, ex17, hf⟩ := letE hf
        refine WL.bin (v := .int .i64 x17) rfl rfl (ib_as ex17 (ib_add _ _ _)) ?_
        refine WL.build (vs := [(0, .int .i64 3), (1, .int .i64 x17)]) (cs := [.int .i64 3, .int .i64 x17, .int .i64 0]) ⟨⟨rfl, rfl⟩, ⟨⟨rfl, rfl⟩, trivial⟩⟩ (bld PL23 rfl) ?_
        refine WL.storeAll (vs := [.int .i64 3, .int .i64 x17, .int .i64 0]) hs 0 rfl TI23 h8_2 rfl rfl rfl (ones_of rfl) rfl (fun w hs => ?_)
        refine WL.nil ?_
        refine hK15 _ _ ?_
        refine W.ret ?_
        have hr := Option.some.inj hf; subst hr
        have hs := hs.add (it := vl t_api_Rule (⟨3, x17, 0⟩ : api_Rule) (.agg [.int .i64 3, .int .i64 x17, .int .i64 0].toArray)) fun ok hA => V_agg (show t_api_Rule.R ok _ _ _ from ⟨[.int .i64 3], [.int .i64 x17, .int .i64 0], rfl, rfl, ⟨[.int .i64 x17], [.int .i64 0], rfl, rfl, rfl⟩⟩) rfl
        exact ⟨_, resOk_one rfl (res_all hs 0 rfl TI23 h8_2 rfl), [.int .i64 3, .int .i64 x17, .int .i64 0], rfl, (hs.mask []).pick [0]⟩
      · refine W.cond_false (bool_tr rfl hc14) ?_
        refine W.seqK fun K18 hK18 => ?_
        refine W.region ?_
        refine WL.bin (v := .bool (x6 == 4)) h8_4 rfl (ib_eql _ _ _) ?_
        refine WL.assign (v := .bool (x6 == 4)) rfl ?_
        refine WL.nil ?_
        refine hK18 _ _ ?_
        rcases iteE hf with ⟨hc19, hf⟩ | ⟨hc19, hf⟩
        · refine W.cond_true (bool_tr rfl hc19) ?_
          refine W.seqK fun K20 hK20 => ?_
          refine W.region ?_
          refine WL.move (v := .int .i64 x1) h8_0 ?_
          obtain ⟨x21, hxx21, hf⟩ := bindE hf
          refine WL.call (vs := [.int .i64 x1, .int .i64 2, .int .i64 3]) hs FN29 ⟨rfl, ⟨rfl, ⟨rfl, trivial⟩⟩⟩ (fun ok hA => eslaw00_Digit.calls (x1 := x1) (x2 := 2) (x3 := 3) hxx21) ?_
          rintro _ w hs
          refine WL.build (vs := [(0, .int .i64 4), (2, .int .i64 x21)]) (cs := [.int .i64 4, .int .i64 0, .int .i64 x21]) ⟨⟨rfl, rfl⟩, ⟨⟨rfl, rfl⟩, trivial⟩⟩ (bld PL23 rfl) ?_
          refine WL.storeAll (vs := [.int .i64 4, .int .i64 0, .int .i64 x21]) hs 0 rfl TI23 h8_2 rfl rfl rfl (ones_of rfl) rfl (fun w hs => ?_)
          refine WL.nil ?_
          refine hK20 _ _ ?_
          refine W.ret ?_
          have hr := Option.some.inj hf; subst hr
          have hs := hs.add (it := vl t_api_Rule (⟨4, 0, x21⟩ : api_Rule) (.agg [.int .i64 4, .int .i64 0, .int .i64 x21].toArray)) fun ok hA => V_agg (show t_api_Rule.R ok _ _ _ from ⟨[.int .i64 4], [.int .i64 0, .int .i64 x21], rfl, rfl, ⟨[.int .i64 0], [.int .i64 x21], rfl, rfl, rfl⟩⟩) rfl
          exact ⟨_, resOk_one rfl (res_all hs 0 rfl TI23 h8_2 rfl), [.int .i64 4, .int .i64 0, .int .i64 x21], rfl, (hs.mask []).pick [0]⟩
        · refine W.cond_false (bool_tr rfl hc19) ?_
          refine W.skip ?_
          refine hK4 _ _ ?_
          refine W.seqK fun K22 hK22 => ?_
          refine W.region ?_
          refine WL.build (vs := [(0, .int .i64 1)]) (cs := [.int .i64 1, .int .i64 0, .int .i64 0]) ⟨⟨rfl, rfl⟩, trivial⟩ (bld PL23 rfl) ?_
          refine WL.storeAll (vs := [.int .i64 1, .int .i64 0, .int .i64 0]) hs 0 rfl TI23 h8_2 rfl rfl rfl (ones_of rfl) rfl (fun w hs => ?_)
          refine WL.nil ?_
          refine hK22 _ _ ?_
          refine W.ret ?_
          have hr := Option.some.inj hf; subst hr
          have hs := hs.add (it := vl t_api_Rule (⟨1, 0, 0⟩ : api_Rule) (.agg [.int .i64 1, .int .i64 0, .int .i64 0].toArray)) fun ok hA => V_agg (show t_api_Rule.R ok _ _ _ from ⟨[.int .i64 1], [.int .i64 0, .int .i64 0], rfl, rfl, ⟨[.int .i64 0], [.int .i64 0], rfl, rfl, rfl⟩⟩) rfl
          exact ⟨_, resOk_one rfl (res_all hs 0 rfl TI23 h8_2 rfl), [.int .i64 1, .int .i64 0, .int .i64 0], rfl, (hs.mask []).pick [0]⟩
  refine W.seqK fun K23 hK23 => ?_
  refine W.region ?_
  refine WL.bin (v := .bool (x6 == 1)) rfl rfl (ib_eql _ _ _) ?_
  refine WL.assign (v := .bool (x6 == 1)) rfl ?_
  refine WL.nil ?_
  refine hK23 _ _ ?_
  rcases iteE hf with ⟨hc24, hf⟩ | ⟨hc24, hf⟩
  · refine W.cond_true (bool_tr rfl hc24) ?_
    refine W.skip ?_
    exact Jk10 true _ _ rfl rfl rfl (bool_tr rfl hc24) ((hs.mask [true]).pick []) hf
  · refine W.cond_false (bool_tr rfl hc24) ?_
    refine W.region ?_
    refine WL.bin (v := .bool (x6 == 2)) rfl rfl (ib_eql _ _ _) ?_
    refine WL.assign (v := .bool (x6 == 2)) rfl ?_
    refine WL.nil ?_
    exact Jk10 (x6 == 2) _ _ rfl rfl rfl rfl ((hs.mask [true]).pick []) hf
/-! elasticstore/elasticstorelaw04.view: function 22 -/
theorem eslaw04_view.calls {ok : Nat → Prop} {w0 : World} {x1 : Int} {x2 : Int}  {r : api_View} (hf : eslaw04_view x1 x2 = some r)  :
    Calls Try.prog 22 #[.int .i64 x1, .int .i64 x2] w0 fun e w' => ∃ v, e = .returned v ∧ ∃ y : (Option Addr × Nat × Nat), v = .agg ([.slice y.1 y.2.1 y.2.2, .int .i64 r.Rule.Kind, .int .i64 r.Rule.Columns, .int .i64 r.Rule.Faulty] : List Value).toArray ∧ St ok (bz w0) w' [] [own t_api_Member 44 (.slice y.1 y.2.1 y.2.2) r.Members] := by
  unfold eslaw04_view at hf
  refine calls_of_W (fn := Try.f22) (N := 30) Try.func22 rfl Try.ntmps22 rfl ?_
  have hs : St ok (bz w0) w0 [] [] := St.init All.nil
  refine W.seqK fun K3 hK3 => ?_
  refine W.region ?_
  refine WL.alloc hs ZV26 (fun g4 w hs => ?_)
  refine WL.nil ?_
  refine hK3 _ _ ?_
  refine W.seqK fun K5 hK5 => ?_
  refine W.region ?_
  refine WL.move (v := .int .i64 x1) rfl ?_
  obtain ⟨x6, hxx6, hf⟩ := bindE hf
  refine WL.call (vs := [.int .i64 x1]) hs FN41 ⟨rfl, trivial⟩ (fun ok hA => eslaw00_Rule.calls (x1 := x1) hxx6) ?_
  rintro cs7 w hs
  have hl8 := hs.agglen (n := 3) 0 rfl rfl rfl
  refine WL.build (vs := [(1, .agg cs7.toArray)]) (cs := ([.slice none 0 0] : List Value) ++ cs7) ⟨⟨rfl, rfl⟩, trivial⟩ (bld PL26 (by simp [fillL, Value.cells, hl8])) ?_
  refine WL.alloc hs ZV26 (fun g9 w hs => ?_)
  refine WL.storeAll (vs := ([.slice none 0 0] : List Value) ++ cs7) hs 0 rfl TI26 rfl rfl rfl (by simp [hl8]) (ones_app (ones_of (l := [.slice none 0 0]) rfl) (hs.ones 0 rfl rfl)) rfl (fun w hs => ?_)
  refine WL.nil ?_
  refine hK5 _ _ ?_
  refine W.seqK fun K10 hK10 => ?_
  obtain rfl := open_api_Rule hs 0 rfl
  have hs := hs.ownNil t_api_Member 44
  have Jk16 : ∀ (x12 : List api_Member) (a13 : Option Addr) (c14 : Nat) (n15 : Nat) (ρ : Env) (w : World), ρ 4 = .pointer (some ⟨g4, 0, none⟩) → ρ 5 = .pointer (some ⟨g9, 0, none⟩) → St ok (bz w0) w [] [own t_api_Member 44 (.slice a13 n15 c14) x12, blk g9 26 [.slice a13 n15 c14, .int .i64 x6.Kind, .int .i64 x6.Columns, .int .i64 x6.Faulty], blk g4 26 [.slice none 0 0, .int .i64 0, .int .i64 0, .int .i64 0]] → eslaw04_view.j1 x6 x12 = some r → K10 ρ w := by
    intro x12 a13 c14 n15 ρ w h11_4 h11_5 hs hf
    refine hK10 _ _ ?_
    unfold eslaw04_view.j1 at hf
    refine W.seqK fun K17 hK17 => ?_
    refine W.region ?_
    refine WL.loadN (vs := [.slice a13 n15 c14, .int .i64 x6.Kind, .int .i64 x6.Columns, .int .i64 x6.Faulty]) hs 1 rfl TI26 h11_5 rfl rfl ?_
    refine WL.storeAll (vs := [.slice a13 n15 c14, .int .i64 x6.Kind, .int .i64 x6.Columns, .int .i64 x6.Faulty]) hs 2 rfl TI26 h11_4 rfl rfl rfl (ones_of rfl) rfl (fun w hs => ?_)
    refine WL.nil ?_
    refine hK17 _ _ ?_
    refine W.ret ?_
    have hr := Option.some.inj hf; subst hr
    exact ⟨_, resOk_one rfl (res_all hs 2 rfl TI26 h11_4 rfl), (a13, n15, c14), rfl, (hs.mask [true]).pick []⟩
  refine W.seqK fun K18 hK18 => ?_
  refine W.region ?_
  refine WL.assign (v := .int .i64 0) rfl ?_
  refine WL.nil ?_
  refine hK18 _ _ ?_
  refine W.block ?_
  obtain ⟨bs25, hbs25, hfs25⟩ := bindE hf
  refine W.loop hbs25 (fun s ρ w => match s with | (x20, x21) => ∃ (a22 : Option Addr), ∃ (c23 : Nat), ∃ (n24 : Nat), ρ 1 = .int .i64 x2 ∧ ρ 4 = .pointer (some ⟨g4, 0, none⟩) ∧ ρ 5 = .pointer (some ⟨g9, 0, none⟩) ∧ ρ 6 = .int .i64 x20 ∧ St ok (bz w0) w [] [own t_api_Member 44 (.slice a22 n24 c23) x21, blk g9 26 [.slice a22 n24 c23, .int .i64 x6.Kind, .int .i64 x6.Columns, .int .i64 x6.Faulty], blk g4 26 [.slice none 0 0, .int .i64 0, .int .i64 0, .int .i64 0]]) ⟨none, 0, 0, rfl, rfl, rfl, rfl, (hs.mask [true, true, true]).pick []⟩ ?_
  intro s ρ w os25 hI hf hbbs25
  obtain ⟨x20, x21⟩ := s
  obtain ⟨a22, c23, n24, h19_1, h19_4, h19_5, h19_6, hs⟩ := hI
  unfold eslaw04_view.l1 at hf
  refine W.seqK fun K26 hK26 => ?_
  refine W.seqK fun K27 hK27 => ?_
  refine W.region ?_
  refine WL.move (v := .int .i64 x20) h19_6 ?_
  refine WL.bin (v := .bool (decide (x20 < 7))) rfl rfl (ib_lss _ _ _) ?_
  refine WL.nil ?_
  refine hK27 _ _ ?_
  rcases iteE hf with ⟨hc28, hf⟩ | ⟨hc28, hf⟩
  · refine W.cond_true (bool_tr rfl hc28) ?_
    refine W.skip ?_
    refine hK26 _ _ ?_
    refine W.seqK fun K29 hK29 => ?_
    have Jk35 : ∀ (x31 : List api_Member) (a32 : Option Addr) (c33 : Nat) (n34 : Nat) (ρ : Env) (w : World), ρ 1 = .int .i64 x2 → ρ 4 = .pointer (some ⟨g4, 0, none⟩) → ρ 5 = .pointer (some ⟨g9, 0, none⟩) → ρ 6 = .int .i64 x20 → St ok (bz w0) w [] [own t_api_Member 44 (.slice a32 n34 c33) x31, blk g9 26 [.slice a32 n34 c33, .int .i64 x6.Kind, .int .i64 x6.Columns, .int .i64 x6.Faulty], blk g4 26 [.slice none 0 0, .int .i64 0, .int .i64 0, .int .i64 0]] → eslaw04_view.j2 x20 x31 = some os25 → K29 ρ w := by
      intro x31 a32 c33 n34 ρ w h30_1 h30_4 h30_5 h30_6 hs hf
      refine hK29 _ _ ?_
      unfold eslaw04_view.j2 at hf
      refine W.region ?_
      refine WL.move (v := .int .i64 x20) h30_6 ?_
      obtain ⟨x36, ex36, hf⟩ := letE hf
      refine WL.bin (v := .int .i64 x36) rfl rfl (ib_as ex36 (ib_add _ _ _)) ?_
      refine WL.assign (v := .int .i64 x36) rfl ?_
      refine WL.nil ?_
      exact ⟨_, (Option.some.inj hf).symm, a32, c33, n34, h30_1, h30_4, h30_5, rfl, (hs.mask [true, true, true]).pick []⟩
    refine W.block ?_
    refine W.seqK fun K37 hK37 => ?_
    refine W.region ?_
    refine WL.move (v := .int .i64 x2) h19_1 ?_
    refine WL.move (v := .int .i64 x20) h19_6 ?_
    obtain ⟨x38, hxx38, hf⟩ := bindE hf
    refine WL.call (vs := [.int .i64 x2, .int .i64 4, .int .i64 x20]) hs FN29 ⟨rfl, ⟨rfl, ⟨rfl, trivial⟩⟩⟩ (fun ok hA => eslaw00_Digit.calls (x1 := x2) (x2 := 4) (x3 := x20) hxx38) ?_
    rintro _ w hs
    refine WL.bin (v := .bool (decide (0 < x38))) rfl rfl (ib_gtr _ _ _) ?_
    refine WL.nil ?_
    refine hK37 _ _ ?_
    rcases iteE hf with ⟨hc39, hf⟩ | ⟨hc39, hf⟩
    · refine W.cond_true (bool_tr rfl hc39) ?_
      obtain ⟨x40, ex40, hf⟩ := letE hf
      obtain ⟨x41, hxx41, hf⟩ := bindE hf
      refine W.any (by kernel_rfl) 9 3 [true, true, true, true, true, true, true, true, true, false, false, false] rfl rfl (poAt [pv (.pointer (some ⟨g9, 0, none⟩)), pv (.slice a22 n24 c23), pv (.int .i64 x20), pv (.int .i64 x40), pv (.int .i64 x2), pv (.int .i64 x20), pv (.int .i64 x41), pv (.agg ([.int .i64 x40, .int .i64 x41] : List Value).toArray), pq (fun y : (Option Addr × Nat) => .slice y.1 ([(⟨x40, x41⟩ : api_Member)]).length y.2) (fun v => [vl (tSlice t_api_Member) [(⟨x40, x41⟩ : api_Member)] v]) (fun v => [])]) (Λ := [own t_api_Member 44 (.slice a22 n24 c23) x21, blk g9 26 [.slice a22 n24 c23, .int .i64 x6.Kind, .int .i64 x6.Columns, .int .i64 x6.Faulty], blk g4 26 [.slice none 0 0, .int .i64 0, .int .i64 0, .int .i64 0]]) hs (by kernel_rfl) (by kernel_rfl) (by kernel_rfl) ⟨⟨⟨⟨⟨⟨⟨⟨⟨trivial, ?_⟩, ?_⟩, ?_⟩, ?_⟩, ?_⟩, ?_⟩, ?_⟩, ?_⟩, ?_⟩ ?_
      · intro ρ w Γx Λx hs hu hp
        refine WL.fieldAddr (m := 0) ((hu 5 rfl).trans h19_5) FA26_0 rfl ?_
        exact WL.nil ⟨rfl, _, rfl, rfl, hs.cutG 0 0⟩
      · intro ρ w Γx Λx hs hu hp
        have e44 : ρ 18 = .pointer (some ⟨g9, 0, none⟩) := (hp 0 rfl).1
        refine WL.load1 (v := .slice a22 n24 c23) hs (Λx.length + 1) (getApp rfl) TI24 e44 rfl ?_
        exact WL.nil ⟨rfl, _, rfl, rfl, hs.cutG 0 0⟩
      · intro ρ w Γx Λx hs hu hp
        refine WL.move (v := .int .i64 x20) ((hu 6 rfl).trans h19_6) ?_
        exact WL.nil ⟨rfl, _, rfl, rfl, hs.cutG 0 0⟩
      · intro ρ w Γx Λx hs hu hp
        have e45 : ρ 20 = .int .i64 x20 := (hp 2 rfl).1
        refine WL.bin (v := .int .i64 x40) e45 rfl (ib_as ex40 (ib_add _ _ _)) ?_
        exact WL.nil ⟨rfl, _, rfl, rfl, hs.cutG 0 0⟩
      · intro ρ w Γx Λx hs hu hp
        refine WL.move (v := .int .i64 x2) ((hu 1 rfl).trans h19_1) ?_
        exact WL.nil ⟨rfl, _, rfl, rfl, hs.cutG 0 0⟩
      · intro ρ w Γx Λx hs hu hp
        refine WL.move (v := .int .i64 x20) ((hu 6 rfl).trans h19_6) ?_
        exact WL.nil ⟨rfl, _, rfl, rfl, hs.cutG 0 0⟩
      · intro ρ w Γx Λx hs hu hp
        have e46 : ρ 22 = .int .i64 x2 := (hp 4 rfl).1
        have e47 : ρ 23 = .int .i64 x20 := (hp 5 rfl).1
        refine WL.call (vs := [.int .i64 x2, .int .i64 4, .int .i64 x20]) hs FN29 ⟨e46, ⟨rfl, ⟨e47, trivial⟩⟩⟩ (fun ok hA => eslaw00_Digit.calls (x1 := x2) (x2 := 4) (x3 := x20) hxx41) ?_
        rintro _ w hs
        exact WL.nil ⟨rfl, _, rfl, rfl, hs.cutG 0 0⟩
      · intro ρ w Γx Λx hs hu hp
        have e48 : ρ 21 = .int .i64 x40 := (hp 3 rfl).1
        have e49 : ρ 24 = .int .i64 x41 := (hp 6 rfl).1
        refine WL.build (vs := [(0, .int .i64 x40), (1, .int .i64 x41)]) (cs := [.int .i64 x40, .int .i64 x41]) ⟨⟨rfl, e48⟩, ⟨⟨rfl, e49⟩, trivial⟩⟩ (bld PL44 rfl) ?_
        exact WL.nil ⟨rfl, _, rfl, rfl, hs.cutG 0 0⟩
      · intro ρ w Γx Λx hs hu hp
        have e50 : ρ 25 = .agg ([.int .i64 x40, .int .i64 x41] : List Value).toArray := (hp 7 rfl).1
        refine WL.buildSliceB (ys := [(⟨x40, x41⟩ : api_Member)]) (n := 1) (vs := [(0, .agg ([.int .i64 x40, .int .i64 x41] : List Value).toArray)]) (cs := [.int .i64 x40, .int .i64 x41]) hs ⟨⟨rfl, e50⟩, trivial⟩ (bls PS24 (by decide) rfl) (fun ok hA => (Cells.one (T := t_api_Member) (show t_api_Member.R ok _ (⟨x40, x41⟩ : api_Member) _ from ⟨[.int .i64 x40], [.int .i64 x41], rfl, rfl, rfl⟩))) rfl (by decide) (fun a43 w hBl hs => ?_)
        have hs := hs.add (it := vl (tSlice t_api_Member) [(⟨x40, x41⟩ : api_Member)] (.slice a43 ([(⟨x40, x41⟩ : api_Member)]).length 1)) fun ok hA => hA.get 0 rfl
        exact WL.nil ⟨rfl, _, rfl, ⟨(a43, 1), rfl⟩, hs.cutG 1 1⟩
      · intro ρ w hs hu51 hp
        obtain ⟨⟨⟨⟨⟨⟨⟨⟨⟨_, hp0_⟩, hp1_⟩, hp2_⟩, hp3_⟩, hp4_⟩, hp5_⟩, hp6_⟩, hp7_⟩, hp8_⟩ := hp
        have hs : St ok (bz w0) w [vl (tSlice t_api_Member) [(⟨x40, x41⟩ : api_Member)] (ρ 26)] [own t_api_Member 44 (.slice a22 n24 c23) x21, blk g9 26 [.slice a22 n24 c23, .int .i64 x6.Kind, .int .i64 x6.Columns, .int .i64 x6.Faulty], blk g4 26 [.slice none 0 0, .int .i64 0, .int .i64 0, .int .i64 0]] := hs
        obtain ⟨⟨a52, c53⟩, e54⟩ := hp8_
        have e54 : ρ 26 = .slice a52 ([(⟨x40, x41⟩ : api_Member)]).length c53 := e54
        try rw [e54] at hs
        have e55 : ρ 25 = .agg ([.int .i64 x40, .int .i64 x41] : List Value).toArray := hp7_
        have e56 : ρ 24 = .int .i64 x41 := hp6_
        have e57 : ρ 23 = .int .i64 x20 := hp5_
        have e58 : ρ 22 = .int .i64 x2 := hp4_
        have e59 : ρ 21 = .int .i64 x40 := hp3_
        have e60 : ρ 20 = .int .i64 x20 := hp2_
        have e61 : ρ 19 = .slice a22 n24 c23 := hp1_
        have e62 : ρ 18 = .pointer (some ⟨g9, 0, none⟩) := hp0_
        refine WA.step [9] (by kernel_rfl) (by simp) ⟨?_, trivial⟩
        obtain ⟨x63, hxx63, hf⟩ := bindE hf
        obtain ⟨hbx63, hex63⟩ := appE hxx63
        refine WL.appendS (zs := x63) hs 0 rfl 0 rfl UN24 UN24 EI44 e61 e54 hbx63 (by omega) hex63 (fun v64 w hs => ?_)
        obtain ⟨a65, n67, c66, rfl⟩ := hs.ownv3 0 rfl
        refine WL.nil ⟨rfl, _, rfl, ?_⟩
        refine WA.step [10] (by kernel_rfl) (by simp) ⟨?_, trivial⟩
        refine WL.fieldAddr (m := 0) ((hu51 5 rfl).trans h19_5) FA26_0 rfl ?_
        refine WL.nil ⟨rfl, _, rfl, ?_⟩
        refine WA.step [11] (by kernel_rfl) (by simp) ⟨?_, trivial⟩
        refine WL.store (vs := [.slice a65 n67 c66]) (cs' := [.slice a65 n67 c66, .int .i64 x6.Kind, .int .i64 x6.Columns, .int .i64 x6.Faulty]) hs 1 rfl TI24 rfl rfl rfl rfl (ones_of rfl) (Nat.le_of_ble_eq_true rfl) rfl (fun w hs => ?_)
        refine WL.nil ⟨rfl, _, rfl, ?_⟩
        refine WA.done (by kernel_rfl) ?_
        exact Jk35 x63 a65 c66 n67 _ _ ((hu51 1 rfl).trans h19_1) ((hu51 4 rfl).trans h19_4) ((hu51 5 rfl).trans h19_5) ((hu51 6 rfl).trans h19_6) ((hs.mask [true, true, true]).pick []) hf
    · refine W.cond_false (bool_tr rfl hc39) ?_
      refine W.skip ?_
      exact Jk35 x21 a22 c23 n24 _ _ h19_1 h19_4 h19_5 h19_6 ((hs.mask [true, true, true]).pick []) hf
  · refine W.cond_false (bool_tr rfl hc28) ?_
    refine W.exit ?_
    have hr := Option.some.inj hf; subst hr
    have hr := hbbs25 _ rfl; subst hr
    have hf := hfs25
    exact Jk16 x21 a22 c23 n24 _ _ h19_4 h19_5 ((hs.mask [true, true, true]).pick []) hf
theorem eslaw04_view.callc {ok : Nat → Prop} {w0 : World} {x1 : Int} {x2 : Int}  {r : api_View} (hf : eslaw04_view x1 x2 = some r)  :
    Calls Try.prog 22 #[.int .i64 x1, .int .i64 x2] w0 fun e w' => ∃ v, e = .returned v ∧ ∃ y : List Value, v = .agg y.toArray ∧ St ok (bz w0) w' [vl t_api_View r (.agg y.toArray)] [] := by
  refine (eslaw04_view.calls (ok := ok) (w0 := w0) (x1 := x1) (x2 := x2) hf).mono ?_
  rintro e w' ⟨v, rfl, ⟨a69, n70, c71⟩, rfl, hs⟩
  obtain rfl := hs.ownLen 0 rfl
  have hs := hs.freezeOwn 0 rfl
  have hs := hs.add (it := vl t_api_View (⟨r.Members, (⟨r.Rule.Kind, r.Rule.Columns, r.Rule.Faulty⟩ : api_Rule)⟩ : api_View) (.agg [.slice a69 (r.Members).length c71, .int .i64 r.Rule.Kind, .int .i64 r.Rule.Columns, .int .i64 r.Rule.Faulty].toArray)) fun ok hA => V_agg (show t_api_View.R ok _ _ _ from ⟨[.slice a69 (r.Members).length c71], [.int .i64 r.Rule.Kind, .int .i64 r.Rule.Columns, .int .i64 r.Rule.Faulty], rfl, (R_one (hA.get 0 rfl)), ⟨[.int .i64 r.Rule.Kind], [.int .i64 r.Rule.Columns, .int .i64 r.Rule.Faulty], rfl, rfl, ⟨[.int .i64 r.Rule.Columns], [.int .i64 r.Rule.Faulty], rfl, rfl, rfl⟩⟩⟩) rfl
  exact ⟨_, rfl, [.slice a69 (r.Members).length c71, .int .i64 r.Rule.Kind, .int .i64 r.Rule.Columns, .int .i64 r.Rule.Faulty], rfl, hs.pick [0]⟩
end Go.Proofs.Ytodebgfppmcjlaa
