import Derived.Test.YtahobbichanccaaFh
import Derived.Test.YtahobbichanccaaLs
import Derived.Test.YtahobbichanccaaFp0
import Derived.Test.YtahobbichanccaaFp3
import Derived.Test.YtahobbichanccaaFp9
set_option linter.unusedVariables false
set_option linter.unusedSimpArgs false
namespace Go.Proofs.Ytahobbichanccaa
open Go Go.RowKit Go.Proofs.YtahobbichanccaaL
set_option maxRecDepth 100000
set_option maxHeartbeats 4000000
/-! elasticstore/elasticstorelaw34.NetworkFull: function 4 -/
theorem eslaw34_NetworkFull.calls {ok : Nat → Prop} {w0 : World} {x1 : Int} {x2 : Int}  {r : Bool} (hf : eslaw34_NetworkFull x1 x2 = some r)  :
    Calls Try.prog 4 #[.int .i64 x1, .int .i64 x2] w0 fun e w' => ∃ v, e = .returned v ∧ ∃ y : Unit, v = .bool r ∧ St ok (bz w0) w' [] [] := by
  unfold eslaw34_NetworkFull at hf
  refine calls_of_W (fn := Try.f4) (N := 92) Try.func4 rfl Try.ntmps4 rfl ?_
  have hs : St ok (bz w0) w0 [] [] := St.init All.nil
  refine W.seqK fun K3 hK3 => ?_
  refine W.region ?_
  refine WL.assign (v := .bool false) rfl ?_
  refine WL.nil ?_
  refine hK3 _ _ ?_
  refine W.seqK fun K4 hK4 => ?_
  refine W.region ?_
  obtain ⟨x8, hxx8, hf⟩ := bindE hf
  refine WL.makeSlice (z := (⟨0, 0, 0, ⟨0, 0⟩, 0, 0, ⟨[], []⟩, ⟨[], []⟩, false, ⟨[], []⟩, [], [], [], false⟩)) (A := t_api_Message) hs UN30 EI49 rfl rfl (fun ok => (show t_api_Message.R ok _ (⟨0, 0, 0, ⟨0, 0⟩, 0, 0, ⟨[], []⟩, ⟨[], []⟩, false, ⟨[], []⟩, [], [], [], false⟩ : api_Message) _ from ⟨[.int .i64 0], [.int .i64 0, .int .i64 0, .int .i64 0, .int .i64 0, .int .i64 0, .int .i64 0, .slice none 0 0, .slice none 0 0, .slice none 0 0, .slice none 0 0, .bool false, .slice none 0 0, .slice none 0 0, .slice none 0 0, .slice none 0 0, .slice none 0 0, .bool false], rfl, rfl, ⟨[.int .i64 0], [.int .i64 0, .int .i64 0, .int .i64 0, .int .i64 0, .int .i64 0, .slice none 0 0, .slice none 0 0, .slice none 0 0, .slice none 0 0, .bool false, .slice none 0 0, .slice none 0 0, .slice none 0 0, .slice none 0 0, .slice none 0 0, .bool false], rfl, rfl, ⟨[.int .i64 0], [.int .i64 0, .int .i64 0, .int .i64 0, .int .i64 0, .slice none 0 0, .slice none 0 0, .slice none 0 0, .slice none 0 0, .bool false, .slice none 0 0, .slice none 0 0, .slice none 0 0, .slice none 0 0, .slice none 0 0, .bool false], rfl, rfl, ⟨[.int .i64 0, .int .i64 0], [.int .i64 0, .int .i64 0, .slice none 0 0, .slice none 0 0, .slice none 0 0, .slice none 0 0, .bool false, .slice none 0 0, .slice none 0 0, .slice none 0 0, .slice none 0 0, .slice none 0 0, .bool false], rfl, ⟨[.int .i64 0], [.int .i64 0], rfl, rfl, rfl⟩, ⟨[.int .i64 0], [.int .i64 0, .slice none 0 0, .slice none 0 0, .slice none 0 0, .slice none 0 0, .bool false, .slice none 0 0, .slice none 0 0, .slice none 0 0, .slice none 0 0, .slice none 0 0, .bool false], rfl, rfl, ⟨[.int .i64 0], [.slice none 0 0, .slice none 0 0, .slice none 0 0, .slice none 0 0, .bool false, .slice none 0 0, .slice none 0 0, .slice none 0 0, .slice none 0 0, .slice none 0 0, .bool false], rfl, rfl, ⟨[.slice none 0 0, .slice none 0 0], [.slice none 0 0, .slice none 0 0, .bool false, .slice none 0 0, .slice none 0 0, .slice none 0 0, .slice none 0 0, .slice none 0 0, .bool false], rfl, ⟨[.slice none 0 0], [.slice none 0 0], rfl, R_nil, R_nil⟩, ⟨[.slice none 0 0, .slice none 0 0], [.bool false, .slice none 0 0, .slice none 0 0, .slice none 0 0, .slice none 0 0, .slice none 0 0, .bool false], rfl, ⟨[.slice none 0 0], [.slice none 0 0], rfl, R_nil, R_nil⟩, ⟨[.bool false], [.slice none 0 0, .slice none 0 0, .slice none 0 0, .slice none 0 0, .slice none 0 0, .bool false], rfl, rfl, ⟨[.slice none 0 0, .slice none 0 0], [.slice none 0 0, .slice none 0 0, .slice none 0 0, .bool false], rfl, ⟨[.slice none 0 0], [.slice none 0 0], rfl, R_nil, R_nil⟩, ⟨[.slice none 0 0], [.slice none 0 0, .slice none 0 0, .bool false], rfl, R_nil, ⟨[.slice none 0 0], [.slice none 0 0, .bool false], rfl, R_nil, ⟨[.slice none 0 0], [.bool false], rfl, R_nil, rfl⟩⟩⟩⟩⟩⟩⟩⟩⟩⟩⟩⟩⟩)) hxx8 (by decide) (fun v5 w hs => ?_)
  obtain ⟨a6, n9, c7, rfl⟩ := hs.ownv3 0 rfl
  refine WL.assign (v := .slice a6 n9 c7) rfl ?_
  refine WL.nil ?_
  refine hK4 _ _ ?_
  refine W.seqK fun K10 hK10 => ?_
  refine W.region ?_
  obtain ⟨x11, hxx11, hf⟩ := bindE hf
  refine WL.call (vs := []) hs FN9 trivial (fun ok hA => network_New.calls hxx11) ?_
  rintro ⟨⟨a12, n13, c14⟩, ⟨a15, n16, c17⟩⟩ w hs
  refine WL.alloc hs ZV27 (fun g18 w hs => ?_)
  refine WL.storeAll (vs := [.int .i64 x11.Next, .slice a12 n13 c14, .slice a15 n16 c17]) hs 0 rfl TI27 rfl rfl rfl rfl (ones_of rfl) rfl (fun w hs => ?_)
  refine WL.nil ?_
  refine hK10 _ _ ?_
  obtain rfl := hs.ownLen 3 rfl
  have hs := hs.freezeOwn 3 rfl
  refine W.seqK fun K222 hK222 => ?_
  have Jk231 : ∀ (x224 : Int) (x225 : List network_Packet) (x228 : List network_Side) (a226 : Option Addr) (c227 : Nat) (a229 : Option Addr) (c230 : Nat) (ρ : Env) (w : World), ρ 0 = .int .i64 x1 → ρ 1 = .int .i64 x2 → ρ 5 = .slice a6 x8.length c7 → ρ 6 = .pointer (some ⟨g18, 0, none⟩) → St ok (bz w0) w [vl (tSlice t_api_Message) x8 (.slice a6 x8.length c7), vl (tSlice t_network_Packet) x225 (.slice a226 x225.length c227), vl (tSlice t_network_Side) x228 (.slice a229 x228.length c230)] [blk g18 27 [.int .i64 x224, .slice a226 x225.length c227, .slice a229 x228.length c230]] → eslaw34_NetworkFull.j4 x1 x2 x8 x224 x225 x228 = some r → K222 ρ w := by
    intro x224 x225 x228 a226 c227 a229 c230 ρ w h223_0 h223_1 h223_5 h223_6 hs hf
    refine hK222 _ _ ?_
    unfold eslaw34_NetworkFull.j4 at hf
    refine W.seqK fun K232 hK232 => ?_
    refine W.region ?_
    refine WL.move (v := .int .i64 x1) h223_0 ?_
    obtain ⟨x233, hxx233, hf⟩ := bindE hf
    refine WL.call (vs := [.int .i64 x1, .int .i64 700]) hs FN17 ⟨rfl, ⟨rfl, trivial⟩⟩ (fun ok hA => eslaw00_Index.calls (x1 := x1) (x2 := 700) hxx233) ?_
    rintro _ w hs
    refine WL.assign (v := .int .i64 x233) rfl ?_
    refine WL.nil ?_
    refine hK232 _ _ ?_
    refine W.seqK fun K234 hK234 => ?_
    obtain ⟨x235, hxx235, hf⟩ := bindE hf
    obtain ⟨x238, hxx238, hf⟩ := bindE hf
    refine W.any (by kernel_rfl) 5 1 [true, true, true, true, true, false] rfl rfl (poAt [pv (.agg ([.int .i64 x224, .slice a226 x225.length c227, .slice a229 x228.length c230] : List Value).toArray), pv (.slice a6 x8.length c7), pv (.int .i64 x233), pq (fun y : (Option Addr × Nat) => .slice y.1 x235.length y.2) (fun v => [vl (tSlice t_api_Message) x235 v]) (fun v => []), pq (fun y : List Value => .agg y.toArray) (fun v => [vl t_network_Network x238 v]) (fun v => [])]) (Λ := [blk g18 27 [.int .i64 x224, .slice a226 x225.length c227, .slice a229 x228.length c230]]) hs (by kernel_rfl) (by kernel_rfl) (by kernel_rfl) ⟨⟨⟨⟨⟨trivial, ?_⟩, ?_⟩, ?_⟩, ?_⟩, ?_⟩ ?_
    · intro ρ w Γx Λx hs hu hp
      refine WL.loadN (vs := [.int .i64 x224, .slice a226 x225.length c227, .slice a229 x228.length c230]) hs (Λx.length + 0) (getApp rfl) TI27 ((hu 6 rfl).trans h223_6) rfl rfl ?_
      exact WL.nil ⟨rfl, _, rfl, rfl, hs.cutG 0 0⟩
    · intro ρ w Γx Λx hs hu hp
      refine WL.move (v := .slice a6 x8.length c7) ((hu 5 rfl).trans h223_5) ?_
      exact WL.nil ⟨rfl, _, rfl, rfl, hs.cutG 0 0⟩
    · intro ρ w Γx Λx hs hu hp
      refine WL.move (v := .int .i64 x233) (hu 0 rfl) ?_
      exact WL.nil ⟨rfl, _, rfl, rfl, hs.cutG 0 0⟩
    · intro ρ w Γx Λx hs hu hp
      have e241 : ρ 24 = .slice a6 x8.length c7 := (hp 1 rfl).1
      have e242 : ρ 25 = .int .i64 x233 := (hp 2 rfl).1
      refine WL.slice_h hs (Γx.length + 0) (getApp rfl) UN30 TI49 e241 e242 hxx235 (fun a236 c237 hs => ?_)
      have hs := hs.add (it := vl (tSlice t_api_Message) x235 (.slice a236 x235.length c237)) fun ok hA => hA.get 0 rfl
      exact WL.nil ⟨rfl, _, rfl, ⟨(a236, c237), rfl⟩, hs.cutG 1 1⟩
    · intro ρ w Γx Λx hs hu hp
      have e243 : ρ 23 = .agg ([.int .i64 x224, .slice a226 x225.length c227, .slice a229 x228.length c230] : List Value).toArray := (hp 0 rfl).1
      obtain ⟨⟨⟨a244, c245⟩, e246r⟩, hm247⟩ := hp 3 rfl
      have e246 : ρ 26 = .slice a244 x235.length c245 := e246r
      rw [e246r] at hm247
      have hs := hs.memo1 (it := vl (tSlice t_api_Message) x235 (.slice a244 x235.length c245)) (List.mem_append.2 (.inl (hm247 _ (List.mem_of_getElem? (i := 0) rfl))))
      have hs := hs.add (it := vl t_network_Network (⟨x224, x225, x228⟩ : network_Network) (.agg [.int .i64 x224, .slice a226 x225.length c227, .slice a229 x228.length c230].toArray)) fun ok hA => V_agg (show t_network_Network.R ok _ _ _ from ⟨[.int .i64 x224], [.slice a226 x225.length c227, .slice a229 x228.length c230], rfl, rfl, ⟨[.slice a226 x225.length c227], [.slice a229 x228.length c230], rfl, (R_one (hA.get (Γx.length + 1 + 1) (getApp1 rfl))), (R_one (hA.get (Γx.length + 2 + 1) (getApp1 rfl)))⟩⟩) rfl
      refine WL.call (vs := [.agg ([.int .i64 x224, .slice a226 x225.length c227, .slice a229 x228.length c230] : List Value).toArray, .slice a244 x235.length c245]) hs FN10 ⟨e243, ⟨e246, trivial⟩⟩ (fun ok hA => network_Send.callc (x1 := (⟨x224, x225, x228⟩ : network_Network)) (x5 := x235) hxx238 (hA.get 0 rfl) (hA.get 1 rfl)) ?_
      rintro cs239 w hs
      have hl240 := hs.agglen (n := 3) 0 rfl rfl rfl
      have hs := hs.add (it := vl t_network_Network x238 (.agg cs239.toArray)) fun ok hA => hA.get 0 rfl
      exact WL.nil ⟨rfl, _, rfl, ⟨cs239, rfl⟩, hs.cutG 1 3⟩
    · intro ρ w hs hu248 hp
      obtain ⟨⟨⟨⟨⟨_, hp0_⟩, hp1_⟩, hp2_⟩, hp3_⟩, hp4_⟩ := hp
      have hs : St ok (bz w0) w [vl t_network_Network x238 (ρ 27), vl (tSlice t_api_Message) x235 (ρ 26), vl (tSlice t_api_Message) x8 (.slice a6 x8.length c7), vl (tSlice t_network_Packet) x225 (.slice a226 x225.length c227), vl (tSlice t_network_Side) x228 (.slice a229 x228.length c230)] [blk g18 27 [.int .i64 x224, .slice a226 x225.length c227, .slice a229 x228.length c230]] := hs
      obtain ⟨cs249, e251⟩ := hp4_
      have e251 : ρ 27 = .agg cs249.toArray := e251
      try rw [e251] at hs
      obtain ⟨⟨a252, c253⟩, e254⟩ := hp3_
      have e254 : ρ 26 = .slice a252 x235.length c253 := e254
      try rw [e254] at hs
      have e255 : ρ 25 = .int .i64 x233 := hp2_
      have e256 : ρ 24 = .slice a6 x8.length c7 := hp1_
      have e257 : ρ 23 = .agg ([.int .i64 x224, .slice a226 x225.length c227, .slice a229 x228.length c230] : List Value).toArray := hp0_
      have hl250 := hs.agglen (n := 3) 0 rfl rfl rfl
      refine WA.step [5] (by kernel_rfl) (by simp) ⟨?_, trivial⟩
      refine WL.storeAll (vs := cs249) hs 0 rfl TI27 ((hu248 6 rfl).trans h223_6) e251 rfl hl250 (hs.ones 0 rfl rfl) rfl (fun w hs => ?_)
      refine WL.nil ⟨rfl, _, rfl, ?_⟩
      refine WA.done (by kernel_rfl) ?_
      refine hK234 _ _ ?_
      refine W.seqK fun K258 hK258 => ?_
      refine W.region ?_
      refine WL.move (v := .int .i64 x233) (hu248 0 rfl) ?_
      obtain ⟨x259, ex259, hf⟩ := letE hf
      refine WL.bin (v := .int .i64 x259) rfl rfl (ib_as ex259 (ib_add _ _ _)) ?_
      refine WL.min rfl rfl ?_
      refine WL.assign (v := .int .i64 (minI 4096 x259)) rfl ?_
      refine WL.nil ?_
      refine hK258 _ _ ?_
      refine W.seqK fun K260 hK260 => ?_
      refine W.seqK fun K261 hK261 => ?_
      have Jk264 : ∀ (x263 : Bool) (ρ : Env) (w : World), ρ 1 = .int .i64 x2 → ρ 6 = .pointer (some ⟨g18, 0, none⟩) → ρ 8 = .int .i64 (minI 4096 x259) → ρ 42 = .bool x263 → St ok (bz w0) w [vl t_network_Network x238 (.agg cs249.toArray)] [blk g18 27 cs249] → eslaw34_NetworkFull.j3 x2 x238 x259 x263 = some r → K261 ρ w := by
        intro x263 ρ w h262_1 h262_6 h262_8 h262_42 hs hf
        refine hK261 _ _ ?_
        unfold eslaw34_NetworkFull.j3 at hf
        rcases iteE hf with ⟨hc265, hf⟩ | ⟨hc265, hf⟩
        · refine W.cond_true (bool_tr h262_42 hc265) ?_
          refine W.seqK fun K266 hK266 => ?_
          refine W.region ?_
          refine WL.assign (v := .bool false) rfl ?_
          refine WL.nil ?_
          refine hK266 _ _ ?_
          refine W.ret ?_
          have hr := Option.some.inj hf; subst hr
          exact ⟨_, resOk_one rfl rfl, (), rfl, (hs.mask []).pick []⟩
        · refine W.cond_false (bool_tr h262_42 hc265) ?_
          refine W.skip ?_
          refine hK260 _ _ ?_
          refine W.seqK fun K267 hK267 => ?_
          have Jk275 : ∀ (x270 : network_Network) (x273 : Int) (x274 : Bool) (g269 : Nat) (cs271 : List Value) (ρ : Env) (w : World), cs271.length = 3 → ρ 8 = .int .i64 (minI 4096 x259) → ρ 9 = .pointer (some ⟨g269, 0, none⟩) → ρ 10 = .int .i64 x273 → ρ 11 = .bool x274 → St ok (bz w0) w [vl t_network_Network x270 (.agg cs271.toArray)] [blk g269 27 cs271] → eslaw34_NetworkFull.j2 x259 x270 x273 x274 = some r → K267 ρ w := by
            intro x270 x273 x274 g269 cs271 ρ w hl272 h268_8 h268_9 h268_10 h268_11 hs hf
            refine hK267 _ _ ?_
            unfold eslaw34_NetworkFull.j2 at hf
            refine W.seqK fun K276 hK276 => ?_
            have Jk279 : ∀ (x278 : Bool) (ρ : Env) (w : World), ρ 4 = .bool x278 → St ok (bz w0) w [] [] → eslaw34_NetworkFull.j1 x278 = some r → K276 ρ w := by
              intro x278 ρ w h277_4 hs hf
              refine hK276 _ _ ?_
              unfold eslaw34_NetworkFull.j1 at hf
              refine W.ret ?_
              have hr := Option.some.inj hf; subst hr
              exact ⟨_, resOk_one rfl h277_4, (), rfl, (hs.mask []).pick []⟩
            refine W.region ?_
            refine WL.move (v := .bool x274) h268_11 ?_
            refine WL.move (v := .int .i64 (minI 4096 x259)) h268_8 ?_
            refine WL.bin (v := .bool (decide ((minI 4096 x259) < 4096))) rfl rfl (ib_lss _ _ _) ?_
            refine WL.eqB UN4 rfl rfl ?_
            refine WL.move (v := .bool (x274 == (decide ((minI 4096 x259) < 4096)))) rfl ?_
            rcases iteE hf with ⟨hc280, hf⟩ | ⟨hc280, hf⟩
            · refine WL.move (v := .bool x274) h268_11 ?_ (hg := (wanted_of rfl rfl (bool_tr rfl hc280)).trans rfl)
              refine WL.not rfl ?_ (hg := (wanted_of rfl rfl (bool_tr rfl hc280)).trans rfl)
              refine WL.move (v := .bool (!x274)) rfl ?_ (hg := (wanted_of rfl rfl (bool_tr rfl hc280)).trans rfl)
              rcases iteE hf with ⟨hc281, hf⟩ | ⟨hc281, hf⟩
              · refine WL.move (v := .int .i64 x273) h268_10 ?_ (hg := (wanted_of rfl rfl (bool_tr rfl hc281)).trans rfl)
                refine WL.bin (v := .bool (x273 == 0)) rfl rfl (ib_eql _ _ _) ?_ (hg := (wanted_of rfl rfl (bool_tr rfl hc281)).trans rfl)
                refine WL.pickT (v := .bool (x273 == 0)) (bool_tr rfl hc281) rfl ?_ (hg := (wanted_of rfl rfl (bool_tr rfl hc280)).trans rfl)
                refine WL.move (v := .bool (x273 == 0)) rfl ?_ (hg := (wanted_of rfl rfl (bool_tr rfl hc280)).trans rfl)
                rcases iteE hf with ⟨hc282, hf⟩ | ⟨hc282, hf⟩
                · refine WL.fieldAddr (m := 1) h268_9 FA27_1 rfl ?_ (hg := (wanted_of rfl rfl (bool_tr rfl hc282)).trans rfl)
                  refine WL.loadF (z := x270.Packets) F_network_Network_Packets hs 0 rfl 0 rfl rfl TI25 (.inr rfl) rfl rfl (fun v283 hs => ?_) (hg := (wanted_of rfl rfl (bool_tr rfl hc282)).trans rfl)
                  obtain ⟨a284, c285, rfl⟩ := hs.slice 0 rfl
                  refine WL.len (v := .slice a284 (x270.Packets).length c285) rfl (len_slice UN25) ?_ (hg := (wanted_of rfl rfl (bool_tr rfl hc282)).trans rfl)
                  refine WL.move (v := .int .i64 (minI 4096 x259)) h268_8 ?_ (hg := (wanted_of rfl rfl (bool_tr rfl hc282)).trans rfl)
                  refine WL.bin (v := .bool (((x270.Packets).length : Int) == (minI 4096 x259))) rfl rfl (ib_eql _ _ _) ?_ (hg := (wanted_of rfl rfl (bool_tr rfl hc282)).trans rfl)
                  refine WL.pickT (v := .bool (((x270.Packets).length : Int) == (minI 4096 x259))) (bool_tr rfl hc282) rfl ?_ (hg := (wanted_of rfl rfl (bool_tr rfl hc280)).trans rfl)
                  refine WL.move (v := .bool (((x270.Packets).length : Int) == (minI 4096 x259))) rfl ?_ (hg := (wanted_of rfl rfl (bool_tr rfl hc280)).trans rfl)
                  rcases iteE hf with ⟨hc286, hf⟩ | ⟨hc286, hf⟩
                  · refine WL.pass ((wanted_of rfl rfl (bool_tr rfl hc286)).trans rfl) rfl ?_
                    refine WL.pass ((wanted_of rfl rfl (bool_tr rfl hc286)).trans rfl) rfl ?_
                    refine WL.pass (wanted_undef rfl rfl rfl) rfl ?_
                    refine WL.pass (wanted_undef rfl rfl rfl) rfl ?_
                    refine WL.pass (wanted_undef rfl rfl rfl) rfl ?_
                    refine WL.pass (wanted_undef rfl rfl rfl) rfl ?_
                    refine WL.pass ((wanted_of rfl rfl (bool_tr rfl hc286)).trans rfl) rfl ?_
                    refine WL.pass ((wanted_of rfl rfl (bool_tr rfl hc286)).trans rfl) rfl ?_
                    refine WL.pass (wanted_undef rfl rfl rfl) rfl ?_
                    refine WL.pass (wanted_undef rfl rfl rfl) rfl ?_
                    refine WL.pass (wanted_undef rfl rfl rfl) rfl ?_
                    refine WL.pass (wanted_undef rfl rfl rfl) rfl ?_
                    refine WL.pass (wanted_undef rfl rfl rfl) rfl ?_
                    refine WL.pass (wanted_undef rfl rfl rfl) rfl ?_
                    refine WL.pass ((wanted_of rfl rfl (bool_tr rfl hc286)).trans rfl) rfl ?_
                    refine WL.pickT (v := .bool true) (bool_tr rfl hc286) rfl ?_ (hg := (wanted_of rfl rfl (bool_tr rfl hc280)).trans rfl)
                    refine WL.pickT (v := .bool true) (bool_tr rfl hc280) rfl ?_
                    refine WL.move (v := .bool true) rfl ?_
                    obtain ⟨x287, hxx287, hf⟩ := bindE hf
                    refine WL.call (vs := []) hs FN8 trivial (fun ok hA => eslaw34_awake.calls hxx287) ?_ (hg := (wanted_of rfl rfl rfl).trans rfl)
                    rintro _ w hs
                    refine WL.pickT (v := .bool x287) rfl rfl ?_
                    refine WL.assign (v := .bool x287) rfl ?_
                    refine WL.nil ?_
                    exact Jk279 x287 _ _ rfl ((hs.mask []).pick []) hf
                  · refine WL.move (v := .bool x274) h268_11 ?_ (hg := (wanted_of rfl rfl (bool_tr rfl hc286)).trans rfl)
                    refine WL.move (v := .bool x274) rfl ?_ (hg := (wanted_of rfl rfl (bool_tr rfl hc286)).trans rfl)
                    rcases iteE hf with ⟨hc288, hf⟩ | ⟨hc288, hf⟩
                    · refine WL.move (v := .int .i64 x273) h268_10 ?_ (hg := (wanted_of rfl rfl (bool_tr rfl hc288)).trans rfl)
                      refine WL.move (v := .int .i64 (minI 4096 x259)) h268_8 ?_ (hg := (wanted_of rfl rfl (bool_tr rfl hc288)).trans rfl)
                      obtain ⟨x289, ex289, hf⟩ := letE hf
                      refine WL.bin (v := .int .i64 x289) rfl rfl (ib_as ex289 (ib_add _ _ _)) ?_ (hg := (wanted_of rfl rfl (bool_tr rfl hc288)).trans rfl)
                      refine WL.bin (v := .bool (x273 == x289)) rfl rfl (ib_eql _ _ _) ?_ (hg := (wanted_of rfl rfl (bool_tr rfl hc288)).trans rfl)
                      refine WL.pickT (v := .bool (x273 == x289)) (bool_tr rfl hc288) rfl ?_ (hg := (wanted_of rfl rfl (bool_tr rfl hc286)).trans rfl)
                      refine WL.move (v := .bool (x273 == x289)) rfl ?_ (hg := (wanted_of rfl rfl (bool_tr rfl hc286)).trans rfl)
                      rcases iteE hf with ⟨hc290, hf⟩ | ⟨hc290, hf⟩
                      · refine WL.fieldAddr (m := 1) h268_9 FA27_1 rfl ?_ (hg := (wanted_of rfl rfl (bool_tr rfl hc290)).trans rfl)
                        refine WL.loadF (z := x270.Packets) F_network_Network_Packets hs 0 rfl 1 rfl rfl TI25 (.inr rfl) rfl rfl (fun v291 hs => ?_) (hg := (wanted_of rfl rfl (bool_tr rfl hc290)).trans rfl)
                        obtain ⟨a292, c293, rfl⟩ := hs.slice 0 rfl
                        refine WL.len (v := .slice a292 (x270.Packets).length c293) rfl (len_slice UN25) ?_ (hg := (wanted_of rfl rfl (bool_tr rfl hc290)).trans rfl)
                        refine WL.move (v := .int .i64 (minI 4096 x259)) h268_8 ?_ (hg := (wanted_of rfl rfl (bool_tr rfl hc290)).trans rfl)
                        obtain ⟨x294, ex294, hf⟩ := letE hf
                        refine WL.bin (v := .int .i64 x294) rfl rfl (ib_as ex294 (ib_add _ _ _)) ?_ (hg := (wanted_of rfl rfl (bool_tr rfl hc290)).trans rfl)
                        refine WL.bin (v := .bool (((x270.Packets).length : Int) == x294)) rfl rfl (ib_eql _ _ _) ?_ (hg := (wanted_of rfl rfl (bool_tr rfl hc290)).trans rfl)
                        refine WL.pickT (v := .bool (((x270.Packets).length : Int) == x294)) (bool_tr rfl hc290) rfl ?_ (hg := (wanted_of rfl rfl (bool_tr rfl hc286)).trans rfl)
                        refine WL.pickF (v := .bool (((x270.Packets).length : Int) == x294)) (bool_tr rfl hc286) rfl ?_ (hg := (wanted_of rfl rfl (bool_tr rfl hc280)).trans rfl)
                        refine WL.pickT (v := .bool (((x270.Packets).length : Int) == x294)) (bool_tr rfl hc280) rfl ?_
                        refine WL.move (v := .bool (((x270.Packets).length : Int) == x294)) rfl ?_
                        rcases iteE hf with ⟨hc295, hf⟩ | ⟨hc295, hf⟩
                        · obtain ⟨x296, hxx296, hf⟩ := bindE hf
                          refine WL.call (vs := []) hs FN8 trivial (fun ok hA => eslaw34_awake.calls hxx296) ?_ (hg := (wanted_of rfl rfl (bool_tr rfl hc295)).trans rfl)
                          rintro _ w hs
                          refine WL.pickT (v := .bool x296) (bool_tr rfl hc295) rfl ?_
                          refine WL.assign (v := .bool x296) rfl ?_
                          refine WL.nil ?_
                          exact Jk279 x296 _ _ rfl ((hs.mask []).pick []) hf
                        · refine WL.pass ((wanted_of rfl rfl (bool_tr rfl hc295)).trans rfl) rfl ?_
                          refine WL.pickF (v := .bool false) (bool_tr rfl hc295) rfl ?_
                          refine WL.assign (v := .bool false) rfl ?_
                          refine WL.nil ?_
                          exact Jk279 false _ _ rfl ((hs.mask []).pick []) hf
                      · refine WL.pass ((wanted_of rfl rfl (bool_tr rfl hc290)).trans rfl) rfl ?_
                        refine WL.pass ((wanted_of rfl rfl (bool_tr rfl hc290)).trans rfl) rfl ?_
                        refine WL.pass ((wanted_of rfl rfl (bool_tr rfl hc290)).trans rfl) rfl ?_
                        refine WL.pass ((wanted_of rfl rfl (bool_tr rfl hc290)).trans rfl) rfl ?_
                        refine WL.pass ((wanted_of rfl rfl (bool_tr rfl hc290)).trans rfl) rfl ?_
                        refine WL.pass ((wanted_of rfl rfl (bool_tr rfl hc290)).trans rfl) rfl ?_
                        refine WL.pickF (v := .bool false) (bool_tr rfl hc290) rfl ?_ (hg := (wanted_of rfl rfl (bool_tr rfl hc286)).trans rfl)
                        refine WL.pickF (v := .bool false) (bool_tr rfl hc286) rfl ?_ (hg := (wanted_of rfl rfl (bool_tr rfl hc280)).trans rfl)
                        refine WL.pickT (v := .bool false) (bool_tr rfl hc280) rfl ?_
                        refine WL.move (v := .bool false) rfl ?_
                        refine WL.pass ((wanted_of rfl rfl rfl).trans rfl) rfl ?_
                        refine WL.pickF (v := .bool false) rfl rfl ?_
                        refine WL.assign (v := .bool false) rfl ?_
                        refine WL.nil ?_
                        exact Jk279 false _ _ rfl ((hs.mask []).pick []) hf
                    · refine WL.pass ((wanted_of rfl rfl (bool_tr rfl hc288)).trans rfl) rfl ?_
                      refine WL.pass ((wanted_of rfl rfl (bool_tr rfl hc288)).trans rfl) rfl ?_
                      refine WL.pass ((wanted_of rfl rfl (bool_tr rfl hc288)).trans rfl) rfl ?_
                      refine WL.pass ((wanted_of rfl rfl (bool_tr rfl hc288)).trans rfl) rfl ?_
                      refine WL.pickF (v := .bool false) (bool_tr rfl hc288) rfl ?_ (hg := (wanted_of rfl rfl (bool_tr rfl hc286)).trans rfl)
                      refine WL.move (v := .bool false) rfl ?_ (hg := (wanted_of rfl rfl (bool_tr rfl hc286)).trans rfl)
                      refine WL.pass ((wanted_of rfl rfl rfl).trans rfl) rfl ?_
                      refine WL.pass ((wanted_of rfl rfl rfl).trans rfl) rfl ?_
                      refine WL.pass ((wanted_of rfl rfl rfl).trans rfl) rfl ?_
                      refine WL.pass ((wanted_of rfl rfl rfl).trans rfl) rfl ?_
                      refine WL.pass ((wanted_of rfl rfl rfl).trans rfl) rfl ?_
                      refine WL.pass ((wanted_of rfl rfl rfl).trans rfl) rfl ?_
                      refine WL.pickF (v := .bool false) rfl rfl ?_ (hg := (wanted_of rfl rfl (bool_tr rfl hc286)).trans rfl)
                      refine WL.pickF (v := .bool false) (bool_tr rfl hc286) rfl ?_ (hg := (wanted_of rfl rfl (bool_tr rfl hc280)).trans rfl)
                      refine WL.pickT (v := .bool false) (bool_tr rfl hc280) rfl ?_
                      refine WL.move (v := .bool false) rfl ?_
                      refine WL.pass ((wanted_of rfl rfl rfl).trans rfl) rfl ?_
                      refine WL.pickF (v := .bool false) rfl rfl ?_
                      refine WL.assign (v := .bool false) rfl ?_
                      refine WL.nil ?_
                      exact Jk279 false _ _ rfl ((hs.mask []).pick []) hf
                · refine WL.pass ((wanted_of rfl rfl (bool_tr rfl hc282)).trans rfl) rfl ?_
                  refine WL.pass ((wanted_of rfl rfl (bool_tr rfl hc282)).trans rfl) rfl ?_
                  refine WL.pass ((wanted_of rfl rfl (bool_tr rfl hc282)).trans rfl) rfl ?_
                  refine WL.pass ((wanted_of rfl rfl (bool_tr rfl hc282)).trans rfl) rfl ?_
                  refine WL.pass ((wanted_of rfl rfl (bool_tr rfl hc282)).trans rfl) rfl ?_
                  refine WL.pickF (v := .bool false) (bool_tr rfl hc282) rfl ?_ (hg := (wanted_of rfl rfl (bool_tr rfl hc280)).trans rfl)
                  refine WL.move (v := .bool false) rfl ?_ (hg := (wanted_of rfl rfl (bool_tr rfl hc280)).trans rfl)
                  refine WL.move (v := .bool x274) h268_11 ?_ (hg := (wanted_of rfl rfl rfl).trans rfl)
                  refine WL.move (v := .bool x274) rfl ?_ (hg := (wanted_of rfl rfl rfl).trans rfl)
                  rcases iteE hf with ⟨hc297, hf⟩ | ⟨hc297, hf⟩
                  · refine WL.move (v := .int .i64 x273) h268_10 ?_ (hg := (wanted_of rfl rfl (bool_tr rfl hc297)).trans rfl)
                    refine WL.move (v := .int .i64 (minI 4096 x259)) h268_8 ?_ (hg := (wanted_of rfl rfl (bool_tr rfl hc297)).trans rfl)
                    obtain ⟨x298, ex298, hf⟩ := letE hf
                    refine WL.bin (v := .int .i64 x298) rfl rfl (ib_as ex298 (ib_add _ _ _)) ?_ (hg := (wanted_of rfl rfl (bool_tr rfl hc297)).trans rfl)
                    refine WL.bin (v := .bool (x273 == x298)) rfl rfl (ib_eql _ _ _) ?_ (hg := (wanted_of rfl rfl (bool_tr rfl hc297)).trans rfl)
                    refine WL.pickT (v := .bool (x273 == x298)) (bool_tr rfl hc297) rfl ?_ (hg := (wanted_of rfl rfl rfl).trans rfl)
                    refine WL.move (v := .bool (x273 == x298)) rfl ?_ (hg := (wanted_of rfl rfl rfl).trans rfl)
                    rcases iteE hf with ⟨hc299, hf⟩ | ⟨hc299, hf⟩
                    · refine WL.fieldAddr (m := 1) h268_9 FA27_1 rfl ?_ (hg := (wanted_of rfl rfl (bool_tr rfl hc299)).trans rfl)
                      refine WL.loadF (z := x270.Packets) F_network_Network_Packets hs 0 rfl 0 rfl rfl TI25 (.inr rfl) rfl rfl (fun v300 hs => ?_) (hg := (wanted_of rfl rfl (bool_tr rfl hc299)).trans rfl)
                      obtain ⟨a301, c302, rfl⟩ := hs.slice 0 rfl
                      refine WL.len (v := .slice a301 (x270.Packets).length c302) rfl (len_slice UN25) ?_ (hg := (wanted_of rfl rfl (bool_tr rfl hc299)).trans rfl)
                      refine WL.move (v := .int .i64 (minI 4096 x259)) h268_8 ?_ (hg := (wanted_of rfl rfl (bool_tr rfl hc299)).trans rfl)
                      obtain ⟨x303, ex303, hf⟩ := letE hf
                      refine WL.bin (v := .int .i64 x303) rfl rfl (ib_as ex303 (ib_add _ _ _)) ?_ (hg := (wanted_of rfl rfl (bool_tr rfl hc299)).trans rfl)
                      refine WL.bin (v := .bool (((x270.Packets).length : Int) == x303)) rfl rfl (ib_eql _ _ _) ?_ (hg := (wanted_of rfl rfl (bool_tr rfl hc299)).trans rfl)
                      refine WL.pickT (v := .bool (((x270.Packets).length : Int) == x303)) (bool_tr rfl hc299) rfl ?_ (hg := (wanted_of rfl rfl rfl).trans rfl)
                      refine WL.pickF (v := .bool (((x270.Packets).length : Int) == x303)) rfl rfl ?_ (hg := (wanted_of rfl rfl (bool_tr rfl hc280)).trans rfl)
                      refine WL.pickT (v := .bool (((x270.Packets).length : Int) == x303)) (bool_tr rfl hc280) rfl ?_
                      refine WL.move (v := .bool (((x270.Packets).length : Int) == x303)) rfl ?_
                      rcases iteE hf with ⟨hc304, hf⟩ | ⟨hc304, hf⟩
                      · obtain ⟨x305, hxx305, hf⟩ := bindE hf
                        refine WL.call (vs := []) hs FN8 trivial (fun ok hA => eslaw34_awake.calls hxx305) ?_ (hg := (wanted_of rfl rfl (bool_tr rfl hc304)).trans rfl)
                        rintro _ w hs
                        refine WL.pickT (v := .bool x305) (bool_tr rfl hc304) rfl ?_
                        refine WL.assign (v := .bool x305) rfl ?_
                        refine WL.nil ?_
                        exact Jk279 x305 _ _ rfl ((hs.mask []).pick []) hf
                      · refine WL.pass ((wanted_of rfl rfl (bool_tr rfl hc304)).trans rfl) rfl ?_
                        refine WL.pickF (v := .bool false) (bool_tr rfl hc304) rfl ?_
                        refine WL.assign (v := .bool false) rfl ?_
                        refine WL.nil ?_
                        exact Jk279 false _ _ rfl ((hs.mask []).pick []) hf
                    · refine WL.pass ((wanted_of rfl rfl (bool_tr rfl hc299)).trans rfl) rfl ?_
                      refine WL.pass ((wanted_of rfl rfl (bool_tr rfl hc299)).trans rfl) rfl ?_
                      refine WL.pass ((wanted_of rfl rfl (bool_tr rfl hc299)).trans rfl) rfl ?_
                      refine WL.pass ((wanted_of rfl rfl (bool_tr rfl hc299)).trans rfl) rfl ?_
                      refine WL.pass ((wanted_of rfl rfl (bool_tr rfl hc299)).trans rfl) rfl ?_
                      refine WL.pass ((wanted_of rfl rfl (bool_tr rfl hc299)).trans rfl) rfl ?_
                      refine WL.pickF (v := .bool false) (bool_tr rfl hc299) rfl ?_ (hg := (wanted_of rfl rfl rfl).trans rfl)
                      refine WL.pickF (v := .bool false) rfl rfl ?_ (hg := (wanted_of rfl rfl (bool_tr rfl hc280)).trans rfl)
                      refine WL.pickT (v := .bool false) (bool_tr rfl hc280) rfl ?_
                      refine WL.move (v := .bool false) rfl ?_
                      refine WL.pass ((wanted_of rfl rfl rfl).trans rfl) rfl ?_
                      refine WL.pickF (v := .bool false) rfl rfl ?_
                      refine WL.assign (v := .bool false) rfl ?_
                      refine WL.nil ?_
                      exact Jk279 false _ _ rfl ((hs.mask []).pick []) hf
                  · refine WL.pass ((wanted_of rfl rfl (bool_tr rfl hc297)).trans rfl) rfl ?_
                    refine WL.pass ((wanted_of rfl rfl (bool_tr rfl hc297)).trans rfl) rfl ?_
                    refine WL.pass ((wanted_of rfl rfl (bool_tr rfl hc297)).trans rfl) rfl ?_
                    refine WL.pass ((wanted_of rfl rfl (bool_tr rfl hc297)).trans rfl) rfl ?_
                    refine WL.pickF (v := .bool false) (bool_tr rfl hc297) rfl ?_ (hg := (wanted_of rfl rfl rfl).trans rfl)
                    refine WL.move (v := .bool false) rfl ?_ (hg := (wanted_of rfl rfl rfl).trans rfl)
                    refine WL.pass ((wanted_of rfl rfl rfl).trans rfl) rfl ?_
                    refine WL.pass ((wanted_of rfl rfl rfl).trans rfl) rfl ?_
                    refine WL.pass ((wanted_of rfl rfl rfl).trans rfl) rfl ?_
                    refine WL.pass ((wanted_of rfl rfl rfl).trans rfl) rfl ?_
                    refine WL.pass ((wanted_of rfl rfl rfl).trans rfl) rfl ?_
                    refine WL.pass ((wanted_of rfl rfl rfl).trans rfl) rfl ?_
                    refine WL.pickF (v := .bool false) rfl rfl ?_ (hg := (wanted_of rfl rfl rfl).trans rfl)
                    refine WL.pickF (v := .bool false) rfl rfl ?_ (hg := (wanted_of rfl rfl (bool_tr rfl hc280)).trans rfl)
                    refine WL.pickT (v := .bool false) (bool_tr rfl hc280) rfl ?_
                    refine WL.move (v := .bool false) rfl ?_
                    refine WL.pass ((wanted_of rfl rfl rfl).trans rfl) rfl ?_
                    refine WL.pickF (v := .bool false) rfl rfl ?_
                    refine WL.assign (v := .bool false) rfl ?_
                    refine WL.nil ?_
                    exact Jk279 false _ _ rfl ((hs.mask []).pick []) hf
              · refine WL.pass ((wanted_of rfl rfl (bool_tr rfl hc281)).trans rfl) rfl ?_
                refine WL.pass ((wanted_of rfl rfl (bool_tr rfl hc281)).trans rfl) rfl ?_
                refine WL.pickF (v := .bool false) (bool_tr rfl hc281) rfl ?_ (hg := (wanted_of rfl rfl (bool_tr rfl hc280)).trans rfl)
                refine WL.move (v := .bool false) rfl ?_ (hg := (wanted_of rfl rfl (bool_tr rfl hc280)).trans rfl)
                refine WL.pass ((wanted_of rfl rfl rfl).trans rfl) rfl ?_
                refine WL.pass ((wanted_of rfl rfl rfl).trans rfl) rfl ?_
                refine WL.pass ((wanted_of rfl rfl rfl).trans rfl) rfl ?_
                refine WL.pass ((wanted_of rfl rfl rfl).trans rfl) rfl ?_
                refine WL.pass ((wanted_of rfl rfl rfl).trans rfl) rfl ?_
                refine WL.pickF (v := .bool false) rfl rfl ?_ (hg := (wanted_of rfl rfl (bool_tr rfl hc280)).trans rfl)
                refine WL.move (v := .bool false) rfl ?_ (hg := (wanted_of rfl rfl (bool_tr rfl hc280)).trans rfl)
                refine WL.move (v := .bool x274) h268_11 ?_ (hg := (wanted_of rfl rfl rfl).trans rfl)
                refine WL.move (v := .bool x274) rfl ?_ (hg := (wanted_of rfl rfl rfl).trans rfl)
                rcases iteE hf with ⟨hc306, hf⟩ | ⟨hc306, hf⟩
                · refine WL.move (v := .int .i64 x273) h268_10 ?_ (hg := (wanted_of rfl rfl (bool_tr rfl hc306)).trans rfl)
                  refine WL.move (v := .int .i64 (minI 4096 x259)) h268_8 ?_ (hg := (wanted_of rfl rfl (bool_tr rfl hc306)).trans rfl)
                  obtain ⟨x307, ex307, hf⟩ := letE hf
                  refine WL.bin (v := .int .i64 x307) rfl rfl (ib_as ex307 (ib_add _ _ _)) ?_ (hg := (wanted_of rfl rfl (bool_tr rfl hc306)).trans rfl)
                  refine WL.bin (v := .bool (x273 == x307)) rfl rfl (ib_eql _ _ _) ?_ (hg := (wanted_of rfl rfl (bool_tr rfl hc306)).trans rfl)
                  refine WL.pickT (v := .bool (x273 == x307)) (bool_tr rfl hc306) rfl ?_ (hg := (wanted_of rfl rfl rfl).trans rfl)
                  refine WL.move (v := .bool (x273 == x307)) rfl ?_ (hg := (wanted_of rfl rfl rfl).trans rfl)
                  rcases iteE hf with ⟨hc308, hf⟩ | ⟨hc308, hf⟩
                  · refine WL.fieldAddr (m := 1) h268_9 FA27_1 rfl ?_ (hg := (wanted_of rfl rfl (bool_tr rfl hc308)).trans rfl)
                    refine WL.loadF (z := x270.Packets) F_network_Network_Packets hs 0 rfl 0 rfl rfl TI25 (.inr rfl) rfl rfl (fun v309 hs => ?_) (hg := (wanted_of rfl rfl (bool_tr rfl hc308)).trans rfl)
                    obtain ⟨a310, c311, rfl⟩ := hs.slice 0 rfl
                    refine WL.len (v := .slice a310 (x270.Packets).length c311) rfl (len_slice UN25) ?_ (hg := (wanted_of rfl rfl (bool_tr rfl hc308)).trans rfl)
                    refine WL.move (v := .int .i64 (minI 4096 x259)) h268_8 ?_ (hg := (wanted_of rfl rfl (bool_tr rfl hc308)).trans rfl)
                    obtain ⟨x312, ex312, hf⟩ := letE hf
                    refine WL.bin (v := .int .i64 x312) rfl rfl (ib_as ex312 (ib_add _ _ _)) ?_ (hg := (wanted_of rfl rfl (bool_tr rfl hc308)).trans rfl)
                    refine WL.bin (v := .bool (((x270.Packets).length : Int) == x312)) rfl rfl (ib_eql _ _ _) ?_ (hg := (wanted_of rfl rfl (bool_tr rfl hc308)).trans rfl)
                    refine WL.pickT (v := .bool (((x270.Packets).length : Int) == x312)) (bool_tr rfl hc308) rfl ?_ (hg := (wanted_of rfl rfl rfl).trans rfl)
                    refine WL.pickF (v := .bool (((x270.Packets).length : Int) == x312)) rfl rfl ?_ (hg := (wanted_of rfl rfl (bool_tr rfl hc280)).trans rfl)
                    refine WL.pickT (v := .bool (((x270.Packets).length : Int) == x312)) (bool_tr rfl hc280) rfl ?_
                    refine WL.move (v := .bool (((x270.Packets).length : Int) == x312)) rfl ?_
                    rcases iteE hf with ⟨hc313, hf⟩ | ⟨hc313, hf⟩
                    · obtain ⟨x314, hxx314, hf⟩ := bindE hf
                      refine WL.call (vs := []) hs FN8 trivial (fun ok hA => eslaw34_awake.calls hxx314) ?_ (hg := (wanted_of rfl rfl (bool_tr rfl hc313)).trans rfl)
                      rintro _ w hs
                      refine WL.pickT (v := .bool x314) (bool_tr rfl hc313) rfl ?_
                      refine WL.assign (v := .bool x314) rfl ?_
                      refine WL.nil ?_
                      exact Jk279 x314 _ _ rfl ((hs.mask []).pick []) hf
                    · refine WL.pass ((wanted_of rfl rfl (bool_tr rfl hc313)).trans rfl) rfl ?_
                      refine WL.pickF (v := .bool false) (bool_tr rfl hc313) rfl ?_
                      refine WL.assign (v := .bool false) rfl ?_
                      refine WL.nil ?_
                      exact Jk279 false _ _ rfl ((hs.mask []).pick []) hf
                  · refine WL.pass ((wanted_of rfl rfl (bool_tr rfl hc308)).trans rfl) rfl ?_
                    refine WL.pass ((wanted_of rfl rfl (bool_tr rfl hc308)).trans rfl) rfl ?_
                    refine WL.pass ((wanted_of rfl rfl (bool_tr rfl hc308)).trans rfl) rfl ?_
                    refine WL.pass ((wanted_of rfl rfl (bool_tr rfl hc308)).trans rfl) rfl ?_
                    refine WL.pass ((wanted_of rfl rfl (bool_tr rfl hc308)).trans rfl) rfl ?_
                    refine WL.pass ((wanted_of rfl rfl (bool_tr rfl hc308)).trans rfl) rfl ?_
                    refine WL.pickF (v := .bool false) (bool_tr rfl hc308) rfl ?_ (hg := (wanted_of rfl rfl rfl).trans rfl)
                    refine WL.pickF (v := .bool false) rfl rfl ?_ (hg := (wanted_of rfl rfl (bool_tr rfl hc280)).trans rfl)
                    refine WL.pickT (v := .bool false) (bool_tr rfl hc280) rfl ?_
                    refine WL.move (v := .bool false) rfl ?_
                    refine WL.pass ((wanted_of rfl rfl rfl).trans rfl) rfl ?_
                    refine WL.pickF (v := .bool false) rfl rfl ?_
                    refine WL.assign (v := .bool false) rfl ?_
                    refine WL.nil ?_
                    exact Jk279 false _ _ rfl ((hs.mask []).pick []) hf
                · refine WL.pass ((wanted_of rfl rfl (bool_tr rfl hc306)).trans rfl) rfl ?_
                  refine WL.pass ((wanted_of rfl rfl (bool_tr rfl hc306)).trans rfl) rfl ?_
                  refine WL.pass ((wanted_of rfl rfl (bool_tr rfl hc306)).trans rfl) rfl ?_
                  refine WL.pass ((wanted_of rfl rfl (bool_tr rfl hc306)).trans rfl) rfl ?_
                  refine WL.pickF (v := .bool false) (bool_tr rfl hc306) rfl ?_ (hg := (wanted_of rfl rfl rfl).trans rfl)
                  refine WL.move (v := .bool false) rfl ?_ (hg := (wanted_of rfl rfl rfl).trans rfl)
                  refine WL.pass ((wanted_of rfl rfl rfl).trans rfl) rfl ?_
                  refine WL.pass ((wanted_of rfl rfl rfl).trans rfl) rfl ?_
                  refine WL.pass ((wanted_of rfl rfl rfl).trans rfl) rfl ?_
                  refine WL.pass ((wanted_of rfl rfl rfl).trans rfl) rfl ?_
                  refine WL.pass ((wanted_of rfl rfl rfl).trans rfl) rfl ?_
                  refine WL.pass ((wanted_of rfl rfl rfl).trans rfl) rfl ?_
                  refine WL.pickF (v := .bool false) rfl rfl ?_ (hg := (wanted_of rfl rfl rfl).trans rfl)
                  refine WL.pickF (v := .bool false) rfl rfl ?_ (hg := (wanted_of rfl rfl (bool_tr rfl hc280)).trans rfl)
                  refine WL.pickT (v := .bool false) (bool_tr rfl hc280) rfl ?_
                  refine WL.move (v := .bool false) rfl ?_
                  refine WL.pass ((wanted_of rfl rfl rfl).trans rfl) rfl ?_
                  refine WL.pickF (v := .bool false) rfl rfl ?_
                  refine WL.assign (v := .bool false) rfl ?_
                  refine WL.nil ?_
                  exact Jk279 false _ _ rfl ((hs.mask []).pick []) hf
            · refine WL.pass ((wanted_of rfl rfl (bool_tr rfl hc280)).trans rfl) rfl ?_
              refine WL.pass ((wanted_of rfl rfl (bool_tr rfl hc280)).trans rfl) rfl ?_
              refine WL.pass ((wanted_of rfl rfl (bool_tr rfl hc280)).trans rfl) rfl ?_
              refine WL.pass (wanted_undef rfl rfl rfl) rfl ?_
              refine WL.pass (wanted_undef rfl rfl rfl) rfl ?_
              refine WL.pass ((wanted_of rfl rfl (bool_tr rfl hc280)).trans rfl) rfl ?_
              refine WL.pass ((wanted_of rfl rfl (bool_tr rfl hc280)).trans rfl) rfl ?_
              refine WL.pass (wanted_undef rfl rfl rfl) rfl ?_
              refine WL.pass (wanted_undef rfl rfl rfl) rfl ?_
              refine WL.pass (wanted_undef rfl rfl rfl) rfl ?_
              refine WL.pass (wanted_undef rfl rfl rfl) rfl ?_
              refine WL.pass (wanted_undef rfl rfl rfl) rfl ?_
              refine WL.pass ((wanted_of rfl rfl (bool_tr rfl hc280)).trans rfl) rfl ?_
              refine WL.pass ((wanted_of rfl rfl (bool_tr rfl hc280)).trans rfl) rfl ?_
              refine WL.pass (wanted_undef rfl rfl rfl) rfl ?_
              refine WL.pass (wanted_undef rfl rfl rfl) rfl ?_
              refine WL.pass (wanted_undef rfl rfl rfl) rfl ?_
              refine WL.pass (wanted_undef rfl rfl rfl) rfl ?_
              refine WL.pass (wanted_undef rfl rfl rfl) rfl ?_
              refine WL.pass (wanted_undef rfl rfl rfl) rfl ?_
              refine WL.pass (wanted_undef rfl rfl rfl) rfl ?_
              refine WL.pass (wanted_undef rfl rfl rfl) rfl ?_
              refine WL.pass (wanted_undef rfl rfl rfl) rfl ?_
              refine WL.pass (wanted_undef rfl rfl rfl) rfl ?_
              refine WL.pass (wanted_undef rfl rfl rfl) rfl ?_
              refine WL.pass (wanted_undef rfl rfl rfl) rfl ?_
              refine WL.pass (wanted_undef rfl rfl rfl) rfl ?_
              refine WL.pass (wanted_undef rfl rfl rfl) rfl ?_
              refine WL.pass (wanted_undef rfl rfl rfl) rfl ?_
              refine WL.pass ((wanted_of rfl rfl (bool_tr rfl hc280)).trans rfl) rfl ?_
              refine WL.pickF (v := .bool false) (bool_tr rfl hc280) rfl ?_
              refine WL.move (v := .bool false) rfl ?_
              refine WL.pass ((wanted_of rfl rfl rfl).trans rfl) rfl ?_
              refine WL.pickF (v := .bool false) rfl rfl ?_
              refine WL.assign (v := .bool false) rfl ?_
              refine WL.nil ?_
              exact Jk279 false _ _ rfl ((hs.mask []).pick []) hf
          obtain ⟨x315, hxx315, hf⟩ := bindE hf
          obtain ⟨x316, ex316, hf⟩ := letE hf
          obtain ⟨⟨x317, x318, x319⟩, hxx317, hf⟩ := bindE hf
          refine W.anyL (by kernel_rfl) 11 [8, 9] [11, 12, 13] rfl (poAt [pv (.agg cs249.toArray), pv (.int .i64 x2), pv (.int .i64 (minI 4096 x259)), pv (.int .i64 x315), pv (.int .i64 x316), pq (fun y : List Value => .tuple #[.agg y.toArray, .int .i64 x318, .bool x319]) (fun v => [vl t_network_Network x317 (partOf v 0)]) (fun v => []), pn [5] (fun r => r.getD 0 undef), pq (fun y : List Value => .agg y.toArray) (fun v => [vl t_network_Network x317 v]) (fun v => []), pv (.int .i64 x318), pv (.bool x319), pq (fun y : Nat => .pointer (some ⟨y, 0, none⟩)) (fun v => []) (fun v => [blk (gOf v) 27 [.int .i64 0, .slice none 0 0, .slice none 0 0]])]) (Λ := [blk g18 27 cs249]) hs (by kernel_rfl) (by kernel_rfl) (by kernel_rfl) (by kernel_rfl) ⟨⟨fun _ => ⟨rfl, rfl⟩, rfl, rfl⟩, ⟨⟨fun _ => ⟨rfl, rfl⟩, rfl, rfl⟩, trivial⟩⟩ ⟨⟨⟨⟨⟨⟨⟨⟨⟨⟨⟨trivial, ?_⟩, ?_⟩, ?_⟩, ?_⟩, ?_⟩, ?_⟩, ?_⟩, ?_⟩, ?_⟩, ?_⟩, ?_⟩ ?_
          · intro ρ w Γx Λx hs hu hp
            refine WL.loadAll hs (Λx.length + 0) (getApp rfl) TI27 ((hu 6 rfl).trans h262_6) hl250 ?_
            exact WL.nil ⟨rfl, _, rfl, rfl, hs.cutG 0 0⟩
          · intro ρ w Γx Λx hs hu hp
            refine WL.move (v := .int .i64 x2) ((hu 1 rfl).trans h262_1) ?_
            exact WL.nil ⟨rfl, _, rfl, rfl, hs.cutG 0 0⟩
          · intro ρ w Γx Λx hs hu hp
            refine WL.move (v := .int .i64 (minI 4096 x259)) ((hu 8 rfl).trans h262_8) ?_
            exact WL.nil ⟨rfl, _, rfl, rfl, hs.cutG 0 0⟩
          · intro ρ w Γx Λx hs hu hp
            have e323 : ρ 45 = .int .i64 x2 := (hp 1 rfl).1
            have e324 : ρ 46 = .int .i64 (minI 4096 x259) := (hp 2 rfl).1
            refine WL.call (vs := [.int .i64 x2, .int .i64 (minI 4096 x259)]) hs FN17 ⟨e323, ⟨e324, trivial⟩⟩ (fun ok hA => eslaw00_Index.calls (x1 := x2) (x2 := (minI 4096 x259)) hxx315) ?_
            rintro _ w hs
            exact WL.nil ⟨rfl, _, rfl, rfl, hs.cutG 0 0⟩
          · intro ρ w Γx Λx hs hu hp
            have e325 : ρ 47 = .int .i64 x315 := (hp 3 rfl).1
            refine WL.bin (v := .int .i64 x316) rfl e325 (ib_as ex316 (ib_add _ _ _)) ?_
            exact WL.nil ⟨rfl, _, rfl, rfl, hs.cutG 0 0⟩
          · intro ρ w Γx Λx hs hu hp
            have e326 : ρ 44 = .agg cs249.toArray := (hp 0 rfl).1
            have e327 : ρ 48 = .int .i64 x316 := (hp 4 rfl).1
            refine WL.call (vs := [.agg cs249.toArray, .int .i64 x316]) hs FN18 ⟨e326, ⟨e327, trivial⟩⟩ (fun ok hA => network_Duplicate.calls (x1 := x238) (x5 := x316) hxx317 (hA.get (Γx.length + 0) (getApp rfl))) ?_
            rintro cs320 w hs
            have hl321 := hs.agglen (n := 3) 0 rfl rfl rfl
            have hs := hs.add (it := vl t_network_Network x317 (.agg cs320.toArray)) fun ok hA => hA.get 0 rfl
            exact WL.nil ⟨rfl, _, rfl, ⟨cs320, rfl⟩, hs.cutG 1 1⟩
          · intro ρ w Γx Λx hs hu hp
            obtain ⟨⟨cs328, e330r⟩, hm331⟩ := hp 5 rfl
            have e330 : ρ 49 = .tuple #[.agg cs328.toArray, .int .i64 x318, .bool x319] := e330r
            rw [e330r] at hm331
            have hs := hs.memo1 (it := vl t_network_Network x317 (.agg cs328.toArray)) (List.mem_append.2 (.inl (hm331 _ (List.mem_of_getElem? (i := 0) rfl))))
            have hl329 := hs.agglen (n := 3) 0 rfl rfl rfl
            refine WL.move (v := .tuple #[.agg cs328.toArray, .int .i64 x318, .bool x319]) e330 ?_
            exact WL.nil ⟨rfl, _, rfl, (show (.tuple #[.agg cs328.toArray, .int .i64 x318, .bool x319] : Value) = (ρ 49 : Value) by rw [e330]), hs.cutG 0 1⟩
          · intro ρ w Γx Λx hs hu hp
            obtain ⟨⟨cs332, e334r⟩, hm335⟩ := hp 5 rfl
            have e334 : ρ 49 = .tuple #[.agg cs332.toArray, .int .i64 x318, .bool x319] := e334r
            rw [e334r] at hm335
            have hs := hs.memo1 (it := vl t_network_Network x317 (.agg cs332.toArray)) (List.mem_append.2 (.inl (hm335 _ (List.mem_of_getElem? (i := 0) rfl))))
            have hl333 := hs.agglen (n := 3) 0 rfl rfl rfl
            have e336 : ρ 43 = ρ 49 := (hp 6 rfl).1
            rw [e334] at e336
            refine WL.extract (v := .agg cs332.toArray) e336 rfl ?_
            have hs := hs.add (it := vl t_network_Network x317 (.agg cs332.toArray)) fun ok hA => hA.get 0 rfl
            exact WL.nil ⟨rfl, _, rfl, ⟨cs332, rfl⟩, hs.cutG 1 1⟩
          · intro ρ w Γx Λx hs hu hp
            obtain ⟨⟨cs337, e339r⟩, hm340⟩ := hp 5 rfl
            have e339 : ρ 49 = .tuple #[.agg cs337.toArray, .int .i64 x318, .bool x319] := e339r
            rw [e339r] at hm340
            have hs := hs.memo1 (it := vl t_network_Network x317 (.agg cs337.toArray)) (List.mem_append.2 (.inl (hm340 _ (List.mem_of_getElem? (i := 0) rfl))))
            have hl338 := hs.agglen (n := 3) 0 rfl rfl rfl
            have e341 : ρ 43 = ρ 49 := (hp 6 rfl).1
            rw [e339] at e341
            refine WL.extract (v := .int .i64 x318) e341 rfl ?_
            exact WL.nil ⟨rfl, _, rfl, rfl, hs.cutG 0 1⟩
          · intro ρ w Γx Λx hs hu hp
            obtain ⟨⟨cs342, e344r⟩, hm345⟩ := hp 5 rfl
            have e344 : ρ 49 = .tuple #[.agg cs342.toArray, .int .i64 x318, .bool x319] := e344r
            rw [e344r] at hm345
            have hs := hs.memo1 (it := vl t_network_Network x317 (.agg cs342.toArray)) (List.mem_append.2 (.inl (hm345 _ (List.mem_of_getElem? (i := 0) rfl))))
            have hl343 := hs.agglen (n := 3) 0 rfl rfl rfl
            have e346 : ρ 43 = ρ 49 := (hp 6 rfl).1
            rw [e344] at e346
            refine WL.extract (v := .bool x319) e346 rfl ?_
            exact WL.nil ⟨rfl, _, rfl, rfl, hs.cutG 0 1⟩
          · intro ρ w Γx Λx hs hu hp
            refine WL.alloc hs ZV27 (fun g322 w hs => ?_)
            exact WL.nil ⟨rfl, _, rfl, ⟨g322, rfl⟩, hs.cutG 0 0⟩
          · intro ρ w hs hu347 hp
            obtain ⟨⟨⟨⟨⟨⟨⟨⟨⟨⟨⟨_, hp0_⟩, hp1_⟩, hp2_⟩, hp3_⟩, hp4_⟩, hp5_⟩, hp6_⟩, hp7_⟩, hp8_⟩, hp9_⟩, hp10_⟩ := hp
            have hs : St ok (bz w0) w [vl t_network_Network x317 (ρ 50), vl t_network_Network x317 (partOf (ρ 49) 0), vl t_network_Network x238 (.agg cs249.toArray)] [blk (gOf ((ρ 9))) 27 [.int .i64 0, .slice none 0 0, .slice none 0 0], blk g18 27 cs249] := hs
            obtain ⟨g348, e349⟩ := hp10_
            have e349 : ρ 9 = .pointer (some ⟨g348, 0, none⟩) := e349
            try rw [e349] at hs
            obtain ⟨cs350, e352⟩ := hp7_
            have e352 : ρ 50 = .agg cs350.toArray := e352
            try rw [e352] at hs
            obtain ⟨cs353, e355⟩ := hp5_
            have e355 : ρ 49 = .tuple #[.agg cs353.toArray, .int .i64 x318, .bool x319] := e355
            try rw [e355] at hs
            have e356 : ρ 48 = .int .i64 x316 := hp4_
            have e357 : ρ 47 = .int .i64 x315 := hp3_
            have e358 : ρ 46 = .int .i64 (minI 4096 x259) := hp2_
            have e359 : ρ 45 = .int .i64 x2 := hp1_
            have e360 : ρ 44 = .agg cs249.toArray := hp0_
            have e361 : ρ 43 = ρ 49 := hp6_
            rw [e355] at e361
            have hl354 := hs.agglen (n := 3) 1 rfl rfl rfl
            have hl351 := hs.agglen (n := 3) 0 rfl rfl rfl
            refine TC.step rfl fun ρ hL362 hF363 => ?_
            refine WL.storeAll (vs := cs350) hs 0 rfl TI27 ((hL362 9 rfl).trans e349) ((hL362 50 rfl).trans e352) rfl hl351 (hs.ones 0 rfl rfl) rfl (fun w hs => ?_)
            refine WL.nil ⟨rfl, _, rfl, ?_⟩
            refine TC.step rfl fun ρ hL364 hF365 => ?_
            have e366 : ρ 51 = .int .i64 x318 := hF365 8 rfl (by kernel_rfl)
            refine WL.assign (v := .int .i64 x318) e366 ?_
            refine WL.nil ⟨rfl, _, rfl, ?_⟩
            refine TC.step rfl fun ρ hL367 hF368 => ?_
            have e369 : ρ 51 = .int .i64 x318 := hF368 8 rfl (by kernel_rfl)
            have e370 : ρ 52 = .bool x319 := hF368 9 rfl (by kernel_rfl)
            refine WL.assign (v := .bool x319) e370 ?_
            refine WL.nil ⟨rfl, _, rfl, ?_⟩
            refine TC.done fun ρ hL371 hF372 => ?_
            exact Jk275 x317 x318 x319 g348 cs350 _ _ hl351 ((hL371 8 rfl).trans ((hL367 8 rfl).trans ((hL364 8 rfl).trans ((hL362 8 rfl).trans ((hu347 8 rfl).trans h262_8))))) ((hL371 9 rfl).trans ((hL367 9 rfl).trans ((hL364 9 rfl).trans ((hL362 9 rfl).trans e349)))) ((hL371 10 rfl).trans (hL367 10 rfl)) (hL371 11 rfl) ((hs.mask [true]).pick [0]) hf
      refine W.region ?_
      refine WL.fieldAddr (m := 1) ((hu248 6 rfl).trans h223_6) FA27_1 rfl ?_
      refine WL.loadF (z := x238.Packets) F_network_Network_Packets hs 0 rfl 0 rfl rfl TI25 (.inr rfl) rfl rfl (fun v373 hs => ?_)
      obtain ⟨a374, c375, rfl⟩ := hs.slice 0 rfl
      refine WL.len (v := .slice a374 (x238.Packets).length c375) rfl (len_slice UN25) ?_
      refine WL.move (v := .int .i64 (minI 4096 x259)) rfl ?_
      refine WL.bin (v := .bool (((x238.Packets).length : Int) != (minI 4096 x259))) rfl rfl (ib_neq _ _ _) ?_
      refine WL.move (v := .bool (((x238.Packets).length : Int) != (minI 4096 x259))) rfl ?_
      rcases iteE hf with ⟨hc376, hf⟩ | ⟨hc376, hf⟩
      · refine WL.pass ((wanted_of rfl rfl (bool_tr rfl hc376)).trans rfl) rfl ?_
        refine WL.pass ((wanted_of rfl rfl (bool_tr rfl hc376)).trans rfl) rfl ?_
        refine WL.pass ((wanted_of rfl rfl (bool_tr rfl hc376)).trans rfl) rfl ?_
        refine WL.pass ((wanted_of rfl rfl (bool_tr rfl hc376)).trans rfl) rfl ?_
        refine WL.pass ((wanted_of rfl rfl (bool_tr rfl hc376)).trans rfl) rfl ?_
        refine WL.pickT (v := .bool true) (bool_tr rfl hc376) rfl ?_
        refine WL.nil ?_
        exact Jk264 true _ _ ((hu248 1 rfl).trans h223_1) ((hu248 6 rfl).trans h223_6) rfl rfl ((hs.mask [true]).pick [1]) hf
      · refine WL.fieldAddr (m := 0) ((hu248 6 rfl).trans h223_6) FA27_0 rfl ?_ (hg := (wanted_of rfl rfl (bool_tr rfl hc376)).trans rfl)
        refine WL.loadF (z := x238.Next) F_network_Network_Next hs 0 rfl 1 rfl rfl TI3 (.inr rfl) rfl rfl (fun v377 hs => ?_) (hg := (wanted_of rfl rfl (bool_tr rfl hc376)).trans rfl)
        obtain rfl := hs.int 0 rfl
        refine WL.move (v := .int .i64 (minI 4096 x259)) rfl ?_ (hg := (wanted_of rfl rfl (bool_tr rfl hc376)).trans rfl)
        obtain ⟨x378, ex378, hf⟩ := letE hf
        refine WL.bin (v := .int .i64 x378) rfl rfl (ib_as ex378 (ib_add _ _ _)) ?_ (hg := (wanted_of rfl rfl (bool_tr rfl hc376)).trans rfl)
        refine WL.bin (v := .bool (x238.Next != x378)) rfl rfl (ib_neq _ _ _) ?_ (hg := (wanted_of rfl rfl (bool_tr rfl hc376)).trans rfl)
        refine WL.pickF (v := .bool (x238.Next != x378)) (bool_tr rfl hc376) rfl ?_
        refine WL.nil ?_
        exact Jk264 (x238.Next != x378) _ _ ((hu248 1 rfl).trans h223_1) ((hu248 6 rfl).trans h223_6) rfl rfl ((hs.mask [true]).pick [2]) hf
  refine W.seqK fun K379 hK379 => ?_
  refine W.region ?_
  refine WL.assign (v := .int .i64 0) rfl ?_
  refine WL.nil ?_
  refine hK379 _ _ ?_
  refine W.block ?_
  obtain ⟨bs389, hbs389, hfs389⟩ := bindE hf
  obtain rfl := hs.ownLen 1 rfl
  have hs := hs.freezeOwn 1 rfl
  obtain rfl := hs.ownLen 1 rfl
  have hs := hs.freezeOwn 1 rfl
  refine W.loop hbs389 (fun s ρ w => match s with | (x381, x382, x383, x386) => ∃ (a384 : Option Addr), ∃ (c385 : Nat), ∃ (a387 : Option Addr), ∃ (c388 : Nat), ρ 0 = .int .i64 x1 ∧ ρ 1 = .int .i64 x2 ∧ ρ 5 = .slice a6 x8.length c7 ∧ ρ 6 = .pointer (some ⟨g18, 0, none⟩) ∧ ρ 7 = .int .i64 x381 ∧ St ok (bz w0) w [vl (tSlice t_api_Message) x8 (.slice a6 x8.length c7), vl (tSlice t_network_Packet) x383 (.slice a384 x383.length c385), vl (tSlice t_network_Side) x386 (.slice a387 x386.length c388)] [blk g18 27 [.int .i64 x382, .slice a384 x383.length c385, .slice a387 x386.length c388]]) ⟨a12, c14, a15, c17, rfl, rfl, rfl, rfl, rfl, (hs.mask [true]).pick [2, 1, 0]⟩ ?_
  intro s ρ w os389 hI hf hbbs389
  obtain ⟨x381, x382, x383, x386⟩ := s
  obtain ⟨a384, c385, a387, c388, h380_0, h380_1, h380_5, h380_6, h380_7, hs⟩ := hI
  unfold eslaw34_NetworkFull.l1 at hf
  refine W.seqK fun K390 hK390 => ?_
  refine W.seqK fun K391 hK391 => ?_
  refine W.region ?_
  refine WL.move (v := .int .i64 x381) h380_7 ?_
  refine WL.bin (v := .bool (decide (x381 < 5))) rfl rfl (ib_lss _ _ _) ?_
  refine WL.nil ?_
  refine hK391 _ _ ?_
  rcases iteE hf with ⟨hc392, hf⟩ | ⟨hc392, hf⟩
  · refine W.cond_true (bool_tr rfl hc392) ?_
    refine W.skip ?_
    refine hK390 _ _ ?_
    refine W.seqK fun K393 hK393 => ?_
    refine W.block ?_
    refine W.region ?_
    refine WL.loadN (vs := [.int .i64 x382, .slice a384 x383.length c385, .slice a387 x386.length c388]) hs 0 rfl TI27 h380_6 rfl rfl ?_
    refine WL.move (v := .slice a6 x8.length c7) h380_5 ?_
    have hs := hs.add (it := vl t_network_Network (⟨x382, x383, x386⟩ : network_Network) (.agg [.int .i64 x382, .slice a384 x383.length c385, .slice a387 x386.length c388].toArray)) fun ok hA => V_agg (show t_network_Network.R ok _ _ _ from ⟨[.int .i64 x382], [.slice a384 x383.length c385, .slice a387 x386.length c388], rfl, rfl, ⟨[.slice a384 x383.length c385], [.slice a387 x386.length c388], rfl, (R_one (hA.get 1 rfl)), (R_one (hA.get 2 rfl))⟩⟩) rfl
    obtain ⟨x394, hxx394, hf⟩ := bindE hf
    refine WL.call (vs := [.agg ([.int .i64 x382, .slice a384 x383.length c385, .slice a387 x386.length c388] : List Value).toArray, .slice a6 x8.length c7]) hs FN10 ⟨rfl, ⟨rfl, trivial⟩⟩ (fun ok hA => network_Send.calls (x1 := (⟨x382, x383, x386⟩ : network_Network)) (x5 := x8) hxx394 (hA.get 0 rfl) (hA.get 1 rfl)) ?_
    rintro ⟨⟨a395, n396, c397⟩, ⟨a398, n399, c400⟩⟩ w hs
    refine WL.storeAll (vs := [.int .i64 x394.Next, .slice a395 n396 c397, .slice a398 n399 c400]) hs 2 rfl TI27 h380_6 rfl rfl rfl (ones_of rfl) rfl (fun w hs => ?_)
    refine WL.nil ?_
    refine hK393 _ _ ?_
    refine W.region ?_
    refine WL.move (v := .int .i64 x381) h380_7 ?_
    obtain ⟨x401, ex401, hf⟩ := letE hf
    refine WL.bin (v := .int .i64 x401) rfl rfl (ib_as ex401 (ib_add _ _ _)) ?_
    refine WL.assign (v := .int .i64 x401) rfl ?_
    refine WL.nil ?_
    obtain rfl := hs.ownLen 0 rfl
    have hs := hs.freezeOwn 0 rfl
    obtain rfl := hs.ownLen 0 rfl
    have hs := hs.freezeOwn 0 rfl
    exact ⟨_, (Option.some.inj hf).symm, a395, c397, a398, c400, h380_0, h380_1, h380_5, h380_6, rfl, (hs.mask [true]).pick [3, 1, 0]⟩
  · refine W.cond_false (bool_tr rfl hc392) ?_
    refine W.exit ?_
    have hr := Option.some.inj hf; subst hr
    have hr := hbbs389 _ rfl; subst hr
    have hf := hfs389
    exact Jk231 x382 x383 x386 a384 c385 a387 c388 _ _ h380_0 h380_1 h380_5 h380_6 ((hs.mask [true]).pick [0, 1, 2]) hf
end Go.Proofs.Ytahobbichanccaa
