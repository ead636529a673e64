import Derived.Test.YtahobbichanccaaFh
import Derived.Test.YtahobbichanccaaFp0
import Derived.Test.YtahobbichanccaaFp3
import Derived.Test.YtahobbichanccaaFp11
set_option linter.unusedVariables false
set_option linter.unusedSimpArgs false
namespace Go.Proofs.Ytahobbichanccaa
open Go Go.RowKit Go.Proofs.YtahobbichanccaaL
set_option maxRecDepth 100000
set_option maxHeartbeats 400000
/-! elasticstore/elasticstorelaw34.NetworkCounts: function 7 -/
theorem eslaw34_NetworkCounts.calls {ok : Nat → Prop} {w0 : World} {x1 : List elasticstorelaw34_Act} {a2 : Option Addr} {c3 : Nat} {r : Bool} (hf : eslaw34_NetworkCounts x1 = some r) (i0 : (vl (tSlice t_elasticstorelaw34_Act) x1 (.slice a2 x1.length c3)).holds ok w0) :
    Calls Try.prog 7 #[.slice a2 x1.length c3] w0 fun e w' => ∃ v, e = .returned v ∧ ∃ y : Unit, v = .bool r ∧ St ok (bz w0) w' [] [] := by
  unfold eslaw34_NetworkCounts at hf
  refine calls_of_W (fn := Try.f7) (N := 122) Try.func7 rfl Try.ntmps7 rfl ?_
  have hs : St ok (bz w0) w0 [vl (tSlice t_elasticstorelaw34_Act) x1 (.slice a2 x1.length c3)] [] := St.init (All.cons i0 All.nil)
  clear i0
  refine W.seqK fun K4 hK4 => ?_
  refine W.region ?_
  refine WL.assign (v := .bool false) rfl ?_
  refine WL.nil ?_
  refine hK4 _ _ ?_
  refine W.seqK fun K5 hK5 => ?_
  refine W.seqK fun K6 hK6 => ?_
  refine W.region ?_
  refine WL.move (v := .slice a2 x1.length c3) rfl ?_
  refine WL.len (v := .slice a2 x1.length c3) rfl (len_slice UN22) ?_
  refine WL.bin (v := .bool (decide (60 < (x1.length : Int)))) rfl rfl (ib_gtr _ _ _) ?_
  refine WL.nil ?_
  refine hK6 _ _ ?_
  rcases iteE hf with ⟨hc7, hf⟩ | ⟨hc7, hf⟩
  · refine W.cond_true (bool_tr rfl hc7) ?_
    refine W.seqK fun K8 hK8 => ?_
    refine W.region ?_
    obtain ⟨x9, hxx9, hf⟩ := bindE hf
    refine WL.call (vs := []) hs FN8 trivial (fun ok hA => eslaw34_awake.calls hxx9) ?_
    rintro _ w hs
    refine WL.assign (v := .bool x9) rfl ?_
    refine WL.nil ?_
    refine hK8 _ _ ?_
    refine W.ret ?_
    have hr := Option.some.inj hf; subst hr
    exact ⟨_, resOk_one rfl rfl, (), rfl, (hs.mask []).pick []⟩
  · refine W.cond_false (bool_tr rfl hc7) ?_
    refine W.skip ?_
    refine hK5 _ _ ?_
    refine W.seqK fun K10 hK10 => ?_
    refine W.region ?_
    obtain ⟨x11, hxx11, hf⟩ := bindE hf
    refine WL.call (vs := []) hs FN9 trivial (fun ok hA => network_New.calls hxx11) ?_
    rintro ⟨⟨a12, n13, c14⟩, ⟨a15, n16, c17⟩⟩ w hs
    refine WL.alloc hs ZV27 (fun g18 w hs => ?_)
    refine WL.storeAll (vs := [.int .i64 x11.Next, .slice a12 n13 c14, .slice a15 n16 c17]) hs 0 rfl TI27 rfl rfl rfl rfl (ones_of rfl) rfl (fun w hs => ?_)
    refine WL.nil ?_
    refine hK10 _ _ ?_
    refine W.seqK fun K19 hK19 => ?_
    refine W.region ?_
    refine WL.makeMap (fun a : Int => .int .i64 a) tBool hs (fun g20 w hs => ?_)
    refine WL.assign (v := .map (some g20)) rfl ?_
    refine WL.nil ?_
    refine hK19 _ _ ?_
    refine W.seqK fun K21 hK21 => ?_
    have Jk24 : ∀ (x22 : List (Int × Bool)) (ρ : Env) (w : World), St ok (bz w0) w [] [] → eslaw34_NetworkCounts.j1 x22 = some r → K21 ρ w := by
      intro x22 ρ w  hs hf
      refine hK21 _ _ ?_
      unfold eslaw34_NetworkCounts.j1 at hf
      refine W.seqK fun K25 hK25 => ?_
      refine W.region ?_
      obtain ⟨x26, hxx26, hf⟩ := bindE hf
      refine WL.call (vs := []) hs FN8 trivial (fun ok hA => eslaw34_awake.calls hxx26) ?_
      rintro _ w hs
      refine WL.assign (v := .bool x26) rfl ?_
      refine WL.nil ?_
      refine hK25 _ _ ?_
      refine W.ret ?_
      have hr := Option.some.inj hf; subst hr
      exact ⟨_, resOk_one rfl rfl, (), rfl, (hs.mask []).pick []⟩
    refine W.seqK fun K27 hK27 => ?_
    refine W.region ?_
    refine WL.assign (v := .int .i64 0) rfl ?_
    refine WL.nil ?_
    refine hK27 _ _ ?_
    refine W.block ?_
    obtain ⟨bs38, hbs38, hfs38⟩ := bindE hf
    obtain rfl := hs.ownLen 2 rfl
    have hs := hs.freezeOwn 2 rfl
    obtain rfl := hs.ownLen 2 rfl
    have hs := hs.freezeOwn 2 rfl
    refine W.loop hbs38 (fun s ρ w => match s with | (x28, x30, x31, x32, x35) => ∃ (a33 : Option Addr), ∃ (c34 : Nat), ∃ (a36 : Option Addr), ∃ (c37 : Nat), ρ 0 = .slice a2 x1.length c3 ∧ ρ 3 = .pointer (some ⟨g18, 0, none⟩) ∧ ρ 4 = .map (some g20) ∧ ρ 5 = .int .i64 x30 ∧ St ok (bz w0) w [vl (tSlice t_elasticstorelaw34_Act) x1 (.slice a2 x1.length c3), vl (tSlice t_network_Packet) x32 (.slice a33 x32.length c34), vl (tSlice t_network_Side) x35 (.slice a36 x35.length c37)] [mapo (fun a : Int => .int .i64 a) tBool g20 x28, blk g18 27 [.int .i64 x31, .slice a33 x32.length c34, .slice a36 x35.length c37]]) ⟨a12, c14, a15, c17, rfl, rfl, rfl, rfl, (hs.mask [true, true]).pick [2, 1, 0]⟩ ?_
    intro s ρ w os38 hI hf hbbs38
    obtain ⟨x28, x30, x31, x32, x35⟩ := s
    obtain ⟨a33, c34, a36, c37, h29_0, h29_3, h29_4, h29_5, hs⟩ := hI
    unfold eslaw34_NetworkCounts.l3 at hf
    refine W.seqK fun K39 hK39 => ?_
    refine W.seqK fun K40 hK40 => ?_
    refine W.region ?_
    refine WL.move (v := .int .i64 x30) h29_5 ?_
    refine WL.move (v := .slice a2 x1.length c3) h29_0 ?_
    refine WL.len (v := .slice a2 x1.length c3) rfl (len_slice UN22) ?_
    refine WL.bin (v := .bool (decide (x30 < (x1.length : Int)))) rfl rfl (ib_lss _ _ _) ?_
    refine WL.nil ?_
    refine hK40 _ _ ?_
    rcases iteE hf with ⟨hc41, hf⟩ | ⟨hc41, hf⟩
    · refine W.cond_true (bool_tr rfl hc41) ?_
      refine W.skip ?_
      refine hK39 _ _ ?_
      refine W.seqK fun K42 hK42 => ?_
      have Jk52 : ∀ (x43 : List (Int × Bool)) (x45 : Int) (x46 : List network_Packet) (x49 : List network_Side) (a47 : Option Addr) (c48 : Nat) (a50 : Option Addr) (c51 : Nat) (ρ : Env) (w : World), ρ 0 = .slice a2 x1.length c3 → ρ 3 = .pointer (some ⟨g18, 0, none⟩) → ρ 4 = .map (some g20) → ρ 5 = .int .i64 x30 → St ok (bz w0) w [vl (tSlice t_elasticstorelaw34_Act) x1 (.slice a2 x1.length c3), vl (tSlice t_network_Packet) x46 (.slice a47 x46.length c48), vl (tSlice t_network_Side) x49 (.slice a50 x49.length c51)] [mapo (fun a : Int => .int .i64 a) tBool g20 x43, blk g18 27 [.int .i64 x45, .slice a47 x46.length c48, .slice a50 x49.length c51]] → eslaw34_NetworkCounts.j2 x30 x43 x45 x46 x49 = some os38 → K42 ρ w := by
        intro x43 x45 x46 x49 a47 c48 a50 c51 ρ w h44_0 h44_3 h44_4 h44_5 hs hf
        refine hK42 _ _ ?_
        unfold eslaw34_NetworkCounts.j2 at hf
        refine W.region ?_
        refine WL.move (v := .int .i64 x30) h44_5 ?_
        obtain ⟨x53, ex53, hf⟩ := letE hf
        refine WL.bin (v := .int .i64 x53) rfl rfl (ib_as ex53 (ib_add _ _ _)) ?_
        refine WL.assign (v := .int .i64 x53) rfl ?_
        refine WL.nil ?_
        exact ⟨_, (Option.some.inj hf).symm, a47, c48, a50, c51, h44_0, h44_3, h44_4, rfl, (hs.mask [true, true]).pick [0, 1, 2]⟩
      refine W.block ?_
      refine W.seqK fun K54 hK54 => ?_
      refine W.region ?_
      refine WL.loadN (vs := [.int .i64 x31, .slice a33 x32.length c34, .slice a36 x35.length c37]) hs 1 rfl TI27 h29_3 rfl rfl ?_
      refine WL.alloc hs ZV27 (fun g55 w hs => ?_)
      refine WL.storeAll (vs := [.int .i64 x31, .slice a33 x32.length c34, .slice a36 x35.length c37]) hs 0 rfl TI27 rfl rfl rfl rfl (ones_of rfl) rfl (fun w hs => ?_)
      refine WL.nil ?_
      refine hK54 _ _ ?_
      refine W.seqK fun K56 hK56 => ?_
      have Jk65 : ∀ (x58 : Int) (x59 : List network_Packet) (x62 : List network_Side) (a60 : Option Addr) (c61 : Nat) (a63 : Option Addr) (c64 : Nat) (ρ : Env) (w : World), ρ 0 = .slice a2 x1.length c3 → ρ 3 = .pointer (some ⟨g18, 0, none⟩) → ρ 4 = .map (some g20) → ρ 5 = .int .i64 x30 → ρ 6 = .pointer (some ⟨g55, 0, none⟩) → St ok (bz w0) w [vl (tSlice t_elasticstorelaw34_Act) x1 (.slice a2 x1.length c3), vl (tSlice t_network_Packet) x32 (.slice a33 x32.length c34), vl (tSlice t_network_Side) x35 (.slice a36 x35.length c37), vl (tSlice t_network_Packet) x59 (.slice a60 x59.length c61), vl (tSlice t_network_Side) x62 (.slice a63 x62.length c64)] [blk g55 27 [.int .i64 x31, .slice a33 x32.length c34, .slice a36 x35.length c37], mapo (fun a : Int => .int .i64 a) tBool g20 x28, blk g18 27 [.int .i64 x58, .slice a60 x59.length c61, .slice a63 x62.length c64]] → eslaw34_NetworkCounts.j7 x28 x30 x32 x58 x59 x62 = some os38 → K56 ρ w := by
        intro x58 x59 x62 a60 c61 a63 c64 ρ w h57_0 h57_3 h57_4 h57_5 h57_6 hs hf
        refine hK56 _ _ ?_
        unfold eslaw34_NetworkCounts.j7 at hf
        refine W.seqK fun K66 hK66 => ?_
        refine W.region ?_
        refine WL.makeMap (fun a : Int => .int .i64 a) tBool hs (fun g67 w hs => ?_)
        refine WL.assign (v := .map (some g67)) rfl ?_
        refine WL.nil ?_
        refine hK66 _ _ ?_
        refine W.seqK fun K68 hK68 => ?_
        have Jk71 : ∀ (x69 : List (Int × Bool)) (ρ : Env) (w : World), ρ 0 = .slice a2 x1.length c3 → ρ 3 = .pointer (some ⟨g18, 0, none⟩) → ρ 4 = .map (some g20) → ρ 5 = .int .i64 x30 → ρ 6 = .pointer (some ⟨g55, 0, none⟩) → ρ 7 = .map (some g67) → St ok (bz w0) w [vl (tSlice t_elasticstorelaw34_Act) x1 (.slice a2 x1.length c3), vl (tSlice t_network_Packet) x32 (.slice a33 x32.length c34), vl (tSlice t_network_Side) x35 (.slice a36 x35.length c37), vl (tSlice t_network_Packet) x59 (.slice a60 x59.length c61), vl (tSlice t_network_Side) x62 (.slice a63 x62.length c64)] [mapo (fun a : Int => .int .i64 a) tBool g67 x69, blk g55 27 [.int .i64 x31, .slice a33 x32.length c34, .slice a36 x35.length c37], mapo (fun a : Int => .int .i64 a) tBool g20 x28, blk g18 27 [.int .i64 x58, .slice a60 x59.length c61, .slice a63 x62.length c64]] → eslaw34_NetworkCounts.j5 x28 x30 x32 x58 x59 x62 x69 = some os38 → K68 ρ w := by
          intro x69 ρ w h70_0 h70_3 h70_4 h70_5 h70_6 h70_7 hs hf
          refine hK68 _ _ ?_
          unfold eslaw34_NetworkCounts.j5 at hf
          refine W.seqK fun K72 hK72 => ?_
          have Jk75 : ∀ (x73 : List (Int × Bool)) (ρ : Env) (w : World), ρ 0 = .slice a2 x1.length c3 → ρ 3 = .pointer (some ⟨g18, 0, none⟩) → ρ 4 = .map (some g20) → ρ 5 = .int .i64 x30 → ρ 7 = .map (some g67) → St ok (bz w0) w [vl (tSlice t_elasticstorelaw34_Act) x1 (.slice a2 x1.length c3), vl (tSlice t_network_Packet) x59 (.slice a60 x59.length c61), vl (tSlice t_network_Side) x62 (.slice a63 x62.length c64)] [mapo (fun a : Int => .int .i64 a) tBool g67 x69, mapo (fun a : Int => .int .i64 a) tBool g20 x73, blk g18 27 [.int .i64 x58, .slice a60 x59.length c61, .slice a63 x62.length c64]] → eslaw34_NetworkCounts.j3 x30 x58 x59 x62 x69 x73 = some os38 → K72 ρ w := by
            intro x73 ρ w h74_0 h74_3 h74_4 h74_5 h74_7 hs hf
            refine hK72 _ _ ?_
            unfold eslaw34_NetworkCounts.j3 at hf
            refine W.seqK fun K76 hK76 => ?_
            refine W.region ?_
            refine WL.move (v := .map (some g20)) h74_4 ?_
            refine WL.len (v := .map (some g20)) rfl (len_map hs 1 rfl UN67) ?_
            refine WL.move (v := .map (some g67)) h74_7 ?_
            refine WL.len (v := .map (some g67)) rfl (len_map hs 0 rfl UN67) ?_
            obtain ⟨x77, ex77, hf⟩ := letE hf
            refine WL.bin (v := .int .i64 x77) rfl rfl (ib_as ex77 (ib_add _ _ _)) ?_
            refine WL.fieldAddr (m := 0) h74_3 FA27_0 rfl ?_
            refine WL.load1 (v := .int .i64 x58) hs 2 rfl TI3 rfl rfl ?_
            obtain ⟨x78, ex78, hf⟩ := letE hf
            refine WL.bin (v := .int .i64 x78) rfl rfl (ib_as ex78 (ib_sub _ _ _)) ?_
            refine WL.bin (v := .bool (x77 != x78)) rfl rfl (ib_neq _ _ _) ?_
            refine WL.nil ?_
            refine hK76 _ _ ?_
            rcases iteE hf with ⟨hc79, hf⟩ | ⟨hc79, hf⟩
            · refine W.cond_true (bool_tr rfl hc79) ?_
              refine W.seqK fun K80 hK80 => ?_
              refine W.region ?_
              refine WL.assign (v := .bool false) rfl ?_
              refine WL.nil ?_
              refine hK80 _ _ ?_
              refine W.ret ?_
              have hr := Option.some.inj hf; subst hr
              have hr := hbbs38 _ rfl; subst hr
              have hf := hfs38
              have hr := Option.some.inj hf; subst hr
              exact ⟨_, resOk_one rfl rfl, (), rfl, (hs.mask []).pick []⟩
            · refine W.cond_false (bool_tr rfl hc79) ?_
              refine W.skip ?_
              exact Jk52 x73 x58 x59 x62 a60 c61 a63 c64 _ _ h74_0 h74_3 h74_4 h74_5 ((hs.mask [false, true, true]).pick [0, 1, 2]) hf
          refine W.seqK fun K81 hK81 => ?_
          refine W.region ?_
          refine WL.assign (v := .int .i64 0) rfl ?_
          refine WL.nil ?_
          refine hK81 _ _ ?_
          refine W.block ?_
          obtain ⟨bs85, hbs85, hfs85⟩ := bindE hf
          refine W.loop hbs85 (fun s ρ w => match s with | (x82, x84) => ρ 0 = .slice a2 x1.length c3 ∧ ρ 3 = .pointer (some ⟨g18, 0, none⟩) ∧ ρ 4 = .map (some g20) ∧ ρ 5 = .int .i64 x30 ∧ ρ 6 = .pointer (some ⟨g55, 0, none⟩) ∧ ρ 7 = .map (some g67) ∧ ρ 10 = .int .i64 x84 ∧ St ok (bz w0) w [vl (tSlice t_elasticstorelaw34_Act) x1 (.slice a2 x1.length c3), vl (tSlice t_network_Packet) x32 (.slice a33 x32.length c34), vl (tSlice t_network_Side) x35 (.slice a36 x35.length c37), vl (tSlice t_network_Packet) x59 (.slice a60 x59.length c61), vl (tSlice t_network_Side) x62 (.slice a63 x62.length c64)] [mapo (fun a : Int => .int .i64 a) tBool g67 x69, blk g55 27 [.int .i64 x31, .slice a33 x32.length c34, .slice a36 x35.length c37], mapo (fun a : Int => .int .i64 a) tBool g20 x82, blk g18 27 [.int .i64 x58, .slice a60 x59.length c61, .slice a63 x62.length c64]]) ⟨h70_0, h70_3, h70_4, h70_5, h70_6, h70_7, rfl, (hs.mask [true, true, true, true]).pick [0, 1, 2, 3, 4]⟩ ?_
          intro s ρ w os85 hI hf hbbs85
          obtain ⟨x82, x84⟩ := s
          obtain ⟨h83_0, h83_3, h83_4, h83_5, h83_6, h83_7, h83_10, hs⟩ := hI
          unfold eslaw34_NetworkCounts.l1 at hf
          refine W.seqK fun K86 hK86 => ?_
          refine W.seqK fun K87 hK87 => ?_
          refine W.region ?_
          refine WL.move (v := .int .i64 x84) h83_10 ?_
          refine WL.fieldAddr (m := 1) h83_6 FA27_1 rfl ?_
          refine WL.load1 (v := .slice a33 x32.length c34) hs 1 rfl TI25 rfl rfl ?_
          refine WL.len (v := .slice a33 x32.length c34) rfl (len_slice UN25) ?_
          refine WL.bin (v := .bool (decide (x84 < (x32.length : Int)))) rfl rfl (ib_lss _ _ _) ?_
          refine WL.nil ?_
          refine hK87 _ _ ?_
          rcases iteE hf with ⟨hc88, hf⟩ | ⟨hc88, hf⟩
          · refine W.cond_true (bool_tr rfl hc88) ?_
            refine W.skip ?_
            refine hK86 _ _ ?_
            refine W.seqK fun K89 hK89 => ?_
            have Jk92 : ∀ (x90 : List (Int × Bool)) (ρ : Env) (w : World), ρ 0 = .slice a2 x1.length c3 → ρ 3 = .pointer (some ⟨g18, 0, none⟩) → ρ 4 = .map (some g20) → ρ 5 = .int .i64 x30 → ρ 6 = .pointer (some ⟨g55, 0, none⟩) → ρ 7 = .map (some g67) → ρ 10 = .int .i64 x84 → St ok (bz w0) w [vl (tSlice t_elasticstorelaw34_Act) x1 (.slice a2 x1.length c3), vl (tSlice t_network_Packet) x32 (.slice a33 x32.length c34), vl (tSlice t_network_Side) x35 (.slice a36 x35.length c37), vl (tSlice t_network_Packet) x59 (.slice a60 x59.length c61), vl (tSlice t_network_Side) x62 (.slice a63 x62.length c64)] [mapo (fun a : Int => .int .i64 a) tBool g67 x69, blk g55 27 [.int .i64 x31, .slice a33 x32.length c34, .slice a36 x35.length c37], mapo (fun a : Int => .int .i64 a) tBool g20 x90, blk g18 27 [.int .i64 x58, .slice a60 x59.length c61, .slice a63 x62.length c64]] → eslaw34_NetworkCounts.j4 x84 x90 = some os85 → K89 ρ w := by
              intro x90 ρ w h91_0 h91_3 h91_4 h91_5 h91_6 h91_7 h91_10 hs hf
              refine hK89 _ _ ?_
              unfold eslaw34_NetworkCounts.j4 at hf
              refine W.region ?_
              refine WL.move (v := .int .i64 x84) h91_10 ?_
              obtain ⟨x93, ex93, hf⟩ := letE hf
              refine WL.bin (v := .int .i64 x93) rfl rfl (ib_as ex93 (ib_add _ _ _)) ?_
              refine WL.assign (v := .int .i64 x93) rfl ?_
              refine WL.nil ?_
              exact ⟨_, (Option.some.inj hf).symm, h91_0, h91_3, h91_4, h91_5, h91_6, h91_7, rfl, (hs.mask [true, true, true, true]).pick [0, 1, 2, 3, 4]⟩
            refine W.block ?_
            refine W.seqK fun K94 hK94 => ?_
            refine W.region ?_
            refine WL.move (v := .map (some g67)) h83_7 ?_
            refine WL.fieldAddr (m := 1) h83_6 FA27_1 rfl ?_
            refine WL.load1 (v := .slice a33 x32.length c34) hs 1 rfl TI25 rfl rfl ?_
            refine WL.move (v := .int .i64 x84) h83_10 ?_
            obtain ⟨x95, hxx95, hf⟩ := bindE hf
            refine WL.indexAddr hs 1 rfl UN25 TI51 rfl rfl hxx95 (fun ad96 hs => ?_)
            refine WL.fieldAddrP (z := x95.ID) F_network_Packet_ID hs 0 rfl rfl FA51_0 rfl (fun ad97 hs => ?_)
            refine WL.loadP hs 0 rfl TI3 (.inr rfl) rfl (fun v98 hs => ?_)
            obtain rfl := hs.int 0 rfl
            obtain ⟨x99, exx99, hf⟩ := letE hf
            refine WL.lookup (a := x95.ID) (z0 := false) hs 0 rfl (kkInt UN3) UN67 rfl rfl ZR4 (fun _ _ => ⟨[.bool false], rfl, rfl⟩) exx99 (fun v100 hs => ?_)
            obtain rfl := hs.bool 0 rfl
            refine WL.not rfl ?_
            refine WL.nil ?_
            refine hK94 _ _ ?_
            rcases iteE hf with ⟨hc101, hf⟩ | ⟨hc101, hf⟩
            · refine W.cond_true (bool_tr rfl hc101) ?_
              refine W.region ?_
              refine WL.move (v := .map (some g20)) h83_4 ?_
              refine WL.fieldAddr (m := 1) h83_6 FA27_1 rfl ?_
              refine WL.load1 (v := .slice a33 x32.length c34) hs 1 rfl TI25 rfl rfl ?_
              refine WL.move (v := .int .i64 x84) h83_10 ?_
              obtain ⟨x102, hxx102, hf⟩ := bindE hf
              refine WL.indexAddr hs 5 rfl UN25 TI51 rfl rfl hxx102 (fun ad103 hs => ?_)
              refine WL.fieldAddrP (z := x102.ID) F_network_Packet_ID hs 0 rfl rfl FA51_0 rfl (fun ad104 hs => ?_)
              refine WL.loadP hs 0 rfl TI3 (.inr rfl) rfl (fun v105 hs => ?_)
              obtain rfl := hs.int 0 rfl
              obtain ⟨x106, exx106, hf⟩ := letE hf
              refine WL.mapUpdate (a := x102.ID) (y := true) (v := .bool true) hs 2 rfl (kkInt UN3) UN67 rfl rfl rfl (fun ok hA => tBool_V.2 rfl) exx106 (fun w hs => ?_)
              refine WL.nil ?_
              exact Jk92 x106 _ _ h83_0 h83_3 h83_4 h83_5 h83_6 h83_7 h83_10 ((hs.mask [true, true, true, true]).pick [7, 8, 9, 10, 11]) hf
            · refine W.cond_false (bool_tr rfl hc101) ?_
              refine W.skip ?_
              exact Jk92 x82 _ _ h83_0 h83_3 h83_4 h83_5 h83_6 h83_7 h83_10 ((hs.mask [true, true, true, true]).pick [4, 5, 6, 7, 8]) hf
          · refine W.cond_false (bool_tr rfl hc88) ?_
            refine W.exit ?_
            have hr := Option.some.inj hf; subst hr
            have hr := hbbs85 _ rfl; subst hr
            have hf := hfs85
            exact Jk75 x82 _ _ h83_0 h83_3 h83_4 h83_5 h83_7 ((hs.mask [true, false, true, true]).pick [0, 3, 4]) hf
        refine W.seqK fun K108 hK108 => ?_
        refine W.region ?_
        refine WL.assign (v := .int .i64 0) rfl ?_
        refine WL.nil ?_
        refine hK108 _ _ ?_
        refine W.block ?_
        obtain ⟨bs112, hbs112, hfs112⟩ := bindE hf
        refine W.loop hbs112 (fun s ρ w => match s with | (x109, x111) => ρ 0 = .slice a2 x1.length c3 ∧ ρ 3 = .pointer (some ⟨g18, 0, none⟩) ∧ ρ 4 = .map (some g20) ∧ ρ 5 = .int .i64 x30 ∧ ρ 6 = .pointer (some ⟨g55, 0, none⟩) ∧ ρ 7 = .map (some g67) ∧ ρ 8 = .int .i64 x111 ∧ St ok (bz w0) w [vl (tSlice t_elasticstorelaw34_Act) x1 (.slice a2 x1.length c3), vl (tSlice t_network_Packet) x32 (.slice a33 x32.length c34), vl (tSlice t_network_Side) x35 (.slice a36 x35.length c37), vl (tSlice t_network_Packet) x59 (.slice a60 x59.length c61), vl (tSlice t_network_Side) x62 (.slice a63 x62.length c64)] [mapo (fun a : Int => .int .i64 a) tBool g67 x109, blk g55 27 [.int .i64 x31, .slice a33 x32.length c34, .slice a36 x35.length c37], mapo (fun a : Int => .int .i64 a) tBool g20 x28, blk g18 27 [.int .i64 x58, .slice a60 x59.length c61, .slice a63 x62.length c64]]) ⟨h57_0, h57_3, h57_4, h57_5, h57_6, rfl, rfl, (hs.mask [true, true, true, true]).pick [0, 1, 2, 3, 4]⟩ ?_
        intro s ρ w os112 hI hf hbbs112
        obtain ⟨x109, x111⟩ := s
        obtain ⟨h110_0, h110_3, h110_4, h110_5, h110_6, h110_7, h110_8, hs⟩ := hI
        unfold eslaw34_NetworkCounts.l2 at hf
        refine W.seqK fun K113 hK113 => ?_
        refine W.seqK fun K114 hK114 => ?_
        refine W.region ?_
        refine WL.move (v := .int .i64 x111) h110_8 ?_
        refine WL.fieldAddr (m := 1) h110_3 FA27_1 rfl ?_
        refine WL.load1 (v := .slice a60 x59.length c61) hs 3 rfl TI25 rfl rfl ?_
        refine WL.len (v := .slice a60 x59.length c61) rfl (len_slice UN25) ?_
        refine WL.bin (v := .bool (decide (x111 < (x59.length : Int)))) rfl rfl (ib_lss _ _ _) ?_
        refine WL.nil ?_
        refine hK114 _ _ ?_
        rcases iteE hf with ⟨hc115, hf⟩ | ⟨hc115, hf⟩
        · refine W.cond_true (bool_tr rfl hc115) ?_
          refine W.skip ?_
          refine hK113 _ _ ?_
          refine W.seqK fun K116 hK116 => ?_
          refine W.block ?_
          refine W.seqK fun K117 hK117 => ?_
          refine W.seqK fun K118 hK118 => ?_
          refine W.region ?_
          refine WL.fieldAddr (m := 1) h110_3 FA27_1 rfl ?_
          refine WL.load1 (v := .slice a60 x59.length c61) hs 3 rfl TI25 rfl rfl ?_
          refine WL.move (v := .int .i64 x111) h110_8 ?_
          obtain ⟨x119, hxx119, hf⟩ := bindE hf
          refine WL.indexAddr hs 3 rfl UN25 TI51 rfl rfl hxx119 (fun ad120 hs => ?_)
          refine WL.fieldAddrP (z := x119.ID) F_network_Packet_ID hs 0 rfl rfl FA51_0 rfl (fun ad121 hs => ?_)
          refine WL.loadP hs 0 rfl TI3 (.inr rfl) rfl (fun v122 hs => ?_)
          obtain rfl := hs.int 0 rfl
          refine WL.assign (v := .int .i64 x119.ID) rfl ?_
          refine WL.nil ?_
          refine hK118 _ _ ?_
          refine W.seqK fun K123 hK123 => ?_
          have Jk126 : ∀ (x125 : Bool) (ρ : Env) (w : World), ρ 0 = .slice a2 x1.length c3 → ρ 3 = .pointer (some ⟨g18, 0, none⟩) → ρ 4 = .map (some g20) → ρ 5 = .int .i64 x30 → ρ 6 = .pointer (some ⟨g55, 0, none⟩) → ρ 7 = .map (some g67) → ρ 8 = .int .i64 x111 → ρ 81 = .bool x125 → St ok (bz w0) w [vl (tSlice t_elasticstorelaw34_Act) x1 (.slice a2 x1.length c3), vl (tSlice t_network_Packet) x32 (.slice a33 x32.length c34), vl (tSlice t_network_Side) x35 (.slice a36 x35.length c37), vl (tSlice t_network_Packet) x59 (.slice a60 x59.length c61), vl (tSlice t_network_Side) x62 (.slice a63 x62.length c64)] [mapo (fun a : Int => .int .i64 a) tBool g67 x109, blk g55 27 [.int .i64 x31, .slice a33 x32.length c34, .slice a36 x35.length c37], mapo (fun a : Int => .int .i64 a) tBool g20 x28, blk g18 27 [.int .i64 x58, .slice a60 x59.length c61, .slice a63 x62.length c64]] → eslaw34_NetworkCounts.j6 x59 x109 x111 x125 = some os112 → K123 ρ w := by
            intro x125 ρ w h124_0 h124_3 h124_4 h124_5 h124_6 h124_7 h124_8 h124_81 hs hf
            refine hK123 _ _ ?_
            unfold eslaw34_NetworkCounts.j6 at hf
            rcases iteE hf with ⟨hc127, hf⟩ | ⟨hc127, hf⟩
            · refine W.cond_true (bool_tr h124_81 hc127) ?_
              refine W.seqK fun K128 hK128 => ?_
              refine W.region ?_
              refine WL.assign (v := .bool false) rfl ?_
              refine WL.nil ?_
              refine hK128 _ _ ?_
              refine W.ret ?_
              have hr := Option.some.inj hf; subst hr
              have hr := hbbs112 _ rfl; subst hr
              have hf := hfs112
              have hr := Option.some.inj hf; subst hr
              have hr := hbbs38 _ rfl; subst hr
              have hf := hfs38
              have hr := Option.some.inj hf; subst hr
              exact ⟨_, resOk_one rfl rfl, (), rfl, (hs.mask []).pick []⟩
            · refine W.cond_false (bool_tr h124_81 hc127) ?_
              refine W.skip ?_
              refine hK117 _ _ ?_
              refine W.region ?_
              refine WL.move (v := .map (some g67)) h124_7 ?_
              refine WL.fieldAddr (m := 1) h124_3 FA27_1 rfl ?_
              refine WL.load1 (v := .slice a60 x59.length c61) hs 3 rfl TI25 rfl rfl ?_
              refine WL.move (v := .int .i64 x111) h124_8 ?_
              obtain ⟨x129, hxx129, hf⟩ := bindE hf
              refine WL.indexAddr hs 3 rfl UN25 TI51 rfl rfl hxx129 (fun ad130 hs => ?_)
              refine WL.fieldAddrP (z := x129.ID) F_network_Packet_ID hs 0 rfl rfl FA51_0 rfl (fun ad131 hs => ?_)
              refine WL.loadP hs 0 rfl TI3 (.inr rfl) rfl (fun v132 hs => ?_)
              obtain rfl := hs.int 0 rfl
              obtain ⟨x133, exx133, hf⟩ := letE hf
              refine WL.mapUpdate (a := x129.ID) (y := true) (v := .bool true) hs 0 rfl (kkInt UN3) UN67 rfl rfl rfl (fun ok hA => tBool_V.2 rfl) exx133 (fun w hs => ?_)
              refine WL.nil ?_
              refine hK116 _ _ ?_
              refine W.region ?_
              refine WL.move (v := .int .i64 x111) h124_8 ?_
              obtain ⟨x134, ex134, hf⟩ := letE hf
              refine WL.bin (v := .int .i64 x134) rfl rfl (ib_as ex134 (ib_add _ _ _)) ?_
              refine WL.assign (v := .int .i64 x134) rfl ?_
              refine WL.nil ?_
              exact ⟨_, (Option.some.inj hf).symm, h124_0, h124_3, h124_4, h124_5, h124_6, h124_7, rfl, (hs.mask [true, true, true, true]).pick [3, 4, 5, 6, 7]⟩
          refine W.region ?_
          refine WL.move (v := .map (some g67)) h110_7 ?_
          refine WL.move (v := .int .i64 x119.ID) rfl ?_
          obtain ⟨x135, exx135, hf⟩ := letE hf
          refine WL.lookup (a := x119.ID) (z0 := false) hs 0 rfl (kkInt UN3) UN67 rfl rfl ZR4 (fun _ _ => ⟨[.bool false], rfl, rfl⟩) exx135 (fun v136 hs => ?_)
          obtain rfl := hs.bool 0 rfl
          refine WL.move (v := .bool x135) rfl ?_
          rcases iteE hf with ⟨hc137, hf⟩ | ⟨hc137, hf⟩
          · refine WL.pass ((wanted_of rfl rfl (bool_tr rfl hc137)).trans rfl) rfl ?_
            refine WL.pass ((wanted_of rfl rfl (bool_tr rfl hc137)).trans rfl) rfl ?_
            refine WL.pass ((wanted_of rfl rfl (bool_tr rfl hc137)).trans rfl) rfl ?_
            refine WL.pickT (v := .bool true) (bool_tr rfl hc137) rfl ?_
            refine WL.move (v := .bool true) rfl ?_
            refine WL.pass ((wanted_of rfl rfl rfl).trans rfl) rfl ?_
            refine WL.pass ((wanted_of rfl rfl rfl).trans rfl) rfl ?_
            refine WL.pickT (v := .bool true) rfl rfl ?_
            refine WL.move (v := .bool true) rfl ?_
            refine WL.pass ((wanted_of rfl rfl rfl).trans rfl) rfl ?_
            refine WL.pass ((wanted_of rfl rfl rfl).trans rfl) rfl ?_
            refine WL.pass ((wanted_of rfl rfl rfl).trans rfl) rfl ?_
            refine WL.pass ((wanted_of rfl rfl rfl).trans rfl) rfl ?_
            refine WL.pickT (v := .bool true) rfl rfl ?_
            refine WL.move (v := .bool true) rfl ?_
            refine WL.pass ((wanted_of rfl rfl rfl).trans rfl) rfl ?_
            refine WL.pass ((wanted_of rfl rfl rfl).trans rfl) rfl ?_
            refine WL.pass ((wanted_of rfl rfl rfl).trans rfl) rfl ?_
            refine WL.pass (wanted_undef rfl rfl rfl) rfl ?_
            refine WL.pass (wanted_undef rfl rfl rfl) rfl ?_
            refine WL.pass (wanted_undef rfl rfl rfl) rfl ?_
            refine WL.pass (wanted_undef rfl rfl rfl) rfl ?_
            refine WL.pass (wanted_undef rfl rfl rfl) rfl ?_
            refine WL.pass (wanted_undef rfl rfl rfl) rfl ?_
            refine WL.pass (wanted_undef rfl rfl rfl) rfl ?_
            refine WL.pass (wanted_undef rfl rfl rfl) rfl ?_
            refine WL.pass (wanted_undef rfl rfl rfl) rfl ?_
            refine WL.pass ((wanted_of rfl rfl rfl).trans rfl) rfl ?_
            refine WL.pickT (v := .bool true) rfl rfl ?_
            refine WL.nil ?_
            exact Jk126 true _ _ h110_0 h110_3 h110_4 h110_5 h110_6 h110_7 h110_8 rfl ((hs.mask [true, true, true, true]).pick [4, 5, 6, 7, 8]) hf
          · refine WL.move (v := .map (some g20)) h110_4 ?_ (hg := (wanted_of rfl rfl (bool_tr rfl hc137)).trans rfl)
            refine WL.move (v := .int .i64 x119.ID) rfl ?_ (hg := (wanted_of rfl rfl (bool_tr rfl hc137)).trans rfl)
            obtain ⟨x138, exx138, hf⟩ := letE hf
            refine WL.lookup (a := x119.ID) (z0 := false) hs 2 rfl (kkInt UN3) UN67 rfl rfl ZR4 (fun _ _ => ⟨[.bool false], rfl, rfl⟩) exx138 (fun v139 hs => ?_) (hg := (wanted_of rfl rfl (bool_tr rfl hc137)).trans rfl)
            obtain rfl := hs.bool 0 rfl
            refine WL.pickF (v := .bool x138) (bool_tr rfl hc137) rfl ?_
            refine WL.move (v := .bool x138) rfl ?_
            rcases iteE hf with ⟨hc140, hf⟩ | ⟨hc140, hf⟩
            · refine WL.pass ((wanted_of rfl rfl (bool_tr rfl hc140)).trans rfl) rfl ?_
              refine WL.pass ((wanted_of rfl rfl (bool_tr rfl hc140)).trans rfl) rfl ?_
              refine WL.pickT (v := .bool true) (bool_tr rfl hc140) rfl ?_
              refine WL.move (v := .bool true) rfl ?_
              refine WL.pass ((wanted_of rfl rfl rfl).trans rfl) rfl ?_
              refine WL.pass ((wanted_of rfl rfl rfl).trans rfl) rfl ?_
              refine WL.pass ((wanted_of rfl rfl rfl).trans rfl) rfl ?_
              refine WL.pass ((wanted_of rfl rfl rfl).trans rfl) rfl ?_
              refine WL.pickT (v := .bool true) rfl rfl ?_
              refine WL.move (v := .bool true) rfl ?_
              refine WL.pass ((wanted_of rfl rfl rfl).trans rfl) rfl ?_
              refine WL.pass ((wanted_of rfl rfl rfl).trans rfl) rfl ?_
              refine WL.pass ((wanted_of rfl rfl rfl).trans rfl) rfl ?_
              refine WL.pass (wanted_undef rfl rfl rfl) rfl ?_
              refine WL.pass (wanted_undef rfl rfl rfl) rfl ?_
              refine WL.pass (wanted_undef rfl rfl rfl) rfl ?_
              refine WL.pass (wanted_undef rfl rfl rfl) rfl ?_
              refine WL.pass (wanted_undef rfl rfl rfl) rfl ?_
              refine WL.pass (wanted_undef rfl rfl rfl) rfl ?_
              refine WL.pass (wanted_undef rfl rfl rfl) rfl ?_
              refine WL.pass (wanted_undef rfl rfl rfl) rfl ?_
              refine WL.pass (wanted_undef rfl rfl rfl) rfl ?_
              refine WL.pass ((wanted_of rfl rfl rfl).trans rfl) rfl ?_
              refine WL.pickT (v := .bool true) rfl rfl ?_
              refine WL.nil ?_
              exact Jk126 true _ _ h110_0 h110_3 h110_4 h110_5 h110_6 h110_7 h110_8 rfl ((hs.mask [true, true, true, true]).pick [5, 6, 7, 8, 9]) hf
            · refine WL.move (v := .int .i64 x119.ID) rfl ?_ (hg := (wanted_of rfl rfl (bool_tr rfl hc140)).trans rfl)
              refine WL.bin (v := .bool (decide (x119.ID < 1))) rfl rfl (ib_lss _ _ _) ?_ (hg := (wanted_of rfl rfl (bool_tr rfl hc140)).trans rfl)
              refine WL.pickF (v := .bool (decide (x119.ID < 1))) (bool_tr rfl hc140) rfl ?_
              refine WL.move (v := .bool (decide (x119.ID < 1))) rfl ?_
              rcases iteE hf with ⟨hc141, hf⟩ | ⟨hc141, hf⟩
              · refine WL.pass ((wanted_of rfl rfl (bool_tr rfl hc141)).trans rfl) rfl ?_
                refine WL.pass ((wanted_of rfl rfl (bool_tr rfl hc141)).trans rfl) rfl ?_
                refine WL.pass ((wanted_of rfl rfl (bool_tr rfl hc141)).trans rfl) rfl ?_
                refine WL.pass ((wanted_of rfl rfl (bool_tr rfl hc141)).trans rfl) rfl ?_
                refine WL.pickT (v := .bool true) (bool_tr rfl hc141) rfl ?_
                refine WL.move (v := .bool true) rfl ?_
                refine WL.pass ((wanted_of rfl rfl rfl).trans rfl) rfl ?_
                refine WL.pass ((wanted_of rfl rfl rfl).trans rfl) rfl ?_
                refine WL.pass ((wanted_of rfl rfl rfl).trans rfl) rfl ?_
                refine WL.pass (wanted_undef rfl rfl rfl) rfl ?_
                refine WL.pass (wanted_undef rfl rfl rfl) rfl ?_
                refine WL.pass (wanted_undef rfl rfl rfl) rfl ?_
                refine WL.pass (wanted_undef rfl rfl rfl) rfl ?_
                refine WL.pass (wanted_undef rfl rfl rfl) rfl ?_
                refine WL.pass (wanted_undef rfl rfl rfl) rfl ?_
                refine WL.pass (wanted_undef rfl rfl rfl) rfl ?_
                refine WL.pass (wanted_undef rfl rfl rfl) rfl ?_
                refine WL.pass (wanted_undef rfl rfl rfl) rfl ?_
                refine WL.pass ((wanted_of rfl rfl rfl).trans rfl) rfl ?_
                refine WL.pickT (v := .bool true) rfl rfl ?_
                refine WL.nil ?_
                exact Jk126 true _ _ h110_0 h110_3 h110_4 h110_5 h110_6 h110_7 h110_8 rfl ((hs.mask [true, true, true, true]).pick [5, 6, 7, 8, 9]) hf
              · refine WL.move (v := .int .i64 x119.ID) rfl ?_ (hg := (wanted_of rfl rfl (bool_tr rfl hc141)).trans rfl)
                refine WL.fieldAddr (m := 0) h110_3 FA27_0 rfl ?_ (hg := (wanted_of rfl rfl (bool_tr rfl hc141)).trans rfl)
                refine WL.load1 (v := .int .i64 x58) hs 3 rfl TI3 rfl rfl ?_ (hg := (wanted_of rfl rfl (bool_tr rfl hc141)).trans rfl)
                refine WL.bin (v := .bool (decide (x58 ≤ x119.ID))) rfl rfl (ib_geq _ _ _) ?_ (hg := (wanted_of rfl rfl (bool_tr rfl hc141)).trans rfl)
                refine WL.pickF (v := .bool (decide (x58 ≤ x119.ID))) (bool_tr rfl hc141) rfl ?_
                refine WL.move (v := .bool (decide (x58 ≤ x119.ID))) rfl ?_
                rcases iteE hf with ⟨hc142, hf⟩ | ⟨hc142, hf⟩
                · refine WL.pass ((wanted_of rfl rfl (bool_tr rfl hc142)).trans rfl) rfl ?_
                  refine WL.pass ((wanted_of rfl rfl (bool_tr rfl hc142)).trans rfl) rfl ?_
                  refine WL.pass ((wanted_of rfl rfl (bool_tr rfl hc142)).trans rfl) rfl ?_
                  refine WL.pass (wanted_undef rfl rfl rfl) rfl ?_
                  refine WL.pass (wanted_undef rfl rfl rfl) rfl ?_
                  refine WL.pass (wanted_undef rfl rfl rfl) rfl ?_
                  refine WL.pass (wanted_undef rfl rfl rfl) rfl ?_
                  refine WL.pass (wanted_undef rfl rfl rfl) rfl ?_
                  refine WL.pass (wanted_undef rfl rfl rfl) rfl ?_
                  refine WL.pass (wanted_undef rfl rfl rfl) rfl ?_
                  refine WL.pass (wanted_undef rfl rfl rfl) rfl ?_
                  refine WL.pass (wanted_undef rfl rfl rfl) rfl ?_
                  refine WL.pass ((wanted_of rfl rfl (bool_tr rfl hc142)).trans rfl) rfl ?_
                  refine WL.pickT (v := .bool true) (bool_tr rfl hc142) rfl ?_
                  refine WL.nil ?_
                  exact Jk126 true _ _ h110_0 h110_3 h110_4 h110_5 h110_6 h110_7 h110_8 rfl ((hs.mask [true, true, true, true]).pick [5, 6, 7, 8, 9]) hf
                · refine WL.move (v := .int .i64 x111) h110_8 ?_ (hg := (wanted_of rfl rfl (bool_tr rfl hc142)).trans rfl)
                  refine WL.bin (v := .bool (decide (0 < x111))) rfl rfl (ib_gtr _ _ _) ?_ (hg := (wanted_of rfl rfl (bool_tr rfl hc142)).trans rfl)
                  refine WL.move (v := .bool (decide (0 < x111))) rfl ?_ (hg := (wanted_of rfl rfl (bool_tr rfl hc142)).trans rfl)
                  rcases iteE hf with ⟨hc143, hf⟩ | ⟨hc143, hf⟩
                  · refine WL.move (v := .int .i64 x119.ID) rfl ?_ (hg := (wanted_of rfl rfl (bool_tr rfl hc143)).trans rfl)
                    refine WL.fieldAddr (m := 1) h110_3 FA27_1 rfl ?_ (hg := (wanted_of rfl rfl (bool_tr rfl hc143)).trans rfl)
                    refine WL.load1 (v := .slice a60 x59.length c61) hs 3 rfl TI25 rfl rfl ?_ (hg := (wanted_of rfl rfl (bool_tr rfl hc143)).trans rfl)
                    refine WL.move (v := .int .i64 x111) h110_8 ?_ (hg := (wanted_of rfl rfl (bool_tr rfl hc143)).trans rfl)
                    obtain ⟨x144, ex144, hf⟩ := letE hf
                    refine WL.bin (v := .int .i64 x144) rfl rfl (ib_as ex144 (ib_sub _ _ _)) ?_ (hg := (wanted_of rfl rfl (bool_tr rfl hc143)).trans rfl)
                    obtain ⟨x145, hxx145, hf⟩ := bindE hf
                    refine WL.indexAddr hs 8 rfl UN25 TI51 rfl rfl hxx145 (fun ad146 hs => ?_) (hg := (wanted_of rfl rfl (bool_tr rfl hc143)).trans rfl)
                    refine WL.fieldAddrP (z := x145.ID) F_network_Packet_ID hs 0 rfl rfl FA51_0 rfl (fun ad147 hs => ?_) (hg := (wanted_of rfl rfl (bool_tr rfl hc143)).trans rfl)
                    refine WL.loadP hs 0 rfl TI3 (.inr rfl) rfl (fun v148 hs => ?_) (hg := (wanted_of rfl rfl (bool_tr rfl hc143)).trans rfl)
                    obtain rfl := hs.int 0 rfl
                    refine WL.bin (v := .bool (decide (x119.ID ≤ x145.ID))) rfl rfl (ib_leq _ _ _) ?_ (hg := (wanted_of rfl rfl (bool_tr rfl hc143)).trans rfl)
                    refine WL.pickT (v := .bool (decide (x119.ID ≤ x145.ID))) (bool_tr rfl hc143) rfl ?_ (hg := (wanted_of rfl rfl (bool_tr rfl hc142)).trans rfl)
                    refine WL.pickF (v := .bool (decide (x119.ID ≤ x145.ID))) (bool_tr rfl hc142) rfl ?_
                    refine WL.nil ?_
                    exact Jk126 (decide (x119.ID ≤ x145.ID)) _ _ h110_0 h110_3 h110_4 h110_5 h110_6 h110_7 h110_8 rfl ((hs.mask [true, true, true, true]).pick [8, 9, 10, 11, 12]) hf
                  · refine WL.pass ((wanted_of rfl rfl (bool_tr rfl hc143)).trans rfl) rfl ?_
                    refine WL.pass ((wanted_of rfl rfl (bool_tr rfl hc143)).trans rfl) rfl ?_
                    refine WL.pass ((wanted_of rfl rfl (bool_tr rfl hc143)).trans rfl) rfl ?_
                    refine WL.pass ((wanted_of rfl rfl (bool_tr rfl hc143)).trans rfl) rfl ?_
                    refine WL.pass ((wanted_of rfl rfl (bool_tr rfl hc143)).trans rfl) rfl ?_
                    refine WL.pass ((wanted_of rfl rfl (bool_tr rfl hc143)).trans rfl) rfl ?_
                    refine WL.pass ((wanted_of rfl rfl (bool_tr rfl hc143)).trans rfl) rfl ?_
                    refine WL.pass ((wanted_of rfl rfl (bool_tr rfl hc143)).trans rfl) rfl ?_
                    refine WL.pass ((wanted_of rfl rfl (bool_tr rfl hc143)).trans rfl) rfl ?_
                    refine WL.pickF (v := .bool false) (bool_tr rfl hc143) rfl ?_ (hg := (wanted_of rfl rfl (bool_tr rfl hc142)).trans rfl)
                    refine WL.pickF (v := .bool false) (bool_tr rfl hc142) rfl ?_
                    refine WL.nil ?_
                    exact Jk126 false _ _ h110_0 h110_3 h110_4 h110_5 h110_6 h110_7 h110_8 rfl ((hs.mask [true, true, true, true]).pick [5, 6, 7, 8, 9]) hf
        · refine W.cond_false (bool_tr rfl hc115) ?_
          refine W.exit ?_
          have hr := Option.some.inj hf; subst hr
          have hr := hbbs112 _ rfl; subst hr
          have hf := hfs112
          exact Jk71 x109 _ _ h110_0 h110_3 h110_4 h110_5 h110_6 h110_7 ((hs.mask [true, true, true, true]).pick [0, 1, 2, 3, 4]) hf
      obtain ⟨x151, hxx151, hf⟩ := bindE hf
      obtain ⟨⟨x156, x157, x158⟩, hxx156, hf⟩ := bindE hf
      refine W.any (by kernel_rfl) 8 4 [true, true, true, true, true, true, true, true, false, false, false, false] rfl rfl (poAt [pv (.agg ([.int .i64 x31, .slice a33 x32.length c34, .slice a36 x35.length c37] : List Value).toArray), pv (.agg ([.int .i64 x31, .slice a33 x32.length c34, .slice a36 x35.length c37] : List Value).toArray), pv (.slice a2 x1.length c3), pv (.int .i64 x30), pq (fun y : Addr => .pointer (some y)) (fun v => [pl t_elasticstorelaw34_Act x151 (adOf v)]) (fun v => []), pq (fun y : List Value => .agg y.toArray) (fun v => [vl t_elasticstorelaw34_Act x151 v]) (fun v => []), pq (fun y : (List Value) × (List Value) => .tuple #[.agg y.1.toArray, .agg y.2.toArray, .bool x158]) (fun v => [vl t_network_Network x156 (partOf v 0), vl t_network_Network x157 (partOf v 1)]) (fun v => []), pn [6] (fun r => r.getD 0 undef)]) (Λ := [blk g55 27 [.int .i64 x31, .slice a33 x32.length c34, .slice a36 x35.length c37], mapo (fun a : Int => .int .i64 a) tBool g20 x28, blk g18 27 [.int .i64 x31, .slice a33 x32.length c34, .slice a36 x35.length c37]]) hs (by kernel_rfl) (by kernel_rfl) (by kernel_rfl) ⟨⟨⟨⟨⟨⟨⟨⟨trivial, ?_⟩, ?_⟩, ?_⟩, ?_⟩, ?_⟩, ?_⟩, ?_⟩, ?_⟩ ?_
      · intro ρ w Γx Λx hs hu hp
        refine WL.loadN (vs := [.int .i64 x31, .slice a33 x32.length c34, .slice a36 x35.length c37]) hs (Λx.length + 2) (getApp rfl) TI27 ((hu 3 rfl).trans h29_3) rfl rfl ?_
        exact WL.nil ⟨rfl, _, rfl, rfl, hs.cutG 0 0⟩
      · intro ρ w Γx Λx hs hu hp
        refine WL.loadN (vs := [.int .i64 x31, .slice a33 x32.length c34, .slice a36 x35.length c37]) hs (Λx.length + 2) (getApp rfl) TI27 ((hu 3 rfl).trans h29_3) rfl rfl ?_
        exact WL.nil ⟨rfl, _, rfl, rfl, hs.cutG 0 0⟩
      · intro ρ w Γx Λx hs hu hp
        refine WL.move (v := .slice a2 x1.length c3) ((hu 0 rfl).trans h29_0) ?_
        exact WL.nil ⟨rfl, _, rfl, rfl, hs.cutG 0 0⟩
      · intro ρ w Γx Λx hs hu hp
        refine WL.move (v := .int .i64 x30) ((hu 5 rfl).trans h29_5) ?_
        exact WL.nil ⟨rfl, _, rfl, rfl, hs.cutG 0 0⟩
      · intro ρ w Γx Λx hs hu hp
        have e163 : ρ 27 = .slice a2 x1.length c3 := (hp 2 rfl).1
        have e164 : ρ 28 = .int .i64 x30 := (hp 3 rfl).1
        refine WL.indexAddr hs (Γx.length + 0) (getApp rfl) UN22 TI33 e163 e164 hxx151 (fun ad152 hs => ?_)
        have hs := hs.add (it := pl t_elasticstorelaw34_Act x151 ad152) fun ok hA => hA.get 0 rfl
        exact WL.nil ⟨rfl, _, rfl, ⟨ad152, rfl⟩, hs.cutG 1 1⟩
      · intro ρ w Γx Λx hs hu hp
        obtain ⟨⟨ad165, e166r⟩, hm167⟩ := hp 4 rfl
        have e166 : ρ 29 = .pointer (some ad165) := e166r
        rw [e166r] at hm167
        have hs := hs.memo1 (it := pl t_elasticstorelaw34_Act x151 ad165) (List.mem_append.2 (.inl (hm167 _ (List.mem_of_getElem? (i := 0) rfl))))
        refine WL.loadP hs 0 rfl TI33 (.inl rfl) e166 (fun v153 hs => ?_)
        obtain ⟨cs154, hl155, rfl⟩ := hs.aggv (n := 4) 0 rfl rfl rfl
        have hs := hs.add (it := vl t_elasticstorelaw34_Act x151 (.agg cs154.toArray)) fun ok hA => hA.get 0 rfl
        exact WL.nil ⟨rfl, _, rfl, ⟨cs154, rfl⟩, hs.cutG 1 2⟩
      · intro ρ w Γx Λx hs hu hp
        have e168 : ρ 25 = .agg ([.int .i64 x31, .slice a33 x32.length c34, .slice a36 x35.length c37] : List Value).toArray := (hp 0 rfl).1
        have e169 : ρ 26 = .agg ([.int .i64 x31, .slice a33 x32.length c34, .slice a36 x35.length c37] : List Value).toArray := (hp 1 rfl).1
        obtain ⟨⟨cs170, e172r⟩, hm173⟩ := hp 5 rfl
        have e172 : ρ 30 = .agg cs170.toArray := e172r
        rw [e172r] at hm173
        have hs := hs.memo1 (it := vl t_elasticstorelaw34_Act x151 (.agg cs170.toArray)) (List.mem_append.2 (.inl (hm173 _ (List.mem_of_getElem? (i := 0) rfl))))
        have hl171 := hs.agglen (n := 4) 0 rfl rfl rfl
        have hs := hs.add (it := vl t_network_Network (⟨x31, x32, x35⟩ : network_Network) (.agg [.int .i64 x31, .slice a33 x32.length c34, .slice a36 x35.length c37].toArray)) fun ok hA => V_agg (show t_network_Network.R ok _ _ _ from ⟨[.int .i64 x31], [.slice a33 x32.length c34, .slice a36 x35.length c37], rfl, rfl, ⟨[.slice a33 x32.length c34], [.slice a36 x35.length c37], rfl, (R_one (hA.get (Γx.length + 1 + 1) (getApp1 rfl))), (R_one (hA.get (Γx.length + 2 + 1) (getApp1 rfl)))⟩⟩) rfl
        have hs := hs.add (it := vl t_network_Network (⟨x31, x32, x35⟩ : network_Network) (.agg [.int .i64 x31, .slice a33 x32.length c34, .slice a36 x35.length c37].toArray)) fun ok hA => V_agg (show t_network_Network.R ok _ _ _ from ⟨[.int .i64 x31], [.slice a33 x32.length c34, .slice a36 x35.length c37], rfl, rfl, ⟨[.slice a33 x32.length c34], [.slice a36 x35.length c37], rfl, (R_one (hA.get (Γx.length + 1 + 2) (getApp2 rfl))), (R_one (hA.get (Γx.length + 2 + 2) (getApp2 rfl)))⟩⟩) rfl
        refine WL.call (vs := [.agg ([.int .i64 x31, .slice a33 x32.length c34, .slice a36 x35.length c37] : List Value).toArray, .agg ([.int .i64 x31, .slice a33 x32.length c34, .slice a36 x35.length c37] : List Value).toArray, .agg cs170.toArray]) hs FN19 ⟨e168, ⟨e169, ⟨e172, trivial⟩⟩⟩ (fun ok hA => eslaw34_step.calls (x1 := (⟨x31, x32, x35⟩ : network_Network)) (x5 := (⟨x31, x32, x35⟩ : network_Network)) (x9 := x151) hxx156 (hA.get 1 rfl) (hA.get 0 rfl) (hA.get 2 rfl)) ?_
        rintro ⟨cs159, cs160⟩ w hs
        have hl161 := hs.agglen (n := 3) 0 rfl rfl rfl
        have hl162 := hs.agglen (n := 3) 1 rfl rfl rfl
        have hs := hs.add (it := vl t_network_Network x157 (.agg cs160.toArray)) fun ok hA => hA.get 1 rfl
        have hs := hs.add (it := vl t_network_Network x156 (.agg cs159.toArray)) fun ok hA => hA.get 1 rfl
        exact WL.nil ⟨rfl, _, rfl, ⟨(cs159, cs160), rfl⟩, hs.cutG 2 5⟩
      · intro ρ w Γx Λx hs hu hp
        obtain ⟨⟨⟨cs174, cs176⟩, e178r⟩, hm179⟩ := hp 6 rfl
        have e178 : ρ 31 = .tuple #[.agg cs174.toArray, .agg cs176.toArray, .bool x158] := e178r
        rw [e178r] at hm179
        have hs := hs.memo1 (it := vl t_network_Network x157 (.agg cs176.toArray)) (List.mem_append.2 (.inl (hm179 _ (List.mem_of_getElem? (i := 1) rfl))))
        have hs := hs.memo1 (it := vl t_network_Network x156 (.agg cs174.toArray)) (List.mem_cons_of_mem _ (List.mem_append.2 (.inl (hm179 _ (List.mem_of_getElem? (i := 0) rfl)))))
        have hl175 := hs.agglen (n := 3) 0 rfl rfl rfl
        have hl177 := hs.agglen (n := 3) 1 rfl rfl rfl
        refine WL.move (v := .tuple #[.agg cs174.toArray, .agg cs176.toArray, .bool x158]) e178 ?_
        exact WL.nil ⟨rfl, _, rfl, (show (.tuple #[.agg cs174.toArray, .agg cs176.toArray, .bool x158] : Value) = (ρ 31 : Value) by rw [e178]), hs.cutG 0 2⟩
      · intro ρ w hs hu180 hp
        obtain ⟨⟨⟨⟨⟨⟨⟨⟨_, hp0_⟩, hp1_⟩, hp2_⟩, hp3_⟩, hp4_⟩, hp5_⟩, hp6_⟩, hp7_⟩ := hp
        have hs : St ok (bz w0) w [vl t_network_Network x156 (partOf (ρ 31) 0), vl t_network_Network x157 (partOf (ρ 31) 1), vl t_elasticstorelaw34_Act x151 (ρ 30), pl t_elasticstorelaw34_Act x151 (adOf (ρ 29)), vl (tSlice t_elasticstorelaw34_Act) x1 (.slice a2 x1.length c3), vl (tSlice t_network_Packet) x32 (.slice a33 x32.length c34), vl (tSlice t_network_Side) x35 (.slice a36 x35.length c37)] [blk g55 27 [.int .i64 x31, .slice a33 x32.length c34, .slice a36 x35.length c37], mapo (fun a : Int => .int .i64 a) tBool g20 x28, blk g18 27 [.int .i64 x31, .slice a33 x32.length c34, .slice a36 x35.length c37]] := hs
        obtain ⟨⟨cs181, cs183⟩, e185⟩ := hp6_
        have e185 : ρ 31 = .tuple #[.agg cs181.toArray, .agg cs183.toArray, .bool x158] := e185
        try rw [e185] at hs
        obtain ⟨cs186, e188⟩ := hp5_
        have e188 : ρ 30 = .agg cs186.toArray := e188
        try rw [e188] at hs
        obtain ⟨ad189, e190⟩ := hp4_
        have e190 : ρ 29 = .pointer (some ad189) := e190
        try rw [e190] at hs
        have e191 : ρ 28 = .int .i64 x30 := hp3_
        have e192 : ρ 27 = .slice a2 x1.length c3 := hp2_
        have e193 : ρ 26 = .agg ([.int .i64 x31, .slice a33 x32.length c34, .slice a36 x35.length c37] : List Value).toArray := hp1_
        have e194 : ρ 25 = .agg ([.int .i64 x31, .slice a33 x32.length c34, .slice a36 x35.length c37] : List Value).toArray := hp0_
        have e195 : ρ 24 = ρ 31 := hp7_
        rw [e185] at e195
        have hl187 := hs.agglen (n := 4) 2 rfl rfl rfl
        have hl182 := hs.agglen (n := 3) 0 rfl rfl rfl
        have hl184 := hs.agglen (n := 3) 1 rfl rfl rfl
        refine WA.step [8, 9, 10] (by kernel_rfl) (by simp) ⟨?_, ?_, ?_, trivial⟩
        · refine WL.extract (v := .agg cs181.toArray) e195 rfl ?_
          refine WL.nil ⟨rfl, _, rfl, ?_⟩
          refine WA.step [9, 10, 11] (by kernel_rfl) (by simp) ⟨?_, ?_, ?_, trivial⟩
          · refine WL.extract (v := .agg cs183.toArray) e195 rfl ?_
            refine WL.nil ⟨rfl, _, rfl, ?_⟩
            refine WA.step [10, 11] (by kernel_rfl) (by simp) ⟨?_, ?_, trivial⟩
            · refine WL.extract (v := .bool x158) e195 rfl ?_
              refine WL.nil ⟨rfl, _, rfl, ?_⟩
              refine WA.step [11] (by kernel_rfl) (by simp) ⟨?_, trivial⟩
              refine WL.storeAll (vs := cs181) hs 2 rfl TI27 ((hu180 3 rfl).trans h29_3) rfl rfl hl182 (hs.ones 0 rfl rfl) rfl (fun w hs => ?_)
              refine WL.nil ⟨rfl, _, rfl, ?_⟩
              refine WA.done (by kernel_rfl) ?_
              obtain ⟨a200, c201, a202, c203, rfl⟩ := open_network_Network hs 0 rfl
              have hs := hs.add (it := vl (tSlice t_network_Packet) x156.Packets (.slice a200 (x156.Packets).length c201)) fun ok hA => V_fld F_network_Network_Packets (hA.get 0 rfl) rfl rfl rfl
              have hs := hs.add (it := vl (tSlice t_network_Side) x156.Sides (.slice a202 (x156.Sides).length c203)) fun ok hA => V_fld F_network_Network_Sides (hA.get 1 rfl) rfl rfl rfl
              exact Jk65 x156.Next x156.Packets x156.Sides a200 c201 a202 c203 _ _ ((hu180 0 rfl).trans h29_0) ((hu180 3 rfl).trans h29_3) ((hu180 4 rfl).trans h29_4) ((hu180 5 rfl).trans h29_5) (hu180 6 rfl) ((hs.mask [true, true, true]).pick [6, 7, 8, 1, 0]) hf
            · refine WL.storeAll (vs := cs181) hs 2 rfl TI27 ((hu180 3 rfl).trans h29_3) rfl rfl hl182 (hs.ones 0 rfl rfl) rfl (fun w hs => ?_)
              refine WL.nil ⟨rfl, _, rfl, ?_⟩
              refine WA.step [10] (by kernel_rfl) (by simp) ⟨?_, trivial⟩
              refine WL.extract (v := .bool x158) e195 rfl ?_
              refine WL.nil ⟨rfl, _, rfl, ?_⟩
              refine WA.done (by kernel_rfl) ?_
              obtain ⟨a200, c201, a202, c203, rfl⟩ := open_network_Network hs 0 rfl
              have hs := hs.add (it := vl (tSlice t_network_Packet) x156.Packets (.slice a200 (x156.Packets).length c201)) fun ok hA => V_fld F_network_Network_Packets (hA.get 0 rfl) rfl rfl rfl
              have hs := hs.add (it := vl (tSlice t_network_Side) x156.Sides (.slice a202 (x156.Sides).length c203)) fun ok hA => V_fld F_network_Network_Sides (hA.get 1 rfl) rfl rfl rfl
              exact Jk65 x156.Next x156.Packets x156.Sides a200 c201 a202 c203 _ _ ((hu180 0 rfl).trans h29_0) ((hu180 3 rfl).trans h29_3) ((hu180 4 rfl).trans h29_4) ((hu180 5 rfl).trans h29_5) (hu180 6 rfl) ((hs.mask [true, true, true]).pick [6, 7, 8, 1, 0]) hf
          · refine WL.extract (v := .bool x158) e195 rfl ?_
            refine WL.nil ⟨rfl, _, rfl, ?_⟩
            refine WA.step [9, 11] (by kernel_rfl) (by simp) ⟨?_, ?_, trivial⟩
            · refine WL.extract (v := .agg cs183.toArray) e195 rfl ?_
              refine WL.nil ⟨rfl, _, rfl, ?_⟩
              refine WA.step [11] (by kernel_rfl) (by simp) ⟨?_, trivial⟩
              refine WL.storeAll (vs := cs181) hs 2 rfl TI27 ((hu180 3 rfl).trans h29_3) rfl rfl hl182 (hs.ones 0 rfl rfl) rfl (fun w hs => ?_)
              refine WL.nil ⟨rfl, _, rfl, ?_⟩
              refine WA.done (by kernel_rfl) ?_
              obtain ⟨a200, c201, a202, c203, rfl⟩ := open_network_Network hs 0 rfl
              have hs := hs.add (it := vl (tSlice t_network_Packet) x156.Packets (.slice a200 (x156.Packets).length c201)) fun ok hA => V_fld F_network_Network_Packets (hA.get 0 rfl) rfl rfl rfl
              have hs := hs.add (it := vl (tSlice t_network_Side) x156.Sides (.slice a202 (x156.Sides).length c203)) fun ok hA => V_fld F_network_Network_Sides (hA.get 1 rfl) rfl rfl rfl
              exact Jk65 x156.Next x156.Packets x156.Sides a200 c201 a202 c203 _ _ ((hu180 0 rfl).trans h29_0) ((hu180 3 rfl).trans h29_3) ((hu180 4 rfl).trans h29_4) ((hu180 5 rfl).trans h29_5) (hu180 6 rfl) ((hs.mask [true, true, true]).pick [6, 7, 8, 1, 0]) hf
            · refine WL.storeAll (vs := cs181) hs 2 rfl TI27 ((hu180 3 rfl).trans h29_3) rfl rfl hl182 (hs.ones 0 rfl rfl) rfl (fun w hs => ?_)
              refine WL.nil ⟨rfl, _, rfl, ?_⟩
              refine WA.step [9] (by kernel_rfl) (by simp) ⟨?_, trivial⟩
              refine WL.extract (v := .agg cs183.toArray) e195 rfl ?_
              refine WL.nil ⟨rfl, _, rfl, ?_⟩
              refine WA.done (by kernel_rfl) ?_
              obtain ⟨a200, c201, a202, c203, rfl⟩ := open_network_Network hs 0 rfl
              have hs := hs.add (it := vl (tSlice t_network_Packet) x156.Packets (.slice a200 (x156.Packets).length c201)) fun ok hA => V_fld F_network_Network_Packets (hA.get 0 rfl) rfl rfl rfl
              have hs := hs.add (it := vl (tSlice t_network_Side) x156.Sides (.slice a202 (x156.Sides).length c203)) fun ok hA => V_fld F_network_Network_Sides (hA.get 1 rfl) rfl rfl rfl
              exact Jk65 x156.Next x156.Packets x156.Sides a200 c201 a202 c203 _ _ ((hu180 0 rfl).trans h29_0) ((hu180 3 rfl).trans h29_3) ((hu180 4 rfl).trans h29_4) ((hu180 5 rfl).trans h29_5) (hu180 6 rfl) ((hs.mask [true, true, true]).pick [6, 7, 8, 1, 0]) hf
          · refine WL.storeAll (vs := cs181) hs 2 rfl TI27 ((hu180 3 rfl).trans h29_3) rfl rfl hl182 (hs.ones 0 rfl rfl) rfl (fun w hs => ?_)
            refine WL.nil ⟨rfl, _, rfl, ?_⟩
            refine WA.step [9, 10] (by kernel_rfl) (by simp) ⟨?_, ?_, trivial⟩
            · refine WL.extract (v := .agg cs183.toArray) e195 rfl ?_
              refine WL.nil ⟨rfl, _, rfl, ?_⟩
              refine WA.step [10] (by kernel_rfl) (by simp) ⟨?_, trivial⟩
              refine WL.extract (v := .bool x158) e195 rfl ?_
              refine WL.nil ⟨rfl, _, rfl, ?_⟩
              refine WA.done (by kernel_rfl) ?_
              obtain ⟨a200, c201, a202, c203, rfl⟩ := open_network_Network hs 0 rfl
              have hs := hs.add (it := vl (tSlice t_network_Packet) x156.Packets (.slice a200 (x156.Packets).length c201)) fun ok hA => V_fld F_network_Network_Packets (hA.get 0 rfl) rfl rfl rfl
              have hs := hs.add (it := vl (tSlice t_network_Side) x156.Sides (.slice a202 (x156.Sides).length c203)) fun ok hA => V_fld F_network_Network_Sides (hA.get 1 rfl) rfl rfl rfl
              exact Jk65 x156.Next x156.Packets x156.Sides a200 c201 a202 c203 _ _ ((hu180 0 rfl).trans h29_0) ((hu180 3 rfl).trans h29_3) ((hu180 4 rfl).trans h29_4) ((hu180 5 rfl).trans h29_5) (hu180 6 rfl) ((hs.mask [true, true, true]).pick [6, 7, 8, 1, 0]) hf
            · refine WL.extract (v := .bool x158) e195 rfl ?_
              refine WL.nil ⟨rfl, _, rfl, ?_⟩
              refine WA.step [9] (by kernel_rfl) (by simp) ⟨?_, trivial⟩
              refine WL.extract (v := .agg cs183.toArray) e195 rfl ?_
              refine WL.nil ⟨rfl, _, rfl, ?_⟩
              refine WA.done (by kernel_rfl) ?_
              obtain ⟨a200, c201, a202, c203, rfl⟩ := open_network_Network hs 0 rfl
              have hs := hs.add (it := vl (tSlice t_network_Packet) x156.Packets (.slice a200 (x156.Packets).length c201)) fun ok hA => V_fld F_network_Network_Packets (hA.get 0 rfl) rfl rfl rfl
              have hs := hs.add (it := vl (tSlice t_network_Side) x156.Sides (.slice a202 (x156.Sides).length c203)) fun ok hA => V_fld F_network_Network_Sides (hA.get 1 rfl) rfl rfl rfl
              exact Jk65 x156.Next x156.Packets x156.Sides a200 c201 a202 c203 _ _ ((hu180 0 rfl).trans h29_0) ((hu180 3 rfl).trans h29_3) ((hu180 4 rfl).trans h29_4) ((hu180 5 rfl).trans h29_5) (hu180 6 rfl) ((hs.mask [true, true, true]).pick [6, 7, 8, 1, 0]) hf
        · refine WL.extract (v := .agg cs183.toArray) e195 rfl ?_
          refine WL.nil ⟨rfl, _, rfl, ?_⟩
          refine WA.step [8, 10] (by kernel_rfl) (by simp) ⟨?_, ?_, trivial⟩
          · refine WL.extract (v := .agg cs181.toArray) e195 rfl ?_
            refine WL.nil ⟨rfl, _, rfl, ?_⟩
            refine WA.step [10, 11] (by kernel_rfl) (by simp) ⟨?_, ?_, trivial⟩
            · refine WL.extract (v := .bool x158) e195 rfl ?_
              refine WL.nil ⟨rfl, _, rfl, ?_⟩
              refine WA.step [11] (by kernel_rfl) (by simp) ⟨?_, trivial⟩
              refine WL.storeAll (vs := cs181) hs 2 rfl TI27 ((hu180 3 rfl).trans h29_3) rfl rfl hl182 (hs.ones 0 rfl rfl) rfl (fun w hs => ?_)
              refine WL.nil ⟨rfl, _, rfl, ?_⟩
              refine WA.done (by kernel_rfl) ?_
              obtain ⟨a200, c201, a202, c203, rfl⟩ := open_network_Network hs 0 rfl
              have hs := hs.add (it := vl (tSlice t_network_Packet) x156.Packets (.slice a200 (x156.Packets).length c201)) fun ok hA => V_fld F_network_Network_Packets (hA.get 0 rfl) rfl rfl rfl
              have hs := hs.add (it := vl (tSlice t_network_Side) x156.Sides (.slice a202 (x156.Sides).length c203)) fun ok hA => V_fld F_network_Network_Sides (hA.get 1 rfl) rfl rfl rfl
              exact Jk65 x156.Next x156.Packets x156.Sides a200 c201 a202 c203 _ _ ((hu180 0 rfl).trans h29_0) ((hu180 3 rfl).trans h29_3) ((hu180 4 rfl).trans h29_4) ((hu180 5 rfl).trans h29_5) (hu180 6 rfl) ((hs.mask [true, true, true]).pick [6, 7, 8, 1, 0]) hf
            · refine WL.storeAll (vs := cs181) hs 2 rfl TI27 ((hu180 3 rfl).trans h29_3) rfl rfl hl182 (hs.ones 0 rfl rfl) rfl (fun w hs => ?_)
              refine WL.nil ⟨rfl, _, rfl, ?_⟩
              refine WA.step [10] (by kernel_rfl) (by simp) ⟨?_, trivial⟩
              refine WL.extract (v := .bool x158) e195 rfl ?_
              refine WL.nil ⟨rfl, _, rfl, ?_⟩
              refine WA.done (by kernel_rfl) ?_
              obtain ⟨a200, c201, a202, c203, rfl⟩ := open_network_Network hs 0 rfl
              have hs := hs.add (it := vl (tSlice t_network_Packet) x156.Packets (.slice a200 (x156.Packets).length c201)) fun ok hA => V_fld F_network_Network_Packets (hA.get 0 rfl) rfl rfl rfl
              have hs := hs.add (it := vl (tSlice t_network_Side) x156.Sides (.slice a202 (x156.Sides).length c203)) fun ok hA => V_fld F_network_Network_Sides (hA.get 1 rfl) rfl rfl rfl
              exact Jk65 x156.Next x156.Packets x156.Sides a200 c201 a202 c203 _ _ ((hu180 0 rfl).trans h29_0) ((hu180 3 rfl).trans h29_3) ((hu180 4 rfl).trans h29_4) ((hu180 5 rfl).trans h29_5) (hu180 6 rfl) ((hs.mask [true, true, true]).pick [6, 7, 8, 1, 0]) hf
          · refine WL.extract (v := .bool x158) e195 rfl ?_
            refine WL.nil ⟨rfl, _, rfl, ?_⟩
            refine WA.step [8] (by kernel_rfl) (by simp) ⟨?_, trivial⟩
            refine WL.extract (v := .agg cs181.toArray) e195 rfl ?_
            refine WL.nil ⟨rfl, _, rfl, ?_⟩
            refine WA.step [11] (by kernel_rfl) (by simp) ⟨?_, trivial⟩
            refine WL.storeAll (vs := cs181) hs 2 rfl TI27 ((hu180 3 rfl).trans h29_3) rfl rfl hl182 (hs.ones 0 rfl rfl) rfl (fun w hs => ?_)
            refine WL.nil ⟨rfl, _, rfl, ?_⟩
            refine WA.done (by kernel_rfl) ?_
            obtain ⟨a200, c201, a202, c203, rfl⟩ := open_network_Network hs 0 rfl
            have hs := hs.add (it := vl (tSlice t_network_Packet) x156.Packets (.slice a200 (x156.Packets).length c201)) fun ok hA => V_fld F_network_Network_Packets (hA.get 0 rfl) rfl rfl rfl
            have hs := hs.add (it := vl (tSlice t_network_Side) x156.Sides (.slice a202 (x156.Sides).length c203)) fun ok hA => V_fld F_network_Network_Sides (hA.get 1 rfl) rfl rfl rfl
            exact Jk65 x156.Next x156.Packets x156.Sides a200 c201 a202 c203 _ _ ((hu180 0 rfl).trans h29_0) ((hu180 3 rfl).trans h29_3) ((hu180 4 rfl).trans h29_4) ((hu180 5 rfl).trans h29_5) (hu180 6 rfl) ((hs.mask [true, true, true]).pick [6, 7, 8, 1, 0]) hf
        · refine WL.extract (v := .bool x158) e195 rfl ?_
          refine WL.nil ⟨rfl, _, rfl, ?_⟩
          refine WA.step [8, 9] (by kernel_rfl) (by simp) ⟨?_, ?_, trivial⟩
          · refine WL.extract (v := .agg cs181.toArray) e195 rfl ?_
            refine WL.nil ⟨rfl, _, rfl, ?_⟩
            refine WA.step [9, 11] (by kernel_rfl) (by simp) ⟨?_, ?_, trivial⟩
            · refine WL.extract (v := .agg cs183.toArray) e195 rfl ?_
              refine WL.nil ⟨rfl, _, rfl, ?_⟩
              refine WA.step [11] (by kernel_rfl) (by simp) ⟨?_, trivial⟩
              refine WL.storeAll (vs := cs181) hs 2 rfl TI27 ((hu180 3 rfl).trans h29_3) rfl rfl hl182 (hs.ones 0 rfl rfl) rfl (fun w hs => ?_)
              refine WL.nil ⟨rfl, _, rfl, ?_⟩
              refine WA.done (by kernel_rfl) ?_
              obtain ⟨a200, c201, a202, c203, rfl⟩ := open_network_Network hs 0 rfl
              have hs := hs.add (it := vl (tSlice t_network_Packet) x156.Packets (.slice a200 (x156.Packets).length c201)) fun ok hA => V_fld F_network_Network_Packets (hA.get 0 rfl) rfl rfl rfl
              have hs := hs.add (it := vl (tSlice t_network_Side) x156.Sides (.slice a202 (x156.Sides).length c203)) fun ok hA => V_fld F_network_Network_Sides (hA.get 1 rfl) rfl rfl rfl
              exact Jk65 x156.Next x156.Packets x156.Sides a200 c201 a202 c203 _ _ ((hu180 0 rfl).trans h29_0) ((hu180 3 rfl).trans h29_3) ((hu180 4 rfl).trans h29_4) ((hu180 5 rfl).trans h29_5) (hu180 6 rfl) ((hs.mask [true, true, true]).pick [6, 7, 8, 1, 0]) hf
            · refine WL.storeAll (vs := cs181) hs 2 rfl TI27 ((hu180 3 rfl).trans h29_3) rfl rfl hl182 (hs.ones 0 rfl rfl) rfl (fun w hs => ?_)
              refine WL.nil ⟨rfl, _, rfl, ?_⟩
              refine WA.step [9] (by kernel_rfl) (by simp) ⟨?_, trivial⟩
              refine WL.extract (v := .agg cs183.toArray) e195 rfl ?_
              refine WL.nil ⟨rfl, _, rfl, ?_⟩
              refine WA.done (by kernel_rfl) ?_
              obtain ⟨a200, c201, a202, c203, rfl⟩ := open_network_Network hs 0 rfl
              have hs := hs.add (it := vl (tSlice t_network_Packet) x156.Packets (.slice a200 (x156.Packets).length c201)) fun ok hA => V_fld F_network_Network_Packets (hA.get 0 rfl) rfl rfl rfl
              have hs := hs.add (it := vl (tSlice t_network_Side) x156.Sides (.slice a202 (x156.Sides).length c203)) fun ok hA => V_fld F_network_Network_Sides (hA.get 1 rfl) rfl rfl rfl
              exact Jk65 x156.Next x156.Packets x156.Sides a200 c201 a202 c203 _ _ ((hu180 0 rfl).trans h29_0) ((hu180 3 rfl).trans h29_3) ((hu180 4 rfl).trans h29_4) ((hu180 5 rfl).trans h29_5) (hu180 6 rfl) ((hs.mask [true, true, true]).pick [6, 7, 8, 1, 0]) hf
          · refine WL.extract (v := .agg cs183.toArray) e195 rfl ?_
            refine WL.nil ⟨rfl, _, rfl, ?_⟩
            refine WA.step [8] (by kernel_rfl) (by simp) ⟨?_, trivial⟩
            refine WL.extract (v := .agg cs181.toArray) e195 rfl ?_
            refine WL.nil ⟨rfl, _, rfl, ?_⟩
            refine WA.step [11] (by kernel_rfl) (by simp) ⟨?_, trivial⟩
            refine WL.storeAll (vs := cs181) hs 2 rfl TI27 ((hu180 3 rfl).trans h29_3) rfl rfl hl182 (hs.ones 0 rfl rfl) rfl (fun w hs => ?_)
            refine WL.nil ⟨rfl, _, rfl, ?_⟩
            refine WA.done (by kernel_rfl) ?_
            obtain ⟨a200, c201, a202, c203, rfl⟩ := open_network_Network hs 0 rfl
            have hs := hs.add (it := vl (tSlice t_network_Packet) x156.Packets (.slice a200 (x156.Packets).length c201)) fun ok hA => V_fld F_network_Network_Packets (hA.get 0 rfl) rfl rfl rfl
            have hs := hs.add (it := vl (tSlice t_network_Side) x156.Sides (.slice a202 (x156.Sides).length c203)) fun ok hA => V_fld F_network_Network_Sides (hA.get 1 rfl) rfl rfl rfl
            exact Jk65 x156.Next x156.Packets x156.Sides a200 c201 a202 c203 _ _ ((hu180 0 rfl).trans h29_0) ((hu180 3 rfl).trans h29_3) ((hu180 4 rfl).trans h29_4) ((hu180 5 rfl).trans h29_5) (hu180 6 rfl) ((hs.mask [true, true, true]).pick [6, 7, 8, 1, 0]) hf
    · refine W.cond_false (bool_tr rfl hc41) ?_
      refine W.exit ?_
      have hr := Option.some.inj hf; subst hr
      have hr := hbbs38 _ rfl; subst hr
      have hf := hfs38
      exact Jk24 x28 _ _  ((hs.mask []).pick []) hf
end Go.Proofs.Ytahobbichanccaa
