import Derived.Test.YtahobbichanccaaFh
import Derived.Test.YtahobbichanccaaFp0
import Derived.Test.YtahobbichanccaaFp1
import Derived.Test.YtahobbichanccaaFp2
import Derived.Test.YtahobbichanccaaFp3
import Derived.Test.YtahobbichanccaaFp4
import Derived.Test.YtahobbichanccaaFp5
import Derived.Test.YtahobbichanccaaFp6
import Derived.Test.YtahobbichanccaaFp7
set_option linter.unusedVariables false
set_option linter.unusedSimpArgs false
namespace Go.Proofs.Ytahobbichanccaa
open Go Go.RowKit Go.Proofs.YtahobbichanccaaL
set_option maxRecDepth 100000
set_option maxHeartbeats 400000
/-! elasticstore/elasticstorelaw34.NetworkSides: function 3 -/
theorem eslaw34_NetworkSides.calls {ok : Nat → Prop} {w0 : World} {x1 : List elasticstorelaw34_Act} {x4 : List network_Side} {x7 : Int} {x8 : Int} {a2 : Option Addr} {c3 : Nat} {a5 : Option Addr} {c6 : Nat} {r : Bool} (hf : eslaw34_NetworkSides x1 x4 x7 x8 = some r) (i0 : (vl (tSlice t_elasticstorelaw34_Act) x1 (.slice a2 x1.length c3)).holds ok w0) (i1 : (vl (tSlice t_network_Side) x4 (.slice a5 x4.length c6)).holds ok w0) :
    Calls Try.prog 3 #[.slice a2 x1.length c3, .slice a5 x4.length c6, .int .i64 x7, .int .i64 x8] w0 fun e w' => ∃ v, e = .returned v ∧ ∃ y : Unit, v = .bool r ∧ St ok (bz w0) w' [] [] := by
  unfold eslaw34_NetworkSides at hf
  refine calls_of_W (fn := Try.f3) (N := 125) Try.func3 rfl Try.ntmps3 rfl ?_
  have hs : St ok (bz w0) w0 [vl (tSlice t_elasticstorelaw34_Act) x1 (.slice a2 x1.length c3), vl (tSlice t_network_Side) x4 (.slice a5 x4.length c6)] [] := St.init (All.cons i0 (All.cons i1 All.nil))
  clear i0 i1
  refine W.seqK fun K9 hK9 => ?_
  refine W.region ?_
  refine WL.assign (v := .bool false) rfl ?_
  refine WL.nil ?_
  refine hK9 _ _ ?_
  refine W.seqK fun K10 hK10 => ?_
  refine W.seqK fun K11 hK11 => ?_
  have Jk14 : ∀ (x13 : Bool) (ρ : Env) (w : World), ρ 0 = .slice a2 x1.length c3 → ρ 1 = .slice a5 x4.length c6 → ρ 2 = .int .i64 x7 → ρ 3 = .int .i64 x8 → ρ 25 = .bool x13 → St ok (bz w0) w [vl (tSlice t_elasticstorelaw34_Act) x1 (.slice a2 x1.length c3), vl (tSlice t_network_Side) x4 (.slice a5 x4.length c6)] [] → eslaw34_NetworkSides.j7 x1 x4 x7 x8 x13 = some r → K11 ρ w := by
    intro x13 ρ w h12_0 h12_1 h12_2 h12_3 h12_25 hs hf
    refine hK11 _ _ ?_
    unfold eslaw34_NetworkSides.j7 at hf
    rcases iteE hf with ⟨hc15, hf⟩ | ⟨hc15, hf⟩
    · refine W.cond_true (bool_tr h12_25 hc15) ?_
      refine W.seqK fun K16 hK16 => ?_
      refine W.region ?_
      obtain ⟨x17, hxx17, hf⟩ := bindE hf
      refine WL.call (vs := []) hs FN8 trivial (fun ok hA => eslaw34_awake.calls hxx17) ?_
      rintro _ w hs
      refine WL.assign (v := .bool x17) rfl ?_
      refine WL.nil ?_
      refine hK16 _ _ ?_
      refine W.ret ?_
      have hr := Option.some.inj hf; subst hr
      exact ⟨_, resOk_one rfl rfl, (), rfl, (hs.mask []).pick []⟩
    · refine W.cond_false (bool_tr h12_25 hc15) ?_
      refine W.skip ?_
      refine hK10 _ _ ?_
      refine W.seqK fun K18 hK18 => ?_
      refine W.region ?_
      obtain ⟨x19, hxx19, hf⟩ := bindE hf
      refine WL.call (vs := []) hs FN9 trivial (fun ok hA => network_New.calls hxx19) ?_
      rintro ⟨⟨a20, n21, c22⟩, ⟨a23, n24, c25⟩⟩ w hs
      refine WL.alloc hs ZV27 (fun g26 w hs => ?_)
      refine WL.storeAll (vs := [.int .i64 x19.Next, .slice a20 n21 c22, .slice a23 n24 c25]) hs 0 rfl TI27 rfl rfl rfl rfl (ones_of rfl) rfl (fun w hs => ?_)
      refine WL.nil ?_
      refine hK18 _ _ ?_
      refine W.seqK fun K27 hK27 => ?_
      have Jk36 : ∀ (x29 : Int) (x30 : List network_Packet) (x33 : List network_Side) (a31 : Option Addr) (c32 : Nat) (a34 : Option Addr) (c35 : Nat) (ρ : Env) (w : World), ρ 1 = .slice a5 x4.length c6 → ρ 2 = .int .i64 x7 → ρ 3 = .int .i64 x8 → ρ 9 = .pointer (some ⟨g26, 0, none⟩) → St ok (bz w0) w [vl (tSlice t_network_Side) x4 (.slice a5 x4.length c6), vl (tSlice t_network_Packet) x30 (.slice a31 x30.length c32), vl (tSlice t_network_Side) x33 (.slice a34 x33.length c35)] [blk g26 27 [.int .i64 x29, .slice a31 x30.length c32, .slice a34 x33.length c35]] → eslaw34_NetworkSides.j6 x4 x7 x8 x29 x30 x33 = some r → K27 ρ w := by
        intro x29 x30 x33 a31 c32 a34 c35 ρ w h28_1 h28_2 h28_3 h28_9 hs hf
        refine hK27 _ _ ?_
        unfold eslaw34_NetworkSides.j6 at hf
        refine W.seqK fun K37 hK37 => ?_
        refine W.region ?_
        refine WL.loadN (vs := [.int .i64 x29, .slice a31 x30.length c32, .slice a34 x33.length c35]) hs 0 rfl TI27 h28_9 rfl rfl ?_
        refine WL.move (v := .slice a5 x4.length c6) h28_1 ?_
        have hs := hs.add (it := vl t_network_Network (⟨x29, x30, x33⟩ : network_Network) (.agg [.int .i64 x29, .slice a31 x30.length c32, .slice a34 x33.length c35].toArray)) fun ok hA => V_agg (show t_network_Network.R ok _ _ _ from ⟨[.int .i64 x29], [.slice a31 x30.length c32, .slice a34 x33.length c35], rfl, rfl, ⟨[.slice a31 x30.length c32], [.slice a34 x33.length c35], rfl, (R_one (hA.get 1 rfl)), (R_one (hA.get 2 rfl))⟩⟩) rfl
        obtain ⟨x38, hxx38, hf⟩ := bindE hf
        refine WL.call (vs := [.agg ([.int .i64 x29, .slice a31 x30.length c32, .slice a34 x33.length c35] : List Value).toArray, .slice a5 x4.length c6]) hs FN12 ⟨rfl, ⟨rfl, trivial⟩⟩ (fun ok hA => network_Partition.calls (x1 := (⟨x29, x30, x33⟩ : network_Network)) (x5 := x4) hxx38 (hA.get 0 rfl) (hA.get 1 rfl)) ?_
        rintro ⟨⟨a39, n40, c41⟩, ⟨a42, n43, c44⟩⟩ w hs
        refine WL.alloc hs ZV27 (fun g45 w hs => ?_)
        refine WL.storeAll (vs := [.int .i64 x38.Next, .slice a39 n40 c41, .slice a42 n43 c44]) hs 0 rfl TI27 rfl rfl rfl rfl (ones_of rfl) rfl (fun w hs => ?_)
        refine WL.nil ?_
        refine hK37 _ _ ?_
        refine W.seqK fun K46 hK46 => ?_
        obtain rfl := hs.ownLen 1 rfl
        have hs := hs.freezeOwn 1 rfl
        obtain rfl := hs.ownLen 1 rfl
        have hs := hs.freezeOwn 1 rfl
        refine W.seqK fun K1947 hK1947 => ?_
        have Jk1950 : ∀ (x1949 : Bool) (ρ : Env) (w : World), ρ 9 = .pointer (some ⟨g26, 0, none⟩) → ρ 11 = .pointer (some ⟨g45, 0, none⟩) → ρ 58 = .bool x1949 → St ok (bz w0) w [vl (tSlice t_network_Packet) x38.Packets (.slice a39 (x38.Packets).length c41), vl (tSlice t_network_Side) x38.Sides (.slice a42 (x38.Sides).length c44), vl (tSlice t_network_Packet) x30 (.slice a31 x30.length c32), vl (tSlice t_network_Side) x33 (.slice a34 x33.length c35)] [blk g45 27 [.int .i64 x38.Next, .slice a39 (x38.Packets).length c41, .slice a42 (x38.Sides).length c44], blk g26 27 [.int .i64 x29, .slice a31 x30.length c32, .slice a34 x33.length c35]] → eslaw34_NetworkSides.j5 x29 x30 x33 x38 x1949 = some r → K1947 ρ w := by
          intro x1949 ρ w h1948_9 h1948_11 h1948_58 hs hf
          refine hK1947 _ _ ?_
          unfold eslaw34_NetworkSides.j5 at hf
          rcases iteE hf with ⟨hc1951, hf⟩ | ⟨hc1951, hf⟩
          · refine W.cond_true (bool_tr h1948_58 hc1951) ?_
            refine W.seqK fun K1952 hK1952 => ?_
            refine W.region ?_
            refine WL.assign (v := .bool false) rfl ?_
            refine WL.nil ?_
            refine hK1952 _ _ ?_
            refine W.ret ?_
            have hr := Option.some.inj hf; subst hr
            exact ⟨_, resOk_one rfl rfl, (), rfl, (hs.mask []).pick []⟩
          · refine W.cond_false (bool_tr h1948_58 hc1951) ?_
            refine W.skip ?_
            refine hK46 _ _ ?_
            refine W.seqK fun K1953 hK1953 => ?_
            refine W.region ?_
            refine WL.loadN (vs := [.int .i64 x38.Next, .slice a39 (x38.Packets).length c41, .slice a42 (x38.Sides).length c44]) hs 0 rfl TI27 h1948_11 rfl rfl ?_
            have hs := hs.add (it := vl t_network_Network (⟨x38.Next, x38.Packets, x38.Sides⟩ : network_Network) (.agg [.int .i64 x38.Next, .slice a39 (x38.Packets).length c41, .slice a42 (x38.Sides).length c44].toArray)) fun ok hA => V_agg (show t_network_Network.R ok _ _ _ from ⟨[.int .i64 x38.Next], [.slice a39 (x38.Packets).length c41, .slice a42 (x38.Sides).length c44], rfl, rfl, ⟨[.slice a39 (x38.Packets).length c41], [.slice a42 (x38.Sides).length c44], rfl, (R_one (hA.get 0 rfl)), (R_one (hA.get 1 rfl))⟩⟩) rfl
            obtain ⟨x1954, hxx1954, hf⟩ := bindE hf
            refine WL.call (vs := [.agg ([.int .i64 x38.Next, .slice a39 (x38.Packets).length c41, .slice a42 (x38.Sides).length c44] : List Value).toArray]) hs FN14 ⟨rfl, trivial⟩ (fun ok hA => network_Deliverable.calls (x1 := (⟨x38.Next, x38.Packets, x38.Sides⟩ : network_Network)) hxx1954 (hA.get 0 rfl)) ?_
            rintro ⟨a1955, n1956, c1957⟩ w hs
            refine WL.assign (v := .slice a1955 n1956 c1957) rfl ?_
            refine WL.nil ?_
            refine hK1953 _ _ ?_
            refine W.seqK fun K1958 hK1958 => ?_
            refine W.region ?_
            refine WL.assign (v := .int .i64 0) rfl ?_
            refine WL.nil ?_
            refine hK1958 _ _ ?_
            obtain rfl := hs.ownLen 0 rfl
            have hs := hs.freezeOwn 0 rfl
            refine W.seqK fun K2470 hK2470 => ?_
            have Jk2473 : ∀ (x2472 : Int) (ρ : Env) (w : World), ρ 9 = .pointer (some ⟨g26, 0, none⟩) → ρ 11 = .pointer (some ⟨g45, 0, none⟩) → ρ 12 = .slice a1955 x1954.length c1957 → ρ 13 = .int .i64 x2472 → St ok (bz w0) w [vl (tSlice (tInt .i64)) x1954 (.slice a1955 x1954.length c1957), vl (tSlice t_network_Packet) x38.Packets (.slice a39 (x38.Packets).length c41), vl (tSlice t_network_Side) x38.Sides (.slice a42 (x38.Sides).length c44), vl (tSlice t_network_Packet) x30 (.slice a31 x30.length c32), vl (tSlice t_network_Side) x33 (.slice a34 x33.length c35)] [blk g45 27 [.int .i64 x38.Next, .slice a39 (x38.Packets).length c41, .slice a42 (x38.Sides).length c44], blk g26 27 [.int .i64 x29, .slice a31 x30.length c32, .slice a34 x33.length c35]] → eslaw34_NetworkSides.j2 x29 x30 x33 x38 x1954 x2472 = some r → K2470 ρ w := by
              intro x2472 ρ w h2471_9 h2471_11 h2471_12 h2471_13 hs hf
              refine hK2470 _ _ ?_
              unfold eslaw34_NetworkSides.j2 at hf
              refine W.seqK fun K2474 hK2474 => ?_
              refine W.region ?_
              refine WL.loadN (vs := [.int .i64 x38.Next, .slice a39 (x38.Packets).length c41, .slice a42 (x38.Sides).length c44]) hs 0 rfl TI27 h2471_11 rfl rfl ?_
              have hs := hs.add (it := vl t_network_Network (⟨x38.Next, x38.Packets, x38.Sides⟩ : network_Network) (.agg [.int .i64 x38.Next, .slice a39 (x38.Packets).length c41, .slice a42 (x38.Sides).length c44].toArray)) fun ok hA => V_agg (show t_network_Network.R ok _ _ _ from ⟨[.int .i64 x38.Next], [.slice a39 (x38.Packets).length c41, .slice a42 (x38.Sides).length c44], rfl, rfl, ⟨[.slice a39 (x38.Packets).length c41], [.slice a42 (x38.Sides).length c44], rfl, (R_one (hA.get 1 rfl)), (R_one (hA.get 2 rfl))⟩⟩) rfl
              obtain ⟨x2475, hxx2475, hf⟩ := bindE hf
              refine WL.call (vs := [.agg ([.int .i64 x38.Next, .slice a39 (x38.Packets).length c41, .slice a42 (x38.Sides).length c44] : List Value).toArray]) hs FN15 ⟨rfl, trivial⟩ (fun ok hA => network_Heal.calls (x1 := (⟨x38.Next, x38.Packets, x38.Sides⟩ : network_Network)) hxx2475 (hA.get 0 rfl)) ?_
              rintro ⟨⟨a2476, n2477, c2478⟩, ⟨a2479, n2480, c2481⟩⟩ w hs
              refine WL.alloc hs ZV27 (fun g2482 w hs => ?_)
              refine WL.storeAll (vs := [.int .i64 x2475.Next, .slice a2476 n2477 c2478, .slice a2479 n2480 c2481]) hs 0 rfl TI27 rfl rfl rfl rfl (ones_of rfl) rfl (fun w hs => ?_)
              refine WL.nil ?_
              refine hK2474 _ _ ?_
              refine W.seqK fun K2483 hK2483 => ?_
              have Jk2486 : ∀ (x2485 : Bool) (ρ : Env) (w : World), ρ 8 = .bool x2485 → St ok (bz w0) w [] [] → eslaw34_NetworkSides.j1 x2485 = some r → K2483 ρ w := by
                intro x2485 ρ w h2484_8 hs hf
                refine hK2483 _ _ ?_
                unfold eslaw34_NetworkSides.j1 at hf
                refine W.ret ?_
                have hr := Option.some.inj hf; subst hr
                exact ⟨_, resOk_one rfl h2484_8, (), rfl, (hs.mask []).pick []⟩
              obtain rfl := hs.ownLen 1 rfl
              have hs := hs.freezeOwn 1 rfl
              obtain rfl := hs.ownLen 1 rfl
              have hs := hs.freezeOwn 1 rfl
              rcases iteE hf with ⟨hc2488, hf⟩ | ⟨hc2488, hf⟩
              · obtain ⟨x2489, hxx2489, hf⟩ := bindE hf
                rcases iteE hf with ⟨hc2492, hf⟩ | ⟨hc2492, hf⟩
                · obtain ⟨x2493, hxx2493, hf⟩ := bindE hf
                  rcases iteE hf with ⟨hc2494, hf⟩ | ⟨hc2494, hf⟩
                  · obtain ⟨x2495, hxx2495, hf⟩ := bindE hf
                    refine W.any (by kernel_rfl) 21 1 [true, true, true, true, true, true, true, true, true, true, true, true, true, true, true, true, true, true, true, true, true, false] rfl rfl (poAt [pv (.int .i64 x2472), pv (.slice a1955 x1954.length c1957), pv (.int .i64 (x1954.length : Int)), pv (.bool (x2472 == (x1954.length : Int))), pv (.bool (x2472 == (x1954.length : Int))), pv (.agg ([.int .i64 x2475.Next, .slice a2476 (x2475.Packets).length c2478, .slice a2479 (x2475.Sides).length c2481] : List Value).toArray), pq (fun y : (Option Addr × Nat) => .slice y.1 x2489.length y.2) (fun v => [vl (tSlice (tInt .i64)) x2489 v]) (fun v => []), pv (.int .i64 (x2489.length : Int)), pv (.pointer (some ⟨g26, 1, none⟩)), pv (.slice a31 x30.length c32), pv (.int .i64 (x30.length : Int)), pv (.bool ((x2489.length : Int) == (x30.length : Int))), pv (.bool ((x2489.length : Int) == (x30.length : Int))), pv (.bool ((x2489.length : Int) == (x30.length : Int))), pv (.agg ([.int .i64 x2475.Next, .slice a2476 (x2475.Packets).length c2478, .slice a2479 (x2475.Sides).length c2481] : List Value).toArray), pv (.agg ([.int .i64 x29, .slice a31 x30.length c32, .slice a34 x33.length c35] : List Value).toArray), pv (.bool x2493), pv (.bool x2493), pv (.bool x2493), pv (.bool x2495), pv (.bool x2495)]) (Λ := [blk g2482 27 [.int .i64 x2475.Next, .slice a2476 (x2475.Packets).length c2478, .slice a2479 (x2475.Sides).length c2481], blk g45 27 [.int .i64 x38.Next, .slice a39 (x38.Packets).length c41, .slice a42 (x38.Sides).length c44], blk g26 27 [.int .i64 x29, .slice a31 x30.length c32, .slice a34 x33.length c35]]) hs (by kernel_rfl) (by kernel_rfl) (by kernel_rfl) ⟨⟨⟨⟨⟨⟨⟨⟨⟨⟨⟨⟨⟨⟨⟨⟨⟨⟨⟨⟨⟨trivial, ?_⟩, ?_⟩, ?_⟩, ?_⟩, ?_⟩, ?_⟩, ?_⟩, ?_⟩, ?_⟩, ?_⟩, ?_⟩, ?_⟩, ?_⟩, ?_⟩, ?_⟩, ?_⟩, ?_⟩, ?_⟩, ?_⟩, ?_⟩, ?_⟩ ?_
                    · intro ρ w Γx Λx hs hu hp
                      refine WL.move (v := .int .i64 x2472) ((hu 13 rfl).trans h2471_13) ?_
                      exact WL.nil ⟨rfl, _, rfl, rfl, hs.cutG 0 0⟩
                    · intro ρ w Γx Λx hs hu hp
                      refine WL.move (v := .slice a1955 x1954.length c1957) ((hu 12 rfl).trans h2471_12) ?_
                      exact WL.nil ⟨rfl, _, rfl, rfl, hs.cutG 0 0⟩
                    · intro ρ w Γx Λx hs hu hp
                      have e2496 : ρ 105 = .slice a1955 x1954.length c1957 := (hp 1 rfl).1
                      refine WL.len (v := .slice a1955 x1954.length c1957) e2496 (len_slice UN36) ?_
                      exact WL.nil ⟨rfl, _, rfl, rfl, hs.cutG 0 0⟩
                    · intro ρ w Γx Λx hs hu hp
                      have e2497 : ρ 104 = .int .i64 x2472 := (hp 0 rfl).1
                      have e2498 : ρ 106 = .int .i64 (x1954.length : Int) := (hp 2 rfl).1
                      refine WL.bin (v := .bool (x2472 == (x1954.length : Int))) e2497 e2498 (ib_eql _ _ _) ?_
                      exact WL.nil ⟨rfl, _, rfl, rfl, hs.cutG 0 0⟩
                    · intro ρ w Γx Λx hs hu hp
                      have e2499 : ρ 107 = .bool (x2472 == (x1954.length : Int)) := (hp 3 rfl).1
                      refine WL.move (v := .bool (x2472 == (x1954.length : Int))) e2499 ?_
                      exact WL.nil ⟨rfl, _, rfl, rfl, hs.cutG 0 0⟩
                    · intro ρ w Γx Λx hs hu hp
                      have e2500 : ρ 108 = .bool (x2472 == (x1954.length : Int)) := (hp 4 rfl).1
                      refine WL.loadN (vs := [.int .i64 x2475.Next, .slice a2476 (x2475.Packets).length c2478, .slice a2479 (x2475.Sides).length c2481]) hs (Λx.length + 0) (getApp rfl) TI27 (hu 17 rfl) rfl rfl ?_ (hg := (wanted_of rfl rfl (bool_tr e2500 hc2488)).trans rfl)
                      exact WL.nil ⟨rfl, _, rfl, rfl, hs.cutG 0 0⟩
                    · intro ρ w Γx Λx hs hu hp
                      have e2501 : ρ 109 = .agg ([.int .i64 x2475.Next, .slice a2476 (x2475.Packets).length c2478, .slice a2479 (x2475.Sides).length c2481] : List Value).toArray := (hp 5 rfl).1
                      have e2502 : ρ 108 = .bool (x2472 == (x1954.length : Int)) := (hp 4 rfl).1
                      have hs := hs.add (it := vl t_network_Network (⟨x2475.Next, x2475.Packets, x2475.Sides⟩ : network_Network) (.agg [.int .i64 x2475.Next, .slice a2476 (x2475.Packets).length c2478, .slice a2479 (x2475.Sides).length c2481].toArray)) fun ok hA => V_agg (show t_network_Network.R ok _ _ _ from ⟨[.int .i64 x2475.Next], [.slice a2476 (x2475.Packets).length c2478, .slice a2479 (x2475.Sides).length c2481], rfl, rfl, ⟨[.slice a2476 (x2475.Packets).length c2478], [.slice a2479 (x2475.Sides).length c2481], rfl, (R_one (hA.get (Γx.length + 1) (getApp rfl))), (R_one (hA.get (Γx.length + 0) (getApp rfl)))⟩⟩) rfl
                      refine WL.call (vs := [.agg ([.int .i64 x2475.Next, .slice a2476 (x2475.Packets).length c2478, .slice a2479 (x2475.Sides).length c2481] : List Value).toArray]) hs FN14 ⟨e2501, trivial⟩ (fun ok hA => network_Deliverable.callc (x1 := (⟨x2475.Next, x2475.Packets, x2475.Sides⟩ : network_Network)) hxx2489 (hA.get 0 rfl)) ?_ (hg := (wanted_of rfl rfl (bool_tr e2502 hc2488)).trans rfl)
                      rintro ⟨a2490, c2491⟩ w hs
                      have hs := hs.add (it := vl (tSlice (tInt .i64)) x2489 (.slice a2490 x2489.length c2491)) fun ok hA => hA.get 0 rfl
                      exact WL.nil ⟨rfl, _, rfl, ⟨(a2490, c2491), rfl⟩, hs.cutG 1 2⟩
                    · intro ρ w Γx Λx hs hu hp
                      obtain ⟨⟨⟨a2503, c2504⟩, e2505r⟩, hm2506⟩ := hp 6 rfl
                      have e2505 : ρ 110 = .slice a2503 x2489.length c2504 := e2505r
                      rw [e2505r] at hm2506
                      have hs := hs.memo1 (it := vl (tSlice (tInt .i64)) x2489 (.slice a2503 x2489.length c2504)) (List.mem_append.2 (.inl (hm2506 _ (List.mem_of_getElem? (i := 0) rfl))))
                      have e2507 : ρ 108 = .bool (x2472 == (x1954.length : Int)) := (hp 4 rfl).1
                      refine WL.len (v := .slice a2503 x2489.length c2504) e2505 (len_slice UN36) ?_ (hg := (wanted_of rfl rfl (bool_tr e2507 hc2488)).trans rfl)
                      exact WL.nil ⟨rfl, _, rfl, rfl, hs.cutG 0 1⟩
                    · intro ρ w Γx Λx hs hu hp
                      have e2508 : ρ 108 = .bool (x2472 == (x1954.length : Int)) := (hp 4 rfl).1
                      refine WL.fieldAddr (m := 1) ((hu 9 rfl).trans h2471_9) FA27_1 rfl ?_ (hg := (wanted_of rfl rfl (bool_tr e2508 hc2488)).trans rfl)
                      exact WL.nil ⟨rfl, _, rfl, rfl, hs.cutG 0 0⟩
                    · intro ρ w Γx Λx hs hu hp
                      have e2509 : ρ 112 = .pointer (some ⟨g26, 1, none⟩) := (hp 8 rfl).1
                      have e2510 : ρ 108 = .bool (x2472 == (x1954.length : Int)) := (hp 4 rfl).1
                      refine WL.load1 (v := .slice a31 x30.length c32) hs (Λx.length + 2) (getApp rfl) TI25 e2509 rfl ?_ (hg := (wanted_of rfl rfl (bool_tr e2510 hc2488)).trans rfl)
                      exact WL.nil ⟨rfl, _, rfl, rfl, hs.cutG 0 0⟩
                    · intro ρ w Γx Λx hs hu hp
                      have e2511 : ρ 113 = .slice a31 x30.length c32 := (hp 9 rfl).1
                      have e2512 : ρ 108 = .bool (x2472 == (x1954.length : Int)) := (hp 4 rfl).1
                      refine WL.len (v := .slice a31 x30.length c32) e2511 (len_slice UN25) ?_ (hg := (wanted_of rfl rfl (bool_tr e2512 hc2488)).trans rfl)
                      exact WL.nil ⟨rfl, _, rfl, rfl, hs.cutG 0 0⟩
                    · intro ρ w Γx Λx hs hu hp
                      have e2513 : ρ 111 = .int .i64 (x2489.length : Int) := (hp 7 rfl).1
                      have e2514 : ρ 114 = .int .i64 (x30.length : Int) := (hp 10 rfl).1
                      have e2515 : ρ 108 = .bool (x2472 == (x1954.length : Int)) := (hp 4 rfl).1
                      refine WL.bin (v := .bool ((x2489.length : Int) == (x30.length : Int))) e2513 e2514 (ib_eql _ _ _) ?_ (hg := (wanted_of rfl rfl (bool_tr e2515 hc2488)).trans rfl)
                      exact WL.nil ⟨rfl, _, rfl, rfl, hs.cutG 0 0⟩
                    · intro ρ w Γx Λx hs hu hp
                      have e2516 : ρ 108 = .bool (x2472 == (x1954.length : Int)) := (hp 4 rfl).1
                      have e2517 : ρ 115 = .bool ((x2489.length : Int) == (x30.length : Int)) := (hp 11 rfl).1
                      refine WL.pickT (v := .bool ((x2489.length : Int) == (x30.length : Int))) (bool_tr e2516 hc2488) e2517 ?_
                      exact WL.nil ⟨rfl, _, rfl, rfl, hs.cutG 0 0⟩
                    · intro ρ w Γx Λx hs hu hp
                      have e2518 : ρ 116 = .bool ((x2489.length : Int) == (x30.length : Int)) := (hp 12 rfl).1
                      refine WL.move (v := .bool ((x2489.length : Int) == (x30.length : Int))) e2518 ?_
                      exact WL.nil ⟨rfl, _, rfl, rfl, hs.cutG 0 0⟩
                    · intro ρ w Γx Λx hs hu hp
                      have e2519 : ρ 117 = .bool ((x2489.length : Int) == (x30.length : Int)) := (hp 13 rfl).1
                      refine WL.loadN (vs := [.int .i64 x2475.Next, .slice a2476 (x2475.Packets).length c2478, .slice a2479 (x2475.Sides).length c2481]) hs (Λx.length + 0) (getApp rfl) TI27 (hu 17 rfl) rfl rfl ?_ (hg := (wanted_of rfl rfl (bool_tr e2519 hc2492)).trans rfl)
                      exact WL.nil ⟨rfl, _, rfl, rfl, hs.cutG 0 0⟩
                    · intro ρ w Γx Λx hs hu hp
                      have e2520 : ρ 117 = .bool ((x2489.length : Int) == (x30.length : Int)) := (hp 13 rfl).1
                      refine WL.loadN (vs := [.int .i64 x29, .slice a31 x30.length c32, .slice a34 x33.length c35]) hs (Λx.length + 2) (getApp rfl) TI27 ((hu 9 rfl).trans h2471_9) rfl rfl ?_ (hg := (wanted_of rfl rfl (bool_tr e2520 hc2492)).trans rfl)
                      exact WL.nil ⟨rfl, _, rfl, rfl, hs.cutG 0 0⟩
                    · intro ρ w Γx Λx hs hu hp
                      have e2521 : ρ 118 = .agg ([.int .i64 x2475.Next, .slice a2476 (x2475.Packets).length c2478, .slice a2479 (x2475.Sides).length c2481] : List Value).toArray := (hp 14 rfl).1
                      have e2522 : ρ 119 = .agg ([.int .i64 x29, .slice a31 x30.length c32, .slice a34 x33.length c35] : List Value).toArray := (hp 15 rfl).1
                      have e2523 : ρ 117 = .bool ((x2489.length : Int) == (x30.length : Int)) := (hp 13 rfl).1
                      have hs := hs.add (it := vl t_network_Network (⟨x2475.Next, x2475.Packets, x2475.Sides⟩ : network_Network) (.agg [.int .i64 x2475.Next, .slice a2476 (x2475.Packets).length c2478, .slice a2479 (x2475.Sides).length c2481].toArray)) fun ok hA => V_agg (show t_network_Network.R ok _ _ _ from ⟨[.int .i64 x2475.Next], [.slice a2476 (x2475.Packets).length c2478, .slice a2479 (x2475.Sides).length c2481], rfl, rfl, ⟨[.slice a2476 (x2475.Packets).length c2478], [.slice a2479 (x2475.Sides).length c2481], rfl, (R_one (hA.get (Γx.length + 1) (getApp rfl))), (R_one (hA.get (Γx.length + 0) (getApp rfl)))⟩⟩) rfl
                      have hs := hs.add (it := vl t_network_Network (⟨x29, x30, x33⟩ : network_Network) (.agg [.int .i64 x29, .slice a31 x30.length c32, .slice a34 x33.length c35].toArray)) fun ok hA => V_agg (show t_network_Network.R ok _ _ _ from ⟨[.int .i64 x29], [.slice a31 x30.length c32, .slice a34 x33.length c35], rfl, rfl, ⟨[.slice a31 x30.length c32], [.slice a34 x33.length c35], rfl, (R_one (hA.get (Γx.length + 6 + 1) (getApp1 rfl))), (R_one (hA.get (Γx.length + 7 + 1) (getApp1 rfl)))⟩⟩) rfl
                      refine WL.call (vs := [.agg ([.int .i64 x2475.Next, .slice a2476 (x2475.Packets).length c2478, .slice a2479 (x2475.Sides).length c2481] : List Value).toArray, .agg ([.int .i64 x29, .slice a31 x30.length c32, .slice a34 x33.length c35] : List Value).toArray]) hs FN16 ⟨e2521, ⟨e2522, trivial⟩⟩ (fun ok hA => eslaw34_Equal.calls (x1 := (⟨x2475.Next, x2475.Packets, x2475.Sides⟩ : network_Network)) (x5 := (⟨x29, x30, x33⟩ : network_Network)) hxx2493 (hA.get 1 rfl) (hA.get 0 rfl)) ?_ (hg := (wanted_of rfl rfl (bool_tr e2523 hc2492)).trans rfl)
                      rintro _ w hs
                      exact WL.nil ⟨rfl, _, rfl, rfl, hs.cutG 0 2⟩
                    · intro ρ w Γx Λx hs hu hp
                      have e2524 : ρ 117 = .bool ((x2489.length : Int) == (x30.length : Int)) := (hp 13 rfl).1
                      have e2525 : ρ 120 = .bool x2493 := (hp 16 rfl).1
                      refine WL.pickT (v := .bool x2493) (bool_tr e2524 hc2492) e2525 ?_
                      exact WL.nil ⟨rfl, _, rfl, rfl, hs.cutG 0 0⟩
                    · intro ρ w Γx Λx hs hu hp
                      have e2526 : ρ 121 = .bool x2493 := (hp 17 rfl).1
                      refine WL.move (v := .bool x2493) e2526 ?_
                      exact WL.nil ⟨rfl, _, rfl, rfl, hs.cutG 0 0⟩
                    · intro ρ w Γx Λx hs hu hp
                      have e2527 : ρ 122 = .bool x2493 := (hp 18 rfl).1
                      refine WL.call (vs := []) hs FN8 trivial (fun ok hA => eslaw34_awake.calls hxx2495) ?_ (hg := (wanted_of rfl rfl (bool_tr e2527 hc2494)).trans rfl)
                      rintro _ w hs
                      exact WL.nil ⟨rfl, _, rfl, rfl, hs.cutG 0 0⟩
                    · intro ρ w Γx Λx hs hu hp
                      have e2528 : ρ 122 = .bool x2493 := (hp 18 rfl).1
                      have e2529 : ρ 123 = .bool x2495 := (hp 19 rfl).1
                      refine WL.pickT (v := .bool x2495) (bool_tr e2528 hc2494) e2529 ?_
                      exact WL.nil ⟨rfl, _, rfl, rfl, hs.cutG 0 0⟩
                    · intro ρ w hs hu hp
                      obtain ⟨⟨⟨⟨⟨⟨⟨⟨⟨⟨⟨⟨⟨⟨⟨⟨⟨⟨⟨⟨⟨_, hp0_⟩, hp1_⟩, hp2_⟩, hp3_⟩, hp4_⟩, hp5_⟩, hp6_⟩, hp7_⟩, hp8_⟩, hp9_⟩, hp10_⟩, hp11_⟩, hp12_⟩, hp13_⟩, hp14_⟩, hp15_⟩, hp16_⟩, hp17_⟩, hp18_⟩, hp19_⟩, hp20_⟩ := hp
                      have hs : St ok (bz w0) w [vl (tSlice (tInt .i64)) x2489 (ρ 110), vl (tSlice t_network_Side) x2475.Sides (.slice a2479 (x2475.Sides).length c2481), vl (tSlice t_network_Packet) x2475.Packets (.slice a2476 (x2475.Packets).length c2478), vl t_network_Network (⟨x38.Next, x38.Packets, x38.Sides⟩ : network_Network) (.agg [.int .i64 x38.Next, .slice a39 (x38.Packets).length c41, .slice a42 (x38.Sides).length c44].toArray), vl (tSlice (tInt .i64)) x1954 (.slice a1955 x1954.length c1957), vl (tSlice t_network_Packet) x38.Packets (.slice a39 (x38.Packets).length c41), vl (tSlice t_network_Side) x38.Sides (.slice a42 (x38.Sides).length c44), vl (tSlice t_network_Packet) x30 (.slice a31 x30.length c32), vl (tSlice t_network_Side) x33 (.slice a34 x33.length c35)] [blk g2482 27 [.int .i64 x2475.Next, .slice a2476 (x2475.Packets).length c2478, .slice a2479 (x2475.Sides).length c2481], blk g45 27 [.int .i64 x38.Next, .slice a39 (x38.Packets).length c41, .slice a42 (x38.Sides).length c44], blk g26 27 [.int .i64 x29, .slice a31 x30.length c32, .slice a34 x33.length c35]] := hs
                      have e2530 : ρ 124 = .bool x2495 := hp20_
                      have e2531 : ρ 123 = .bool x2495 := hp19_
                      have e2532 : ρ 122 = .bool x2493 := hp18_
                      have e2533 : ρ 121 = .bool x2493 := hp17_
                      have e2534 : ρ 120 = .bool x2493 := hp16_
                      have e2535 : ρ 119 = .agg ([.int .i64 x29, .slice a31 x30.length c32, .slice a34 x33.length c35] : List Value).toArray := hp15_
                      have e2536 : ρ 118 = .agg ([.int .i64 x2475.Next, .slice a2476 (x2475.Packets).length c2478, .slice a2479 (x2475.Sides).length c2481] : List Value).toArray := hp14_
                      have e2537 : ρ 117 = .bool ((x2489.length : Int) == (x30.length : Int)) := hp13_
                      have e2538 : ρ 116 = .bool ((x2489.length : Int) == (x30.length : Int)) := hp12_
                      have e2539 : ρ 115 = .bool ((x2489.length : Int) == (x30.length : Int)) := hp11_
                      have e2540 : ρ 114 = .int .i64 (x30.length : Int) := hp10_
                      have e2541 : ρ 113 = .slice a31 x30.length c32 := hp9_
                      have e2542 : ρ 112 = .pointer (some ⟨g26, 1, none⟩) := hp8_
                      have e2543 : ρ 111 = .int .i64 (x2489.length : Int) := hp7_
                      obtain ⟨⟨a2544, c2545⟩, e2546⟩ := hp6_
                      have e2546 : ρ 110 = .slice a2544 x2489.length c2545 := e2546
                      try rw [e2546] at hs
                      have e2547 : ρ 109 = .agg ([.int .i64 x2475.Next, .slice a2476 (x2475.Packets).length c2478, .slice a2479 (x2475.Sides).length c2481] : List Value).toArray := hp5_
                      have e2548 : ρ 108 = .bool (x2472 == (x1954.length : Int)) := hp4_
                      have e2549 : ρ 107 = .bool (x2472 == (x1954.length : Int)) := hp3_
                      have e2550 : ρ 106 = .int .i64 (x1954.length : Int) := hp2_
                      have e2551 : ρ 105 = .slice a1955 x1954.length c1957 := hp1_
                      have e2552 : ρ 104 = .int .i64 x2472 := hp0_
                      refine WA.step [21] (by kernel_rfl) (by simp) ⟨?_, trivial⟩
                      refine WL.assign (v := .bool x2495) e2530 ?_
                      refine WL.nil ⟨rfl, _, rfl, ?_⟩
                      refine WA.done (by kernel_rfl) ?_
                      exact Jk2486 x2495 _ _ rfl ((hs.mask []).pick []) hf
                  · refine W.any (by kernel_rfl) 21 1 [true, true, true, true, true, true, true, true, true, true, true, true, true, true, true, true, true, true, true, true, true, false] rfl rfl (poAt [pv (.int .i64 x2472), pv (.slice a1955 x1954.length c1957), pv (.int .i64 (x1954.length : Int)), pv (.bool (x2472 == (x1954.length : Int))), pv (.bool (x2472 == (x1954.length : Int))), pv (.agg ([.int .i64 x2475.Next, .slice a2476 (x2475.Packets).length c2478, .slice a2479 (x2475.Sides).length c2481] : List Value).toArray), pq (fun y : (Option Addr × Nat) => .slice y.1 x2489.length y.2) (fun v => [vl (tSlice (tInt .i64)) x2489 v]) (fun v => []), pv (.int .i64 (x2489.length : Int)), pv (.pointer (some ⟨g26, 1, none⟩)), pv (.slice a31 x30.length c32), pv (.int .i64 (x30.length : Int)), pv (.bool ((x2489.length : Int) == (x30.length : Int))), pv (.bool ((x2489.length : Int) == (x30.length : Int))), pv (.bool ((x2489.length : Int) == (x30.length : Int))), pv (.agg ([.int .i64 x2475.Next, .slice a2476 (x2475.Packets).length c2478, .slice a2479 (x2475.Sides).length c2481] : List Value).toArray), pv (.agg ([.int .i64 x29, .slice a31 x30.length c32, .slice a34 x33.length c35] : List Value).toArray), pv (.bool x2493), pv (.bool x2493), pv (.bool x2493), pv (undef), pv (.bool false)]) (Λ := [blk g2482 27 [.int .i64 x2475.Next, .slice a2476 (x2475.Packets).length c2478, .slice a2479 (x2475.Sides).length c2481], blk g45 27 [.int .i64 x38.Next, .slice a39 (x38.Packets).length c41, .slice a42 (x38.Sides).length c44], blk g26 27 [.int .i64 x29, .slice a31 x30.length c32, .slice a34 x33.length c35]]) hs (by kernel_rfl) (by kernel_rfl) (by kernel_rfl) ⟨⟨⟨⟨⟨⟨⟨⟨⟨⟨⟨⟨⟨⟨⟨⟨⟨⟨⟨⟨⟨trivial, ?_⟩, ?_⟩, ?_⟩, ?_⟩, ?_⟩, ?_⟩, ?_⟩, ?_⟩, ?_⟩, ?_⟩, ?_⟩, ?_⟩, ?_⟩, ?_⟩, ?_⟩, ?_⟩, ?_⟩, ?_⟩, ?_⟩, ?_⟩, ?_⟩ ?_
                    · intro ρ w Γx Λx hs hu hp
                      refine WL.move (v := .int .i64 x2472) ((hu 13 rfl).trans h2471_13) ?_
                      exact WL.nil ⟨rfl, _, rfl, rfl, hs.cutG 0 0⟩
                    · intro ρ w Γx Λx hs hu hp
                      refine WL.move (v := .slice a1955 x1954.length c1957) ((hu 12 rfl).trans h2471_12) ?_
                      exact WL.nil ⟨rfl, _, rfl, rfl, hs.cutG 0 0⟩
                    · intro ρ w Γx Λx hs hu hp
                      have e2553 : ρ 105 = .slice a1955 x1954.length c1957 := (hp 1 rfl).1
                      refine WL.len (v := .slice a1955 x1954.length c1957) e2553 (len_slice UN36) ?_
                      exact WL.nil ⟨rfl, _, rfl, rfl, hs.cutG 0 0⟩
                    · intro ρ w Γx Λx hs hu hp
                      have e2554 : ρ 104 = .int .i64 x2472 := (hp 0 rfl).1
                      have e2555 : ρ 106 = .int .i64 (x1954.length : Int) := (hp 2 rfl).1
                      refine WL.bin (v := .bool (x2472 == (x1954.length : Int))) e2554 e2555 (ib_eql _ _ _) ?_
                      exact WL.nil ⟨rfl, _, rfl, rfl, hs.cutG 0 0⟩
                    · intro ρ w Γx Λx hs hu hp
                      have e2556 : ρ 107 = .bool (x2472 == (x1954.length : Int)) := (hp 3 rfl).1
                      refine WL.move (v := .bool (x2472 == (x1954.length : Int))) e2556 ?_
                      exact WL.nil ⟨rfl, _, rfl, rfl, hs.cutG 0 0⟩
                    · intro ρ w Γx Λx hs hu hp
                      have e2557 : ρ 108 = .bool (x2472 == (x1954.length : Int)) := (hp 4 rfl).1
                      refine WL.loadN (vs := [.int .i64 x2475.Next, .slice a2476 (x2475.Packets).length c2478, .slice a2479 (x2475.Sides).length c2481]) hs (Λx.length + 0) (getApp rfl) TI27 (hu 17 rfl) rfl rfl ?_ (hg := (wanted_of rfl rfl (bool_tr e2557 hc2488)).trans rfl)
                      exact WL.nil ⟨rfl, _, rfl, rfl, hs.cutG 0 0⟩
                    · intro ρ w Γx Λx hs hu hp
                      have e2558 : ρ 109 = .agg ([.int .i64 x2475.Next, .slice a2476 (x2475.Packets).length c2478, .slice a2479 (x2475.Sides).length c2481] : List Value).toArray := (hp 5 rfl).1
                      have e2559 : ρ 108 = .bool (x2472 == (x1954.length : Int)) := (hp 4 rfl).1
                      have hs := hs.add (it := vl t_network_Network (⟨x2475.Next, x2475.Packets, x2475.Sides⟩ : network_Network) (.agg [.int .i64 x2475.Next, .slice a2476 (x2475.Packets).length c2478, .slice a2479 (x2475.Sides).length c2481].toArray)) fun ok hA => V_agg (show t_network_Network.R ok _ _ _ from ⟨[.int .i64 x2475.Next], [.slice a2476 (x2475.Packets).length c2478, .slice a2479 (x2475.Sides).length c2481], rfl, rfl, ⟨[.slice a2476 (x2475.Packets).length c2478], [.slice a2479 (x2475.Sides).length c2481], rfl, (R_one (hA.get (Γx.length + 1) (getApp rfl))), (R_one (hA.get (Γx.length + 0) (getApp rfl)))⟩⟩) rfl
                      refine WL.call (vs := [.agg ([.int .i64 x2475.Next, .slice a2476 (x2475.Packets).length c2478, .slice a2479 (x2475.Sides).length c2481] : List Value).toArray]) hs FN14 ⟨e2558, trivial⟩ (fun ok hA => network_Deliverable.callc (x1 := (⟨x2475.Next, x2475.Packets, x2475.Sides⟩ : network_Network)) hxx2489 (hA.get 0 rfl)) ?_ (hg := (wanted_of rfl rfl (bool_tr e2559 hc2488)).trans rfl)
                      rintro ⟨a2490, c2491⟩ w hs
                      have hs := hs.add (it := vl (tSlice (tInt .i64)) x2489 (.slice a2490 x2489.length c2491)) fun ok hA => hA.get 0 rfl
                      exact WL.nil ⟨rfl, _, rfl, ⟨(a2490, c2491), rfl⟩, hs.cutG 1 2⟩
                    · intro ρ w Γx Λx hs hu hp
                      obtain ⟨⟨⟨a2560, c2561⟩, e2562r⟩, hm2563⟩ := hp 6 rfl
                      have e2562 : ρ 110 = .slice a2560 x2489.length c2561 := e2562r
                      rw [e2562r] at hm2563
                      have hs := hs.memo1 (it := vl (tSlice (tInt .i64)) x2489 (.slice a2560 x2489.length c2561)) (List.mem_append.2 (.inl (hm2563 _ (List.mem_of_getElem? (i := 0) rfl))))
                      have e2564 : ρ 108 = .bool (x2472 == (x1954.length : Int)) := (hp 4 rfl).1
                      refine WL.len (v := .slice a2560 x2489.length c2561) e2562 (len_slice UN36) ?_ (hg := (wanted_of rfl rfl (bool_tr e2564 hc2488)).trans rfl)
                      exact WL.nil ⟨rfl, _, rfl, rfl, hs.cutG 0 1⟩
                    · intro ρ w Γx Λx hs hu hp
                      have e2565 : ρ 108 = .bool (x2472 == (x1954.length : Int)) := (hp 4 rfl).1
                      refine WL.fieldAddr (m := 1) ((hu 9 rfl).trans h2471_9) FA27_1 rfl ?_ (hg := (wanted_of rfl rfl (bool_tr e2565 hc2488)).trans rfl)
                      exact WL.nil ⟨rfl, _, rfl, rfl, hs.cutG 0 0⟩
                    · intro ρ w Γx Λx hs hu hp
                      have e2566 : ρ 112 = .pointer (some ⟨g26, 1, none⟩) := (hp 8 rfl).1
                      have e2567 : ρ 108 = .bool (x2472 == (x1954.length : Int)) := (hp 4 rfl).1
                      refine WL.load1 (v := .slice a31 x30.length c32) hs (Λx.length + 2) (getApp rfl) TI25 e2566 rfl ?_ (hg := (wanted_of rfl rfl (bool_tr e2567 hc2488)).trans rfl)
                      exact WL.nil ⟨rfl, _, rfl, rfl, hs.cutG 0 0⟩
                    · intro ρ w Γx Λx hs hu hp
                      have e2568 : ρ 113 = .slice a31 x30.length c32 := (hp 9 rfl).1
                      have e2569 : ρ 108 = .bool (x2472 == (x1954.length : Int)) := (hp 4 rfl).1
                      refine WL.len (v := .slice a31 x30.length c32) e2568 (len_slice UN25) ?_ (hg := (wanted_of rfl rfl (bool_tr e2569 hc2488)).trans rfl)
                      exact WL.nil ⟨rfl, _, rfl, rfl, hs.cutG 0 0⟩
                    · intro ρ w Γx Λx hs hu hp
                      have e2570 : ρ 111 = .int .i64 (x2489.length : Int) := (hp 7 rfl).1
                      have e2571 : ρ 114 = .int .i64 (x30.length : Int) := (hp 10 rfl).1
                      have e2572 : ρ 108 = .bool (x2472 == (x1954.length : Int)) := (hp 4 rfl).1
                      refine WL.bin (v := .bool ((x2489.length : Int) == (x30.length : Int))) e2570 e2571 (ib_eql _ _ _) ?_ (hg := (wanted_of rfl rfl (bool_tr e2572 hc2488)).trans rfl)
                      exact WL.nil ⟨rfl, _, rfl, rfl, hs.cutG 0 0⟩
                    · intro ρ w Γx Λx hs hu hp
                      have e2573 : ρ 108 = .bool (x2472 == (x1954.length : Int)) := (hp 4 rfl).1
                      have e2574 : ρ 115 = .bool ((x2489.length : Int) == (x30.length : Int)) := (hp 11 rfl).1
                      refine WL.pickT (v := .bool ((x2489.length : Int) == (x30.length : Int))) (bool_tr e2573 hc2488) e2574 ?_
                      exact WL.nil ⟨rfl, _, rfl, rfl, hs.cutG 0 0⟩
                    · intro ρ w Γx Λx hs hu hp
                      have e2575 : ρ 116 = .bool ((x2489.length : Int) == (x30.length : Int)) := (hp 12 rfl).1
                      refine WL.move (v := .bool ((x2489.length : Int) == (x30.length : Int))) e2575 ?_
                      exact WL.nil ⟨rfl, _, rfl, rfl, hs.cutG 0 0⟩
                    · intro ρ w Γx Λx hs hu hp
                      have e2576 : ρ 117 = .bool ((x2489.length : Int) == (x30.length : Int)) := (hp 13 rfl).1
                      refine WL.loadN (vs := [.int .i64 x2475.Next, .slice a2476 (x2475.Packets).length c2478, .slice a2479 (x2475.Sides).length c2481]) hs (Λx.length + 0) (getApp rfl) TI27 (hu 17 rfl) rfl rfl ?_ (hg := (wanted_of rfl rfl (bool_tr e2576 hc2492)).trans rfl)
                      exact WL.nil ⟨rfl, _, rfl, rfl, hs.cutG 0 0⟩
                    · intro ρ w Γx Λx hs hu hp
                      have e2577 : ρ 117 = .bool ((x2489.length : Int) == (x30.length : Int)) := (hp 13 rfl).1
                      refine WL.loadN (vs := [.int .i64 x29, .slice a31 x30.length c32, .slice a34 x33.length c35]) hs (Λx.length + 2) (getApp rfl) TI27 ((hu 9 rfl).trans h2471_9) rfl rfl ?_ (hg := (wanted_of rfl rfl (bool_tr e2577 hc2492)).trans rfl)
                      exact WL.nil ⟨rfl, _, rfl, rfl, hs.cutG 0 0⟩
                    · intro ρ w Γx Λx hs hu hp
                      have e2578 : ρ 118 = .agg ([.int .i64 x2475.Next, .slice a2476 (x2475.Packets).length c2478, .slice a2479 (x2475.Sides).length c2481] : List Value).toArray := (hp 14 rfl).1
                      have e2579 : ρ 119 = .agg ([.int .i64 x29, .slice a31 x30.length c32, .slice a34 x33.length c35] : List Value).toArray := (hp 15 rfl).1
                      have e2580 : ρ 117 = .bool ((x2489.length : Int) == (x30.length : Int)) := (hp 13 rfl).1
                      have hs := hs.add (it := vl t_network_Network (⟨x2475.Next, x2475.Packets, x2475.Sides⟩ : network_Network) (.agg [.int .i64 x2475.Next, .slice a2476 (x2475.Packets).length c2478, .slice a2479 (x2475.Sides).length c2481].toArray)) fun ok hA => V_agg (show t_network_Network.R ok _ _ _ from ⟨[.int .i64 x2475.Next], [.slice a2476 (x2475.Packets).length c2478, .slice a2479 (x2475.Sides).length c2481], rfl, rfl, ⟨[.slice a2476 (x2475.Packets).length c2478], [.slice a2479 (x2475.Sides).length c2481], rfl, (R_one (hA.get (Γx.length + 1) (getApp rfl))), (R_one (hA.get (Γx.length + 0) (getApp rfl)))⟩⟩) rfl
                      have hs := hs.add (it := vl t_network_Network (⟨x29, x30, x33⟩ : network_Network) (.agg [.int .i64 x29, .slice a31 x30.length c32, .slice a34 x33.length c35].toArray)) fun ok hA => V_agg (show t_network_Network.R ok _ _ _ from ⟨[.int .i64 x29], [.slice a31 x30.length c32, .slice a34 x33.length c35], rfl, rfl, ⟨[.slice a31 x30.length c32], [.slice a34 x33.length c35], rfl, (R_one (hA.get (Γx.length + 6 + 1) (getApp1 rfl))), (R_one (hA.get (Γx.length + 7 + 1) (getApp1 rfl)))⟩⟩) rfl
                      refine WL.call (vs := [.agg ([.int .i64 x2475.Next, .slice a2476 (x2475.Packets).length c2478, .slice a2479 (x2475.Sides).length c2481] : List Value).toArray, .agg ([.int .i64 x29, .slice a31 x30.length c32, .slice a34 x33.length c35] : List Value).toArray]) hs FN16 ⟨e2578, ⟨e2579, trivial⟩⟩ (fun ok hA => eslaw34_Equal.calls (x1 := (⟨x2475.Next, x2475.Packets, x2475.Sides⟩ : network_Network)) (x5 := (⟨x29, x30, x33⟩ : network_Network)) hxx2493 (hA.get 1 rfl) (hA.get 0 rfl)) ?_ (hg := (wanted_of rfl rfl (bool_tr e2580 hc2492)).trans rfl)
                      rintro _ w hs
                      exact WL.nil ⟨rfl, _, rfl, rfl, hs.cutG 0 2⟩
                    · intro ρ w Γx Λx hs hu hp
                      have e2581 : ρ 117 = .bool ((x2489.length : Int) == (x30.length : Int)) := (hp 13 rfl).1
                      have e2582 : ρ 120 = .bool x2493 := (hp 16 rfl).1
                      refine WL.pickT (v := .bool x2493) (bool_tr e2581 hc2492) e2582 ?_
                      exact WL.nil ⟨rfl, _, rfl, rfl, hs.cutG 0 0⟩
                    · intro ρ w Γx Λx hs hu hp
                      have e2583 : ρ 121 = .bool x2493 := (hp 17 rfl).1
                      refine WL.move (v := .bool x2493) e2583 ?_
                      exact WL.nil ⟨rfl, _, rfl, rfl, hs.cutG 0 0⟩
                    · intro ρ w Γx Λx hs hu hp
                      have e2584 : ρ 122 = .bool x2493 := (hp 18 rfl).1
                      refine WL.pass ((wanted_of rfl rfl (bool_tr e2584 hc2494)).trans rfl) rfl ?_
                      exact WL.nil ⟨rfl, _, rfl, rfl, hs.cutG 0 0⟩
                    · intro ρ w Γx Λx hs hu hp
                      have e2585 : ρ 122 = .bool x2493 := (hp 18 rfl).1
                      have e2586 : ρ 123 = undef := (hp 19 rfl).1
                      refine WL.pickF (v := .bool false) (bool_tr e2585 hc2494) rfl ?_
                      exact WL.nil ⟨rfl, _, rfl, rfl, hs.cutG 0 0⟩
                    · intro ρ w hs hu hp
                      obtain ⟨⟨⟨⟨⟨⟨⟨⟨⟨⟨⟨⟨⟨⟨⟨⟨⟨⟨⟨⟨⟨_, hp0_⟩, hp1_⟩, hp2_⟩, hp3_⟩, hp4_⟩, hp5_⟩, hp6_⟩, hp7_⟩, hp8_⟩, hp9_⟩, hp10_⟩, hp11_⟩, hp12_⟩, hp13_⟩, hp14_⟩, hp15_⟩, hp16_⟩, hp17_⟩, hp18_⟩, hp19_⟩, hp20_⟩ := hp
                      have hs : St ok (bz w0) w [vl (tSlice (tInt .i64)) x2489 (ρ 110), vl (tSlice t_network_Side) x2475.Sides (.slice a2479 (x2475.Sides).length c2481), vl (tSlice t_network_Packet) x2475.Packets (.slice a2476 (x2475.Packets).length c2478), vl t_network_Network (⟨x38.Next, x38.Packets, x38.Sides⟩ : network_Network) (.agg [.int .i64 x38.Next, .slice a39 (x38.Packets).length c41, .slice a42 (x38.Sides).length c44].toArray), vl (tSlice (tInt .i64)) x1954 (.slice a1955 x1954.length c1957), vl (tSlice t_network_Packet) x38.Packets (.slice a39 (x38.Packets).length c41), vl (tSlice t_network_Side) x38.Sides (.slice a42 (x38.Sides).length c44), vl (tSlice t_network_Packet) x30 (.slice a31 x30.length c32), vl (tSlice t_network_Side) x33 (.slice a34 x33.length c35)] [blk g2482 27 [.int .i64 x2475.Next, .slice a2476 (x2475.Packets).length c2478, .slice a2479 (x2475.Sides).length c2481], blk g45 27 [.int .i64 x38.Next, .slice a39 (x38.Packets).length c41, .slice a42 (x38.Sides).length c44], blk g26 27 [.int .i64 x29, .slice a31 x30.length c32, .slice a34 x33.length c35]] := hs
                      have e2587 : ρ 124 = .bool false := hp20_
                      have e2588 : ρ 123 = undef := hp19_
                      have e2589 : ρ 122 = .bool x2493 := hp18_
                      have e2590 : ρ 121 = .bool x2493 := hp17_
                      have e2591 : ρ 120 = .bool x2493 := hp16_
                      have e2592 : ρ 119 = .agg ([.int .i64 x29, .slice a31 x30.length c32, .slice a34 x33.length c35] : List Value).toArray := hp15_
                      have e2593 : ρ 118 = .agg ([.int .i64 x2475.Next, .slice a2476 (x2475.Packets).length c2478, .slice a2479 (x2475.Sides).length c2481] : List Value).toArray := hp14_
                      have e2594 : ρ 117 = .bool ((x2489.length : Int) == (x30.length : Int)) := hp13_
                      have e2595 : ρ 116 = .bool ((x2489.length : Int) == (x30.length : Int)) := hp12_
                      have e2596 : ρ 115 = .bool ((x2489.length : Int) == (x30.length : Int)) := hp11_
                      have e2597 : ρ 114 = .int .i64 (x30.length : Int) := hp10_
                      have e2598 : ρ 113 = .slice a31 x30.length c32 := hp9_
                      have e2599 : ρ 112 = .pointer (some ⟨g26, 1, none⟩) := hp8_
                      have e2600 : ρ 111 = .int .i64 (x2489.length : Int) := hp7_
                      obtain ⟨⟨a2601, c2602⟩, e2603⟩ := hp6_
                      have e2603 : ρ 110 = .slice a2601 x2489.length c2602 := e2603
                      try rw [e2603] at hs
                      have e2604 : ρ 109 = .agg ([.int .i64 x2475.Next, .slice a2476 (x2475.Packets).length c2478, .slice a2479 (x2475.Sides).length c2481] : List Value).toArray := hp5_
                      have e2605 : ρ 108 = .bool (x2472 == (x1954.length : Int)) := hp4_
                      have e2606 : ρ 107 = .bool (x2472 == (x1954.length : Int)) := hp3_
                      have e2607 : ρ 106 = .int .i64 (x1954.length : Int) := hp2_
                      have e2608 : ρ 105 = .slice a1955 x1954.length c1957 := hp1_
                      have e2609 : ρ 104 = .int .i64 x2472 := hp0_
                      refine WA.step [21] (by kernel_rfl) (by simp) ⟨?_, trivial⟩
                      refine WL.assign (v := .bool false) e2587 ?_
                      refine WL.nil ⟨rfl, _, rfl, ?_⟩
                      refine WA.done (by kernel_rfl) ?_
                      exact Jk2486 false _ _ rfl ((hs.mask []).pick []) hf
                · refine W.any (by kernel_rfl) 21 1 [true, true, true, true, true, true, true, true, true, true, true, true, true, true, true, true, true, true, true, true, true, false] rfl rfl (poAt [pv (.int .i64 x2472), pv (.slice a1955 x1954.length c1957), pv (.int .i64 (x1954.length : Int)), pv (.bool (x2472 == (x1954.length : Int))), pv (.bool (x2472 == (x1954.length : Int))), pv (.agg ([.int .i64 x2475.Next, .slice a2476 (x2475.Packets).length c2478, .slice a2479 (x2475.Sides).length c2481] : List Value).toArray), pq (fun y : (Option Addr × Nat) => .slice y.1 x2489.length y.2) (fun v => [vl (tSlice (tInt .i64)) x2489 v]) (fun v => []), pv (.int .i64 (x2489.length : Int)), pv (.pointer (some ⟨g26, 1, none⟩)), pv (.slice a31 x30.length c32), pv (.int .i64 (x30.length : Int)), pv (.bool ((x2489.length : Int) == (x30.length : Int))), pv (.bool ((x2489.length : Int) == (x30.length : Int))), pv (.bool ((x2489.length : Int) == (x30.length : Int))), pv (undef), pv (undef), pv (undef), pv (.bool false), pv (.bool false), pv (undef), pv (.bool false)]) (Λ := [blk g2482 27 [.int .i64 x2475.Next, .slice a2476 (x2475.Packets).length c2478, .slice a2479 (x2475.Sides).length c2481], blk g45 27 [.int .i64 x38.Next, .slice a39 (x38.Packets).length c41, .slice a42 (x38.Sides).length c44], blk g26 27 [.int .i64 x29, .slice a31 x30.length c32, .slice a34 x33.length c35]]) hs (by kernel_rfl) (by kernel_rfl) (by kernel_rfl) ⟨⟨⟨⟨⟨⟨⟨⟨⟨⟨⟨⟨⟨⟨⟨⟨⟨⟨⟨⟨⟨trivial, ?_⟩, ?_⟩, ?_⟩, ?_⟩, ?_⟩, ?_⟩, ?_⟩, ?_⟩, ?_⟩, ?_⟩, ?_⟩, ?_⟩, ?_⟩, ?_⟩, ?_⟩, ?_⟩, ?_⟩, ?_⟩, ?_⟩, ?_⟩, ?_⟩ ?_
                  · intro ρ w Γx Λx hs hu hp
                    refine WL.move (v := .int .i64 x2472) ((hu 13 rfl).trans h2471_13) ?_
                    exact WL.nil ⟨rfl, _, rfl, rfl, hs.cutG 0 0⟩
                  · intro ρ w Γx Λx hs hu hp
                    refine WL.move (v := .slice a1955 x1954.length c1957) ((hu 12 rfl).trans h2471_12) ?_
                    exact WL.nil ⟨rfl, _, rfl, rfl, hs.cutG 0 0⟩
                  · intro ρ w Γx Λx hs hu hp
                    have e2610 : ρ 105 = .slice a1955 x1954.length c1957 := (hp 1 rfl).1
                    refine WL.len (v := .slice a1955 x1954.length c1957) e2610 (len_slice UN36) ?_
                    exact WL.nil ⟨rfl, _, rfl, rfl, hs.cutG 0 0⟩
                  · intro ρ w Γx Λx hs hu hp
                    have e2611 : ρ 104 = .int .i64 x2472 := (hp 0 rfl).1
                    have e2612 : ρ 106 = .int .i64 (x1954.length : Int) := (hp 2 rfl).1
                    refine WL.bin (v := .bool (x2472 == (x1954.length : Int))) e2611 e2612 (ib_eql _ _ _) ?_
                    exact WL.nil ⟨rfl, _, rfl, rfl, hs.cutG 0 0⟩
                  · intro ρ w Γx Λx hs hu hp
                    have e2613 : ρ 107 = .bool (x2472 == (x1954.length : Int)) := (hp 3 rfl).1
                    refine WL.move (v := .bool (x2472 == (x1954.length : Int))) e2613 ?_
                    exact WL.nil ⟨rfl, _, rfl, rfl, hs.cutG 0 0⟩
                  · intro ρ w Γx Λx hs hu hp
                    have e2614 : ρ 108 = .bool (x2472 == (x1954.length : Int)) := (hp 4 rfl).1
                    refine WL.loadN (vs := [.int .i64 x2475.Next, .slice a2476 (x2475.Packets).length c2478, .slice a2479 (x2475.Sides).length c2481]) hs (Λx.length + 0) (getApp rfl) TI27 (hu 17 rfl) rfl rfl ?_ (hg := (wanted_of rfl rfl (bool_tr e2614 hc2488)).trans rfl)
                    exact WL.nil ⟨rfl, _, rfl, rfl, hs.cutG 0 0⟩
                  · intro ρ w Γx Λx hs hu hp
                    have e2615 : ρ 109 = .agg ([.int .i64 x2475.Next, .slice a2476 (x2475.Packets).length c2478, .slice a2479 (x2475.Sides).length c2481] : List Value).toArray := (hp 5 rfl).1
                    have e2616 : ρ 108 = .bool (x2472 == (x1954.length : Int)) := (hp 4 rfl).1
                    have hs := hs.add (it := vl t_network_Network (⟨x2475.Next, x2475.Packets, x2475.Sides⟩ : network_Network) (.agg [.int .i64 x2475.Next, .slice a2476 (x2475.Packets).length c2478, .slice a2479 (x2475.Sides).length c2481].toArray)) fun ok hA => V_agg (show t_network_Network.R ok _ _ _ from ⟨[.int .i64 x2475.Next], [.slice a2476 (x2475.Packets).length c2478, .slice a2479 (x2475.Sides).length c2481], rfl, rfl, ⟨[.slice a2476 (x2475.Packets).length c2478], [.slice a2479 (x2475.Sides).length c2481], rfl, (R_one (hA.get (Γx.length + 1) (getApp rfl))), (R_one (hA.get (Γx.length + 0) (getApp rfl)))⟩⟩) rfl
                    refine WL.call (vs := [.agg ([.int .i64 x2475.Next, .slice a2476 (x2475.Packets).length c2478, .slice a2479 (x2475.Sides).length c2481] : List Value).toArray]) hs FN14 ⟨e2615, trivial⟩ (fun ok hA => network_Deliverable.callc (x1 := (⟨x2475.Next, x2475.Packets, x2475.Sides⟩ : network_Network)) hxx2489 (hA.get 0 rfl)) ?_ (hg := (wanted_of rfl rfl (bool_tr e2616 hc2488)).trans rfl)
                    rintro ⟨a2490, c2491⟩ w hs
                    have hs := hs.add (it := vl (tSlice (tInt .i64)) x2489 (.slice a2490 x2489.length c2491)) fun ok hA => hA.get 0 rfl
                    exact WL.nil ⟨rfl, _, rfl, ⟨(a2490, c2491), rfl⟩, hs.cutG 1 2⟩
                  · intro ρ w Γx Λx hs hu hp
                    obtain ⟨⟨⟨a2617, c2618⟩, e2619r⟩, hm2620⟩ := hp 6 rfl
                    have e2619 : ρ 110 = .slice a2617 x2489.length c2618 := e2619r
                    rw [e2619r] at hm2620
                    have hs := hs.memo1 (it := vl (tSlice (tInt .i64)) x2489 (.slice a2617 x2489.length c2618)) (List.mem_append.2 (.inl (hm2620 _ (List.mem_of_getElem? (i := 0) rfl))))
                    have e2621 : ρ 108 = .bool (x2472 == (x1954.length : Int)) := (hp 4 rfl).1
                    refine WL.len (v := .slice a2617 x2489.length c2618) e2619 (len_slice UN36) ?_ (hg := (wanted_of rfl rfl (bool_tr e2621 hc2488)).trans rfl)
                    exact WL.nil ⟨rfl, _, rfl, rfl, hs.cutG 0 1⟩
                  · intro ρ w Γx Λx hs hu hp
                    have e2622 : ρ 108 = .bool (x2472 == (x1954.length : Int)) := (hp 4 rfl).1
                    refine WL.fieldAddr (m := 1) ((hu 9 rfl).trans h2471_9) FA27_1 rfl ?_ (hg := (wanted_of rfl rfl (bool_tr e2622 hc2488)).trans rfl)
                    exact WL.nil ⟨rfl, _, rfl, rfl, hs.cutG 0 0⟩
                  · intro ρ w Γx Λx hs hu hp
                    have e2623 : ρ 112 = .pointer (some ⟨g26, 1, none⟩) := (hp 8 rfl).1
                    have e2624 : ρ 108 = .bool (x2472 == (x1954.length : Int)) := (hp 4 rfl).1
                    refine WL.load1 (v := .slice a31 x30.length c32) hs (Λx.length + 2) (getApp rfl) TI25 e2623 rfl ?_ (hg := (wanted_of rfl rfl (bool_tr e2624 hc2488)).trans rfl)
                    exact WL.nil ⟨rfl, _, rfl, rfl, hs.cutG 0 0⟩
                  · intro ρ w Γx Λx hs hu hp
                    have e2625 : ρ 113 = .slice a31 x30.length c32 := (hp 9 rfl).1
                    have e2626 : ρ 108 = .bool (x2472 == (x1954.length : Int)) := (hp 4 rfl).1
                    refine WL.len (v := .slice a31 x30.length c32) e2625 (len_slice UN25) ?_ (hg := (wanted_of rfl rfl (bool_tr e2626 hc2488)).trans rfl)
                    exact WL.nil ⟨rfl, _, rfl, rfl, hs.cutG 0 0⟩
                  · intro ρ w Γx Λx hs hu hp
                    have e2627 : ρ 111 = .int .i64 (x2489.length : Int) := (hp 7 rfl).1
                    have e2628 : ρ 114 = .int .i64 (x30.length : Int) := (hp 10 rfl).1
                    have e2629 : ρ 108 = .bool (x2472 == (x1954.length : Int)) := (hp 4 rfl).1
                    refine WL.bin (v := .bool ((x2489.length : Int) == (x30.length : Int))) e2627 e2628 (ib_eql _ _ _) ?_ (hg := (wanted_of rfl rfl (bool_tr e2629 hc2488)).trans rfl)
                    exact WL.nil ⟨rfl, _, rfl, rfl, hs.cutG 0 0⟩
                  · intro ρ w Γx Λx hs hu hp
                    have e2630 : ρ 108 = .bool (x2472 == (x1954.length : Int)) := (hp 4 rfl).1
                    have e2631 : ρ 115 = .bool ((x2489.length : Int) == (x30.length : Int)) := (hp 11 rfl).1
                    refine WL.pickT (v := .bool ((x2489.length : Int) == (x30.length : Int))) (bool_tr e2630 hc2488) e2631 ?_
                    exact WL.nil ⟨rfl, _, rfl, rfl, hs.cutG 0 0⟩
                  · intro ρ w Γx Λx hs hu hp
                    have e2632 : ρ 116 = .bool ((x2489.length : Int) == (x30.length : Int)) := (hp 12 rfl).1
                    refine WL.move (v := .bool ((x2489.length : Int) == (x30.length : Int))) e2632 ?_
                    exact WL.nil ⟨rfl, _, rfl, rfl, hs.cutG 0 0⟩
                  · intro ρ w Γx Λx hs hu hp
                    have e2633 : ρ 117 = .bool ((x2489.length : Int) == (x30.length : Int)) := (hp 13 rfl).1
                    refine WL.pass ((wanted_of rfl rfl (bool_tr e2633 hc2492)).trans rfl) rfl ?_
                    exact WL.nil ⟨rfl, _, rfl, rfl, hs.cutG 0 0⟩
                  · intro ρ w Γx Λx hs hu hp
                    have e2634 : ρ 117 = .bool ((x2489.length : Int) == (x30.length : Int)) := (hp 13 rfl).1
                    refine WL.pass ((wanted_of rfl rfl (bool_tr e2634 hc2492)).trans rfl) rfl ?_
                    exact WL.nil ⟨rfl, _, rfl, rfl, hs.cutG 0 0⟩
                  · intro ρ w Γx Λx hs hu hp
                    have e2635 : ρ 118 = undef := (hp 14 rfl).1
                    have e2636 : ρ 119 = undef := (hp 15 rfl).1
                    have e2637 : ρ 117 = .bool ((x2489.length : Int) == (x30.length : Int)) := (hp 13 rfl).1
                    refine WL.pass ((wanted_of rfl rfl (bool_tr e2637 hc2492)).trans rfl) rfl ?_
                    exact WL.nil ⟨rfl, _, rfl, rfl, hs.cutG 0 0⟩
                  · intro ρ w Γx Λx hs hu hp
                    have e2638 : ρ 117 = .bool ((x2489.length : Int) == (x30.length : Int)) := (hp 13 rfl).1
                    have e2639 : ρ 120 = undef := (hp 16 rfl).1
                    refine WL.pickF (v := .bool false) (bool_tr e2638 hc2492) rfl ?_
                    exact WL.nil ⟨rfl, _, rfl, rfl, hs.cutG 0 0⟩
                  · intro ρ w Γx Λx hs hu hp
                    have e2640 : ρ 121 = .bool false := (hp 17 rfl).1
                    refine WL.move (v := .bool false) e2640 ?_
                    exact WL.nil ⟨rfl, _, rfl, rfl, hs.cutG 0 0⟩
                  · intro ρ w Γx Λx hs hu hp
                    have e2641 : ρ 122 = .bool false := (hp 18 rfl).1
                    refine WL.pass ((wanted_of rfl rfl e2641).trans rfl) rfl ?_
                    exact WL.nil ⟨rfl, _, rfl, rfl, hs.cutG 0 0⟩
                  · intro ρ w Γx Λx hs hu hp
                    have e2642 : ρ 122 = .bool false := (hp 18 rfl).1
                    have e2643 : ρ 123 = undef := (hp 19 rfl).1
                    refine WL.pickF (v := .bool false) e2642 rfl ?_
                    exact WL.nil ⟨rfl, _, rfl, rfl, hs.cutG 0 0⟩
                  · intro ρ w hs hu hp
                    obtain ⟨⟨⟨⟨⟨⟨⟨⟨⟨⟨⟨⟨⟨⟨⟨⟨⟨⟨⟨⟨⟨_, hp0_⟩, hp1_⟩, hp2_⟩, hp3_⟩, hp4_⟩, hp5_⟩, hp6_⟩, hp7_⟩, hp8_⟩, hp9_⟩, hp10_⟩, hp11_⟩, hp12_⟩, hp13_⟩, hp14_⟩, hp15_⟩, hp16_⟩, hp17_⟩, hp18_⟩, hp19_⟩, hp20_⟩ := hp
                    have hs : St ok (bz w0) w [vl (tSlice (tInt .i64)) x2489 (ρ 110), vl (tSlice t_network_Side) x2475.Sides (.slice a2479 (x2475.Sides).length c2481), vl (tSlice t_network_Packet) x2475.Packets (.slice a2476 (x2475.Packets).length c2478), vl t_network_Network (⟨x38.Next, x38.Packets, x38.Sides⟩ : network_Network) (.agg [.int .i64 x38.Next, .slice a39 (x38.Packets).length c41, .slice a42 (x38.Sides).length c44].toArray), vl (tSlice (tInt .i64)) x1954 (.slice a1955 x1954.length c1957), vl (tSlice t_network_Packet) x38.Packets (.slice a39 (x38.Packets).length c41), vl (tSlice t_network_Side) x38.Sides (.slice a42 (x38.Sides).length c44), vl (tSlice t_network_Packet) x30 (.slice a31 x30.length c32), vl (tSlice t_network_Side) x33 (.slice a34 x33.length c35)] [blk g2482 27 [.int .i64 x2475.Next, .slice a2476 (x2475.Packets).length c2478, .slice a2479 (x2475.Sides).length c2481], blk g45 27 [.int .i64 x38.Next, .slice a39 (x38.Packets).length c41, .slice a42 (x38.Sides).length c44], blk g26 27 [.int .i64 x29, .slice a31 x30.length c32, .slice a34 x33.length c35]] := hs
                    have e2644 : ρ 124 = .bool false := hp20_
                    have e2645 : ρ 123 = undef := hp19_
                    have e2646 : ρ 122 = .bool false := hp18_
                    have e2647 : ρ 121 = .bool false := hp17_
                    have e2648 : ρ 120 = undef := hp16_
                    have e2649 : ρ 119 = undef := hp15_
                    have e2650 : ρ 118 = undef := hp14_
                    have e2651 : ρ 117 = .bool ((x2489.length : Int) == (x30.length : Int)) := hp13_
                    have e2652 : ρ 116 = .bool ((x2489.length : Int) == (x30.length : Int)) := hp12_
                    have e2653 : ρ 115 = .bool ((x2489.length : Int) == (x30.length : Int)) := hp11_
                    have e2654 : ρ 114 = .int .i64 (x30.length : Int) := hp10_
                    have e2655 : ρ 113 = .slice a31 x30.length c32 := hp9_
                    have e2656 : ρ 112 = .pointer (some ⟨g26, 1, none⟩) := hp8_
                    have e2657 : ρ 111 = .int .i64 (x2489.length : Int) := hp7_
                    obtain ⟨⟨a2658, c2659⟩, e2660⟩ := hp6_
                    have e2660 : ρ 110 = .slice a2658 x2489.length c2659 := e2660
                    try rw [e2660] at hs
                    have e2661 : ρ 109 = .agg ([.int .i64 x2475.Next, .slice a2476 (x2475.Packets).length c2478, .slice a2479 (x2475.Sides).length c2481] : List Value).toArray := hp5_
                    have e2662 : ρ 108 = .bool (x2472 == (x1954.length : Int)) := hp4_
                    have e2663 : ρ 107 = .bool (x2472 == (x1954.length : Int)) := hp3_
                    have e2664 : ρ 106 = .int .i64 (x1954.length : Int) := hp2_
                    have e2665 : ρ 105 = .slice a1955 x1954.length c1957 := hp1_
                    have e2666 : ρ 104 = .int .i64 x2472 := hp0_
                    refine WA.step [21] (by kernel_rfl) (by simp) ⟨?_, trivial⟩
                    refine WL.assign (v := .bool false) e2644 ?_
                    refine WL.nil ⟨rfl, _, rfl, ?_⟩
                    refine WA.done (by kernel_rfl) ?_
                    exact Jk2486 false _ _ rfl ((hs.mask []).pick []) hf
              · refine W.any (by kernel_rfl) 21 1 [true, true, true, true, true, true, true, true, true, true, true, true, true, true, true, true, true, true, true, true, true, false] rfl rfl (poAt [pv (.int .i64 x2472), pv (.slice a1955 x1954.length c1957), pv (.int .i64 (x1954.length : Int)), pv (.bool (x2472 == (x1954.length : Int))), pv (.bool (x2472 == (x1954.length : Int))), pv (undef), pv (undef), pv (undef), pv (undef), pv (undef), pv (undef), pv (undef), pv (.bool false), pv (.bool false), pv (undef), pv (undef), pv (undef), pv (.bool false), pv (.bool false), pv (undef), pv (.bool false)]) (Λ := [blk g2482 27 [.int .i64 x2475.Next, .slice a2476 (x2475.Packets).length c2478, .slice a2479 (x2475.Sides).length c2481], blk g45 27 [.int .i64 x38.Next, .slice a39 (x38.Packets).length c41, .slice a42 (x38.Sides).length c44], blk g26 27 [.int .i64 x29, .slice a31 x30.length c32, .slice a34 x33.length c35]]) hs (by kernel_rfl) (by kernel_rfl) (by kernel_rfl) ⟨⟨⟨⟨⟨⟨⟨⟨⟨⟨⟨⟨⟨⟨⟨⟨⟨⟨⟨⟨⟨trivial, ?_⟩, ?_⟩, ?_⟩, ?_⟩, ?_⟩, ?_⟩, ?_⟩, ?_⟩, ?_⟩, ?_⟩, ?_⟩, ?_⟩, ?_⟩, ?_⟩, ?_⟩, ?_⟩, ?_⟩, ?_⟩, ?_⟩, ?_⟩, ?_⟩ ?_
                · intro ρ w Γx Λx hs hu hp
                  refine WL.move (v := .int .i64 x2472) ((hu 13 rfl).trans h2471_13) ?_
                  exact WL.nil ⟨rfl, _, rfl, rfl, hs.cutG 0 0⟩
                · intro ρ w Γx Λx hs hu hp
                  refine WL.move (v := .slice a1955 x1954.length c1957) ((hu 12 rfl).trans h2471_12) ?_
                  exact WL.nil ⟨rfl, _, rfl, rfl, hs.cutG 0 0⟩
                · intro ρ w Γx Λx hs hu hp
                  have e2667 : ρ 105 = .slice a1955 x1954.length c1957 := (hp 1 rfl).1
                  refine WL.len (v := .slice a1955 x1954.length c1957) e2667 (len_slice UN36) ?_
                  exact WL.nil ⟨rfl, _, rfl, rfl, hs.cutG 0 0⟩
                · intro ρ w Γx Λx hs hu hp
                  have e2668 : ρ 104 = .int .i64 x2472 := (hp 0 rfl).1
                  have e2669 : ρ 106 = .int .i64 (x1954.length : Int) := (hp 2 rfl).1
                  refine WL.bin (v := .bool (x2472 == (x1954.length : Int))) e2668 e2669 (ib_eql _ _ _) ?_
                  exact WL.nil ⟨rfl, _, rfl, rfl, hs.cutG 0 0⟩
                · intro ρ w Γx Λx hs hu hp
                  have e2670 : ρ 107 = .bool (x2472 == (x1954.length : Int)) := (hp 3 rfl).1
                  refine WL.move (v := .bool (x2472 == (x1954.length : Int))) e2670 ?_
                  exact WL.nil ⟨rfl, _, rfl, rfl, hs.cutG 0 0⟩
                · intro ρ w Γx Λx hs hu hp
                  have e2671 : ρ 108 = .bool (x2472 == (x1954.length : Int)) := (hp 4 rfl).1
                  refine WL.pass ((wanted_of rfl rfl (bool_tr e2671 hc2488)).trans rfl) rfl ?_
                  exact WL.nil ⟨rfl, _, rfl, rfl, hs.cutG 0 0⟩
                · intro ρ w Γx Λx hs hu hp
                  have e2672 : ρ 109 = undef := (hp 5 rfl).1
                  have e2673 : ρ 108 = .bool (x2472 == (x1954.length : Int)) := (hp 4 rfl).1
                  refine WL.pass ((wanted_of rfl rfl (bool_tr e2673 hc2488)).trans rfl) rfl ?_
                  exact WL.nil ⟨rfl, _, rfl, rfl, hs.cutG 0 0⟩
                · intro ρ w Γx Λx hs hu hp
                  have e2674 : ρ 110 = undef := (hp 6 rfl).1
                  have e2675 : ρ 108 = .bool (x2472 == (x1954.length : Int)) := (hp 4 rfl).1
                  refine WL.pass ((wanted_of rfl rfl (bool_tr e2675 hc2488)).trans rfl) rfl ?_
                  exact WL.nil ⟨rfl, _, rfl, rfl, hs.cutG 0 0⟩
                · intro ρ w Γx Λx hs hu hp
                  have e2676 : ρ 108 = .bool (x2472 == (x1954.length : Int)) := (hp 4 rfl).1
                  refine WL.pass ((wanted_of rfl rfl (bool_tr e2676 hc2488)).trans rfl) rfl ?_
                  exact WL.nil ⟨rfl, _, rfl, rfl, hs.cutG 0 0⟩
                · intro ρ w Γx Λx hs hu hp
                  have e2677 : ρ 112 = undef := (hp 8 rfl).1
                  have e2678 : ρ 108 = .bool (x2472 == (x1954.length : Int)) := (hp 4 rfl).1
                  refine WL.pass ((wanted_of rfl rfl (bool_tr e2678 hc2488)).trans rfl) rfl ?_
                  exact WL.nil ⟨rfl, _, rfl, rfl, hs.cutG 0 0⟩
                · intro ρ w Γx Λx hs hu hp
                  have e2679 : ρ 113 = undef := (hp 9 rfl).1
                  have e2680 : ρ 108 = .bool (x2472 == (x1954.length : Int)) := (hp 4 rfl).1
                  refine WL.pass ((wanted_of rfl rfl (bool_tr e2680 hc2488)).trans rfl) rfl ?_
                  exact WL.nil ⟨rfl, _, rfl, rfl, hs.cutG 0 0⟩
                · intro ρ w Γx Λx hs hu hp
                  have e2681 : ρ 111 = undef := (hp 7 rfl).1
                  have e2682 : ρ 114 = undef := (hp 10 rfl).1
                  have e2683 : ρ 108 = .bool (x2472 == (x1954.length : Int)) := (hp 4 rfl).1
                  refine WL.pass ((wanted_of rfl rfl (bool_tr e2683 hc2488)).trans rfl) rfl ?_
                  exact WL.nil ⟨rfl, _, rfl, rfl, hs.cutG 0 0⟩
                · intro ρ w Γx Λx hs hu hp
                  have e2684 : ρ 108 = .bool (x2472 == (x1954.length : Int)) := (hp 4 rfl).1
                  have e2685 : ρ 115 = undef := (hp 11 rfl).1
                  refine WL.pickF (v := .bool false) (bool_tr e2684 hc2488) rfl ?_
                  exact WL.nil ⟨rfl, _, rfl, rfl, hs.cutG 0 0⟩
                · intro ρ w Γx Λx hs hu hp
                  have e2686 : ρ 116 = .bool false := (hp 12 rfl).1
                  refine WL.move (v := .bool false) e2686 ?_
                  exact WL.nil ⟨rfl, _, rfl, rfl, hs.cutG 0 0⟩
                · intro ρ w Γx Λx hs hu hp
                  have e2687 : ρ 117 = .bool false := (hp 13 rfl).1
                  refine WL.pass ((wanted_of rfl rfl e2687).trans rfl) rfl ?_
                  exact WL.nil ⟨rfl, _, rfl, rfl, hs.cutG 0 0⟩
                · intro ρ w Γx Λx hs hu hp
                  have e2688 : ρ 117 = .bool false := (hp 13 rfl).1
                  refine WL.pass ((wanted_of rfl rfl e2688).trans rfl) rfl ?_
                  exact WL.nil ⟨rfl, _, rfl, rfl, hs.cutG 0 0⟩
                · intro ρ w Γx Λx hs hu hp
                  have e2689 : ρ 118 = undef := (hp 14 rfl).1
                  have e2690 : ρ 119 = undef := (hp 15 rfl).1
                  have e2691 : ρ 117 = .bool false := (hp 13 rfl).1
                  refine WL.pass ((wanted_of rfl rfl e2691).trans rfl) rfl ?_
                  exact WL.nil ⟨rfl, _, rfl, rfl, hs.cutG 0 0⟩
                · intro ρ w Γx Λx hs hu hp
                  have e2692 : ρ 117 = .bool false := (hp 13 rfl).1
                  have e2693 : ρ 120 = undef := (hp 16 rfl).1
                  refine WL.pickF (v := .bool false) e2692 rfl ?_
                  exact WL.nil ⟨rfl, _, rfl, rfl, hs.cutG 0 0⟩
                · intro ρ w Γx Λx hs hu hp
                  have e2694 : ρ 121 = .bool false := (hp 17 rfl).1
                  refine WL.move (v := .bool false) e2694 ?_
                  exact WL.nil ⟨rfl, _, rfl, rfl, hs.cutG 0 0⟩
                · intro ρ w Γx Λx hs hu hp
                  have e2695 : ρ 122 = .bool false := (hp 18 rfl).1
                  refine WL.pass ((wanted_of rfl rfl e2695).trans rfl) rfl ?_
                  exact WL.nil ⟨rfl, _, rfl, rfl, hs.cutG 0 0⟩
                · intro ρ w Γx Λx hs hu hp
                  have e2696 : ρ 122 = .bool false := (hp 18 rfl).1
                  have e2697 : ρ 123 = undef := (hp 19 rfl).1
                  refine WL.pickF (v := .bool false) e2696 rfl ?_
                  exact WL.nil ⟨rfl, _, rfl, rfl, hs.cutG 0 0⟩
                · intro ρ w hs hu hp
                  obtain ⟨⟨⟨⟨⟨⟨⟨⟨⟨⟨⟨⟨⟨⟨⟨⟨⟨⟨⟨⟨⟨_, hp0_⟩, hp1_⟩, hp2_⟩, hp3_⟩, hp4_⟩, hp5_⟩, hp6_⟩, hp7_⟩, hp8_⟩, hp9_⟩, hp10_⟩, hp11_⟩, hp12_⟩, hp13_⟩, hp14_⟩, hp15_⟩, hp16_⟩, hp17_⟩, hp18_⟩, hp19_⟩, hp20_⟩ := hp
                  have hs : St ok (bz w0) w [vl (tSlice t_network_Side) x2475.Sides (.slice a2479 (x2475.Sides).length c2481), vl (tSlice t_network_Packet) x2475.Packets (.slice a2476 (x2475.Packets).length c2478), vl t_network_Network (⟨x38.Next, x38.Packets, x38.Sides⟩ : network_Network) (.agg [.int .i64 x38.Next, .slice a39 (x38.Packets).length c41, .slice a42 (x38.Sides).length c44].toArray), vl (tSlice (tInt .i64)) x1954 (.slice a1955 x1954.length c1957), vl (tSlice t_network_Packet) x38.Packets (.slice a39 (x38.Packets).length c41), vl (tSlice t_network_Side) x38.Sides (.slice a42 (x38.Sides).length c44), vl (tSlice t_network_Packet) x30 (.slice a31 x30.length c32), vl (tSlice t_network_Side) x33 (.slice a34 x33.length c35)] [blk g2482 27 [.int .i64 x2475.Next, .slice a2476 (x2475.Packets).length c2478, .slice a2479 (x2475.Sides).length c2481], blk g45 27 [.int .i64 x38.Next, .slice a39 (x38.Packets).length c41, .slice a42 (x38.Sides).length c44], blk g26 27 [.int .i64 x29, .slice a31 x30.length c32, .slice a34 x33.length c35]] := hs
                  have e2698 : ρ 124 = .bool false := hp20_
                  have e2699 : ρ 123 = undef := hp19_
                  have e2700 : ρ 122 = .bool false := hp18_
                  have e2701 : ρ 121 = .bool false := hp17_
                  have e2702 : ρ 120 = undef := hp16_
                  have e2703 : ρ 119 = undef := hp15_
                  have e2704 : ρ 118 = undef := hp14_
                  have e2705 : ρ 117 = .bool false := hp13_
                  have e2706 : ρ 116 = .bool false := hp12_
                  have e2707 : ρ 115 = undef := hp11_
                  have e2708 : ρ 114 = undef := hp10_
                  have e2709 : ρ 113 = undef := hp9_
                  have e2710 : ρ 112 = undef := hp8_
                  have e2711 : ρ 111 = undef := hp7_
                  have e2712 : ρ 110 = undef := hp6_
                  have e2713 : ρ 109 = undef := hp5_
                  have e2714 : ρ 108 = .bool (x2472 == (x1954.length : Int)) := hp4_
                  have e2715 : ρ 107 = .bool (x2472 == (x1954.length : Int)) := hp3_
                  have e2716 : ρ 106 = .int .i64 (x1954.length : Int) := hp2_
                  have e2717 : ρ 105 = .slice a1955 x1954.length c1957 := hp1_
                  have e2718 : ρ 104 = .int .i64 x2472 := hp0_
                  refine WA.step [21] (by kernel_rfl) (by simp) ⟨?_, trivial⟩
                  refine WL.assign (v := .bool false) e2698 ?_
                  refine WL.nil ⟨rfl, _, rfl, ?_⟩
                  refine WA.done (by kernel_rfl) ?_
                  exact Jk2486 false _ _ rfl ((hs.mask []).pick []) hf
            refine W.seqK fun K2719 hK2719 => ?_
            refine W.region ?_
            refine WL.assign (v := .int .i64 0) rfl ?_
            refine WL.nil ?_
            refine hK2719 _ _ ?_
            refine W.block ?_
            obtain ⟨bs2723, hbs2723, hfs2723⟩ := bindE hf
            refine W.loop hbs2723 (fun s ρ w => match s with | (x2721, x2722) => ρ 9 = .pointer (some ⟨g26, 0, none⟩) ∧ ρ 11 = .pointer (some ⟨g45, 0, none⟩) ∧ ρ 12 = .slice a1955 x1954.length c1957 ∧ ρ 13 = .int .i64 x2721 ∧ ρ 14 = .int .i64 x2722 ∧ St ok (bz w0) w [vl (tSlice (tInt .i64)) x1954 (.slice a1955 x1954.length c1957), vl (tSlice t_network_Packet) x38.Packets (.slice a39 (x38.Packets).length c41), vl (tSlice t_network_Side) x38.Sides (.slice a42 (x38.Sides).length c44), vl (tSlice t_network_Packet) x30 (.slice a31 x30.length c32), vl (tSlice t_network_Side) x33 (.slice a34 x33.length c35)] [blk g45 27 [.int .i64 x38.Next, .slice a39 (x38.Packets).length c41, .slice a42 (x38.Sides).length c44], blk g26 27 [.int .i64 x29, .slice a31 x30.length c32, .slice a34 x33.length c35]]) ⟨h1948_9, h1948_11, rfl, rfl, rfl, (hs.mask [true, true]).pick [0, 2, 3, 4, 5]⟩ ?_
            intro s ρ w os2723 hI hf hbbs2723
            obtain ⟨x2721, x2722⟩ := s
            obtain ⟨h2720_9, h2720_11, h2720_12, h2720_13, h2720_14, hs⟩ := hI
            unfold eslaw34_NetworkSides.l1 at hf
            refine W.seqK fun K2724 hK2724 => ?_
            refine W.seqK fun K2725 hK2725 => ?_
            refine W.region ?_
            refine WL.move (v := .int .i64 x2722) h2720_14 ?_
            refine WL.fieldAddr (m := 1) h2720_11 FA27_1 rfl ?_
            refine WL.load1 (v := .slice a39 (x38.Packets).length c41) hs 0 rfl TI25 rfl rfl ?_
            refine WL.len (v := .slice a39 (x38.Packets).length c41) rfl (len_slice UN25) ?_
            refine WL.bin (v := .bool (decide (x2722 < ((x38.Packets).length : Int)))) rfl rfl (ib_lss _ _ _) ?_
            refine WL.nil ?_
            refine hK2725 _ _ ?_
            rcases iteE hf with ⟨hc2726, hf⟩ | ⟨hc2726, hf⟩
            · refine W.cond_true (bool_tr rfl hc2726) ?_
              refine W.skip ?_
              refine hK2724 _ _ ?_
              refine W.seqK fun K2727 hK2727 => ?_
              have Jk2730 : ∀ (x2729 : Int) (ρ : Env) (w : World), ρ 9 = .pointer (some ⟨g26, 0, none⟩) → ρ 11 = .pointer (some ⟨g45, 0, none⟩) → ρ 12 = .slice a1955 x1954.length c1957 → ρ 13 = .int .i64 x2729 → ρ 14 = .int .i64 x2722 → St ok (bz w0) w [vl (tSlice (tInt .i64)) x1954 (.slice a1955 x1954.length c1957), vl (tSlice t_network_Packet) x38.Packets (.slice a39 (x38.Packets).length c41), vl (tSlice t_network_Side) x38.Sides (.slice a42 (x38.Sides).length c44), vl (tSlice t_network_Packet) x30 (.slice a31 x30.length c32), vl (tSlice t_network_Side) x33 (.slice a34 x33.length c35)] [blk g45 27 [.int .i64 x38.Next, .slice a39 (x38.Packets).length c41, .slice a42 (x38.Sides).length c44], blk g26 27 [.int .i64 x29, .slice a31 x30.length c32, .slice a34 x33.length c35]] → eslaw34_NetworkSides.j3 x2722 x2729 = some os2723 → K2727 ρ w := by
                intro x2729 ρ w h2728_9 h2728_11 h2728_12 h2728_13 h2728_14 hs hf
                refine hK2727 _ _ ?_
                unfold eslaw34_NetworkSides.j3 at hf
                refine W.region ?_
                refine WL.move (v := .int .i64 x2722) h2728_14 ?_
                obtain ⟨x2731, ex2731, hf⟩ := letE hf
                refine WL.bin (v := .int .i64 x2731) rfl rfl (ib_as ex2731 (ib_add _ _ _)) ?_
                refine WL.assign (v := .int .i64 x2731) rfl ?_
                refine WL.nil ?_
                exact ⟨_, (Option.some.inj hf).symm, h2728_9, h2728_11, h2728_12, h2728_13, rfl, (hs.mask [true, true]).pick [0, 1, 2, 3, 4]⟩
              refine W.block ?_
              refine W.seqK fun K2732 hK2732 => ?_
              refine W.region ?_
              refine WL.fieldAddr (m := 1) h2720_11 FA27_1 rfl ?_
              refine WL.load1 (v := .slice a39 (x38.Packets).length c41) hs 0 rfl TI25 rfl rfl ?_
              refine WL.move (v := .int .i64 x2722) h2720_14 ?_
              obtain ⟨x2733, hxx2733, hf⟩ := bindE hf
              refine WL.indexAddr hs 1 rfl UN25 TI51 rfl rfl hxx2733 (fun ad2734 hs => ?_)
              refine WL.fieldAddrP (z := x2733.Message) F_network_Packet_Message hs 0 rfl rfl FA51_1 rfl (fun ad2735 hs => ?_)
              refine WL.loadP hs 0 rfl TI49 (.inl rfl) rfl (fun v2736 hs => ?_)
              obtain ⟨cs2737, hl2738, rfl⟩ := hs.aggv (n := 18) 0 rfl rfl rfl
              refine WL.alloc hs ZV49 (fun g2739 w hs => ?_)
              refine WL.storeAll (vs := cs2737) hs 0 rfl TI49 rfl rfl rfl hl2738 (hs.ones 0 rfl rfl) rfl (fun w hs => ?_)
              refine WL.nil ?_
              refine hK2732 _ _ ?_
              refine W.seqK fun K2740 hK2740 => ?_
              have Jk2743 : ∀ (x2742 : Bool) (ρ : Env) (w : World), ρ 9 = .pointer (some ⟨g26, 0, none⟩) → ρ 11 = .pointer (some ⟨g45, 0, none⟩) → ρ 12 = .slice a1955 x1954.length c1957 → ρ 13 = .int .i64 x2721 → ρ 14 = .int .i64 x2722 → ρ 15 = .pointer (some ⟨g2739, 0, none⟩) → ρ 16 = .bool x2742 → St ok (bz w0) w [vl (tSlice (tInt .i64)) x1954 (.slice a1955 x1954.length c1957), vl t_api_Message x2733.Message (.agg cs2737.toArray), vl (tSlice t_network_Packet) x38.Packets (.slice a39 (x38.Packets).length c41), vl (tSlice t_network_Side) x38.Sides (.slice a42 (x38.Sides).length c44), vl (tSlice t_network_Packet) x30 (.slice a31 x30.length c32), vl (tSlice t_network_Side) x33 (.slice a34 x33.length c35)] [blk g2739 49 cs2737, blk g45 27 [.int .i64 x38.Next, .slice a39 (x38.Packets).length c41, .slice a42 (x38.Sides).length c44], blk g26 27 [.int .i64 x29, .slice a31 x30.length c32, .slice a34 x33.length c35]] → eslaw34_NetworkSides.j4 x38 x2721 x2722 x2733 x2742 = some os2723 → K2740 ρ w := by
                intro x2742 ρ w h2741_9 h2741_11 h2741_12 h2741_13 h2741_14 h2741_15 h2741_16 hs hf
                refine hK2740 _ _ ?_
                unfold eslaw34_NetworkSides.j4 at hf
                refine W.seqK fun K2744 hK2744 => ?_
                refine W.seqK fun K2745 hK2745 => ?_
                refine W.region ?_
                refine WL.move (v := .bool x2742) h2741_16 ?_
                refine WL.loadN (vs := [.int .i64 x38.Next, .slice a39 (x38.Packets).length c41, .slice a42 (x38.Sides).length c44]) hs 1 rfl TI27 h2741_11 rfl rfl ?_
                refine WL.fieldAddr (m := 1) h2741_15 FA49_1 rfl ?_
                refine WL.loadF (z := x2733.Message.From) F_api_Message_From hs 0 rfl 1 rfl rfl TI3 (.inr rfl) rfl rfl (fun v2746 hs => ?_)
                obtain rfl := hs.int 0 rfl
                refine WL.fieldAddr (m := 2) h2741_15 FA49_2 rfl ?_
                refine WL.loadF (z := x2733.Message.To) F_api_Message_To hs 0 rfl 2 rfl rfl TI3 (.inr rfl) rfl rfl (fun v2747 hs => ?_)
                obtain rfl := hs.int 0 rfl
                have hs := hs.add (it := vl t_network_Network (⟨x38.Next, x38.Packets, x38.Sides⟩ : network_Network) (.agg [.int .i64 x38.Next, .slice a39 (x38.Packets).length c41, .slice a42 (x38.Sides).length c44].toArray)) fun ok hA => V_agg (show t_network_Network.R ok _ _ _ from ⟨[.int .i64 x38.Next], [.slice a39 (x38.Packets).length c41, .slice a42 (x38.Sides).length c44], rfl, rfl, ⟨[.slice a39 (x38.Packets).length c41], [.slice a42 (x38.Sides).length c44], rfl, (R_one (hA.get 4 rfl)), (R_one (hA.get 5 rfl))⟩⟩) rfl
                obtain ⟨x2748, hxx2748, hf⟩ := bindE hf
                refine WL.call (vs := [.agg ([.int .i64 x38.Next, .slice a39 (x38.Packets).length c41, .slice a42 (x38.Sides).length c44] : List Value).toArray, .int .i64 x2733.Message.From, .int .i64 x2733.Message.To]) hs FN13 ⟨rfl, ⟨rfl, ⟨rfl, trivial⟩⟩⟩ (fun ok hA => network_Blocked.calls (x1 := (⟨x38.Next, x38.Packets, x38.Sides⟩ : network_Network)) (x5 := x2733.Message.From) (x6 := x2733.Message.To) hxx2748 (hA.get 0 rfl)) ?_
                rintro _ w hs
                refine WL.eqB UN4 rfl rfl ?_
                refine WL.nil ?_
                refine hK2745 _ _ ?_
                rcases iteE hf with ⟨hc2749, hf⟩ | ⟨hc2749, hf⟩
                · refine W.cond_true (bool_tr rfl hc2749) ?_
                  refine W.seqK fun K2750 hK2750 => ?_
                  refine W.region ?_
                  refine WL.assign (v := .bool false) rfl ?_
                  refine WL.nil ?_
                  refine hK2750 _ _ ?_
                  refine W.ret ?_
                  have hr := Option.some.inj hf; subst hr
                  have hr := hbbs2723 _ rfl; subst hr
                  have hf := hfs2723
                  have hr := Option.some.inj hf; subst hr
                  exact ⟨_, resOk_one rfl rfl, (), rfl, (hs.mask []).pick []⟩
                · refine W.cond_false (bool_tr rfl hc2749) ?_
                  refine W.skip ?_
                  refine hK2744 _ _ ?_
                  refine W.seqK fun K2751 hK2751 => ?_
                  refine W.region ?_
                  refine WL.move (v := .bool x2742) h2741_16 ?_
                  refine WL.nil ?_
                  refine hK2751 _ _ ?_
                  rcases iteE hf with ⟨hc2752, hf⟩ | ⟨hc2752, hf⟩
                  · refine W.cond_true (bool_tr rfl hc2752) ?_
                    refine W.region ?_
                    refine WL.move (v := .int .i64 x2721) h2741_13 ?_
                    obtain ⟨x2753, ex2753, hf⟩ := letE hf
                    refine WL.bin (v := .int .i64 x2753) rfl rfl (ib_as ex2753 (ib_add _ _ _)) ?_
                    refine WL.assign (v := .int .i64 x2753) rfl ?_
                    refine WL.nil ?_
                    exact Jk2730 x2753 _ _ h2741_9 h2741_11 h2741_12 rfl h2741_14 ((hs.mask [false, true, true]).pick [3, 5, 6, 7, 8]) hf
                  · refine W.cond_false (bool_tr rfl hc2752) ?_
                    refine W.skip ?_
                    exact Jk2730 x2721 _ _ h2741_9 h2741_11 h2741_12 h2741_13 h2741_14 ((hs.mask [false, true, true]).pick [3, 5, 6, 7, 8]) hf
              rcases iteE hf with ⟨hc2754, hf⟩ | ⟨hc2754, hf⟩
              · obtain ⟨x2755, hxx2755, hf⟩ := bindE hf
                obtain ⟨x2758, hxx2758, hf⟩ := bindE hf
                refine W.any (by kernel_rfl) 17 1 [true, true, true, true, true, true, true, true, true, true, true, true, true, true, true, true, true, false] rfl rfl (poAt [pv (.int .i64 x2721), pv (.slice a1955 x1954.length c1957), pv (.int .i64 (x1954.length : Int)), pv (.bool (decide (x2721 < (x1954.length : Int)))), pv (.bool (decide (x2721 < (x1954.length : Int)))), pv (.slice a1955 x1954.length c1957), pv (.int .i64 x2721), pq (fun y : Addr => .pointer (some y)) (fun v => [pl (tInt .i64) x2755 (adOf v)]) (fun v => []), pv (.int .i64 x2755), pv (.pointer (some ⟨g45, 1, none⟩)), pv (.slice a39 (x38.Packets).length c41), pv (.int .i64 x2722), pq (fun y : Addr => .pointer (some y)) (fun v => [pl t_network_Packet x2758 (adOf v)]) (fun v => []), pq (fun y : Addr => .pointer (some y)) (fun v => [pl (tInt .i64) x2758.ID (adOf v)]) (fun v => []), pv (.int .i64 x2758.ID), pv (.bool (x2755 == x2758.ID)), pv (.bool (x2755 == x2758.ID))]) (Λ := [blk g2739 49 cs2737, blk g45 27 [.int .i64 x38.Next, .slice a39 (x38.Packets).length c41, .slice a42 (x38.Sides).length c44], blk g26 27 [.int .i64 x29, .slice a31 x30.length c32, .slice a34 x33.length c35]]) hs (by kernel_rfl) (by kernel_rfl) (by kernel_rfl) ⟨⟨⟨⟨⟨⟨⟨⟨⟨⟨⟨⟨⟨⟨⟨⟨⟨trivial, ?_⟩, ?_⟩, ?_⟩, ?_⟩, ?_⟩, ?_⟩, ?_⟩, ?_⟩, ?_⟩, ?_⟩, ?_⟩, ?_⟩, ?_⟩, ?_⟩, ?_⟩, ?_⟩, ?_⟩ ?_
                · intro ρ w Γx Λx hs hu hp
                  refine WL.move (v := .int .i64 x2721) ((hu 13 rfl).trans h2720_13) ?_
                  exact WL.nil ⟨rfl, _, rfl, rfl, hs.cutG 0 0⟩
                · intro ρ w Γx Λx hs hu hp
                  refine WL.move (v := .slice a1955 x1954.length c1957) ((hu 12 rfl).trans h2720_12) ?_
                  exact WL.nil ⟨rfl, _, rfl, rfl, hs.cutG 0 0⟩
                · intro ρ w Γx Λx hs hu hp
                  have e2762 : ρ 75 = .slice a1955 x1954.length c1957 := (hp 1 rfl).1
                  refine WL.len (v := .slice a1955 x1954.length c1957) e2762 (len_slice UN36) ?_
                  exact WL.nil ⟨rfl, _, rfl, rfl, hs.cutG 0 0⟩
                · intro ρ w Γx Λx hs hu hp
                  have e2763 : ρ 74 = .int .i64 x2721 := (hp 0 rfl).1
                  have e2764 : ρ 76 = .int .i64 (x1954.length : Int) := (hp 2 rfl).1
                  refine WL.bin (v := .bool (decide (x2721 < (x1954.length : Int)))) e2763 e2764 (ib_lss _ _ _) ?_
                  exact WL.nil ⟨rfl, _, rfl, rfl, hs.cutG 0 0⟩
                · intro ρ w Γx Λx hs hu hp
                  have e2765 : ρ 77 = .bool (decide (x2721 < (x1954.length : Int))) := (hp 3 rfl).1
                  refine WL.move (v := .bool (decide (x2721 < (x1954.length : Int)))) e2765 ?_
                  exact WL.nil ⟨rfl, _, rfl, rfl, hs.cutG 0 0⟩
                · intro ρ w Γx Λx hs hu hp
                  have e2766 : ρ 78 = .bool (decide (x2721 < (x1954.length : Int))) := (hp 4 rfl).1
                  refine WL.move (v := .slice a1955 x1954.length c1957) ((hu 12 rfl).trans h2720_12) ?_ (hg := (wanted_of rfl rfl (bool_tr e2766 hc2754)).trans rfl)
                  exact WL.nil ⟨rfl, _, rfl, rfl, hs.cutG 0 0⟩
                · intro ρ w Γx Λx hs hu hp
                  have e2767 : ρ 78 = .bool (decide (x2721 < (x1954.length : Int))) := (hp 4 rfl).1
                  refine WL.move (v := .int .i64 x2721) ((hu 13 rfl).trans h2720_13) ?_ (hg := (wanted_of rfl rfl (bool_tr e2767 hc2754)).trans rfl)
                  exact WL.nil ⟨rfl, _, rfl, rfl, hs.cutG 0 0⟩
                · intro ρ w Γx Λx hs hu hp
                  have e2768 : ρ 79 = .slice a1955 x1954.length c1957 := (hp 5 rfl).1
                  have e2769 : ρ 80 = .int .i64 x2721 := (hp 6 rfl).1
                  have e2770 : ρ 78 = .bool (decide (x2721 < (x1954.length : Int))) := (hp 4 rfl).1
                  refine WL.indexAddr hs (Γx.length + 3) (getApp rfl) UN36 TI3 e2768 e2769 hxx2755 (fun ad2756 hs => ?_) (hg := (wanted_of rfl rfl (bool_tr e2770 hc2754)).trans rfl)
                  have hs := hs.add (it := pl (tInt .i64) x2755 ad2756) fun ok hA => hA.get 0 rfl
                  exact WL.nil ⟨rfl, _, rfl, ⟨ad2756, rfl⟩, hs.cutG 1 1⟩
                · intro ρ w Γx Λx hs hu hp
                  obtain ⟨⟨ad2771, e2772r⟩, hm2773⟩ := hp 7 rfl
                  have e2772 : ρ 81 = .pointer (some ad2771) := e2772r
                  rw [e2772r] at hm2773
                  have hs := hs.memo1 (it := pl (tInt .i64) x2755 ad2771) (List.mem_append.2 (.inl (hm2773 _ (List.mem_of_getElem? (i := 0) rfl))))
                  have e2774 : ρ 78 = .bool (decide (x2721 < (x1954.length : Int))) := (hp 4 rfl).1
                  refine WL.loadP hs 0 rfl TI3 (.inr rfl) e2772 (fun v2757 hs => ?_) (hg := (wanted_of rfl rfl (bool_tr e2774 hc2754)).trans rfl)
                  obtain rfl := hs.int 0 rfl
                  exact WL.nil ⟨rfl, _, rfl, rfl, hs.cutG 0 2⟩
                · intro ρ w Γx Λx hs hu hp
                  have e2775 : ρ 78 = .bool (decide (x2721 < (x1954.length : Int))) := (hp 4 rfl).1
                  refine WL.fieldAddr (m := 1) ((hu 11 rfl).trans h2720_11) FA27_1 rfl ?_ (hg := (wanted_of rfl rfl (bool_tr e2775 hc2754)).trans rfl)
                  exact WL.nil ⟨rfl, _, rfl, rfl, hs.cutG 0 0⟩
                · intro ρ w Γx Λx hs hu hp
                  have e2776 : ρ 83 = .pointer (some ⟨g45, 1, none⟩) := (hp 9 rfl).1
                  have e2777 : ρ 78 = .bool (decide (x2721 < (x1954.length : Int))) := (hp 4 rfl).1
                  refine WL.load1 (v := .slice a39 (x38.Packets).length c41) hs (Λx.length + 1) (getApp rfl) TI25 e2776 rfl ?_ (hg := (wanted_of rfl rfl (bool_tr e2777 hc2754)).trans rfl)
                  exact WL.nil ⟨rfl, _, rfl, rfl, hs.cutG 0 0⟩
                · intro ρ w Γx Λx hs hu hp
                  have e2778 : ρ 78 = .bool (decide (x2721 < (x1954.length : Int))) := (hp 4 rfl).1
                  refine WL.move (v := .int .i64 x2722) ((hu 14 rfl).trans h2720_14) ?_ (hg := (wanted_of rfl rfl (bool_tr e2778 hc2754)).trans rfl)
                  exact WL.nil ⟨rfl, _, rfl, rfl, hs.cutG 0 0⟩
                · intro ρ w Γx Λx hs hu hp
                  have e2779 : ρ 84 = .slice a39 (x38.Packets).length c41 := (hp 10 rfl).1
                  have e2780 : ρ 85 = .int .i64 x2722 := (hp 11 rfl).1
                  have e2781 : ρ 78 = .bool (decide (x2721 < (x1954.length : Int))) := (hp 4 rfl).1
                  refine WL.indexAddr hs (Γx.length + 4) (getApp rfl) UN25 TI51 e2779 e2780 hxx2758 (fun ad2759 hs => ?_) (hg := (wanted_of rfl rfl (bool_tr e2781 hc2754)).trans rfl)
                  have hs := hs.add (it := pl t_network_Packet x2758 ad2759) fun ok hA => hA.get 0 rfl
                  exact WL.nil ⟨rfl, _, rfl, ⟨ad2759, rfl⟩, hs.cutG 1 1⟩
                · intro ρ w Γx Λx hs hu hp
                  obtain ⟨⟨ad2782, e2783r⟩, hm2784⟩ := hp 12 rfl
                  have e2783 : ρ 86 = .pointer (some ad2782) := e2783r
                  rw [e2783r] at hm2784
                  have hs := hs.memo1 (it := pl t_network_Packet x2758 ad2782) (List.mem_append.2 (.inl (hm2784 _ (List.mem_of_getElem? (i := 0) rfl))))
                  have e2785 : ρ 78 = .bool (decide (x2721 < (x1954.length : Int))) := (hp 4 rfl).1
                  refine WL.fieldAddrP (z := x2758.ID) F_network_Packet_ID hs 0 rfl e2783 FA51_0 rfl (fun ad2760 hs => ?_) (hg := (wanted_of rfl rfl (bool_tr e2785 hc2754)).trans rfl)
                  have hs := hs.add (it := pl (tInt .i64) x2758.ID ad2760) fun ok hA => hA.get 0 rfl
                  exact WL.nil ⟨rfl, _, rfl, ⟨ad2760, rfl⟩, hs.cutG 1 2⟩
                · intro ρ w Γx Λx hs hu hp
                  obtain ⟨⟨ad2786, e2787r⟩, hm2788⟩ := hp 13 rfl
                  have e2787 : ρ 87 = .pointer (some ad2786) := e2787r
                  rw [e2787r] at hm2788
                  have hs := hs.memo1 (it := pl (tInt .i64) x2758.ID ad2786) (List.mem_append.2 (.inl (hm2788 _ (List.mem_of_getElem? (i := 0) rfl))))
                  have e2789 : ρ 78 = .bool (decide (x2721 < (x1954.length : Int))) := (hp 4 rfl).1
                  refine WL.loadP hs 0 rfl TI3 (.inr rfl) e2787 (fun v2761 hs => ?_) (hg := (wanted_of rfl rfl (bool_tr e2789 hc2754)).trans rfl)
                  obtain rfl := hs.int 0 rfl
                  exact WL.nil ⟨rfl, _, rfl, rfl, hs.cutG 0 2⟩
                · intro ρ w Γx Λx hs hu hp
                  have e2790 : ρ 82 = .int .i64 x2755 := (hp 8 rfl).1
                  have e2791 : ρ 88 = .int .i64 x2758.ID := (hp 14 rfl).1
                  have e2792 : ρ 78 = .bool (decide (x2721 < (x1954.length : Int))) := (hp 4 rfl).1
                  refine WL.bin (v := .bool (x2755 == x2758.ID)) e2790 e2791 (ib_eql _ _ _) ?_ (hg := (wanted_of rfl rfl (bool_tr e2792 hc2754)).trans rfl)
                  exact WL.nil ⟨rfl, _, rfl, rfl, hs.cutG 0 0⟩
                · intro ρ w Γx Λx hs hu hp
                  have e2793 : ρ 78 = .bool (decide (x2721 < (x1954.length : Int))) := (hp 4 rfl).1
                  have e2794 : ρ 89 = .bool (x2755 == x2758.ID) := (hp 15 rfl).1
                  refine WL.pickT (v := .bool (x2755 == x2758.ID)) (bool_tr e2793 hc2754) e2794 ?_
                  exact WL.nil ⟨rfl, _, rfl, rfl, hs.cutG 0 0⟩
                · intro ρ w hs hu hp
                  obtain ⟨⟨⟨⟨⟨⟨⟨⟨⟨⟨⟨⟨⟨⟨⟨⟨⟨_, hp0_⟩, hp1_⟩, hp2_⟩, hp3_⟩, hp4_⟩, hp5_⟩, hp6_⟩, hp7_⟩, hp8_⟩, hp9_⟩, hp10_⟩, hp11_⟩, hp12_⟩, hp13_⟩, hp14_⟩, hp15_⟩, hp16_⟩ := hp
                  have hs : St ok (bz w0) w [pl (tInt .i64) x2758.ID (adOf (ρ 87)), pl t_network_Packet x2758 (adOf (ρ 86)), pl (tInt .i64) x2755 (adOf (ρ 81)), vl t_api_Message x2733.Message (.agg cs2737.toArray), pl t_api_Message x2733.Message ad2735, pl t_network_Packet x2733 ad2734, vl (tSlice (tInt .i64)) x1954 (.slice a1955 x1954.length c1957), vl (tSlice t_network_Packet) x38.Packets (.slice a39 (x38.Packets).length c41), vl (tSlice t_network_Side) x38.Sides (.slice a42 (x38.Sides).length c44), vl (tSlice t_network_Packet) x30 (.slice a31 x30.length c32), vl (tSlice t_network_Side) x33 (.slice a34 x33.length c35)] [blk g2739 49 cs2737, blk g45 27 [.int .i64 x38.Next, .slice a39 (x38.Packets).length c41, .slice a42 (x38.Sides).length c44], blk g26 27 [.int .i64 x29, .slice a31 x30.length c32, .slice a34 x33.length c35]] := hs
                  have e2795 : ρ 90 = .bool (x2755 == x2758.ID) := hp16_
                  have e2796 : ρ 89 = .bool (x2755 == x2758.ID) := hp15_
                  have e2797 : ρ 88 = .int .i64 x2758.ID := hp14_
                  obtain ⟨ad2798, e2799⟩ := hp13_
                  have e2799 : ρ 87 = .pointer (some ad2798) := e2799
                  try rw [e2799] at hs
                  obtain ⟨ad2800, e2801⟩ := hp12_
                  have e2801 : ρ 86 = .pointer (some ad2800) := e2801
                  try rw [e2801] at hs
                  have e2802 : ρ 85 = .int .i64 x2722 := hp11_
                  have e2803 : ρ 84 = .slice a39 (x38.Packets).length c41 := hp10_
                  have e2804 : ρ 83 = .pointer (some ⟨g45, 1, none⟩) := hp9_
                  have e2805 : ρ 82 = .int .i64 x2755 := hp8_
                  obtain ⟨ad2806, e2807⟩ := hp7_
                  have e2807 : ρ 81 = .pointer (some ad2806) := e2807
                  try rw [e2807] at hs
                  have e2808 : ρ 80 = .int .i64 x2721 := hp6_
                  have e2809 : ρ 79 = .slice a1955 x1954.length c1957 := hp5_
                  have e2810 : ρ 78 = .bool (decide (x2721 < (x1954.length : Int))) := hp4_
                  have e2811 : ρ 77 = .bool (decide (x2721 < (x1954.length : Int))) := hp3_
                  have e2812 : ρ 76 = .int .i64 (x1954.length : Int) := hp2_
                  have e2813 : ρ 75 = .slice a1955 x1954.length c1957 := hp1_
                  have e2814 : ρ 74 = .int .i64 x2721 := hp0_
                  refine WA.step [17] (by kernel_rfl) (by simp) ⟨?_, trivial⟩
                  refine WL.assign (v := .bool (x2755 == x2758.ID)) e2795 ?_
                  refine WL.nil ⟨rfl, _, rfl, ?_⟩
                  refine WA.done (by kernel_rfl) ?_
                  exact Jk2743 (x2755 == x2758.ID) _ _ ((hu 9 rfl).trans h2720_9) ((hu 11 rfl).trans h2720_11) ((hu 12 rfl).trans h2720_12) ((hu 13 rfl).trans h2720_13) ((hu 14 rfl).trans h2720_14) (hu 15 rfl) rfl ((hs.mask [true, true, true]).pick [6, 3, 7, 8, 9, 10]) hf
              · refine W.any (by kernel_rfl) 17 1 [true, true, true, true, true, true, true, true, true, true, true, true, true, true, true, true, true, false] rfl rfl (poAt [pv (.int .i64 x2721), pv (.slice a1955 x1954.length c1957), pv (.int .i64 (x1954.length : Int)), pv (.bool (decide (x2721 < (x1954.length : Int)))), pv (.bool (decide (x2721 < (x1954.length : Int)))), pv (undef), pv (undef), pv (undef), pv (undef), pv (undef), pv (undef), pv (undef), pv (undef), pv (undef), pv (undef), pv (undef), pv (.bool false)]) (Λ := [blk g2739 49 cs2737, blk g45 27 [.int .i64 x38.Next, .slice a39 (x38.Packets).length c41, .slice a42 (x38.Sides).length c44], blk g26 27 [.int .i64 x29, .slice a31 x30.length c32, .slice a34 x33.length c35]]) hs (by kernel_rfl) (by kernel_rfl) (by kernel_rfl) ⟨⟨⟨⟨⟨⟨⟨⟨⟨⟨⟨⟨⟨⟨⟨⟨⟨trivial, ?_⟩, ?_⟩, ?_⟩, ?_⟩, ?_⟩, ?_⟩, ?_⟩, ?_⟩, ?_⟩, ?_⟩, ?_⟩, ?_⟩, ?_⟩, ?_⟩, ?_⟩, ?_⟩, ?_⟩ ?_
                · intro ρ w Γx Λx hs hu hp
                  refine WL.move (v := .int .i64 x2721) ((hu 13 rfl).trans h2720_13) ?_
                  exact WL.nil ⟨rfl, _, rfl, rfl, hs.cutG 0 0⟩
                · intro ρ w Γx Λx hs hu hp
                  refine WL.move (v := .slice a1955 x1954.length c1957) ((hu 12 rfl).trans h2720_12) ?_
                  exact WL.nil ⟨rfl, _, rfl, rfl, hs.cutG 0 0⟩
                · intro ρ w Γx Λx hs hu hp
                  have e2815 : ρ 75 = .slice a1955 x1954.length c1957 := (hp 1 rfl).1
                  refine WL.len (v := .slice a1955 x1954.length c1957) e2815 (len_slice UN36) ?_
                  exact WL.nil ⟨rfl, _, rfl, rfl, hs.cutG 0 0⟩
                · intro ρ w Γx Λx hs hu hp
                  have e2816 : ρ 74 = .int .i64 x2721 := (hp 0 rfl).1
                  have e2817 : ρ 76 = .int .i64 (x1954.length : Int) := (hp 2 rfl).1
                  refine WL.bin (v := .bool (decide (x2721 < (x1954.length : Int)))) e2816 e2817 (ib_lss _ _ _) ?_
                  exact WL.nil ⟨rfl, _, rfl, rfl, hs.cutG 0 0⟩
                · intro ρ w Γx Λx hs hu hp
                  have e2818 : ρ 77 = .bool (decide (x2721 < (x1954.length : Int))) := (hp 3 rfl).1
                  refine WL.move (v := .bool (decide (x2721 < (x1954.length : Int)))) e2818 ?_
                  exact WL.nil ⟨rfl, _, rfl, rfl, hs.cutG 0 0⟩
                · intro ρ w Γx Λx hs hu hp
                  have e2819 : ρ 78 = .bool (decide (x2721 < (x1954.length : Int))) := (hp 4 rfl).1
                  refine WL.pass ((wanted_of rfl rfl (bool_tr e2819 hc2754)).trans rfl) rfl ?_
                  exact WL.nil ⟨rfl, _, rfl, rfl, hs.cutG 0 0⟩
                · intro ρ w Γx Λx hs hu hp
                  have e2820 : ρ 78 = .bool (decide (x2721 < (x1954.length : Int))) := (hp 4 rfl).1
                  refine WL.pass ((wanted_of rfl rfl (bool_tr e2820 hc2754)).trans rfl) rfl ?_
                  exact WL.nil ⟨rfl, _, rfl, rfl, hs.cutG 0 0⟩
                · intro ρ w Γx Λx hs hu hp
                  have e2821 : ρ 79 = undef := (hp 5 rfl).1
                  have e2822 : ρ 80 = undef := (hp 6 rfl).1
                  have e2823 : ρ 78 = .bool (decide (x2721 < (x1954.length : Int))) := (hp 4 rfl).1
                  refine WL.pass ((wanted_of rfl rfl (bool_tr e2823 hc2754)).trans rfl) rfl ?_
                  exact WL.nil ⟨rfl, _, rfl, rfl, hs.cutG 0 0⟩
                · intro ρ w Γx Λx hs hu hp
                  have e2824 : ρ 81 = undef := (hp 7 rfl).1
                  have e2825 : ρ 78 = .bool (decide (x2721 < (x1954.length : Int))) := (hp 4 rfl).1
                  refine WL.pass ((wanted_of rfl rfl (bool_tr e2825 hc2754)).trans rfl) rfl ?_
                  exact WL.nil ⟨rfl, _, rfl, rfl, hs.cutG 0 0⟩
                · intro ρ w Γx Λx hs hu hp
                  have e2826 : ρ 78 = .bool (decide (x2721 < (x1954.length : Int))) := (hp 4 rfl).1
                  refine WL.pass ((wanted_of rfl rfl (bool_tr e2826 hc2754)).trans rfl) rfl ?_
                  exact WL.nil ⟨rfl, _, rfl, rfl, hs.cutG 0 0⟩
                · intro ρ w Γx Λx hs hu hp
                  have e2827 : ρ 83 = undef := (hp 9 rfl).1
                  have e2828 : ρ 78 = .bool (decide (x2721 < (x1954.length : Int))) := (hp 4 rfl).1
                  refine WL.pass ((wanted_of rfl rfl (bool_tr e2828 hc2754)).trans rfl) rfl ?_
                  exact WL.nil ⟨rfl, _, rfl, rfl, hs.cutG 0 0⟩
                · intro ρ w Γx Λx hs hu hp
                  have e2829 : ρ 78 = .bool (decide (x2721 < (x1954.length : Int))) := (hp 4 rfl).1
                  refine WL.pass ((wanted_of rfl rfl (bool_tr e2829 hc2754)).trans rfl) rfl ?_
                  exact WL.nil ⟨rfl, _, rfl, rfl, hs.cutG 0 0⟩
                · intro ρ w Γx Λx hs hu hp
                  have e2830 : ρ 84 = undef := (hp 10 rfl).1
                  have e2831 : ρ 85 = undef := (hp 11 rfl).1
                  have e2832 : ρ 78 = .bool (decide (x2721 < (x1954.length : Int))) := (hp 4 rfl).1
                  refine WL.pass ((wanted_of rfl rfl (bool_tr e2832 hc2754)).trans rfl) rfl ?_
                  exact WL.nil ⟨rfl, _, rfl, rfl, hs.cutG 0 0⟩
                · intro ρ w Γx Λx hs hu hp
                  have e2833 : ρ 86 = undef := (hp 12 rfl).1
                  have e2834 : ρ 78 = .bool (decide (x2721 < (x1954.length : Int))) := (hp 4 rfl).1
                  refine WL.pass ((wanted_of rfl rfl (bool_tr e2834 hc2754)).trans rfl) rfl ?_
                  exact WL.nil ⟨rfl, _, rfl, rfl, hs.cutG 0 0⟩
                · intro ρ w Γx Λx hs hu hp
                  have e2835 : ρ 87 = undef := (hp 13 rfl).1
                  have e2836 : ρ 78 = .bool (decide (x2721 < (x1954.length : Int))) := (hp 4 rfl).1
                  refine WL.pass ((wanted_of rfl rfl (bool_tr e2836 hc2754)).trans rfl) rfl ?_
                  exact WL.nil ⟨rfl, _, rfl, rfl, hs.cutG 0 0⟩
                · intro ρ w Γx Λx hs hu hp
                  have e2837 : ρ 82 = undef := (hp 8 rfl).1
                  have e2838 : ρ 88 = undef := (hp 14 rfl).1
                  have e2839 : ρ 78 = .bool (decide (x2721 < (x1954.length : Int))) := (hp 4 rfl).1
                  refine WL.pass ((wanted_of rfl rfl (bool_tr e2839 hc2754)).trans rfl) rfl ?_
                  exact WL.nil ⟨rfl, _, rfl, rfl, hs.cutG 0 0⟩
                · intro ρ w Γx Λx hs hu hp
                  have e2840 : ρ 78 = .bool (decide (x2721 < (x1954.length : Int))) := (hp 4 rfl).1
                  have e2841 : ρ 89 = undef := (hp 15 rfl).1
                  refine WL.pickF (v := .bool false) (bool_tr e2840 hc2754) rfl ?_
                  exact WL.nil ⟨rfl, _, rfl, rfl, hs.cutG 0 0⟩
                · intro ρ w hs hu hp
                  obtain ⟨⟨⟨⟨⟨⟨⟨⟨⟨⟨⟨⟨⟨⟨⟨⟨⟨_, hp0_⟩, hp1_⟩, hp2_⟩, hp3_⟩, hp4_⟩, hp5_⟩, hp6_⟩, hp7_⟩, hp8_⟩, hp9_⟩, hp10_⟩, hp11_⟩, hp12_⟩, hp13_⟩, hp14_⟩, hp15_⟩, hp16_⟩ := hp
                  have hs : St ok (bz w0) w [vl t_api_Message x2733.Message (.agg cs2737.toArray), pl t_api_Message x2733.Message ad2735, pl t_network_Packet x2733 ad2734, vl (tSlice (tInt .i64)) x1954 (.slice a1955 x1954.length c1957), vl (tSlice t_network_Packet) x38.Packets (.slice a39 (x38.Packets).length c41), vl (tSlice t_network_Side) x38.Sides (.slice a42 (x38.Sides).length c44), vl (tSlice t_network_Packet) x30 (.slice a31 x30.length c32), vl (tSlice t_network_Side) x33 (.slice a34 x33.length c35)] [blk g2739 49 cs2737, blk g45 27 [.int .i64 x38.Next, .slice a39 (x38.Packets).length c41, .slice a42 (x38.Sides).length c44], blk g26 27 [.int .i64 x29, .slice a31 x30.length c32, .slice a34 x33.length c35]] := hs
                  have e2842 : ρ 90 = .bool false := hp16_
                  have e2843 : ρ 89 = undef := hp15_
                  have e2844 : ρ 88 = undef := hp14_
                  have e2845 : ρ 87 = undef := hp13_
                  have e2846 : ρ 86 = undef := hp12_
                  have e2847 : ρ 85 = undef := hp11_
                  have e2848 : ρ 84 = undef := hp10_
                  have e2849 : ρ 83 = undef := hp9_
                  have e2850 : ρ 82 = undef := hp8_
                  have e2851 : ρ 81 = undef := hp7_
                  have e2852 : ρ 80 = undef := hp6_
                  have e2853 : ρ 79 = undef := hp5_
                  have e2854 : ρ 78 = .bool (decide (x2721 < (x1954.length : Int))) := hp4_
                  have e2855 : ρ 77 = .bool (decide (x2721 < (x1954.length : Int))) := hp3_
                  have e2856 : ρ 76 = .int .i64 (x1954.length : Int) := hp2_
                  have e2857 : ρ 75 = .slice a1955 x1954.length c1957 := hp1_
                  have e2858 : ρ 74 = .int .i64 x2721 := hp0_
                  refine WA.step [17] (by kernel_rfl) (by simp) ⟨?_, trivial⟩
                  refine WL.assign (v := .bool false) e2842 ?_
                  refine WL.nil ⟨rfl, _, rfl, ?_⟩
                  refine WA.done (by kernel_rfl) ?_
                  exact Jk2743 false _ _ ((hu 9 rfl).trans h2720_9) ((hu 11 rfl).trans h2720_11) ((hu 12 rfl).trans h2720_12) ((hu 13 rfl).trans h2720_13) ((hu 14 rfl).trans h2720_14) (hu 15 rfl) rfl ((hs.mask [true, true, true]).pick [3, 0, 4, 5, 6, 7]) hf
            · refine W.cond_false (bool_tr rfl hc2726) ?_
              refine W.exit ?_
              have hr := Option.some.inj hf; subst hr
              have hr := hbbs2723 _ rfl; subst hr
              have hf := hfs2723
              exact Jk2473 x2721 _ _ h2720_9 h2720_11 h2720_12 h2720_13 ((hs.mask [true, true]).pick [0, 1, 2, 3, 4]) hf
        obtain ⟨x2861, hxx2861, hf⟩ := bindE hf
        obtain ⟨x2862, hxx2862, hf⟩ := bindE hf
        rcases iteE hf with ⟨hc2863, hf⟩ | ⟨hc2863, hf⟩
        · refine W.any (by kernel_rfl) 15 0 [true, true, true, true, true, true, true, true, true, true, true, true, true, true, true] rfl rfl (poAt [pv (.agg ([.int .i64 x38.Next, .slice a39 (x38.Packets).length c41, .slice a42 (x38.Sides).length c44] : List Value).toArray), pv (.int .i64 x7), pv (.int .i64 x8), pv (.bool x2861), pv (.agg ([.int .i64 x38.Next, .slice a39 (x38.Packets).length c41, .slice a42 (x38.Sides).length c44] : List Value).toArray), pv (.int .i64 x8), pv (.int .i64 x7), pv (.bool x2862), pv (.bool (x2861 != x2862)), pv (.bool (x2861 != x2862)), pv (undef), pv (undef), pv (undef), pv (undef), pv (.bool true)]) (Λ := [blk g45 27 [.int .i64 x38.Next, .slice a39 (x38.Packets).length c41, .slice a42 (x38.Sides).length c44], blk g26 27 [.int .i64 x29, .slice a31 x30.length c32, .slice a34 x33.length c35]]) hs (by kernel_rfl) (by kernel_rfl) (by kernel_rfl) ⟨⟨⟨⟨⟨⟨⟨⟨⟨⟨⟨⟨⟨⟨⟨trivial, ?_⟩, ?_⟩, ?_⟩, ?_⟩, ?_⟩, ?_⟩, ?_⟩, ?_⟩, ?_⟩, ?_⟩, ?_⟩, ?_⟩, ?_⟩, ?_⟩, ?_⟩ ?_
          · intro ρ w Γx Λx hs hu hp
            refine WL.loadN (vs := [.int .i64 x38.Next, .slice a39 (x38.Packets).length c41, .slice a42 (x38.Sides).length c44]) hs (Λx.length + 0) (getApp rfl) TI27 (hu 11 rfl) rfl rfl ?_
            exact WL.nil ⟨rfl, _, rfl, rfl, hs.cutG 0 0⟩
          · intro ρ w Γx Λx hs hu hp
            refine WL.move (v := .int .i64 x7) ((hu 2 rfl).trans h28_2) ?_
            exact WL.nil ⟨rfl, _, rfl, rfl, hs.cutG 0 0⟩
          · intro ρ w Γx Λx hs hu hp
            refine WL.move (v := .int .i64 x8) ((hu 3 rfl).trans h28_3) ?_
            exact WL.nil ⟨rfl, _, rfl, rfl, hs.cutG 0 0⟩
          · intro ρ w Γx Λx hs hu hp
            have e2864 : ρ 44 = .agg ([.int .i64 x38.Next, .slice a39 (x38.Packets).length c41, .slice a42 (x38.Sides).length c44] : List Value).toArray := (hp 0 rfl).1
            have e2865 : ρ 45 = .int .i64 x7 := (hp 1 rfl).1
            have e2866 : ρ 46 = .int .i64 x8 := (hp 2 rfl).1
            have hs := hs.add (it := vl t_network_Network (⟨x38.Next, x38.Packets, x38.Sides⟩ : network_Network) (.agg [.int .i64 x38.Next, .slice a39 (x38.Packets).length c41, .slice a42 (x38.Sides).length c44].toArray)) fun ok hA => V_agg (show t_network_Network.R ok _ _ _ from ⟨[.int .i64 x38.Next], [.slice a39 (x38.Packets).length c41, .slice a42 (x38.Sides).length c44], rfl, rfl, ⟨[.slice a39 (x38.Packets).length c41], [.slice a42 (x38.Sides).length c44], rfl, (R_one (hA.get (Γx.length + 1) (getApp rfl))), (R_one (hA.get (Γx.length + 0) (getApp rfl)))⟩⟩) rfl
            refine WL.call (vs := [.agg ([.int .i64 x38.Next, .slice a39 (x38.Packets).length c41, .slice a42 (x38.Sides).length c44] : List Value).toArray, .int .i64 x7, .int .i64 x8]) hs FN13 ⟨e2864, ⟨e2865, ⟨e2866, trivial⟩⟩⟩ (fun ok hA => network_Blocked.calls (x1 := (⟨x38.Next, x38.Packets, x38.Sides⟩ : network_Network)) (x5 := x7) (x6 := x8) hxx2861 (hA.get 0 rfl)) ?_
            rintro _ w hs
            exact WL.nil ⟨rfl, _, rfl, rfl, hs.cutG 0 1⟩
          · intro ρ w Γx Λx hs hu hp
            refine WL.loadN (vs := [.int .i64 x38.Next, .slice a39 (x38.Packets).length c41, .slice a42 (x38.Sides).length c44]) hs (Λx.length + 0) (getApp rfl) TI27 (hu 11 rfl) rfl rfl ?_
            exact WL.nil ⟨rfl, _, rfl, rfl, hs.cutG 0 0⟩
          · intro ρ w Γx Λx hs hu hp
            refine WL.move (v := .int .i64 x8) ((hu 3 rfl).trans h28_3) ?_
            exact WL.nil ⟨rfl, _, rfl, rfl, hs.cutG 0 0⟩
          · intro ρ w Γx Λx hs hu hp
            refine WL.move (v := .int .i64 x7) ((hu 2 rfl).trans h28_2) ?_
            exact WL.nil ⟨rfl, _, rfl, rfl, hs.cutG 0 0⟩
          · intro ρ w Γx Λx hs hu hp
            have e2867 : ρ 48 = .agg ([.int .i64 x38.Next, .slice a39 (x38.Packets).length c41, .slice a42 (x38.Sides).length c44] : List Value).toArray := (hp 4 rfl).1
            have e2868 : ρ 49 = .int .i64 x8 := (hp 5 rfl).1
            have e2869 : ρ 50 = .int .i64 x7 := (hp 6 rfl).1
            have hs := hs.add (it := vl t_network_Network (⟨x38.Next, x38.Packets, x38.Sides⟩ : network_Network) (.agg [.int .i64 x38.Next, .slice a39 (x38.Packets).length c41, .slice a42 (x38.Sides).length c44].toArray)) fun ok hA => V_agg (show t_network_Network.R ok _ _ _ from ⟨[.int .i64 x38.Next], [.slice a39 (x38.Packets).length c41, .slice a42 (x38.Sides).length c44], rfl, rfl, ⟨[.slice a39 (x38.Packets).length c41], [.slice a42 (x38.Sides).length c44], rfl, (R_one (hA.get (Γx.length + 1) (getApp rfl))), (R_one (hA.get (Γx.length + 0) (getApp rfl)))⟩⟩) rfl
            refine WL.call (vs := [.agg ([.int .i64 x38.Next, .slice a39 (x38.Packets).length c41, .slice a42 (x38.Sides).length c44] : List Value).toArray, .int .i64 x8, .int .i64 x7]) hs FN13 ⟨e2867, ⟨e2868, ⟨e2869, trivial⟩⟩⟩ (fun ok hA => network_Blocked.calls (x1 := (⟨x38.Next, x38.Packets, x38.Sides⟩ : network_Network)) (x5 := x8) (x6 := x7) hxx2862 (hA.get 0 rfl)) ?_
            rintro _ w hs
            exact WL.nil ⟨rfl, _, rfl, rfl, hs.cutG 0 1⟩
          · intro ρ w Γx Λx hs hu hp
            have e2870 : ρ 47 = .bool x2861 := (hp 3 rfl).1
            have e2871 : ρ 51 = .bool x2862 := (hp 7 rfl).1
            refine WL.neB UN4 e2870 e2871 ?_
            exact WL.nil ⟨rfl, _, rfl, rfl, hs.cutG 0 0⟩
          · intro ρ w Γx Λx hs hu hp
            have e2872 : ρ 52 = .bool (x2861 != x2862) := (hp 8 rfl).1
            refine WL.move (v := .bool (x2861 != x2862)) e2872 ?_
            exact WL.nil ⟨rfl, _, rfl, rfl, hs.cutG 0 0⟩
          · intro ρ w Γx Λx hs hu hp
            have e2873 : ρ 53 = .bool (x2861 != x2862) := (hp 9 rfl).1
            refine WL.pass ((wanted_of rfl rfl (bool_tr e2873 hc2863)).trans rfl) rfl ?_
            exact WL.nil ⟨rfl, _, rfl, rfl, hs.cutG 0 0⟩
          · intro ρ w Γx Λx hs hu hp
            have e2874 : ρ 53 = .bool (x2861 != x2862) := (hp 9 rfl).1
            refine WL.pass ((wanted_of rfl rfl (bool_tr e2874 hc2863)).trans rfl) rfl ?_
            exact WL.nil ⟨rfl, _, rfl, rfl, hs.cutG 0 0⟩
          · intro ρ w Γx Λx hs hu hp
            have e2875 : ρ 53 = .bool (x2861 != x2862) := (hp 9 rfl).1
            refine WL.pass ((wanted_of rfl rfl (bool_tr e2875 hc2863)).trans rfl) rfl ?_
            exact WL.nil ⟨rfl, _, rfl, rfl, hs.cutG 0 0⟩
          · intro ρ w Γx Λx hs hu hp
            have e2876 : ρ 54 = undef := (hp 10 rfl).1
            have e2877 : ρ 55 = undef := (hp 11 rfl).1
            have e2878 : ρ 56 = undef := (hp 12 rfl).1
            have e2879 : ρ 53 = .bool (x2861 != x2862) := (hp 9 rfl).1
            refine WL.pass ((wanted_of rfl rfl (bool_tr e2879 hc2863)).trans rfl) rfl ?_
            exact WL.nil ⟨rfl, _, rfl, rfl, hs.cutG 0 0⟩
          · intro ρ w Γx Λx hs hu hp
            have e2880 : ρ 53 = .bool (x2861 != x2862) := (hp 9 rfl).1
            have e2881 : ρ 57 = undef := (hp 13 rfl).1
            refine WL.pickT (v := .bool true) (bool_tr e2880 hc2863) rfl ?_
            exact WL.nil ⟨rfl, _, rfl, rfl, hs.cutG 0 0⟩
          · intro ρ w hs hu hp
            obtain ⟨⟨⟨⟨⟨⟨⟨⟨⟨⟨⟨⟨⟨⟨⟨_, hp0_⟩, hp1_⟩, hp2_⟩, hp3_⟩, hp4_⟩, hp5_⟩, hp6_⟩, hp7_⟩, hp8_⟩, hp9_⟩, hp10_⟩, hp11_⟩, hp12_⟩, hp13_⟩, hp14_⟩ := hp
            have hs : St ok (bz w0) w [vl (tSlice t_network_Side) x38.Sides (.slice a42 (x38.Sides).length c44), vl (tSlice t_network_Packet) x38.Packets (.slice a39 (x38.Packets).length c41), vl t_network_Network (⟨x29, x30, x33⟩ : network_Network) (.agg [.int .i64 x29, .slice a31 x30.length c32, .slice a34 x33.length c35].toArray), vl (tSlice t_network_Side) x4 (.slice a5 x4.length c6), vl (tSlice t_network_Packet) x30 (.slice a31 x30.length c32), vl (tSlice t_network_Side) x33 (.slice a34 x33.length c35)] [blk g45 27 [.int .i64 x38.Next, .slice a39 (x38.Packets).length c41, .slice a42 (x38.Sides).length c44], blk g26 27 [.int .i64 x29, .slice a31 x30.length c32, .slice a34 x33.length c35]] := hs
            have e2882 : ρ 58 = .bool true := hp14_
            have e2883 : ρ 57 = undef := hp13_
            have e2884 : ρ 56 = undef := hp12_
            have e2885 : ρ 55 = undef := hp11_
            have e2886 : ρ 54 = undef := hp10_
            have e2887 : ρ 53 = .bool (x2861 != x2862) := hp9_
            have e2888 : ρ 52 = .bool (x2861 != x2862) := hp8_
            have e2889 : ρ 51 = .bool x2862 := hp7_
            have e2890 : ρ 50 = .int .i64 x7 := hp6_
            have e2891 : ρ 49 = .int .i64 x8 := hp5_
            have e2892 : ρ 48 = .agg ([.int .i64 x38.Next, .slice a39 (x38.Packets).length c41, .slice a42 (x38.Sides).length c44] : List Value).toArray := hp4_
            have e2893 : ρ 47 = .bool x2861 := hp3_
            have e2894 : ρ 46 = .int .i64 x8 := hp2_
            have e2895 : ρ 45 = .int .i64 x7 := hp1_
            have e2896 : ρ 44 = .agg ([.int .i64 x38.Next, .slice a39 (x38.Packets).length c41, .slice a42 (x38.Sides).length c44] : List Value).toArray := hp0_
            refine WA.done (by kernel_rfl) ?_
            exact Jk1950 true _ _ ((hu 9 rfl).trans h28_9) (hu 11 rfl) e2882 ((hs.mask [true, true]).pick [1, 0, 4, 5]) hf
        · obtain ⟨x2897, hxx2897, hf⟩ := bindE hf
          refine W.any (by kernel_rfl) 15 0 [true, true, true, true, true, true, true, true, true, true, true, true, true, true, true] rfl rfl (poAt [pv (.agg ([.int .i64 x38.Next, .slice a39 (x38.Packets).length c41, .slice a42 (x38.Sides).length c44] : List Value).toArray), pv (.int .i64 x7), pv (.int .i64 x8), pv (.bool x2861), pv (.agg ([.int .i64 x38.Next, .slice a39 (x38.Packets).length c41, .slice a42 (x38.Sides).length c44] : List Value).toArray), pv (.int .i64 x8), pv (.int .i64 x7), pv (.bool x2862), pv (.bool (x2861 != x2862)), pv (.bool (x2861 != x2862)), pv (.agg ([.int .i64 x38.Next, .slice a39 (x38.Packets).length c41, .slice a42 (x38.Sides).length c44] : List Value).toArray), pv (.int .i64 x7), pv (.int .i64 x7), pv (.bool x2897), pv (.bool x2897)]) (Λ := [blk g45 27 [.int .i64 x38.Next, .slice a39 (x38.Packets).length c41, .slice a42 (x38.Sides).length c44], blk g26 27 [.int .i64 x29, .slice a31 x30.length c32, .slice a34 x33.length c35]]) hs (by kernel_rfl) (by kernel_rfl) (by kernel_rfl) ⟨⟨⟨⟨⟨⟨⟨⟨⟨⟨⟨⟨⟨⟨⟨trivial, ?_⟩, ?_⟩, ?_⟩, ?_⟩, ?_⟩, ?_⟩, ?_⟩, ?_⟩, ?_⟩, ?_⟩, ?_⟩, ?_⟩, ?_⟩, ?_⟩, ?_⟩ ?_
          · intro ρ w Γx Λx hs hu hp
            refine WL.loadN (vs := [.int .i64 x38.Next, .slice a39 (x38.Packets).length c41, .slice a42 (x38.Sides).length c44]) hs (Λx.length + 0) (getApp rfl) TI27 (hu 11 rfl) rfl rfl ?_
            exact WL.nil ⟨rfl, _, rfl, rfl, hs.cutG 0 0⟩
          · intro ρ w Γx Λx hs hu hp
            refine WL.move (v := .int .i64 x7) ((hu 2 rfl).trans h28_2) ?_
            exact WL.nil ⟨rfl, _, rfl, rfl, hs.cutG 0 0⟩
          · intro ρ w Γx Λx hs hu hp
            refine WL.move (v := .int .i64 x8) ((hu 3 rfl).trans h28_3) ?_
            exact WL.nil ⟨rfl, _, rfl, rfl, hs.cutG 0 0⟩
          · intro ρ w Γx Λx hs hu hp
            have e2898 : ρ 44 = .agg ([.int .i64 x38.Next, .slice a39 (x38.Packets).length c41, .slice a42 (x38.Sides).length c44] : List Value).toArray := (hp 0 rfl).1
            have e2899 : ρ 45 = .int .i64 x7 := (hp 1 rfl).1
            have e2900 : ρ 46 = .int .i64 x8 := (hp 2 rfl).1
            have hs := hs.add (it := vl t_network_Network (⟨x38.Next, x38.Packets, x38.Sides⟩ : network_Network) (.agg [.int .i64 x38.Next, .slice a39 (x38.Packets).length c41, .slice a42 (x38.Sides).length c44].toArray)) fun ok hA => V_agg (show t_network_Network.R ok _ _ _ from ⟨[.int .i64 x38.Next], [.slice a39 (x38.Packets).length c41, .slice a42 (x38.Sides).length c44], rfl, rfl, ⟨[.slice a39 (x38.Packets).length c41], [.slice a42 (x38.Sides).length c44], rfl, (R_one (hA.get (Γx.length + 1) (getApp rfl))), (R_one (hA.get (Γx.length + 0) (getApp rfl)))⟩⟩) rfl
            refine WL.call (vs := [.agg ([.int .i64 x38.Next, .slice a39 (x38.Packets).length c41, .slice a42 (x38.Sides).length c44] : List Value).toArray, .int .i64 x7, .int .i64 x8]) hs FN13 ⟨e2898, ⟨e2899, ⟨e2900, trivial⟩⟩⟩ (fun ok hA => network_Blocked.calls (x1 := (⟨x38.Next, x38.Packets, x38.Sides⟩ : network_Network)) (x5 := x7) (x6 := x8) hxx2861 (hA.get 0 rfl)) ?_
            rintro _ w hs
            exact WL.nil ⟨rfl, _, rfl, rfl, hs.cutG 0 1⟩
          · intro ρ w Γx Λx hs hu hp
            refine WL.loadN (vs := [.int .i64 x38.Next, .slice a39 (x38.Packets).length c41, .slice a42 (x38.Sides).length c44]) hs (Λx.length + 0) (getApp rfl) TI27 (hu 11 rfl) rfl rfl ?_
            exact WL.nil ⟨rfl, _, rfl, rfl, hs.cutG 0 0⟩
          · intro ρ w Γx Λx hs hu hp
            refine WL.move (v := .int .i64 x8) ((hu 3 rfl).trans h28_3) ?_
            exact WL.nil ⟨rfl, _, rfl, rfl, hs.cutG 0 0⟩
          · intro ρ w Γx Λx hs hu hp
            refine WL.move (v := .int .i64 x7) ((hu 2 rfl).trans h28_2) ?_
            exact WL.nil ⟨rfl, _, rfl, rfl, hs.cutG 0 0⟩
          · intro ρ w Γx Λx hs hu hp
            have e2901 : ρ 48 = .agg ([.int .i64 x38.Next, .slice a39 (x38.Packets).length c41, .slice a42 (x38.Sides).length c44] : List Value).toArray := (hp 4 rfl).1
            have e2902 : ρ 49 = .int .i64 x8 := (hp 5 rfl).1
            have e2903 : ρ 50 = .int .i64 x7 := (hp 6 rfl).1
            have hs := hs.add (it := vl t_network_Network (⟨x38.Next, x38.Packets, x38.Sides⟩ : network_Network) (.agg [.int .i64 x38.Next, .slice a39 (x38.Packets).length c41, .slice a42 (x38.Sides).length c44].toArray)) fun ok hA => V_agg (show t_network_Network.R ok _ _ _ from ⟨[.int .i64 x38.Next], [.slice a39 (x38.Packets).length c41, .slice a42 (x38.Sides).length c44], rfl, rfl, ⟨[.slice a39 (x38.Packets).length c41], [.slice a42 (x38.Sides).length c44], rfl, (R_one (hA.get (Γx.length + 1) (getApp rfl))), (R_one (hA.get (Γx.length + 0) (getApp rfl)))⟩⟩) rfl
            refine WL.call (vs := [.agg ([.int .i64 x38.Next, .slice a39 (x38.Packets).length c41, .slice a42 (x38.Sides).length c44] : List Value).toArray, .int .i64 x8, .int .i64 x7]) hs FN13 ⟨e2901, ⟨e2902, ⟨e2903, trivial⟩⟩⟩ (fun ok hA => network_Blocked.calls (x1 := (⟨x38.Next, x38.Packets, x38.Sides⟩ : network_Network)) (x5 := x8) (x6 := x7) hxx2862 (hA.get 0 rfl)) ?_
            rintro _ w hs
            exact WL.nil ⟨rfl, _, rfl, rfl, hs.cutG 0 1⟩
          · intro ρ w Γx Λx hs hu hp
            have e2904 : ρ 47 = .bool x2861 := (hp 3 rfl).1
            have e2905 : ρ 51 = .bool x2862 := (hp 7 rfl).1
            refine WL.neB UN4 e2904 e2905 ?_
            exact WL.nil ⟨rfl, _, rfl, rfl, hs.cutG 0 0⟩
          · intro ρ w Γx Λx hs hu hp
            have e2906 : ρ 52 = .bool (x2861 != x2862) := (hp 8 rfl).1
            refine WL.move (v := .bool (x2861 != x2862)) e2906 ?_
            exact WL.nil ⟨rfl, _, rfl, rfl, hs.cutG 0 0⟩
          · intro ρ w Γx Λx hs hu hp
            have e2907 : ρ 53 = .bool (x2861 != x2862) := (hp 9 rfl).1
            refine WL.loadN (vs := [.int .i64 x38.Next, .slice a39 (x38.Packets).length c41, .slice a42 (x38.Sides).length c44]) hs (Λx.length + 0) (getApp rfl) TI27 (hu 11 rfl) rfl rfl ?_ (hg := (wanted_of rfl rfl (bool_tr e2907 hc2863)).trans rfl)
            exact WL.nil ⟨rfl, _, rfl, rfl, hs.cutG 0 0⟩
          · intro ρ w Γx Λx hs hu hp
            have e2908 : ρ 53 = .bool (x2861 != x2862) := (hp 9 rfl).1
            refine WL.move (v := .int .i64 x7) ((hu 2 rfl).trans h28_2) ?_ (hg := (wanted_of rfl rfl (bool_tr e2908 hc2863)).trans rfl)
            exact WL.nil ⟨rfl, _, rfl, rfl, hs.cutG 0 0⟩
          · intro ρ w Γx Λx hs hu hp
            have e2909 : ρ 53 = .bool (x2861 != x2862) := (hp 9 rfl).1
            refine WL.move (v := .int .i64 x7) ((hu 2 rfl).trans h28_2) ?_ (hg := (wanted_of rfl rfl (bool_tr e2909 hc2863)).trans rfl)
            exact WL.nil ⟨rfl, _, rfl, rfl, hs.cutG 0 0⟩
          · intro ρ w Γx Λx hs hu hp
            have e2910 : ρ 54 = .agg ([.int .i64 x38.Next, .slice a39 (x38.Packets).length c41, .slice a42 (x38.Sides).length c44] : List Value).toArray := (hp 10 rfl).1
            have e2911 : ρ 55 = .int .i64 x7 := (hp 11 rfl).1
            have e2912 : ρ 56 = .int .i64 x7 := (hp 12 rfl).1
            have e2913 : ρ 53 = .bool (x2861 != x2862) := (hp 9 rfl).1
            have hs := hs.add (it := vl t_network_Network (⟨x38.Next, x38.Packets, x38.Sides⟩ : network_Network) (.agg [.int .i64 x38.Next, .slice a39 (x38.Packets).length c41, .slice a42 (x38.Sides).length c44].toArray)) fun ok hA => V_agg (show t_network_Network.R ok _ _ _ from ⟨[.int .i64 x38.Next], [.slice a39 (x38.Packets).length c41, .slice a42 (x38.Sides).length c44], rfl, rfl, ⟨[.slice a39 (x38.Packets).length c41], [.slice a42 (x38.Sides).length c44], rfl, (R_one (hA.get (Γx.length + 1) (getApp rfl))), (R_one (hA.get (Γx.length + 0) (getApp rfl)))⟩⟩) rfl
            refine WL.call (vs := [.agg ([.int .i64 x38.Next, .slice a39 (x38.Packets).length c41, .slice a42 (x38.Sides).length c44] : List Value).toArray, .int .i64 x7, .int .i64 x7]) hs FN13 ⟨e2910, ⟨e2911, ⟨e2912, trivial⟩⟩⟩ (fun ok hA => network_Blocked.calls (x1 := (⟨x38.Next, x38.Packets, x38.Sides⟩ : network_Network)) (x5 := x7) (x6 := x7) hxx2897 (hA.get 0 rfl)) ?_ (hg := (wanted_of rfl rfl (bool_tr e2913 hc2863)).trans rfl)
            rintro _ w hs
            exact WL.nil ⟨rfl, _, rfl, rfl, hs.cutG 0 1⟩
          · intro ρ w Γx Λx hs hu hp
            have e2914 : ρ 53 = .bool (x2861 != x2862) := (hp 9 rfl).1
            have e2915 : ρ 57 = .bool x2897 := (hp 13 rfl).1
            refine WL.pickF (v := .bool x2897) (bool_tr e2914 hc2863) e2915 ?_
            exact WL.nil ⟨rfl, _, rfl, rfl, hs.cutG 0 0⟩
          · intro ρ w hs hu hp
            obtain ⟨⟨⟨⟨⟨⟨⟨⟨⟨⟨⟨⟨⟨⟨⟨_, hp0_⟩, hp1_⟩, hp2_⟩, hp3_⟩, hp4_⟩, hp5_⟩, hp6_⟩, hp7_⟩, hp8_⟩, hp9_⟩, hp10_⟩, hp11_⟩, hp12_⟩, hp13_⟩, hp14_⟩ := hp
            have hs : St ok (bz w0) w [vl (tSlice t_network_Side) x38.Sides (.slice a42 (x38.Sides).length c44), vl (tSlice t_network_Packet) x38.Packets (.slice a39 (x38.Packets).length c41), vl t_network_Network (⟨x29, x30, x33⟩ : network_Network) (.agg [.int .i64 x29, .slice a31 x30.length c32, .slice a34 x33.length c35].toArray), vl (tSlice t_network_Side) x4 (.slice a5 x4.length c6), vl (tSlice t_network_Packet) x30 (.slice a31 x30.length c32), vl (tSlice t_network_Side) x33 (.slice a34 x33.length c35)] [blk g45 27 [.int .i64 x38.Next, .slice a39 (x38.Packets).length c41, .slice a42 (x38.Sides).length c44], blk g26 27 [.int .i64 x29, .slice a31 x30.length c32, .slice a34 x33.length c35]] := hs
            have e2916 : ρ 58 = .bool x2897 := hp14_
            have e2917 : ρ 57 = .bool x2897 := hp13_
            have e2918 : ρ 56 = .int .i64 x7 := hp12_
            have e2919 : ρ 55 = .int .i64 x7 := hp11_
            have e2920 : ρ 54 = .agg ([.int .i64 x38.Next, .slice a39 (x38.Packets).length c41, .slice a42 (x38.Sides).length c44] : List Value).toArray := hp10_
            have e2921 : ρ 53 = .bool (x2861 != x2862) := hp9_
            have e2922 : ρ 52 = .bool (x2861 != x2862) := hp8_
            have e2923 : ρ 51 = .bool x2862 := hp7_
            have e2924 : ρ 50 = .int .i64 x7 := hp6_
            have e2925 : ρ 49 = .int .i64 x8 := hp5_
            have e2926 : ρ 48 = .agg ([.int .i64 x38.Next, .slice a39 (x38.Packets).length c41, .slice a42 (x38.Sides).length c44] : List Value).toArray := hp4_
            have e2927 : ρ 47 = .bool x2861 := hp3_
            have e2928 : ρ 46 = .int .i64 x8 := hp2_
            have e2929 : ρ 45 = .int .i64 x7 := hp1_
            have e2930 : ρ 44 = .agg ([.int .i64 x38.Next, .slice a39 (x38.Packets).length c41, .slice a42 (x38.Sides).length c44] : List Value).toArray := hp0_
            refine WA.done (by kernel_rfl) ?_
            exact Jk1950 x2897 _ _ ((hu 9 rfl).trans h28_9) (hu 11 rfl) e2916 ((hs.mask [true, true]).pick [1, 0, 4, 5]) hf
      refine W.seqK fun K2931 hK2931 => ?_
      refine W.region ?_
      refine WL.assign (v := .int .i64 0) rfl ?_
      refine WL.nil ?_
      refine hK2931 _ _ ?_
      refine W.block ?_
      obtain ⟨bs2941, hbs2941, hfs2941⟩ := bindE hf
      obtain rfl := hs.ownLen 1 rfl
      have hs := hs.freezeOwn 1 rfl
      obtain rfl := hs.ownLen 1 rfl
      have hs := hs.freezeOwn 1 rfl
      refine W.loop hbs2941 (fun s ρ w => match s with | (x2933, x2934, x2935, x2938) => ∃ (a2936 : Option Addr), ∃ (c2937 : Nat), ∃ (a2939 : Option Addr), ∃ (c2940 : Nat), ρ 0 = .slice a2 x1.length c3 ∧ ρ 1 = .slice a5 x4.length c6 ∧ ρ 2 = .int .i64 x7 ∧ ρ 3 = .int .i64 x8 ∧ ρ 9 = .pointer (some ⟨g26, 0, none⟩) ∧ ρ 10 = .int .i64 x2933 ∧ St ok (bz w0) w [vl (tSlice t_elasticstorelaw34_Act) x1 (.slice a2 x1.length c3), vl (tSlice t_network_Side) x4 (.slice a5 x4.length c6), vl (tSlice t_network_Packet) x2935 (.slice a2936 x2935.length c2937), vl (tSlice t_network_Side) x2938 (.slice a2939 x2938.length c2940)] [blk g26 27 [.int .i64 x2934, .slice a2936 x2935.length c2937, .slice a2939 x2938.length c2940]]) ⟨a20, c22, a23, c25, h12_0, h12_1, h12_2, h12_3, rfl, rfl, (hs.mask [true]).pick [2, 3, 1, 0]⟩ ?_
      intro s ρ w os2941 hI hf hbbs2941
      obtain ⟨x2933, x2934, x2935, x2938⟩ := s
      obtain ⟨a2936, c2937, a2939, c2940, h2932_0, h2932_1, h2932_2, h2932_3, h2932_9, h2932_10, hs⟩ := hI
      unfold eslaw34_NetworkSides.l2 at hf
      refine W.seqK fun K2942 hK2942 => ?_
      refine W.seqK fun K2943 hK2943 => ?_
      refine W.region ?_
      refine WL.move (v := .int .i64 x2933) h2932_10 ?_
      refine WL.move (v := .slice a2 x1.length c3) h2932_0 ?_
      refine WL.len (v := .slice a2 x1.length c3) rfl (len_slice UN22) ?_
      refine WL.bin (v := .bool (decide (x2933 < (x1.length : Int)))) rfl rfl (ib_lss _ _ _) ?_
      refine WL.nil ?_
      refine hK2943 _ _ ?_
      rcases iteE hf with ⟨hc2944, hf⟩ | ⟨hc2944, hf⟩
      · refine W.cond_true (bool_tr rfl hc2944) ?_
        refine W.skip ?_
        refine hK2942 _ _ ?_
        refine W.seqK fun K2945 hK2945 => ?_
        refine W.block ?_
        obtain ⟨x2946, hxx2946, hf⟩ := bindE hf
        obtain ⟨x2951, hxx2951, hf⟩ := bindE hf
        obtain ⟨x2954, hxx2954, hf⟩ := bindE hf
        refine W.any (by kernel_rfl) 7 1 [true, true, true, true, true, true, true, false] rfl rfl (poAt [pv (.agg ([.int .i64 x2934, .slice a2936 x2935.length c2937, .slice a2939 x2938.length c2940] : List Value).toArray), pv (.slice a2 x1.length c3), pv (.int .i64 x2933), pq (fun y : Addr => .pointer (some y)) (fun v => [pl t_elasticstorelaw34_Act x2946 (adOf v)]) (fun v => []), pq (fun y : List Value => .agg y.toArray) (fun v => [vl t_elasticstorelaw34_Act x2946 v]) (fun v => []), pq (fun y : (Option Addr × Nat) => .slice y.1 x2951.length y.2) (fun v => [vl (tSlice t_api_Message) x2951 v]) (fun v => []), pq (fun y : List Value => .agg y.toArray) (fun v => [vl t_network_Network x2954 v]) (fun v => [])]) (Λ := [blk g26 27 [.int .i64 x2934, .slice a2936 x2935.length c2937, .slice a2939 x2938.length c2940]]) hs (by kernel_rfl) (by kernel_rfl) (by kernel_rfl) ⟨⟨⟨⟨⟨⟨⟨trivial, ?_⟩, ?_⟩, ?_⟩, ?_⟩, ?_⟩, ?_⟩, ?_⟩ ?_
        · intro ρ w Γx Λx hs hu hp
          refine WL.loadN (vs := [.int .i64 x2934, .slice a2936 x2935.length c2937, .slice a2939 x2938.length c2940]) hs (Λx.length + 0) (getApp rfl) TI27 ((hu 9 rfl).trans h2932_9) rfl rfl ?_
          exact WL.nil ⟨rfl, _, rfl, rfl, hs.cutG 0 0⟩
        · intro ρ w Γx Λx hs hu hp
          refine WL.move (v := .slice a2 x1.length c3) ((hu 0 rfl).trans h2932_0) ?_
          exact WL.nil ⟨rfl, _, rfl, rfl, hs.cutG 0 0⟩
        · intro ρ w Γx Λx hs hu hp
          refine WL.move (v := .int .i64 x2933) ((hu 10 rfl).trans h2932_10) ?_
          exact WL.nil ⟨rfl, _, rfl, rfl, hs.cutG 0 0⟩
        · intro ρ w Γx Λx hs hu hp
          have e2957 : ρ 35 = .slice a2 x1.length c3 := (hp 1 rfl).1
          have e2958 : ρ 36 = .int .i64 x2933 := (hp 2 rfl).1
          refine WL.indexAddr hs (Γx.length + 0) (getApp rfl) UN22 TI33 e2957 e2958 hxx2946 (fun ad2947 hs => ?_)
          have hs := hs.add (it := pl t_elasticstorelaw34_Act x2946 ad2947) fun ok hA => hA.get 0 rfl
          exact WL.nil ⟨rfl, _, rfl, ⟨ad2947, rfl⟩, hs.cutG 1 1⟩
        · intro ρ w Γx Λx hs hu hp
          obtain ⟨⟨ad2959, e2960r⟩, hm2961⟩ := hp 3 rfl
          have e2960 : ρ 37 = .pointer (some ad2959) := e2960r
          rw [e2960r] at hm2961
          have hs := hs.memo1 (it := pl t_elasticstorelaw34_Act x2946 ad2959) (List.mem_append.2 (.inl (hm2961 _ (List.mem_of_getElem? (i := 0) rfl))))
          refine WL.loadP hs 0 rfl TI33 (.inl rfl) e2960 (fun v2948 hs => ?_)
          obtain ⟨cs2949, hl2950, rfl⟩ := hs.aggv (n := 4) 0 rfl rfl rfl
          have hs := hs.add (it := vl t_elasticstorelaw34_Act x2946 (.agg cs2949.toArray)) fun ok hA => hA.get 0 rfl
          exact WL.nil ⟨rfl, _, rfl, ⟨cs2949, rfl⟩, hs.cutG 1 2⟩
        · intro ρ w Γx Λx hs hu hp
          obtain ⟨⟨cs2962, e2964r⟩, hm2965⟩ := hp 4 rfl
          have e2964 : ρ 38 = .agg cs2962.toArray := e2964r
          rw [e2964r] at hm2965
          have hs := hs.memo1 (it := vl t_elasticstorelaw34_Act x2946 (.agg cs2962.toArray)) (List.mem_append.2 (.inl (hm2965 _ (List.mem_of_getElem? (i := 0) rfl))))
          have hl2963 := hs.agglen (n := 4) 0 rfl rfl rfl
          refine WL.call (vs := [.agg cs2962.toArray]) hs FN11 ⟨e2964, trivial⟩ (fun ok hA => eslaw34_messages.callc (x1 := x2946) hxx2951 (hA.get 0 rfl)) ?_
          rintro ⟨a2952, c2953⟩ w hs
          have hs := hs.add (it := vl (tSlice t_api_Message) x2951 (.slice a2952 x2951.length c2953)) fun ok hA => hA.get 0 rfl
          exact WL.nil ⟨rfl, _, rfl, ⟨(a2952, c2953), rfl⟩, hs.cutG 1 2⟩
        · intro ρ w Γx Λx hs hu hp
          have e2966 : ρ 34 = .agg ([.int .i64 x2934, .slice a2936 x2935.length c2937, .slice a2939 x2938.length c2940] : List Value).toArray := (hp 0 rfl).1
          obtain ⟨⟨⟨a2967, c2968⟩, e2969r⟩, hm2970⟩ := hp 5 rfl
          have e2969 : ρ 39 = .slice a2967 x2951.length c2968 := e2969r
          rw [e2969r] at hm2970
          have hs := hs.memo1 (it := vl (tSlice t_api_Message) x2951 (.slice a2967 x2951.length c2968)) (List.mem_append.2 (.inl (hm2970 _ (List.mem_of_getElem? (i := 0) rfl))))
          have hs := hs.add (it := vl t_network_Network (⟨x2934, x2935, x2938⟩ : network_Network) (.agg [.int .i64 x2934, .slice a2936 x2935.length c2937, .slice a2939 x2938.length c2940].toArray)) fun ok hA => V_agg (show t_network_Network.R ok _ _ _ from ⟨[.int .i64 x2934], [.slice a2936 x2935.length c2937, .slice a2939 x2938.length c2940], rfl, rfl, ⟨[.slice a2936 x2935.length c2937], [.slice a2939 x2938.length c2940], rfl, (R_one (hA.get (Γx.length + 2 + 1) (getApp1 rfl))), (R_one (hA.get (Γx.length + 3 + 1) (getApp1 rfl)))⟩⟩) rfl
          refine WL.call (vs := [.agg ([.int .i64 x2934, .slice a2936 x2935.length c2937, .slice a2939 x2938.length c2940] : List Value).toArray, .slice a2967 x2951.length c2968]) hs FN10 ⟨e2966, ⟨e2969, trivial⟩⟩ (fun ok hA => network_Send.callc (x1 := (⟨x2934, x2935, x2938⟩ : network_Network)) (x5 := x2951) hxx2954 (hA.get 0 rfl) (hA.get 1 rfl)) ?_
          rintro cs2955 w hs
          have hl2956 := hs.agglen (n := 3) 0 rfl rfl rfl
          have hs := hs.add (it := vl t_network_Network x2954 (.agg cs2955.toArray)) fun ok hA => hA.get 0 rfl
          exact WL.nil ⟨rfl, _, rfl, ⟨cs2955, rfl⟩, hs.cutG 1 3⟩
        · intro ρ w hs hu hp
          obtain ⟨⟨⟨⟨⟨⟨⟨_, hp0_⟩, hp1_⟩, hp2_⟩, hp3_⟩, hp4_⟩, hp5_⟩, hp6_⟩ := hp
          have hs : St ok (bz w0) w [vl t_network_Network x2954 (ρ 40), vl (tSlice t_api_Message) x2951 (ρ 39), vl t_elasticstorelaw34_Act x2946 (ρ 38), pl t_elasticstorelaw34_Act x2946 (adOf (ρ 37)), vl (tSlice t_elasticstorelaw34_Act) x1 (.slice a2 x1.length c3), vl (tSlice t_network_Side) x4 (.slice a5 x4.length c6), vl (tSlice t_network_Packet) x2935 (.slice a2936 x2935.length c2937), vl (tSlice t_network_Side) x2938 (.slice a2939 x2938.length c2940)] [blk g26 27 [.int .i64 x2934, .slice a2936 x2935.length c2937, .slice a2939 x2938.length c2940]] := hs
          obtain ⟨cs2971, e2973⟩ := hp6_
          have e2973 : ρ 40 = .agg cs2971.toArray := e2973
          try rw [e2973] at hs
          obtain ⟨⟨a2974, c2975⟩, e2976⟩ := hp5_
          have e2976 : ρ 39 = .slice a2974 x2951.length c2975 := e2976
          try rw [e2976] at hs
          obtain ⟨cs2977, e2979⟩ := hp4_
          have e2979 : ρ 38 = .agg cs2977.toArray := e2979
          try rw [e2979] at hs
          obtain ⟨ad2980, e2981⟩ := hp3_
          have e2981 : ρ 37 = .pointer (some ad2980) := e2981
          try rw [e2981] at hs
          have e2982 : ρ 36 = .int .i64 x2933 := hp2_
          have e2983 : ρ 35 = .slice a2 x1.length c3 := hp1_
          have e2984 : ρ 34 = .agg ([.int .i64 x2934, .slice a2936 x2935.length c2937, .slice a2939 x2938.length c2940] : List Value).toArray := hp0_
          have hl2978 := hs.agglen (n := 4) 2 rfl rfl rfl
          have hl2972 := hs.agglen (n := 3) 0 rfl rfl rfl
          refine WA.step [7] (by kernel_rfl) (by simp) ⟨?_, trivial⟩
          refine WL.storeAll (vs := cs2971) hs 0 rfl TI27 ((hu 9 rfl).trans h2932_9) e2973 rfl hl2972 (hs.ones 0 rfl rfl) rfl (fun w hs => ?_)
          refine WL.nil ⟨rfl, _, rfl, ?_⟩
          refine WA.done (by kernel_rfl) ?_
          refine hK2945 _ _ ?_
          refine W.region ?_
          refine WL.move (v := .int .i64 x2933) ((hu 10 rfl).trans h2932_10) ?_
          obtain ⟨x2985, ex2985, hf⟩ := letE hf
          refine WL.bin (v := .int .i64 x2985) rfl rfl (ib_as ex2985 (ib_add _ _ _)) ?_
          refine WL.assign (v := .int .i64 x2985) rfl ?_
          refine WL.nil ?_
          obtain ⟨a2990, c2991, a2992, c2993, rfl⟩ := open_network_Network hs 0 rfl
          have hs := hs.add (it := vl (tSlice t_network_Packet) x2954.Packets (.slice a2990 (x2954.Packets).length c2991)) fun ok hA => V_fld F_network_Network_Packets (hA.get 0 rfl) rfl rfl rfl
          have hs := hs.add (it := vl (tSlice t_network_Side) x2954.Sides (.slice a2992 (x2954.Sides).length c2993)) fun ok hA => V_fld F_network_Network_Sides (hA.get 1 rfl) rfl rfl rfl
          exact ⟨_, (Option.some.inj hf).symm, a2990, c2991, a2992, c2993, ((hu 0 rfl).trans h2932_0), ((hu 1 rfl).trans h2932_1), ((hu 2 rfl).trans h2932_2), ((hu 3 rfl).trans h2932_3), ((hu 9 rfl).trans h2932_9), rfl, (hs.mask [true]).pick [6, 7, 1, 0]⟩
      · refine W.cond_false (bool_tr rfl hc2944) ?_
        refine W.exit ?_
        have hr := Option.some.inj hf; subst hr
        have hr := hbbs2941 _ rfl; subst hr
        have hf := hfs2941
        exact Jk36 x2934 x2935 x2938 a2936 c2937 a2939 c2940 _ _ h2932_1 h2932_2 h2932_3 h2932_9 ((hs.mask [true]).pick [1, 2, 3]) hf
  refine W.region ?_
  refine WL.move (v := .slice a2 x1.length c3) rfl ?_
  refine WL.len (v := .slice a2 x1.length c3) rfl (len_slice UN22) ?_
  refine WL.bin (v := .bool (decide (30 < (x1.length : Int)))) rfl rfl (ib_gtr _ _ _) ?_
  refine WL.move (v := .bool (decide (30 < (x1.length : Int)))) rfl ?_
  rcases iteE hf with ⟨hc2997, hf⟩ | ⟨hc2997, hf⟩
  · refine WL.pass ((wanted_of rfl rfl (bool_tr rfl hc2997)).trans rfl) rfl ?_
    refine WL.pass ((wanted_of rfl rfl (bool_tr rfl hc2997)).trans rfl) rfl ?_
    refine WL.pass ((wanted_of rfl rfl (bool_tr rfl hc2997)).trans rfl) rfl ?_
    refine WL.pickT (v := .bool true) (bool_tr rfl hc2997) rfl ?_
    refine WL.nil ?_
    exact Jk14 true _ _ rfl rfl rfl rfl rfl ((hs.mask []).pick [0, 1]) hf
  · refine WL.move (v := .slice a5 x4.length c6) rfl ?_ (hg := (wanted_of rfl rfl (bool_tr rfl hc2997)).trans rfl)
    refine WL.len (v := .slice a5 x4.length c6) rfl (len_slice UN23) ?_ (hg := (wanted_of rfl rfl (bool_tr rfl hc2997)).trans rfl)
    refine WL.bin (v := .bool (decide (10 < (x4.length : Int)))) rfl rfl (ib_gtr _ _ _) ?_ (hg := (wanted_of rfl rfl (bool_tr rfl hc2997)).trans rfl)
    refine WL.pickF (v := .bool (decide (10 < (x4.length : Int)))) (bool_tr rfl hc2997) rfl ?_
    refine WL.nil ?_
    exact Jk14 (decide (10 < (x4.length : Int))) _ _ rfl rfl rfl rfl rfl ((hs.mask []).pick [0, 1]) hf
end Go.Proofs.Ytahobbichanccaa
