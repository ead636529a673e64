import Derived.Test.YthfoljpjhegkmaaDoorFh
import Derived.Test.YthfoljpjhegkmaaDoorFp5
import Derived.Test.YthfoljpjhegkmaaDoorFp6
import Derived.Test.YthfoljpjhegkmaaDoorFp7
import Derived.Test.YthfoljpjhegkmaaDoorFp10
import Derived.Test.YthfoljpjhegkmaaDoorFp11
import Derived.Test.YthfoljpjhegkmaaDoorFp12
import Derived.Test.YthfoljpjhegkmaaDoorFp14
set_option linter.unusedVariables false
set_option linter.unusedSimpArgs false
namespace Go.Proofs.YthfoljpjhegkmaaDoor
open Go Go.RowKit Go.Proofs.YthfoljpjhegkmaaDoorL
set_option maxRecDepth 100000
set_option maxHeartbeats 4000000
/-! elasticstore/elasticstorelaw08.CommandProposal: function 6 -/
theorem eslaw08_CommandProposal.calls {ok : Nat → Prop} {w0 : World} {x1 : Int} {x2 : List Int} {x5 : List Int} {a3 : Option Addr} {c4 : Nat} {a6 : Option Addr} {c7 : Nat} {r : Bool} (hf : eslaw08_CommandProposal x1 x2 x5 = some r) (i0 : (vl (tSlice (tInt .i64)) x2 (.slice a3 x2.length c4)).holds ok w0) (i1 : (vl (tSlice (tInt .u8)) x5 (.slice a6 x5.length c7)).holds ok w0) :
    Calls Tryd.prog 6 #[.int .i64 x1, .slice a3 x2.length c4, .slice a6 x5.length c7] w0 fun e w' => ∃ v, e = .returned v ∧ ∃ y : Unit, v = .bool r ∧ St ok (bz w0) w' [] [] := by
  unfold eslaw08_CommandProposal at hf
  refine calls_of_W (fn := Tryd.f6) (N := 140) Tryd.func6 rfl Tryd.ntmps6 rfl ?_
  have hs : St ok (bz w0) w0 [vl (tSlice (tInt .i64)) x2 (.slice a3 x2.length c4), vl (tSlice (tInt .u8)) x5 (.slice a6 x5.length c7)] [] := St.init (All.cons i0 (All.cons i1 All.nil))
  clear i0 i1
  refine W.seqK fun K8 hK8 => ?_
  refine W.region ?_
  refine WL.assign (v := .bool false) rfl ?_
  refine WL.nil ?_
  refine hK8 _ _ ?_
  refine W.seqK fun K9 hK9 => ?_
  refine W.seqK fun K10 hK10 => ?_
  refine W.region ?_
  refine WL.move (v := .slice a6 x5.length c7) rfl ?_
  refine WL.len (v := .slice a6 x5.length c7) rfl (len_slice UN43) ?_
  refine WL.bin (v := .bool (decide (12 < (x5.length : Int)))) rfl rfl (ib_gtr _ _ _) ?_
  refine WL.nil ?_
  refine hK10 _ _ ?_
  rcases iteE hf with ⟨hc11, hf⟩ | ⟨hc11, hf⟩
  {
  refine W.cond_true (bool_tr rfl hc11) ?_
  refine W.seqK fun K12 hK12 => ?_
  refine W.region ?_
  obtain ⟨x13, hxx13, hf⟩ := bindE hf
  refine WL.call (vs := []) hs FN8 trivial (fun ok hA => eslaw08_awake.calls hxx13) ?_
  rintro _ w hs
  refine WL.assign (v := .bool x13) rfl ?_
  refine WL.nil ?_
  refine hK12 _ _ ?_
  refine W.ret ?_
  have hr := Option.some.inj hf; subst hr
  exact ⟨_, resOk_one rfl rfl, (), rfl, (hs.mask []).pick []⟩ }
  {
  refine W.cond_false (bool_tr rfl hc11) ?_
  refine W.skip ?_
  refine hK9 _ _ ?_
  refine W.seqK fun K14 hK14 => ?_
  refine W.region ?_
  refine WL.buildSlice (n := 12) (vs := [(0, bstr ([106, 111, 105, 110, 32, 57] : List UInt8)), (1, bstr ([106, 111, 105, 110, 32, 49, 48, 32, 119, 101, 105, 103, 104, 116, 32, 51] : List UInt8)), (2, bstr ([114, 101, 109, 111, 118, 101, 32, 49] : List UInt8)), (3, bstr ([114, 101, 109, 111, 118, 101, 32, 50] : List UInt8)), (4, bstr ([119, 101, 105, 103, 104, 116, 32, 49, 32, 52] : List UInt8)), (5, bstr ([119, 101, 105, 103, 104, 116, 32, 50, 32, 50] : List UInt8)), (6, bstr ([114, 117, 108, 101, 32, 119, 101, 105, 103, 104, 116, 101, 100] : List UInt8)), (7, bstr ([114, 117, 108, 101, 32, 103, 114, 105, 100, 32, 50] : List UInt8)), (8, bstr ([114, 117, 108, 101, 32, 109, 97, 115, 107, 105, 110, 103, 32, 49] : List UInt8)), (9, bstr ([] : List UInt8)), (10, bstr ([35, 32, 110, 111, 116, 101] : List UInt8)), (11, bstr ([106, 111, 105, 110, 32, 52] : List UInt8))]) (cs := [bstr ([106, 111, 105, 110, 32, 57] : List UInt8), bstr ([106, 111, 105, 110, 32, 49, 48, 32, 119, 101, 105, 103, 104, 116, 32, 51] : List UInt8), bstr ([114, 101, 109, 111, 118, 101, 32, 49] : List UInt8), bstr ([114, 101, 109, 111, 118, 101, 32, 50] : List UInt8), bstr ([119, 101, 105, 103, 104, 116, 32, 49, 32, 52] : List UInt8), bstr ([119, 101, 105, 103, 104, 116, 32, 50, 32, 50] : List UInt8), bstr ([114, 117, 108, 101, 32, 119, 101, 105, 103, 104, 116, 101, 100] : List UInt8), bstr ([114, 117, 108, 101, 32, 103, 114, 105, 100, 32, 50] : List UInt8), bstr ([114, 117, 108, 101, 32, 109, 97, 115, 107, 105, 110, 103, 32, 49] : List UInt8), bstr ([] : List UInt8), bstr ([35, 32, 110, 111, 116, 101] : List UInt8), bstr ([106, 111, 105, 110, 32, 52] : List UInt8)]) hs ⟨⟨rfl, rfl⟩, ⟨⟨rfl, rfl⟩, ⟨⟨rfl, rfl⟩, ⟨⟨rfl, rfl⟩, ⟨⟨rfl, rfl⟩, ⟨⟨rfl, rfl⟩, ⟨⟨rfl, rfl⟩, ⟨⟨rfl, rfl⟩, ⟨⟨rfl, rfl⟩, ⟨⟨rfl, rfl⟩, ⟨⟨rfl, rfl⟩, ⟨⟨rfl, rfl⟩, trivial⟩⟩⟩⟩⟩⟩⟩⟩⟩⟩⟩⟩ (bls PS44 (by decide) rfl) (fun g15 w hs => ?_)
  refine WL.assign (v := .slice (some ⟨g15, 0, none⟩) ([([106, 111, 105, 110, 32, 57] : List UInt8), ([106, 111, 105, 110, 32, 49, 48, 32, 119, 101, 105, 103, 104, 116, 32, 51] : List UInt8), ([114, 101, 109, 111, 118, 101, 32, 49] : List UInt8), ([114, 101, 109, 111, 118, 101, 32, 50] : List UInt8), ([119, 101, 105, 103, 104, 116, 32, 49, 32, 52] : List UInt8), ([119, 101, 105, 103, 104, 116, 32, 50, 32, 50] : List UInt8), ([114, 117, 108, 101, 32, 119, 101, 105, 103, 104, 116, 101, 100] : List UInt8), ([114, 117, 108, 101, 32, 103, 114, 105, 100, 32, 50] : List UInt8), ([114, 117, 108, 101, 32, 109, 97, 115, 107, 105, 110, 103, 32, 49] : List UInt8), ([] : List UInt8), ([35, 32, 110, 111, 116, 101] : List UInt8), ([106, 111, 105, 110, 32, 52] : List UInt8)]).length 12) rfl ?_
  refine WL.nil ?_
  refine hK14 _ _ ?_
  refine W.seqK fun K16 hK16 => ?_
  refine W.region ?_
  refine WL.assign (v := bstr ([] : List UInt8)) rfl ?_
  refine WL.nil ?_
  refine hK16 _ _ ?_
  refine W.seqK fun K17 hK17 => ?_
  have Jk20 : ∀ (x19 : List UInt8) (ρ : Env) (w : World), ρ 0 = .int .i64 x1 → ρ 1 = .slice a3 x2.length c4 → ρ 8 = bstr x19 → St ok (bz w0) w [vl (tSlice (tInt .i64)) x2 (.slice a3 x2.length c4)] [] → eslaw08_CommandProposal.j6 x1 x2 x19 = some r → K17 ρ w := by
    intro x19 ρ w h18_0 h18_1 h18_8 hs hf
    refine hK17 _ _ ?_
    unfold eslaw08_CommandProposal.j6 at hf
    refine W.seqK fun K21 hK21 => ?_
    refine W.region ?_
    refine WL.move (v := .int .i64 x1) h18_0 ?_
    obtain ⟨x22, hxx22, hf⟩ := bindE hf
    refine WL.call (vs := [.int .i64 x1]) hs FN17 ⟨rfl, trivial⟩ (fun ok hA => eslaw00_Genesis.calls (x1 := x1) hxx22) ?_
    rintro ⟨a23, n24, c25⟩ w hs
    refine WL.move (v := .slice a3 x2.length c4) h18_1 ?_
    obtain ⟨x26, hxx26, hf⟩ := bindE hf
    refine WL.call (vs := [.slice a3 x2.length c4]) hs FN18 ⟨rfl, trivial⟩ (fun ok hA => eslaw00_Pool.calls (x1 := x2) hxx26 (hA.get 0 rfl)) ?_
    rintro ⟨a27, n28, c29⟩ w hs
    refine WL.alloc hs ZV47 (fun g30 w hs => ?_)
    refine WL.storeAll (vs := [.slice a23 n24 c25, .int .i64 x22.Rule.Kind, .int .i64 x22.Rule.Columns, .int .i64 x22.Rule.Faulty]) hs 0 rfl TI47 rfl rfl rfl rfl (ones_of rfl) rfl (fun w hs => ?_)
    refine WL.assign (v := .slice a27 n28 c29) rfl ?_
    refine WL.nil ?_
    refine hK21 _ _ ?_
    refine W.seqK fun K31 hK31 => ?_
    refine W.region ?_
    refine WL.loadN (vs := [.slice a23 n24 c25, .int .i64 x22.Rule.Kind, .int .i64 x22.Rule.Columns, .int .i64 x22.Rule.Faulty]) hs 0 rfl TI47 rfl rfl rfl ?_
    refine WL.move (v := .slice a27 n28 c29) rfl ?_
    obtain rfl := hs.ownLen 2 rfl
    have hs := hs.freezeOwn 2 rfl
    have hs := hs.add (it := vl t_api_Genesis (⟨x22.Members, (⟨x22.Rule.Kind, x22.Rule.Columns, x22.Rule.Faulty⟩ : api_Rule)⟩ : api_Genesis) (.agg [.slice a23 (x22.Members).length c25, .int .i64 x22.Rule.Kind, .int .i64 x22.Rule.Columns, .int .i64 x22.Rule.Faulty].toArray)) fun ok hA => V_agg (show t_api_Genesis.R ok _ _ _ from ⟨[.slice a23 (x22.Members).length c25], [.int .i64 x22.Rule.Kind, .int .i64 x22.Rule.Columns, .int .i64 x22.Rule.Faulty], rfl, (R_one (hA.get 0 rfl)), ⟨[.int .i64 x22.Rule.Kind], [.int .i64 x22.Rule.Columns, .int .i64 x22.Rule.Faulty], rfl, rfl, ⟨[.int .i64 x22.Rule.Columns], [.int .i64 x22.Rule.Faulty], rfl, rfl, rfl⟩⟩⟩) rfl
    obtain rfl := hs.ownLen 1 rfl
    have hs := hs.freezeOwn 1 rfl
    obtain ⟨x32, hxx32, hf⟩ := bindE hf
    refine WL.call (vs := [.agg ([.slice a23 (x22.Members).length c25, .int .i64 x22.Rule.Kind, .int .i64 x22.Rule.Columns, .int .i64 x22.Rule.Faulty] : List Value).toArray, .slice a27 x26.length c29]) hs FN19 ⟨rfl, ⟨rfl, trivial⟩⟩ (fun ok hA => esref10_Summarize.calls (x1 := (⟨x22.Members, (⟨x22.Rule.Kind, x22.Rule.Columns, x22.Rule.Faulty⟩ : api_Rule)⟩ : api_Genesis)) (x5 := x26) hxx32 (hA.get 1 rfl) (hA.get 0 rfl)) ?_
    rintro cs33 w hs
    have hl34 := hs.agglen (n := 9) 0 rfl rfl rfl
    refine WL.alloc hs ZV36 (fun g35 w hs => ?_)
    refine WL.storeAll (vs := cs33) hs 0 rfl TI36 rfl rfl rfl hl34 (hs.ones 0 rfl rfl) rfl (fun w hs => ?_)
    refine WL.nil ?_
    refine hK31 _ _ ?_
    refine W.seqK fun K36 hK36 => ?_
    refine W.region ?_
    refine WL.move (v := bstr x19) h18_8 ?_
    refine WL.loadAll hs 0 rfl TI36 rfl hl34 ?_
    obtain ⟨⟨x37, x38, x39⟩, hxx37, hf⟩ := bindE hf
    refine WL.call (vs := [bstr x19, .agg cs33.toArray]) hs FN14 ⟨rfl, ⟨rfl, trivial⟩⟩ (fun ok hA => command_Compile.calls (x1 := x19) (x2 := x32) hxx37 (hA.get 0 rfl)) ?_
    rintro ⟨a40, n41, c42⟩ w hs
    refine WL.move (v := .tuple #[.slice a40 n41 c42, .int .i64 x38, .int .i64 x39]) rfl ?_
    refine WL.extract (v := .slice a40 n41 c42) rfl rfl ?_
    refine WL.extract (v := .int .i64 x38) rfl rfl ?_
    refine WL.extract (v := .int .i64 x39) rfl rfl ?_
    refine WL.assign (v := .slice a40 n41 c42) rfl ?_
    refine WL.assign (v := .int .i64 x38) rfl ?_
    refine WL.assign (v := .int .i64 x39) rfl ?_
    refine WL.nil ?_
    refine hK36 _ _ ?_
    refine W.seqK fun K43 hK43 => ?_
    refine W.seqK fun K44 hK44 => ?_
    refine W.region ?_
    refine WL.move (v := .int .i64 x39) rfl ?_
    refine WL.bin (v := .bool (x39 != 0)) rfl rfl (ib_neq _ _ _) ?_
    refine WL.nil ?_
    refine hK44 _ _ ?_
    rcases iteE hf with ⟨hc45, hf⟩ | ⟨hc45, hf⟩
    {
    refine W.cond_true (bool_tr rfl hc45) ?_
    refine W.seqK fun K46 hK46 => ?_
    have Jk49 : ∀ (x48 : Bool) (ρ : Env) (w : World), ρ 6 = .bool x48 → St ok (bz w0) w [] [] → eslaw08_CommandProposal.j1 x48 = some r → K46 ρ w := by
      intro x48 ρ w h47_6 hs hf
      refine hK46 _ _ ?_
      unfold eslaw08_CommandProposal.j1 at hf
      refine W.ret ?_
      have hr := Option.some.inj hf; subst hr
      exact ⟨_, resOk_one rfl h47_6, (), rfl, (hs.mask []).pick []⟩
    refine W.region ?_
    refine WL.move (v := .slice a40 n41 c42) rfl ?_
    refine WL.len (v := .slice a40 n41 c42) rfl (len_own hs 0 rfl UN38) ?_
    refine WL.bin (v := .bool ((x37.length : Int) == 0)) rfl rfl (ib_eql _ _ _) ?_
    refine WL.move (v := .bool ((x37.length : Int) == 0)) rfl ?_
    rcases iteE hf with ⟨hc50, hf⟩ | ⟨hc50, hf⟩
    {
    obtain ⟨x51, hxx51, hf⟩ := bindE hf
    refine WL.call (vs := []) hs FN8 trivial (fun ok hA => eslaw08_awake.calls hxx51) ?_ (hg := (wanted_of rfl rfl (bool_tr rfl hc50)).trans rfl)
    rintro _ w hs
    refine WL.pickT (v := .bool x51) (bool_tr rfl hc50) rfl ?_
    refine WL.assign (v := .bool x51) rfl ?_
    refine WL.nil ?_
    exact Jk49 x51 _ _ rfl ((hs.mask []).pick []) hf }
    {
    refine WL.pass ((wanted_of rfl rfl (bool_tr rfl hc50)).trans rfl) rfl ?_
    refine WL.pickF (v := .bool false) (bool_tr rfl hc50) rfl ?_
    refine WL.assign (v := .bool false) rfl ?_
    refine WL.nil ?_
    exact Jk49 false _ _ rfl ((hs.mask []).pick []) hf } }
    {
    refine W.cond_false (bool_tr rfl hc45) ?_
    refine W.skip ?_
    refine hK43 _ _ ?_
    refine W.seqK fun K52 hK52 => ?_
    refine W.region ?_
    refine WL.move (v := .slice a40 n41 c42) rfl ?_
    refine WL.build (vs := [(0, .int .i64 201), (1, .int .i64 1), (2, .slice a40 n41 c42)]) (cs := [.int .i64 201, .int .i64 1, .slice a40 n41 c42]) ⟨⟨rfl, rfl⟩, ⟨⟨rfl, rfl⟩, ⟨⟨rfl, rfl⟩, trivial⟩⟩⟩ (bld PL54 rfl) ?_
    refine WL.alloc hs ZV54 (fun g53 w hs => ?_)
    refine WL.storeAll (vs := [.int .i64 201, .int .i64 1, .slice a40 n41 c42]) hs 0 rfl TI54 rfl rfl rfl rfl (ones_of rfl) rfl (fun w hs => ?_)
    refine WL.nil ?_
    refine hK52 _ _ ?_
    refine W.seqK fun K54 hK54 => ?_
    refine W.seqK fun K55 hK55 => ?_
    refine W.region ?_
    refine WL.loadN (vs := [.int .i64 201, .int .i64 1, .slice a40 n41 c42]) hs 0 rfl TI54 rfl rfl rfl ?_
    obtain ⟨x56, hxx56, hf⟩ := bindE hf
    refine WL.callL (vs := [.agg ([.int .i64 201, .int .i64 1, .slice a40 n41 c42] : List Value).toArray]) hs FN20 ⟨rfl, trivial⟩ (esref06_ValidateProposal.calls (x1 := (⟨201, 1, x37⟩ : api_Proposal)) hxx56 (V_agg (show t_api_Proposal.R (fun _ => True) _ (⟨201, 1, x37⟩ : api_Proposal) [.int .i64 201, .int .i64 1, .slice a40 n41 c42] from ⟨[.int .i64 201], [.int .i64 1, .slice a40 n41 c42], rfl, rfl, ⟨[.int .i64 1], [.slice a40 n41 c42], rfl, rfl, (R_one (hs.ownT 1 rfl))⟩⟩) rfl)) ?_
    rintro _ w hs
    refine WL.bin (v := .bool (x56 != 0)) rfl rfl (ib_neq _ _ _) ?_
    refine WL.nil ?_
    refine hK55 _ _ ?_
    rcases iteE hf with ⟨hc57, hf⟩ | ⟨hc57, hf⟩
    {
    refine W.cond_true (bool_tr rfl hc57) ?_
    refine W.seqK fun K58 hK58 => ?_
    refine W.region ?_
    refine WL.assign (v := .bool false) rfl ?_
    refine WL.nil ?_
    refine hK58 _ _ ?_
    refine W.ret ?_
    have hr := Option.some.inj hf; subst hr
    exact ⟨_, resOk_one rfl rfl, (), rfl, (hs.mask []).pick []⟩ }
    {
    refine W.cond_false (bool_tr rfl hc57) ?_
    refine W.skip ?_
    refine hK54 _ _ ?_
    refine W.seqK fun K59 hK59 => ?_
    obtain rfl := hs.ownLen 1 rfl
    have hs := hs.freezeOwn 1 rfl
    obtain ⟨x60, hxx60, hf⟩ := bindE hf
    obtain ⟨x63, hxx63, hf⟩ := bindE hf
    refine W.any (by kernel_rfl) 5 1 [true, true, true, true, true, false] rfl rfl (poAt [pv (.agg cs33.toArray), pv (.agg ([.int .i64 201, .int .i64 1, .slice a40 x37.length c42] : List Value).toArray), pq (fun y : List Value => .agg y.toArray) (fun v => [vl t_api_Summary x60 v]) (fun v => []), pq (fun y : List Value => .agg y.toArray) (fun v => [vl t_api_Summary x63 v]) (fun v => []), pq (fun y : Nat => .pointer (some ⟨y, 0, none⟩)) (fun v => []) (fun v => [blk (gOf v) 36 [.slice none 0 0, .slice none 0 0, .slice none 0 0, .int .i64 0, .int .i64 0, .int .i64 0, .int .i64 0, .int .i64 0, .int .i64 0]])]) (Λ := [blk g53 54 [.int .i64 201, .int .i64 1, .slice a40 x37.length c42], blk g35 36 cs33, blk g30 47 [.slice a23 (x22.Members).length c25, .int .i64 x22.Rule.Kind, .int .i64 x22.Rule.Columns, .int .i64 x22.Rule.Faulty]]) hs (by kernel_rfl) (by kernel_rfl) (by kernel_rfl) ⟨⟨⟨⟨⟨trivial, ?_⟩, ?_⟩, ?_⟩, ?_⟩, ?_⟩ ?_
    {
    intro ρ w Γx Λx hs hu hp
    refine WL.loadAll hs (Λx.length + 1) (getApp rfl) TI36 (hu 12 rfl) hl34 ?_
    exact WL.nil ⟨rfl, _, rfl, rfl, hs.cutG 0 0⟩ }
    {
    intro ρ w Γx Λx hs hu hp
    refine WL.loadN (vs := [.int .i64 201, .int .i64 1, .slice a40 x37.length c42]) hs (Λx.length + 0) (getApp rfl) TI54 (hu 16 rfl) rfl rfl ?_
    exact WL.nil ⟨rfl, _, rfl, rfl, hs.cutG 0 0⟩ }
    {
    intro ρ w Γx Λx hs hu hp
    have e67 : ρ 73 = .agg ([.int .i64 201, .int .i64 1, .slice a40 x37.length c42] : List Value).toArray := (hp 1 rfl).1
    have hs := hs.add (it := vl t_api_Proposal (⟨201, 1, x37⟩ : api_Proposal) (.agg [.int .i64 201, .int .i64 1, .slice a40 x37.length c42].toArray)) fun ok hA => V_agg (show t_api_Proposal.R ok _ _ _ from ⟨[.int .i64 201], [.int .i64 1, .slice a40 x37.length c42], rfl, rfl, ⟨[.int .i64 1], [.slice a40 x37.length c42], rfl, rfl, (R_one (hA.get (Γx.length + 0) (getApp rfl)))⟩⟩) rfl
    refine WL.call (vs := [.agg ([.int .i64 201, .int .i64 1, .slice a40 x37.length c42] : List Value).toArray]) hs FN22 ⟨e67, trivial⟩ (fun ok hA => esref10_Of.calls (x1 := (⟨201, 1, x37⟩ : api_Proposal)) hxx60 (hA.get 0 rfl)) ?_
    rintro cs61 w hs
    have hl62 := hs.agglen (n := 9) 0 rfl rfl rfl
    have hs := hs.add (it := vl t_api_Summary x60 (.agg cs61.toArray)) fun ok hA => hA.get 0 rfl
    exact WL.nil ⟨rfl, _, rfl, ⟨cs61, rfl⟩, hs.cutG 1 2⟩ }
    {
    intro ρ w Γx Λx hs hu hp
    have e68 : ρ 72 = .agg cs33.toArray := (hp 0 rfl).1
    obtain ⟨⟨cs69, e71r⟩, hm72⟩ := hp 2 rfl
    have e71 : ρ 74 = .agg cs69.toArray := e71r
    rw [e71r] at hm72
    have hs := hs.memo1 (it := vl t_api_Summary x60 (.agg cs69.toArray)) (List.mem_append.2 (.inl (hm72 _ (List.mem_of_getElem? (i := 0) rfl))))
    have hl70 := hs.agglen (n := 9) 0 rfl rfl rfl
    refine WL.call (vs := [.agg cs33.toArray, .agg cs69.toArray]) hs FN21 ⟨e68, ⟨e71, trivial⟩⟩ (fun ok hA => esref10_Join.calls (x1 := x32) (x5 := x60) hxx63 (hA.get (Γx.length + 1 + 1) (getApp1 rfl)) (hA.get 0 rfl)) ?_
    rintro cs64 w hs
    have hl65 := hs.agglen (n := 9) 0 rfl rfl rfl
    have hs := hs.add (it := vl t_api_Summary x63 (.agg cs64.toArray)) fun ok hA => hA.get 0 rfl
    exact WL.nil ⟨rfl, _, rfl, ⟨cs64, rfl⟩, hs.cutG 1 2⟩ }
    {
    intro ρ w Γx Λx hs hu hp
    refine WL.alloc hs ZV36 (fun g66 w hs => ?_)
    exact WL.nil ⟨rfl, _, rfl, ⟨g66, rfl⟩, hs.cutG 0 0⟩ }
    {
    intro ρ w hs hu73 hp
    obtain ⟨⟨⟨⟨⟨_, hp0_⟩, hp1_⟩, hp2_⟩, hp3_⟩, hp4_⟩ := hp
    have hs : St ok (bz w0) w [vl t_api_Summary x63 (ρ 75), vl t_api_Summary x60 (ρ 74), vl (tSlice t_api_Change) x37 (.slice a40 x37.length c42), vl t_api_Summary x32 (.agg cs33.toArray), vl (tSlice t_api_Proposal) x26 (.slice a27 x26.length c29), vl t_api_Genesis (⟨x22.Members, (⟨x22.Rule.Kind, x22.Rule.Columns, x22.Rule.Faulty⟩ : api_Rule)⟩ : api_Genesis) (.agg [.slice a23 (x22.Members).length c25, .int .i64 x22.Rule.Kind, .int .i64 x22.Rule.Columns, .int .i64 x22.Rule.Faulty].toArray), vl (tSlice t_api_Member) x22.Members (.slice a23 (x22.Members).length c25), vl (tSlice (tInt .i64)) x2 (.slice a3 x2.length c4)] [blk (gOf ((ρ 17))) 36 [.slice none 0 0, .slice none 0 0, .slice none 0 0, .int .i64 0, .int .i64 0, .int .i64 0, .int .i64 0, .int .i64 0, .int .i64 0], blk g53 54 [.int .i64 201, .int .i64 1, .slice a40 x37.length c42], blk g35 36 cs33, blk g30 47 [.slice a23 (x22.Members).length c25, .int .i64 x22.Rule.Kind, .int .i64 x22.Rule.Columns, .int .i64 x22.Rule.Faulty]] := hs
    obtain ⟨g74, e75⟩ := hp4_
    have e75 : ρ 17 = .pointer (some ⟨g74, 0, none⟩) := e75
    try rw [e75] at hs
    obtain ⟨cs76, e78⟩ := hp3_
    have e78 : ρ 75 = .agg cs76.toArray := e78
    try rw [e78] at hs
    obtain ⟨cs79, e81⟩ := hp2_
    have e81 : ρ 74 = .agg cs79.toArray := e81
    try rw [e81] at hs
    have e82 : ρ 73 = .agg ([.int .i64 201, .int .i64 1, .slice a40 x37.length c42] : List Value).toArray := hp1_
    have e83 : ρ 72 = .agg cs33.toArray := hp0_
    have hl80 := hs.agglen (n := 9) 1 rfl rfl rfl
    have hl77 := hs.agglen (n := 9) 0 rfl rfl rfl
    refine WA.step [5] (by kernel_rfl) (by simp) ⟨?_, trivial⟩
    refine WL.storeAll (vs := cs76) hs 0 rfl TI36 e75 e78 rfl hl77 (hs.ones 0 rfl rfl) rfl (fun w hs => ?_)
    refine WL.nil ⟨rfl, _, rfl, ?_⟩
    refine WA.done (by kernel_rfl) ?_
    refine hK59 _ _ ?_
    refine W.seqK fun K84 hK84 => ?_
    have Jk86 : ∀  (ρ : Env) (w : World), St ok (bz w0) w [] [] → eslaw08_CommandProposal.j2 = some r → K84 ρ w := by
      intro  ρ w  hs hf
      refine hK84 _ _ ?_
      unfold eslaw08_CommandProposal.j2 at hf
      refine W.seqK fun K87 hK87 => ?_
      refine W.region ?_
      obtain ⟨x88, hxx88, hf⟩ := bindE hf
      refine WL.call (vs := []) hs FN8 trivial (fun ok hA => eslaw08_awake.calls hxx88) ?_
      rintro _ w hs
      refine WL.assign (v := .bool x88) rfl ?_
      refine WL.nil ?_
      refine hK87 _ _ ?_
      refine W.ret ?_
      have hr := Option.some.inj hf; subst hr
      exact ⟨_, resOk_one rfl rfl, (), rfl, (hs.mask []).pick []⟩
    refine W.seqK fun K89 hK89 => ?_
    refine W.region ?_
    refine WL.assign (v := .int .i64 0) rfl ?_
    refine WL.nil ?_
    refine hK89 _ _ ?_
    refine W.block ?_
    obtain ⟨bs92, hbs92, hfs92⟩ := bindE hf
    refine W.loop hbs92 (fun s ρ w => match s with | x91 => ρ 13 = .slice a40 x37.length c42 ∧ ρ 17 = .pointer (some ⟨g74, 0, none⟩) ∧ ρ 18 = .int .i64 x91 ∧ St ok (bz w0) w [vl (tSlice t_api_Change) x37 (.slice a40 x37.length c42), vl t_api_Summary x63 (.agg cs76.toArray)] [blk g74 36 cs76]) ⟨(hu73 13 rfl), e75, rfl, (hs.mask [true]).pick [2, 0]⟩ ?_
    intro x91 ρ w os92 hI hf hbbs92
    obtain ⟨h90_13, h90_17, h90_18, hs⟩ := hI
    unfold eslaw08_CommandProposal.l2 at hf
    refine W.seqK fun K93 hK93 => ?_
    refine W.seqK fun K94 hK94 => ?_
    refine W.region ?_
    refine WL.move (v := .int .i64 x91) h90_18 ?_
    refine WL.move (v := .slice a40 x37.length c42) h90_13 ?_
    refine WL.len (v := .slice a40 x37.length c42) rfl (len_slice UN38) ?_
    refine WL.bin (v := .bool (decide (x91 < (x37.length : Int)))) rfl rfl (ib_lss _ _ _) ?_
    refine WL.nil ?_
    refine hK94 _ _ ?_
    rcases iteE hf with ⟨hc95, hf⟩ | ⟨hc95, hf⟩
    {
    refine W.cond_true (bool_tr rfl hc95) ?_
    refine W.skip ?_
    refine hK93 _ _ ?_
    refine W.seqK fun K96 hK96 => ?_
    have Jk98 : ∀  (ρ : Env) (w : World), ρ 13 = .slice a40 x37.length c42 → ρ 17 = .pointer (some ⟨g74, 0, none⟩) → ρ 18 = .int .i64 x91 → St ok (bz w0) w [vl (tSlice t_api_Change) x37 (.slice a40 x37.length c42), vl t_api_Summary x63 (.agg cs76.toArray)] [blk g74 36 cs76] → eslaw08_CommandProposal.j3 x91 = some os92 → K96 ρ w := by
      intro  ρ w h97_13 h97_17 h97_18 hs hf
      refine hK96 _ _ ?_
      unfold eslaw08_CommandProposal.j3 at hf
      refine W.region ?_
      refine WL.move (v := .int .i64 x91) h97_18 ?_
      obtain ⟨x99, ex99, hf⟩ := letE hf
      refine WL.bin (v := .int .i64 x99) rfl rfl (ib_as ex99 (ib_add _ _ _)) ?_
      refine WL.assign (v := .int .i64 x99) rfl ?_
      refine WL.nil ?_
      exact ⟨_, (Option.some.inj hf).symm, h97_13, h97_17, rfl, (hs.mask [true]).pick [0, 1]⟩
    refine W.block ?_
    refine W.seqK fun K100 hK100 => ?_
    refine W.seqK fun K101 hK101 => ?_
    have Jk104 : ∀ (x103 : Bool) (ρ : Env) (w : World), ρ 13 = .slice a40 x37.length c42 → ρ 17 = .pointer (some ⟨g74, 0, none⟩) → ρ 18 = .int .i64 x91 → ρ 97 = .bool x103 → St ok (bz w0) w [vl (tSlice t_api_Change) x37 (.slice a40 x37.length c42), vl t_api_Summary x63 (.agg cs76.toArray)] [blk g74 36 cs76] → eslaw08_CommandProposal.j5 x37 x63 x91 x103 = some os92 → K101 ρ w := by
      intro x103 ρ w h102_13 h102_17 h102_18 h102_97 hs hf
      refine hK101 _ _ ?_
      unfold eslaw08_CommandProposal.j5 at hf
      rcases iteE hf with ⟨hc105, hf⟩ | ⟨hc105, hf⟩
      {
      refine W.cond_true (bool_tr h102_97 hc105) ?_
      refine W.seqK fun K106 hK106 => ?_
      refine W.region ?_
      refine WL.assign (v := .bool false) rfl ?_
      refine WL.nil ?_
      refine hK106 _ _ ?_
      refine W.ret ?_
      have hr := Option.some.inj hf; subst hr
      have hr := hbbs92 _ rfl; subst hr
      have hf := hfs92
      have hr := Option.some.inj hf; subst hr
      exact ⟨_, resOk_one rfl rfl, (), rfl, (hs.mask []).pick []⟩ }
      {
      refine W.cond_false (bool_tr h102_97 hc105) ?_
      refine W.skip ?_
      refine hK100 _ _ ?_
      refine W.seqK fun K107 hK107 => ?_
      refine W.region ?_
      refine WL.assign (v := .int .i64 0) rfl ?_
      refine WL.nil ?_
      refine hK107 _ _ ?_
      refine W.block ?_
      obtain ⟨bs110, hbs110, hfs110⟩ := bindE hf
      refine W.loop hbs110 (fun s ρ w => match s with | x109 => ρ 13 = .slice a40 x37.length c42 ∧ ρ 17 = .pointer (some ⟨g74, 0, none⟩) ∧ ρ 18 = .int .i64 x91 ∧ ρ 19 = .int .i64 x109 ∧ St ok (bz w0) w [vl (tSlice t_api_Change) x37 (.slice a40 x37.length c42), vl t_api_Summary x63 (.agg cs76.toArray)] [blk g74 36 cs76]) ⟨h102_13, h102_17, h102_18, rfl, (hs.mask [true]).pick [0, 1]⟩ ?_
      intro x109 ρ w os110 hI hf hbbs110
      obtain ⟨h108_13, h108_17, h108_18, h108_19, hs⟩ := hI
      unfold eslaw08_CommandProposal.l1 at hf
      refine W.seqK fun K111 hK111 => ?_
      refine W.seqK fun K112 hK112 => ?_
      refine W.region ?_
      refine WL.move (v := .int .i64 x109) h108_19 ?_
      refine WL.fieldAddr (m := 2) h108_17 FA36_2 rfl ?_
      refine WL.loadF (z := x63.Weights) F_api_Summary_Weights hs 0 rfl 1 rfl rfl TI34 (.inr rfl) rfl rfl (fun v113 hs => ?_)
      obtain ⟨a114, c115, rfl⟩ := hs.slice 0 rfl
      refine WL.len (v := .slice a114 (x63.Weights).length c115) rfl (len_slice UN34) ?_
      refine WL.bin (v := .bool (decide (x109 < ((x63.Weights).length : Int)))) rfl rfl (ib_lss _ _ _) ?_
      refine WL.nil ?_
      refine hK112 _ _ ?_
      rcases iteE hf with ⟨hc116, hf⟩ | ⟨hc116, hf⟩
      {
      refine W.cond_true (bool_tr rfl hc116) ?_
      refine W.skip ?_
      refine hK111 _ _ ?_
      refine W.seqK fun K117 hK117 => ?_
      refine W.block ?_
      refine W.seqK fun K118 hK118 => ?_
      have Jk121 : ∀ (x120 : Bool) (ρ : Env) (w : World), ρ 13 = .slice a40 x37.length c42 → ρ 17 = .pointer (some ⟨g74, 0, none⟩) → ρ 18 = .int .i64 x91 → ρ 19 = .int .i64 x109 → ρ 138 = .bool x120 → St ok (bz w0) w [vl (tSlice t_api_Change) x37 (.slice a40 x37.length c42), vl t_api_Summary x63 (.agg cs76.toArray)] [blk g74 36 cs76] → eslaw08_CommandProposal.j4 x109 x120 = some os110 → K118 ρ w := by
        intro x120 ρ w h119_13 h119_17 h119_18 h119_19 h119_138 hs hf
        refine hK118 _ _ ?_
        unfold eslaw08_CommandProposal.j4 at hf
        rcases iteE hf with ⟨hc122, hf⟩ | ⟨hc122, hf⟩
        {
        refine W.cond_true (bool_tr h119_138 hc122) ?_
        refine W.seqK fun K123 hK123 => ?_
        refine W.region ?_
        refine WL.assign (v := .bool false) rfl ?_
        refine WL.nil ?_
        refine hK123 _ _ ?_
        refine W.ret ?_
        have hr := Option.some.inj hf; subst hr
        have hr := hbbs110 _ rfl; subst hr
        have hf := hfs110
        have hr := Option.some.inj hf; subst hr
        have hr := hbbs92 _ rfl; subst hr
        have hf := hfs92
        have hr := Option.some.inj hf; subst hr
        exact ⟨_, resOk_one rfl rfl, (), rfl, (hs.mask []).pick []⟩ }
        {
        refine W.cond_false (bool_tr h119_138 hc122) ?_
        refine W.skip ?_
        refine hK117 _ _ ?_
        refine W.region ?_
        refine WL.move (v := .int .i64 x109) h119_19 ?_
        obtain ⟨x124, ex124, hf⟩ := letE hf
        refine WL.bin (v := .int .i64 x124) rfl rfl (ib_as ex124 (ib_add _ _ _)) ?_
        refine WL.assign (v := .int .i64 x124) rfl ?_
        refine WL.nil ?_
        exact ⟨_, (Option.some.inj hf).symm, h119_13, h119_17, h119_18, rfl, (hs.mask [true]).pick [0, 1]⟩ }
      obtain ⟨x125, hxx125, hf⟩ := bindE hf
      rcases iteE hf with ⟨hc129, hf⟩ | ⟨hc129, hf⟩
      {
      obtain ⟨x133, hxx133, hf⟩ := bindE hf
      obtain ⟨x137, hxx137, hf⟩ := bindE hf
      rcases iteE hf with ⟨hc141, hf⟩ | ⟨hc141, hf⟩
      {
      obtain ⟨x145, hxx145, hf⟩ := bindE hf
      obtain ⟨x149, hxx149, hf⟩ := bindE hf
      refine W.any (by kernel_rfl) 34 0 [true, true, true, true, true, true, true, true, true, true, true, true, true, true, true, true, true, true, true, true, true, true, true, true, true, true, true, true, true, true, true, true, true, true] rfl rfl (poAt [pv (.slice a40 x37.length c42), pv (.int .i64 x91), pq (fun y : Addr => .pointer (some y)) (fun v => [pl t_api_Change x125 (adOf v)]) (fun v => []), pq (fun y : Addr => .pointer (some y)) (fun v => [pl (tInt .i64) x125.Kind (adOf v)]) (fun v => []), pv (.int .i64 x125.Kind), pv (.bool (x125.Kind == 3)), pv (.bool (x125.Kind == 3)), pv (.pointer (some ⟨g74, 2, none⟩)), pq (fun y : (Option Addr × Nat) => .slice y.1 (x63.Weights).length y.2) (fun v => [vl (tSlice t_api_WeightEntry) x63.Weights v]) (fun v => []), pv (.int .i64 x109), pq (fun y : Addr => .pointer (some y)) (fun v => [pl t_api_WeightEntry x133 (adOf v)]) (fun v => []), pq (fun y : Addr => .pointer (some y)) (fun v => [pl (tInt .i64) x133.Server (adOf v)]) (fun v => []), pv (.int .i64 x133.Server), pv (.slice a40 x37.length c42), pv (.int .i64 x91), pq (fun y : Addr => .pointer (some y)) (fun v => [pl t_api_Change x137 (adOf v)]) (fun v => []), pq (fun y : Addr => .pointer (some y)) (fun v => [pl (tInt .i64) x137.Server (adOf v)]) (fun v => []), pv (.int .i64 x137.Server), pv (.bool (x133.Server == x137.Server)), pv (.bool (x133.Server == x137.Server)), pv (.bool (x133.Server == x137.Server)), pv (.pointer (some ⟨g74, 2, none⟩)), pq (fun y : (Option Addr × Nat) => .slice y.1 (x63.Weights).length y.2) (fun v => [vl (tSlice t_api_WeightEntry) x63.Weights v]) (fun v => []), pv (.int .i64 x109), pq (fun y : Addr => .pointer (some y)) (fun v => [pl t_api_WeightEntry x145 (adOf v)]) (fun v => []), pq (fun y : Addr => .pointer (some y)) (fun v => [pl (tInt .i64) x145.Weight (adOf v)]) (fun v => []), pv (.int .i64 x145.Weight), pv (.slice a40 x37.length c42), pv (.int .i64 x91), pq (fun y : Addr => .pointer (some y)) (fun v => [pl t_api_Change x149 (adOf v)]) (fun v => []), pq (fun y : Addr => .pointer (some y)) (fun v => [pl (tInt .i64) x149.Weight (adOf v)]) (fun v => []), pv (.int .i64 x149.Weight), pv (.bool (x145.Weight != x149.Weight)), pv (.bool (x145.Weight != x149.Weight))]) (Λ := [blk g74 36 cs76]) hs (by kernel_rfl) (by kernel_rfl) (by kernel_rfl) ⟨⟨⟨⟨⟨⟨⟨⟨⟨⟨⟨⟨⟨⟨⟨⟨⟨⟨⟨⟨⟨⟨⟨⟨⟨⟨⟨⟨⟨⟨⟨⟨⟨⟨trivial, ?_⟩, ?_⟩, ?_⟩, ?_⟩, ?_⟩, ?_⟩, ?_⟩, ?_⟩, ?_⟩, ?_⟩, ?_⟩, ?_⟩, ?_⟩, ?_⟩, ?_⟩, ?_⟩, ?_⟩, ?_⟩, ?_⟩, ?_⟩, ?_⟩, ?_⟩, ?_⟩, ?_⟩, ?_⟩, ?_⟩, ?_⟩, ?_⟩, ?_⟩, ?_⟩, ?_⟩, ?_⟩, ?_⟩, ?_⟩ ?_
      {
      intro ρ w Γx Λx hs hu hp
      refine WL.move (v := .slice a40 x37.length c42) ((hu 13 rfl).trans h108_13) ?_
      exact WL.nil ⟨rfl, _, rfl, rfl, hs.cutG 0 0⟩ }
      {
      intro ρ w Γx Λx hs hu hp
      refine WL.move (v := .int .i64 x91) ((hu 18 rfl).trans h108_18) ?_
      exact WL.nil ⟨rfl, _, rfl, rfl, hs.cutG 0 0⟩ }
      {
      intro ρ w Γx Λx hs hu hp
      have e153 : ρ 105 = .slice a40 x37.length c42 := (hp 0 rfl).1
      have e154 : ρ 106 = .int .i64 x91 := (hp 1 rfl).1
      refine WL.indexAddr hs (Γx.length + 1) (getApp rfl) UN38 TI26 e153 e154 hxx125 (fun ad126 hs => ?_)
      have hs := hs.add (it := pl t_api_Change x125 ad126) fun ok hA => hA.get 0 rfl
      exact WL.nil ⟨rfl, _, rfl, ⟨ad126, rfl⟩, hs.cutG 1 1⟩ }
      {
      intro ρ w Γx Λx hs hu hp
      obtain ⟨⟨ad155, e156r⟩, hm157⟩ := hp 2 rfl
      have e156 : ρ 107 = .pointer (some ad155) := e156r
      rw [e156r] at hm157
      have hs := hs.memo1 (it := pl t_api_Change x125 ad155) (List.mem_append.2 (.inl (hm157 _ (List.mem_of_getElem? (i := 0) rfl))))
      refine WL.fieldAddrP (z := x125.Kind) F_api_Change_Kind hs 0 rfl e156 FA26_0 rfl (fun ad127 hs => ?_)
      have hs := hs.add (it := pl (tInt .i64) x125.Kind ad127) fun ok hA => hA.get 0 rfl
      exact WL.nil ⟨rfl, _, rfl, ⟨ad127, rfl⟩, hs.cutG 1 2⟩ }
      {
      intro ρ w Γx Λx hs hu hp
      obtain ⟨⟨ad158, e159r⟩, hm160⟩ := hp 3 rfl
      have e159 : ρ 108 = .pointer (some ad158) := e159r
      rw [e159r] at hm160
      have hs := hs.memo1 (it := pl (tInt .i64) x125.Kind ad158) (List.mem_append.2 (.inl (hm160 _ (List.mem_of_getElem? (i := 0) rfl))))
      refine WL.loadP hs 0 rfl TI3 (.inr rfl) e159 (fun v128 hs => ?_)
      obtain rfl := hs.int 0 rfl
      exact WL.nil ⟨rfl, _, rfl, rfl, hs.cutG 0 2⟩ }
      {
      intro ρ w Γx Λx hs hu hp
      have e161 : ρ 109 = .int .i64 x125.Kind := (hp 4 rfl).1
      refine WL.bin (v := .bool (x125.Kind == 3)) e161 rfl (ib_eql _ _ _) ?_
      exact WL.nil ⟨rfl, _, rfl, rfl, hs.cutG 0 0⟩ }
      {
      intro ρ w Γx Λx hs hu hp
      have e162 : ρ 110 = .bool (x125.Kind == 3) := (hp 5 rfl).1
      refine WL.move (v := .bool (x125.Kind == 3)) e162 ?_
      exact WL.nil ⟨rfl, _, rfl, rfl, hs.cutG 0 0⟩ }
      {
      intro ρ w Γx Λx hs hu hp
      have e163 : ρ 111 = .bool (x125.Kind == 3) := (hp 6 rfl).1
      refine WL.fieldAddr (m := 2) ((hu 17 rfl).trans h108_17) FA36_2 rfl ?_ (hg := (wanted_of rfl rfl (bool_tr e163 hc129)).trans rfl)
      exact WL.nil ⟨rfl, _, rfl, rfl, hs.cutG 0 0⟩ }
      {
      intro ρ w Γx Λx hs hu hp
      have e164 : ρ 112 = .pointer (some ⟨g74, 2, none⟩) := (hp 7 rfl).1
      have e165 : ρ 111 = .bool (x125.Kind == 3) := (hp 6 rfl).1
      refine WL.loadF (z := x63.Weights) F_api_Summary_Weights hs (Λx.length + 0) (getApp rfl) (Γx.length + 2) (getApp rfl) rfl TI34 (.inr rfl) e164 rfl (fun v130 hs => ?_) (hg := (wanted_of rfl rfl (bool_tr e165 hc129)).trans rfl)
      obtain ⟨a131, c132, rfl⟩ := hs.slice 0 rfl
      have hs := hs.add (it := vl (tSlice t_api_WeightEntry) x63.Weights (.slice a131 (x63.Weights).length c132)) fun ok hA => hA.get 0 rfl
      exact WL.nil ⟨rfl, _, rfl, ⟨(a131, c132), rfl⟩, hs.cutG 1 1⟩ }
      {
      intro ρ w Γx Λx hs hu hp
      have e166 : ρ 111 = .bool (x125.Kind == 3) := (hp 6 rfl).1
      refine WL.move (v := .int .i64 x109) ((hu 19 rfl).trans h108_19) ?_ (hg := (wanted_of rfl rfl (bool_tr e166 hc129)).trans rfl)
      exact WL.nil ⟨rfl, _, rfl, rfl, hs.cutG 0 0⟩ }
      {
      intro ρ w Γx Λx hs hu hp
      obtain ⟨⟨⟨a167, c168⟩, e169r⟩, hm170⟩ := hp 8 rfl
      have e169 : ρ 113 = .slice a167 (x63.Weights).length c168 := e169r
      rw [e169r] at hm170
      have hs := hs.memo1 (it := vl (tSlice t_api_WeightEntry) x63.Weights (.slice a167 (x63.Weights).length c168)) (List.mem_append.2 (.inl (hm170 _ (List.mem_of_getElem? (i := 0) rfl))))
      have e171 : ρ 114 = .int .i64 x109 := (hp 9 rfl).1
      have e172 : ρ 111 = .bool (x125.Kind == 3) := (hp 6 rfl).1
      refine WL.indexAddr hs 0 rfl UN34 TI59 e169 e171 hxx133 (fun ad134 hs => ?_) (hg := (wanted_of rfl rfl (bool_tr e172 hc129)).trans rfl)
      have hs := hs.add (it := pl t_api_WeightEntry x133 ad134) fun ok hA => hA.get 0 rfl
      exact WL.nil ⟨rfl, _, rfl, ⟨ad134, rfl⟩, hs.cutG 1 2⟩ }
      {
      intro ρ w Γx Λx hs hu hp
      obtain ⟨⟨ad173, e174r⟩, hm175⟩ := hp 10 rfl
      have e174 : ρ 115 = .pointer (some ad173) := e174r
      rw [e174r] at hm175
      have hs := hs.memo1 (it := pl t_api_WeightEntry x133 ad173) (List.mem_append.2 (.inl (hm175 _ (List.mem_of_getElem? (i := 0) rfl))))
      have e176 : ρ 111 = .bool (x125.Kind == 3) := (hp 6 rfl).1
      refine WL.fieldAddrP (z := x133.Server) F_api_WeightEntry_Server hs 0 rfl e174 FA59_0 rfl (fun ad135 hs => ?_) (hg := (wanted_of rfl rfl (bool_tr e176 hc129)).trans rfl)
      have hs := hs.add (it := pl (tInt .i64) x133.Server ad135) fun ok hA => hA.get 0 rfl
      exact WL.nil ⟨rfl, _, rfl, ⟨ad135, rfl⟩, hs.cutG 1 2⟩ }
      {
      intro ρ w Γx Λx hs hu hp
      obtain ⟨⟨ad177, e178r⟩, hm179⟩ := hp 11 rfl
      have e178 : ρ 116 = .pointer (some ad177) := e178r
      rw [e178r] at hm179
      have hs := hs.memo1 (it := pl (tInt .i64) x133.Server ad177) (List.mem_append.2 (.inl (hm179 _ (List.mem_of_getElem? (i := 0) rfl))))
      have e180 : ρ 111 = .bool (x125.Kind == 3) := (hp 6 rfl).1
      refine WL.loadP hs 0 rfl TI3 (.inr rfl) e178 (fun v136 hs => ?_) (hg := (wanted_of rfl rfl (bool_tr e180 hc129)).trans rfl)
      obtain rfl := hs.int 0 rfl
      exact WL.nil ⟨rfl, _, rfl, rfl, hs.cutG 0 2⟩ }
      {
      intro ρ w Γx Λx hs hu hp
      have e181 : ρ 111 = .bool (x125.Kind == 3) := (hp 6 rfl).1
      refine WL.move (v := .slice a40 x37.length c42) ((hu 13 rfl).trans h108_13) ?_ (hg := (wanted_of rfl rfl (bool_tr e181 hc129)).trans rfl)
      exact WL.nil ⟨rfl, _, rfl, rfl, hs.cutG 0 0⟩ }
      {
      intro ρ w Γx Λx hs hu hp
      have e182 : ρ 111 = .bool (x125.Kind == 3) := (hp 6 rfl).1
      refine WL.move (v := .int .i64 x91) ((hu 18 rfl).trans h108_18) ?_ (hg := (wanted_of rfl rfl (bool_tr e182 hc129)).trans rfl)
      exact WL.nil ⟨rfl, _, rfl, rfl, hs.cutG 0 0⟩ }
      {
      intro ρ w Γx Λx hs hu hp
      have e183 : ρ 118 = .slice a40 x37.length c42 := (hp 13 rfl).1
      have e184 : ρ 119 = .int .i64 x91 := (hp 14 rfl).1
      have e185 : ρ 111 = .bool (x125.Kind == 3) := (hp 6 rfl).1
      refine WL.indexAddr hs (Γx.length + 1) (getApp rfl) UN38 TI26 e183 e184 hxx137 (fun ad138 hs => ?_) (hg := (wanted_of rfl rfl (bool_tr e185 hc129)).trans rfl)
      have hs := hs.add (it := pl t_api_Change x137 ad138) fun ok hA => hA.get 0 rfl
      exact WL.nil ⟨rfl, _, rfl, ⟨ad138, rfl⟩, hs.cutG 1 1⟩ }
      {
      intro ρ w Γx Λx hs hu hp
      obtain ⟨⟨ad186, e187r⟩, hm188⟩ := hp 15 rfl
      have e187 : ρ 120 = .pointer (some ad186) := e187r
      rw [e187r] at hm188
      have hs := hs.memo1 (it := pl t_api_Change x137 ad186) (List.mem_append.2 (.inl (hm188 _ (List.mem_of_getElem? (i := 0) rfl))))
      have e189 : ρ 111 = .bool (x125.Kind == 3) := (hp 6 rfl).1
      refine WL.fieldAddrP (z := x137.Server) F_api_Change_Server hs 0 rfl e187 FA26_1 rfl (fun ad139 hs => ?_) (hg := (wanted_of rfl rfl (bool_tr e189 hc129)).trans rfl)
      have hs := hs.add (it := pl (tInt .i64) x137.Server ad139) fun ok hA => hA.get 0 rfl
      exact WL.nil ⟨rfl, _, rfl, ⟨ad139, rfl⟩, hs.cutG 1 2⟩ }
      {
      intro ρ w Γx Λx hs hu hp
      obtain ⟨⟨ad190, e191r⟩, hm192⟩ := hp 16 rfl
      have e191 : ρ 121 = .pointer (some ad190) := e191r
      rw [e191r] at hm192
      have hs := hs.memo1 (it := pl (tInt .i64) x137.Server ad190) (List.mem_append.2 (.inl (hm192 _ (List.mem_of_getElem? (i := 0) rfl))))
      have e193 : ρ 111 = .bool (x125.Kind == 3) := (hp 6 rfl).1
      refine WL.loadP hs 0 rfl TI3 (.inr rfl) e191 (fun v140 hs => ?_) (hg := (wanted_of rfl rfl (bool_tr e193 hc129)).trans rfl)
      obtain rfl := hs.int 0 rfl
      exact WL.nil ⟨rfl, _, rfl, rfl, hs.cutG 0 2⟩ }
      {
      intro ρ w Γx Λx hs hu hp
      have e194 : ρ 117 = .int .i64 x133.Server := (hp 12 rfl).1
      have e195 : ρ 122 = .int .i64 x137.Server := (hp 17 rfl).1
      have e196 : ρ 111 = .bool (x125.Kind == 3) := (hp 6 rfl).1
      refine WL.bin (v := .bool (x133.Server == x137.Server)) e194 e195 (ib_eql _ _ _) ?_ (hg := (wanted_of rfl rfl (bool_tr e196 hc129)).trans rfl)
      exact WL.nil ⟨rfl, _, rfl, rfl, hs.cutG 0 0⟩ }
      {
      intro ρ w Γx Λx hs hu hp
      have e197 : ρ 111 = .bool (x125.Kind == 3) := (hp 6 rfl).1
      have e198 : ρ 123 = .bool (x133.Server == x137.Server) := (hp 18 rfl).1
      refine WL.pickT (v := .bool (x133.Server == x137.Server)) (bool_tr e197 hc129) e198 ?_
      exact WL.nil ⟨rfl, _, rfl, rfl, hs.cutG 0 0⟩ }
      {
      intro ρ w Γx Λx hs hu hp
      have e199 : ρ 124 = .bool (x133.Server == x137.Server) := (hp 19 rfl).1
      refine WL.move (v := .bool (x133.Server == x137.Server)) e199 ?_
      exact WL.nil ⟨rfl, _, rfl, rfl, hs.cutG 0 0⟩ }
      {
      intro ρ w Γx Λx hs hu hp
      have e200 : ρ 125 = .bool (x133.Server == x137.Server) := (hp 20 rfl).1
      refine WL.fieldAddr (m := 2) ((hu 17 rfl).trans h108_17) FA36_2 rfl ?_ (hg := (wanted_of rfl rfl (bool_tr e200 hc141)).trans rfl)
      exact WL.nil ⟨rfl, _, rfl, rfl, hs.cutG 0 0⟩ }
      {
      intro ρ w Γx Λx hs hu hp
      have e201 : ρ 126 = .pointer (some ⟨g74, 2, none⟩) := (hp 21 rfl).1
      have e202 : ρ 125 = .bool (x133.Server == x137.Server) := (hp 20 rfl).1
      refine WL.loadF (z := x63.Weights) F_api_Summary_Weights hs (Λx.length + 0) (getApp rfl) (Γx.length + 2) (getApp rfl) rfl TI34 (.inr rfl) e201 rfl (fun v142 hs => ?_) (hg := (wanted_of rfl rfl (bool_tr e202 hc141)).trans rfl)
      obtain ⟨a143, c144, rfl⟩ := hs.slice 0 rfl
      have hs := hs.add (it := vl (tSlice t_api_WeightEntry) x63.Weights (.slice a143 (x63.Weights).length c144)) fun ok hA => hA.get 0 rfl
      exact WL.nil ⟨rfl, _, rfl, ⟨(a143, c144), rfl⟩, hs.cutG 1 1⟩ }
      {
      intro ρ w Γx Λx hs hu hp
      have e203 : ρ 125 = .bool (x133.Server == x137.Server) := (hp 20 rfl).1
      refine WL.move (v := .int .i64 x109) ((hu 19 rfl).trans h108_19) ?_ (hg := (wanted_of rfl rfl (bool_tr e203 hc141)).trans rfl)
      exact WL.nil ⟨rfl, _, rfl, rfl, hs.cutG 0 0⟩ }
      {
      intro ρ w Γx Λx hs hu hp
      obtain ⟨⟨⟨a204, c205⟩, e206r⟩, hm207⟩ := hp 22 rfl
      have e206 : ρ 127 = .slice a204 (x63.Weights).length c205 := e206r
      rw [e206r] at hm207
      have hs := hs.memo1 (it := vl (tSlice t_api_WeightEntry) x63.Weights (.slice a204 (x63.Weights).length c205)) (List.mem_append.2 (.inl (hm207 _ (List.mem_of_getElem? (i := 0) rfl))))
      have e208 : ρ 128 = .int .i64 x109 := (hp 23 rfl).1
      have e209 : ρ 125 = .bool (x133.Server == x137.Server) := (hp 20 rfl).1
      refine WL.indexAddr hs 0 rfl UN34 TI59 e206 e208 hxx145 (fun ad146 hs => ?_) (hg := (wanted_of rfl rfl (bool_tr e209 hc141)).trans rfl)
      have hs := hs.add (it := pl t_api_WeightEntry x145 ad146) fun ok hA => hA.get 0 rfl
      exact WL.nil ⟨rfl, _, rfl, ⟨ad146, rfl⟩, hs.cutG 1 2⟩ }
      {
      intro ρ w Γx Λx hs hu hp
      obtain ⟨⟨ad210, e211r⟩, hm212⟩ := hp 24 rfl
      have e211 : ρ 129 = .pointer (some ad210) := e211r
      rw [e211r] at hm212
      have hs := hs.memo1 (it := pl t_api_WeightEntry x145 ad210) (List.mem_append.2 (.inl (hm212 _ (List.mem_of_getElem? (i := 0) rfl))))
      have e213 : ρ 125 = .bool (x133.Server == x137.Server) := (hp 20 rfl).1
      refine WL.fieldAddrP (z := x145.Weight) F_api_WeightEntry_Weight hs 0 rfl e211 FA59_1 rfl (fun ad147 hs => ?_) (hg := (wanted_of rfl rfl (bool_tr e213 hc141)).trans rfl)
      have hs := hs.add (it := pl (tInt .i64) x145.Weight ad147) fun ok hA => hA.get 0 rfl
      exact WL.nil ⟨rfl, _, rfl, ⟨ad147, rfl⟩, hs.cutG 1 2⟩ }
      {
      intro ρ w Γx Λx hs hu hp
      obtain ⟨⟨ad214, e215r⟩, hm216⟩ := hp 25 rfl
      have e215 : ρ 130 = .pointer (some ad214) := e215r
      rw [e215r] at hm216
      have hs := hs.memo1 (it := pl (tInt .i64) x145.Weight ad214) (List.mem_append.2 (.inl (hm216 _ (List.mem_of_getElem? (i := 0) rfl))))
      have e217 : ρ 125 = .bool (x133.Server == x137.Server) := (hp 20 rfl).1
      refine WL.loadP hs 0 rfl TI3 (.inr rfl) e215 (fun v148 hs => ?_) (hg := (wanted_of rfl rfl (bool_tr e217 hc141)).trans rfl)
      obtain rfl := hs.int 0 rfl
      exact WL.nil ⟨rfl, _, rfl, rfl, hs.cutG 0 2⟩ }
      {
      intro ρ w Γx Λx hs hu hp
      have e218 : ρ 125 = .bool (x133.Server == x137.Server) := (hp 20 rfl).1
      refine WL.move (v := .slice a40 x37.length c42) ((hu 13 rfl).trans h108_13) ?_ (hg := (wanted_of rfl rfl (bool_tr e218 hc141)).trans rfl)
      exact WL.nil ⟨rfl, _, rfl, rfl, hs.cutG 0 0⟩ }
      {
      intro ρ w Γx Λx hs hu hp
      have e219 : ρ 125 = .bool (x133.Server == x137.Server) := (hp 20 rfl).1
      refine WL.move (v := .int .i64 x91) ((hu 18 rfl).trans h108_18) ?_ (hg := (wanted_of rfl rfl (bool_tr e219 hc141)).trans rfl)
      exact WL.nil ⟨rfl, _, rfl, rfl, hs.cutG 0 0⟩ }
      {
      intro ρ w Γx Λx hs hu hp
      have e220 : ρ 132 = .slice a40 x37.length c42 := (hp 27 rfl).1
      have e221 : ρ 133 = .int .i64 x91 := (hp 28 rfl).1
      have e222 : ρ 125 = .bool (x133.Server == x137.Server) := (hp 20 rfl).1
      refine WL.indexAddr hs (Γx.length + 1) (getApp rfl) UN38 TI26 e220 e221 hxx149 (fun ad150 hs => ?_) (hg := (wanted_of rfl rfl (bool_tr e222 hc141)).trans rfl)
      have hs := hs.add (it := pl t_api_Change x149 ad150) fun ok hA => hA.get 0 rfl
      exact WL.nil ⟨rfl, _, rfl, ⟨ad150, rfl⟩, hs.cutG 1 1⟩ }
      {
      intro ρ w Γx Λx hs hu hp
      obtain ⟨⟨ad223, e224r⟩, hm225⟩ := hp 29 rfl
      have e224 : ρ 134 = .pointer (some ad223) := e224r
      rw [e224r] at hm225
      have hs := hs.memo1 (it := pl t_api_Change x149 ad223) (List.mem_append.2 (.inl (hm225 _ (List.mem_of_getElem? (i := 0) rfl))))
      have e226 : ρ 125 = .bool (x133.Server == x137.Server) := (hp 20 rfl).1
      refine WL.fieldAddrP (z := x149.Weight) F_api_Change_Weight hs 0 rfl e224 FA26_2 rfl (fun ad151 hs => ?_) (hg := (wanted_of rfl rfl (bool_tr e226 hc141)).trans rfl)
      have hs := hs.add (it := pl (tInt .i64) x149.Weight ad151) fun ok hA => hA.get 0 rfl
      exact WL.nil ⟨rfl, _, rfl, ⟨ad151, rfl⟩, hs.cutG 1 2⟩ }
      {
      intro ρ w Γx Λx hs hu hp
      obtain ⟨⟨ad227, e228r⟩, hm229⟩ := hp 30 rfl
      have e228 : ρ 135 = .pointer (some ad227) := e228r
      rw [e228r] at hm229
      have hs := hs.memo1 (it := pl (tInt .i64) x149.Weight ad227) (List.mem_append.2 (.inl (hm229 _ (List.mem_of_getElem? (i := 0) rfl))))
      have e230 : ρ 125 = .bool (x133.Server == x137.Server) := (hp 20 rfl).1
      refine WL.loadP hs 0 rfl TI3 (.inr rfl) e228 (fun v152 hs => ?_) (hg := (wanted_of rfl rfl (bool_tr e230 hc141)).trans rfl)
      obtain rfl := hs.int 0 rfl
      exact WL.nil ⟨rfl, _, rfl, rfl, hs.cutG 0 2⟩ }
      {
      intro ρ w Γx Λx hs hu hp
      have e231 : ρ 131 = .int .i64 x145.Weight := (hp 26 rfl).1
      have e232 : ρ 136 = .int .i64 x149.Weight := (hp 31 rfl).1
      have e233 : ρ 125 = .bool (x133.Server == x137.Server) := (hp 20 rfl).1
      refine WL.bin (v := .bool (x145.Weight != x149.Weight)) e231 e232 (ib_neq _ _ _) ?_ (hg := (wanted_of rfl rfl (bool_tr e233 hc141)).trans rfl)
      exact WL.nil ⟨rfl, _, rfl, rfl, hs.cutG 0 0⟩ }
      {
      intro ρ w Γx Λx hs hu hp
      have e234 : ρ 125 = .bool (x133.Server == x137.Server) := (hp 20 rfl).1
      have e235 : ρ 137 = .bool (x145.Weight != x149.Weight) := (hp 32 rfl).1
      refine WL.pickT (v := .bool (x145.Weight != x149.Weight)) (bool_tr e234 hc141) e235 ?_
      exact WL.nil ⟨rfl, _, rfl, rfl, hs.cutG 0 0⟩ }
      {
      intro ρ w hs hu236 hp
      obtain ⟨⟨⟨⟨⟨⟨⟨⟨⟨⟨⟨⟨⟨⟨⟨⟨⟨⟨⟨⟨⟨⟨⟨⟨⟨⟨⟨⟨⟨⟨⟨⟨⟨⟨_, hp0_⟩, hp1_⟩, hp2_⟩, hp3_⟩, hp4_⟩, hp5_⟩, hp6_⟩, hp7_⟩, hp8_⟩, hp9_⟩, hp10_⟩, hp11_⟩, hp12_⟩, hp13_⟩, hp14_⟩, hp15_⟩, hp16_⟩, hp17_⟩, hp18_⟩, hp19_⟩, hp20_⟩, hp21_⟩, hp22_⟩, hp23_⟩, hp24_⟩, hp25_⟩, hp26_⟩, hp27_⟩, hp28_⟩, hp29_⟩, hp30_⟩, hp31_⟩, hp32_⟩, hp33_⟩ := hp
      have hs : St ok (bz w0) w [pl (tInt .i64) x149.Weight (adOf (ρ 135)), pl t_api_Change x149 (adOf (ρ 134)), pl (tInt .i64) x145.Weight (adOf (ρ 130)), pl t_api_WeightEntry x145 (adOf (ρ 129)), vl (tSlice t_api_WeightEntry) x63.Weights (ρ 127), pl (tInt .i64) x137.Server (adOf (ρ 121)), pl t_api_Change x137 (adOf (ρ 120)), pl (tInt .i64) x133.Server (adOf (ρ 116)), pl t_api_WeightEntry x133 (adOf (ρ 115)), vl (tSlice t_api_WeightEntry) x63.Weights (ρ 113), pl (tInt .i64) x125.Kind (adOf (ρ 108)), pl t_api_Change x125 (adOf (ρ 107)), vl (tSlice t_api_WeightEntry) x63.Weights (.slice a114 (x63.Weights).length c115), vl (tSlice t_api_Change) x37 (.slice a40 x37.length c42), vl t_api_Summary x63 (.agg cs76.toArray)] [blk g74 36 cs76] := hs
      have e237 : ρ 138 = .bool (x145.Weight != x149.Weight) := hp33_
      have e238 : ρ 137 = .bool (x145.Weight != x149.Weight) := hp32_
      have e239 : ρ 136 = .int .i64 x149.Weight := hp31_
      obtain ⟨ad240, e241⟩ := hp30_
      have e241 : ρ 135 = .pointer (some ad240) := e241
      try rw [e241] at hs
      obtain ⟨ad242, e243⟩ := hp29_
      have e243 : ρ 134 = .pointer (some ad242) := e243
      try rw [e243] at hs
      have e244 : ρ 133 = .int .i64 x91 := hp28_
      have e245 : ρ 132 = .slice a40 x37.length c42 := hp27_
      have e246 : ρ 131 = .int .i64 x145.Weight := hp26_
      obtain ⟨ad247, e248⟩ := hp25_
      have e248 : ρ 130 = .pointer (some ad247) := e248
      try rw [e248] at hs
      obtain ⟨ad249, e250⟩ := hp24_
      have e250 : ρ 129 = .pointer (some ad249) := e250
      try rw [e250] at hs
      have e251 : ρ 128 = .int .i64 x109 := hp23_
      obtain ⟨⟨a252, c253⟩, e254⟩ := hp22_
      have e254 : ρ 127 = .slice a252 (x63.Weights).length c253 := e254
      try rw [e254] at hs
      have e255 : ρ 126 = .pointer (some ⟨g74, 2, none⟩) := hp21_
      have e256 : ρ 125 = .bool (x133.Server == x137.Server) := hp20_
      have e257 : ρ 124 = .bool (x133.Server == x137.Server) := hp19_
      have e258 : ρ 123 = .bool (x133.Server == x137.Server) := hp18_
      have e259 : ρ 122 = .int .i64 x137.Server := hp17_
      obtain ⟨ad260, e261⟩ := hp16_
      have e261 : ρ 121 = .pointer (some ad260) := e261
      try rw [e261] at hs
      obtain ⟨ad262, e263⟩ := hp15_
      have e263 : ρ 120 = .pointer (some ad262) := e263
      try rw [e263] at hs
      have e264 : ρ 119 = .int .i64 x91 := hp14_
      have e265 : ρ 118 = .slice a40 x37.length c42 := hp13_
      have e266 : ρ 117 = .int .i64 x133.Server := hp12_
      obtain ⟨ad267, e268⟩ := hp11_
      have e268 : ρ 116 = .pointer (some ad267) := e268
      try rw [e268] at hs
      obtain ⟨ad269, e270⟩ := hp10_
      have e270 : ρ 115 = .pointer (some ad269) := e270
      try rw [e270] at hs
      have e271 : ρ 114 = .int .i64 x109 := hp9_
      obtain ⟨⟨a272, c273⟩, e274⟩ := hp8_
      have e274 : ρ 113 = .slice a272 (x63.Weights).length c273 := e274
      try rw [e274] at hs
      have e275 : ρ 112 = .pointer (some ⟨g74, 2, none⟩) := hp7_
      have e276 : ρ 111 = .bool (x125.Kind == 3) := hp6_
      have e277 : ρ 110 = .bool (x125.Kind == 3) := hp5_
      have e278 : ρ 109 = .int .i64 x125.Kind := hp4_
      obtain ⟨ad279, e280⟩ := hp3_
      have e280 : ρ 108 = .pointer (some ad279) := e280
      try rw [e280] at hs
      obtain ⟨ad281, e282⟩ := hp2_
      have e282 : ρ 107 = .pointer (some ad281) := e282
      try rw [e282] at hs
      have e283 : ρ 106 = .int .i64 x91 := hp1_
      have e284 : ρ 105 = .slice a40 x37.length c42 := hp0_
      refine WA.done (by kernel_rfl) ?_
      exact Jk121 (x145.Weight != x149.Weight) _ _ ((hu236 13 rfl).trans h108_13) ((hu236 17 rfl).trans h108_17) ((hu236 18 rfl).trans h108_18) ((hu236 19 rfl).trans h108_19) e237 ((hs.mask [true]).pick [13, 14]) hf } }
      {
      refine W.any (by kernel_rfl) 34 0 [true, true, true, true, true, true, true, true, true, true, true, true, true, true, true, true, true, true, true, true, true, true, true, true, true, true, true, true, true, true, true, true, true, true] rfl rfl (poAt [pv (.slice a40 x37.length c42), pv (.int .i64 x91), pq (fun y : Addr => .pointer (some y)) (fun v => [pl t_api_Change x125 (adOf v)]) (fun v => []), pq (fun y : Addr => .pointer (some y)) (fun v => [pl (tInt .i64) x125.Kind (adOf v)]) (fun v => []), pv (.int .i64 x125.Kind), pv (.bool (x125.Kind == 3)), pv (.bool (x125.Kind == 3)), pv (.pointer (some ⟨g74, 2, none⟩)), pq (fun y : (Option Addr × Nat) => .slice y.1 (x63.Weights).length y.2) (fun v => [vl (tSlice t_api_WeightEntry) x63.Weights v]) (fun v => []), pv (.int .i64 x109), pq (fun y : Addr => .pointer (some y)) (fun v => [pl t_api_WeightEntry x133 (adOf v)]) (fun v => []), pq (fun y : Addr => .pointer (some y)) (fun v => [pl (tInt .i64) x133.Server (adOf v)]) (fun v => []), pv (.int .i64 x133.Server), pv (.slice a40 x37.length c42), pv (.int .i64 x91), pq (fun y : Addr => .pointer (some y)) (fun v => [pl t_api_Change x137 (adOf v)]) (fun v => []), pq (fun y : Addr => .pointer (some y)) (fun v => [pl (tInt .i64) x137.Server (adOf v)]) (fun v => []), pv (.int .i64 x137.Server), pv (.bool (x133.Server == x137.Server)), pv (.bool (x133.Server == x137.Server)), pv (.bool (x133.Server == x137.Server)), pv (undef), pv (undef), pv (undef), pv (undef), pv (undef), pv (undef), pv (undef), pv (undef), pv (undef), pv (undef), pv (undef), pv (undef), pv (.bool false)]) (Λ := [blk g74 36 cs76]) hs (by kernel_rfl) (by kernel_rfl) (by kernel_rfl) ⟨⟨⟨⟨⟨⟨⟨⟨⟨⟨⟨⟨⟨⟨⟨⟨⟨⟨⟨⟨⟨⟨⟨⟨⟨⟨⟨⟨⟨⟨⟨⟨⟨⟨trivial, ?_⟩, ?_⟩, ?_⟩, ?_⟩, ?_⟩, ?_⟩, ?_⟩, ?_⟩, ?_⟩, ?_⟩, ?_⟩, ?_⟩, ?_⟩, ?_⟩, ?_⟩, ?_⟩, ?_⟩, ?_⟩, ?_⟩, ?_⟩, ?_⟩, ?_⟩, ?_⟩, ?_⟩, ?_⟩, ?_⟩, ?_⟩, ?_⟩, ?_⟩, ?_⟩, ?_⟩, ?_⟩, ?_⟩, ?_⟩ ?_
      {
      intro ρ w Γx Λx hs hu hp
      refine WL.move (v := .slice a40 x37.length c42) ((hu 13 rfl).trans h108_13) ?_
      exact WL.nil ⟨rfl, _, rfl, rfl, hs.cutG 0 0⟩ }
      {
      intro ρ w Γx Λx hs hu hp
      refine WL.move (v := .int .i64 x91) ((hu 18 rfl).trans h108_18) ?_
      exact WL.nil ⟨rfl, _, rfl, rfl, hs.cutG 0 0⟩ }
      {
      intro ρ w Γx Λx hs hu hp
      have e285 : ρ 105 = .slice a40 x37.length c42 := (hp 0 rfl).1
      have e286 : ρ 106 = .int .i64 x91 := (hp 1 rfl).1
      refine WL.indexAddr hs (Γx.length + 1) (getApp rfl) UN38 TI26 e285 e286 hxx125 (fun ad126 hs => ?_)
      have hs := hs.add (it := pl t_api_Change x125 ad126) fun ok hA => hA.get 0 rfl
      exact WL.nil ⟨rfl, _, rfl, ⟨ad126, rfl⟩, hs.cutG 1 1⟩ }
      {
      intro ρ w Γx Λx hs hu hp
      obtain ⟨⟨ad287, e288r⟩, hm289⟩ := hp 2 rfl
      have e288 : ρ 107 = .pointer (some ad287) := e288r
      rw [e288r] at hm289
      have hs := hs.memo1 (it := pl t_api_Change x125 ad287) (List.mem_append.2 (.inl (hm289 _ (List.mem_of_getElem? (i := 0) rfl))))
      refine WL.fieldAddrP (z := x125.Kind) F_api_Change_Kind hs 0 rfl e288 FA26_0 rfl (fun ad127 hs => ?_)
      have hs := hs.add (it := pl (tInt .i64) x125.Kind ad127) fun ok hA => hA.get 0 rfl
      exact WL.nil ⟨rfl, _, rfl, ⟨ad127, rfl⟩, hs.cutG 1 2⟩ }
      {
      intro ρ w Γx Λx hs hu hp
      obtain ⟨⟨ad290, e291r⟩, hm292⟩ := hp 3 rfl
      have e291 : ρ 108 = .pointer (some ad290) := e291r
      rw [e291r] at hm292
      have hs := hs.memo1 (it := pl (tInt .i64) x125.Kind ad290) (List.mem_append.2 (.inl (hm292 _ (List.mem_of_getElem? (i := 0) rfl))))
      refine WL.loadP hs 0 rfl TI3 (.inr rfl) e291 (fun v128 hs => ?_)
      obtain rfl := hs.int 0 rfl
      exact WL.nil ⟨rfl, _, rfl, rfl, hs.cutG 0 2⟩ }
      {
      intro ρ w Γx Λx hs hu hp
      have e293 : ρ 109 = .int .i64 x125.Kind := (hp 4 rfl).1
      refine WL.bin (v := .bool (x125.Kind == 3)) e293 rfl (ib_eql _ _ _) ?_
      exact WL.nil ⟨rfl, _, rfl, rfl, hs.cutG 0 0⟩ }
      {
      intro ρ w Γx Λx hs hu hp
      have e294 : ρ 110 = .bool (x125.Kind == 3) := (hp 5 rfl).1
      refine WL.move (v := .bool (x125.Kind == 3)) e294 ?_
      exact WL.nil ⟨rfl, _, rfl, rfl, hs.cutG 0 0⟩ }
      {
      intro ρ w Γx Λx hs hu hp
      have e295 : ρ 111 = .bool (x125.Kind == 3) := (hp 6 rfl).1
      refine WL.fieldAddr (m := 2) ((hu 17 rfl).trans h108_17) FA36_2 rfl ?_ (hg := (wanted_of rfl rfl (bool_tr e295 hc129)).trans rfl)
      exact WL.nil ⟨rfl, _, rfl, rfl, hs.cutG 0 0⟩ }
      {
      intro ρ w Γx Λx hs hu hp
      have e296 : ρ 112 = .pointer (some ⟨g74, 2, none⟩) := (hp 7 rfl).1
      have e297 : ρ 111 = .bool (x125.Kind == 3) := (hp 6 rfl).1
      refine WL.loadF (z := x63.Weights) F_api_Summary_Weights hs (Λx.length + 0) (getApp rfl) (Γx.length + 2) (getApp rfl) rfl TI34 (.inr rfl) e296 rfl (fun v130 hs => ?_) (hg := (wanted_of rfl rfl (bool_tr e297 hc129)).trans rfl)
      obtain ⟨a131, c132, rfl⟩ := hs.slice 0 rfl
      have hs := hs.add (it := vl (tSlice t_api_WeightEntry) x63.Weights (.slice a131 (x63.Weights).length c132)) fun ok hA => hA.get 0 rfl
      exact WL.nil ⟨rfl, _, rfl, ⟨(a131, c132), rfl⟩, hs.cutG 1 1⟩ }
      {
      intro ρ w Γx Λx hs hu hp
      have e298 : ρ 111 = .bool (x125.Kind == 3) := (hp 6 rfl).1
      refine WL.move (v := .int .i64 x109) ((hu 19 rfl).trans h108_19) ?_ (hg := (wanted_of rfl rfl (bool_tr e298 hc129)).trans rfl)
      exact WL.nil ⟨rfl, _, rfl, rfl, hs.cutG 0 0⟩ }
      {
      intro ρ w Γx Λx hs hu hp
      obtain ⟨⟨⟨a299, c300⟩, e301r⟩, hm302⟩ := hp 8 rfl
      have e301 : ρ 113 = .slice a299 (x63.Weights).length c300 := e301r
      rw [e301r] at hm302
      have hs := hs.memo1 (it := vl (tSlice t_api_WeightEntry) x63.Weights (.slice a299 (x63.Weights).length c300)) (List.mem_append.2 (.inl (hm302 _ (List.mem_of_getElem? (i := 0) rfl))))
      have e303 : ρ 114 = .int .i64 x109 := (hp 9 rfl).1
      have e304 : ρ 111 = .bool (x125.Kind == 3) := (hp 6 rfl).1
      refine WL.indexAddr hs 0 rfl UN34 TI59 e301 e303 hxx133 (fun ad134 hs => ?_) (hg := (wanted_of rfl rfl (bool_tr e304 hc129)).trans rfl)
      have hs := hs.add (it := pl t_api_WeightEntry x133 ad134) fun ok hA => hA.get 0 rfl
      exact WL.nil ⟨rfl, _, rfl, ⟨ad134, rfl⟩, hs.cutG 1 2⟩ }
      {
      intro ρ w Γx Λx hs hu hp
      obtain ⟨⟨ad305, e306r⟩, hm307⟩ := hp 10 rfl
      have e306 : ρ 115 = .pointer (some ad305) := e306r
      rw [e306r] at hm307
      have hs := hs.memo1 (it := pl t_api_WeightEntry x133 ad305) (List.mem_append.2 (.inl (hm307 _ (List.mem_of_getElem? (i := 0) rfl))))
      have e308 : ρ 111 = .bool (x125.Kind == 3) := (hp 6 rfl).1
      refine WL.fieldAddrP (z := x133.Server) F_api_WeightEntry_Server hs 0 rfl e306 FA59_0 rfl (fun ad135 hs => ?_) (hg := (wanted_of rfl rfl (bool_tr e308 hc129)).trans rfl)
      have hs := hs.add (it := pl (tInt .i64) x133.Server ad135) fun ok hA => hA.get 0 rfl
      exact WL.nil ⟨rfl, _, rfl, ⟨ad135, rfl⟩, hs.cutG 1 2⟩ }
      {
      intro ρ w Γx Λx hs hu hp
      obtain ⟨⟨ad309, e310r⟩, hm311⟩ := hp 11 rfl
      have e310 : ρ 116 = .pointer (some ad309) := e310r
      rw [e310r] at hm311
      have hs := hs.memo1 (it := pl (tInt .i64) x133.Server ad309) (List.mem_append.2 (.inl (hm311 _ (List.mem_of_getElem? (i := 0) rfl))))
      have e312 : ρ 111 = .bool (x125.Kind == 3) := (hp 6 rfl).1
      refine WL.loadP hs 0 rfl TI3 (.inr rfl) e310 (fun v136 hs => ?_) (hg := (wanted_of rfl rfl (bool_tr e312 hc129)).trans rfl)
      obtain rfl := hs.int 0 rfl
      exact WL.nil ⟨rfl, _, rfl, rfl, hs.cutG 0 2⟩ }
      {
      intro ρ w Γx Λx hs hu hp
      have e313 : ρ 111 = .bool (x125.Kind == 3) := (hp 6 rfl).1
      refine WL.move (v := .slice a40 x37.length c42) ((hu 13 rfl).trans h108_13) ?_ (hg := (wanted_of rfl rfl (bool_tr e313 hc129)).trans rfl)
      exact WL.nil ⟨rfl, _, rfl, rfl, hs.cutG 0 0⟩ }
      {
      intro ρ w Γx Λx hs hu hp
      have e314 : ρ 111 = .bool (x125.Kind == 3) := (hp 6 rfl).1
      refine WL.move (v := .int .i64 x91) ((hu 18 rfl).trans h108_18) ?_ (hg := (wanted_of rfl rfl (bool_tr e314 hc129)).trans rfl)
      exact WL.nil ⟨rfl, _, rfl, rfl, hs.cutG 0 0⟩ }
      {
      intro ρ w Γx Λx hs hu hp
      have e315 : ρ 118 = .slice a40 x37.length c42 := (hp 13 rfl).1
      have e316 : ρ 119 = .int .i64 x91 := (hp 14 rfl).1
      have e317 : ρ 111 = .bool (x125.Kind == 3) := (hp 6 rfl).1
      refine WL.indexAddr hs (Γx.length + 1) (getApp rfl) UN38 TI26 e315 e316 hxx137 (fun ad138 hs => ?_) (hg := (wanted_of rfl rfl (bool_tr e317 hc129)).trans rfl)
      have hs := hs.add (it := pl t_api_Change x137 ad138) fun ok hA => hA.get 0 rfl
      exact WL.nil ⟨rfl, _, rfl, ⟨ad138, rfl⟩, hs.cutG 1 1⟩ }
      {
      intro ρ w Γx Λx hs hu hp
      obtain ⟨⟨ad318, e319r⟩, hm320⟩ := hp 15 rfl
      have e319 : ρ 120 = .pointer (some ad318) := e319r
      rw [e319r] at hm320
      have hs := hs.memo1 (it := pl t_api_Change x137 ad318) (List.mem_append.2 (.inl (hm320 _ (List.mem_of_getElem? (i := 0) rfl))))
      have e321 : ρ 111 = .bool (x125.Kind == 3) := (hp 6 rfl).1
      refine WL.fieldAddrP (z := x137.Server) F_api_Change_Server hs 0 rfl e319 FA26_1 rfl (fun ad139 hs => ?_) (hg := (wanted_of rfl rfl (bool_tr e321 hc129)).trans rfl)
      have hs := hs.add (it := pl (tInt .i64) x137.Server ad139) fun ok hA => hA.get 0 rfl
      exact WL.nil ⟨rfl, _, rfl, ⟨ad139, rfl⟩, hs.cutG 1 2⟩ }
      {
      intro ρ w Γx Λx hs hu hp
      obtain ⟨⟨ad322, e323r⟩, hm324⟩ := hp 16 rfl
      have e323 : ρ 121 = .pointer (some ad322) := e323r
      rw [e323r] at hm324
      have hs := hs.memo1 (it := pl (tInt .i64) x137.Server ad322) (List.mem_append.2 (.inl (hm324 _ (List.mem_of_getElem? (i := 0) rfl))))
      have e325 : ρ 111 = .bool (x125.Kind == 3) := (hp 6 rfl).1
      refine WL.loadP hs 0 rfl TI3 (.inr rfl) e323 (fun v140 hs => ?_) (hg := (wanted_of rfl rfl (bool_tr e325 hc129)).trans rfl)
      obtain rfl := hs.int 0 rfl
      exact WL.nil ⟨rfl, _, rfl, rfl, hs.cutG 0 2⟩ }
      {
      intro ρ w Γx Λx hs hu hp
      have e326 : ρ 117 = .int .i64 x133.Server := (hp 12 rfl).1
      have e327 : ρ 122 = .int .i64 x137.Server := (hp 17 rfl).1
      have e328 : ρ 111 = .bool (x125.Kind == 3) := (hp 6 rfl).1
      refine WL.bin (v := .bool (x133.Server == x137.Server)) e326 e327 (ib_eql _ _ _) ?_ (hg := (wanted_of rfl rfl (bool_tr e328 hc129)).trans rfl)
      exact WL.nil ⟨rfl, _, rfl, rfl, hs.cutG 0 0⟩ }
      {
      intro ρ w Γx Λx hs hu hp
      have e329 : ρ 111 = .bool (x125.Kind == 3) := (hp 6 rfl).1
      have e330 : ρ 123 = .bool (x133.Server == x137.Server) := (hp 18 rfl).1
      refine WL.pickT (v := .bool (x133.Server == x137.Server)) (bool_tr e329 hc129) e330 ?_
      exact WL.nil ⟨rfl, _, rfl, rfl, hs.cutG 0 0⟩ }
      {
      intro ρ w Γx Λx hs hu hp
      have e331 : ρ 124 = .bool (x133.Server == x137.Server) := (hp 19 rfl).1
      refine WL.move (v := .bool (x133.Server == x137.Server)) e331 ?_
      exact WL.nil ⟨rfl, _, rfl, rfl, hs.cutG 0 0⟩ }
      {
      intro ρ w Γx Λx hs hu hp
      have e332 : ρ 125 = .bool (x133.Server == x137.Server) := (hp 20 rfl).1
      refine WL.pass ((wanted_of rfl rfl (bool_tr e332 hc141)).trans rfl) rfl ?_
      exact WL.nil ⟨rfl, _, rfl, rfl, hs.cutG 0 0⟩ }
      {
      intro ρ w Γx Λx hs hu hp
      have e333 : ρ 126 = undef := (hp 21 rfl).1
      have e334 : ρ 125 = .bool (x133.Server == x137.Server) := (hp 20 rfl).1
      refine WL.pass ((wanted_of rfl rfl (bool_tr e334 hc141)).trans rfl) rfl ?_
      exact WL.nil ⟨rfl, _, rfl, rfl, hs.cutG 0 0⟩ }
      {
      intro ρ w Γx Λx hs hu hp
      have e335 : ρ 125 = .bool (x133.Server == x137.Server) := (hp 20 rfl).1
      refine WL.pass ((wanted_of rfl rfl (bool_tr e335 hc141)).trans rfl) rfl ?_
      exact WL.nil ⟨rfl, _, rfl, rfl, hs.cutG 0 0⟩ }
      {
      intro ρ w Γx Λx hs hu hp
      have e336 : ρ 127 = undef := (hp 22 rfl).1
      have e337 : ρ 128 = undef := (hp 23 rfl).1
      have e338 : ρ 125 = .bool (x133.Server == x137.Server) := (hp 20 rfl).1
      refine WL.pass ((wanted_of rfl rfl (bool_tr e338 hc141)).trans rfl) rfl ?_
      exact WL.nil ⟨rfl, _, rfl, rfl, hs.cutG 0 0⟩ }
      {
      intro ρ w Γx Λx hs hu hp
      have e339 : ρ 129 = undef := (hp 24 rfl).1
      have e340 : ρ 125 = .bool (x133.Server == x137.Server) := (hp 20 rfl).1
      refine WL.pass ((wanted_of rfl rfl (bool_tr e340 hc141)).trans rfl) rfl ?_
      exact WL.nil ⟨rfl, _, rfl, rfl, hs.cutG 0 0⟩ }
      {
      intro ρ w Γx Λx hs hu hp
      have e341 : ρ 130 = undef := (hp 25 rfl).1
      have e342 : ρ 125 = .bool (x133.Server == x137.Server) := (hp 20 rfl).1
      refine WL.pass ((wanted_of rfl rfl (bool_tr e342 hc141)).trans rfl) rfl ?_
      exact WL.nil ⟨rfl, _, rfl, rfl, hs.cutG 0 0⟩ }
      {
      intro ρ w Γx Λx hs hu hp
      have e343 : ρ 125 = .bool (x133.Server == x137.Server) := (hp 20 rfl).1
      refine WL.pass ((wanted_of rfl rfl (bool_tr e343 hc141)).trans rfl) rfl ?_
      exact WL.nil ⟨rfl, _, rfl, rfl, hs.cutG 0 0⟩ }
      {
      intro ρ w Γx Λx hs hu hp
      have e344 : ρ 125 = .bool (x133.Server == x137.Server) := (hp 20 rfl).1
      refine WL.pass ((wanted_of rfl rfl (bool_tr e344 hc141)).trans rfl) rfl ?_
      exact WL.nil ⟨rfl, _, rfl, rfl, hs.cutG 0 0⟩ }
      {
      intro ρ w Γx Λx hs hu hp
      have e345 : ρ 132 = undef := (hp 27 rfl).1
      have e346 : ρ 133 = undef := (hp 28 rfl).1
      have e347 : ρ 125 = .bool (x133.Server == x137.Server) := (hp 20 rfl).1
      refine WL.pass ((wanted_of rfl rfl (bool_tr e347 hc141)).trans rfl) rfl ?_
      exact WL.nil ⟨rfl, _, rfl, rfl, hs.cutG 0 0⟩ }
      {
      intro ρ w Γx Λx hs hu hp
      have e348 : ρ 134 = undef := (hp 29 rfl).1
      have e349 : ρ 125 = .bool (x133.Server == x137.Server) := (hp 20 rfl).1
      refine WL.pass ((wanted_of rfl rfl (bool_tr e349 hc141)).trans rfl) rfl ?_
      exact WL.nil ⟨rfl, _, rfl, rfl, hs.cutG 0 0⟩ }
      {
      intro ρ w Γx Λx hs hu hp
      have e350 : ρ 135 = undef := (hp 30 rfl).1
      have e351 : ρ 125 = .bool (x133.Server == x137.Server) := (hp 20 rfl).1
      refine WL.pass ((wanted_of rfl rfl (bool_tr e351 hc141)).trans rfl) rfl ?_
      exact WL.nil ⟨rfl, _, rfl, rfl, hs.cutG 0 0⟩ }
      {
      intro ρ w Γx Λx hs hu hp
      have e352 : ρ 131 = undef := (hp 26 rfl).1
      have e353 : ρ 136 = undef := (hp 31 rfl).1
      have e354 : ρ 125 = .bool (x133.Server == x137.Server) := (hp 20 rfl).1
      refine WL.pass ((wanted_of rfl rfl (bool_tr e354 hc141)).trans rfl) rfl ?_
      exact WL.nil ⟨rfl, _, rfl, rfl, hs.cutG 0 0⟩ }
      {
      intro ρ w Γx Λx hs hu hp
      have e355 : ρ 125 = .bool (x133.Server == x137.Server) := (hp 20 rfl).1
      have e356 : ρ 137 = undef := (hp 32 rfl).1
      refine WL.pickF (v := .bool false) (bool_tr e355 hc141) rfl ?_
      exact WL.nil ⟨rfl, _, rfl, rfl, hs.cutG 0 0⟩ }
      {
      intro ρ w hs hu357 hp
      obtain ⟨⟨⟨⟨⟨⟨⟨⟨⟨⟨⟨⟨⟨⟨⟨⟨⟨⟨⟨⟨⟨⟨⟨⟨⟨⟨⟨⟨⟨⟨⟨⟨⟨⟨_, hp0_⟩, hp1_⟩, hp2_⟩, hp3_⟩, hp4_⟩, hp5_⟩, hp6_⟩, hp7_⟩, hp8_⟩, hp9_⟩, hp10_⟩, hp11_⟩, hp12_⟩, hp13_⟩, hp14_⟩, hp15_⟩, hp16_⟩, hp17_⟩, hp18_⟩, hp19_⟩, hp20_⟩, hp21_⟩, hp22_⟩, hp23_⟩, hp24_⟩, hp25_⟩, hp26_⟩, hp27_⟩, hp28_⟩, hp29_⟩, hp30_⟩, hp31_⟩, hp32_⟩, hp33_⟩ := hp
      have hs : St ok (bz w0) w [pl (tInt .i64) x137.Server (adOf (ρ 121)), pl t_api_Change x137 (adOf (ρ 120)), pl (tInt .i64) x133.Server (adOf (ρ 116)), pl t_api_WeightEntry x133 (adOf (ρ 115)), vl (tSlice t_api_WeightEntry) x63.Weights (ρ 113), pl (tInt .i64) x125.Kind (adOf (ρ 108)), pl t_api_Change x125 (adOf (ρ 107)), vl (tSlice t_api_WeightEntry) x63.Weights (.slice a114 (x63.Weights).length c115), vl (tSlice t_api_Change) x37 (.slice a40 x37.length c42), vl t_api_Summary x63 (.agg cs76.toArray)] [blk g74 36 cs76] := hs
      have e358 : ρ 138 = .bool false := hp33_
      have e359 : ρ 137 = undef := hp32_
      have e360 : ρ 136 = undef := hp31_
      have e361 : ρ 135 = undef := hp30_
      have e362 : ρ 134 = undef := hp29_
      have e363 : ρ 133 = undef := hp28_
      have e364 : ρ 132 = undef := hp27_
      have e365 : ρ 131 = undef := hp26_
      have e366 : ρ 130 = undef := hp25_
      have e367 : ρ 129 = undef := hp24_
      have e368 : ρ 128 = undef := hp23_
      have e369 : ρ 127 = undef := hp22_
      have e370 : ρ 126 = undef := hp21_
      have e371 : ρ 125 = .bool (x133.Server == x137.Server) := hp20_
      have e372 : ρ 124 = .bool (x133.Server == x137.Server) := hp19_
      have e373 : ρ 123 = .bool (x133.Server == x137.Server) := hp18_
      have e374 : ρ 122 = .int .i64 x137.Server := hp17_
      obtain ⟨ad375, e376⟩ := hp16_
      have e376 : ρ 121 = .pointer (some ad375) := e376
      try rw [e376] at hs
      obtain ⟨ad377, e378⟩ := hp15_
      have e378 : ρ 120 = .pointer (some ad377) := e378
      try rw [e378] at hs
      have e379 : ρ 119 = .int .i64 x91 := hp14_
      have e380 : ρ 118 = .slice a40 x37.length c42 := hp13_
      have e381 : ρ 117 = .int .i64 x133.Server := hp12_
      obtain ⟨ad382, e383⟩ := hp11_
      have e383 : ρ 116 = .pointer (some ad382) := e383
      try rw [e383] at hs
      obtain ⟨ad384, e385⟩ := hp10_
      have e385 : ρ 115 = .pointer (some ad384) := e385
      try rw [e385] at hs
      have e386 : ρ 114 = .int .i64 x109 := hp9_
      obtain ⟨⟨a387, c388⟩, e389⟩ := hp8_
      have e389 : ρ 113 = .slice a387 (x63.Weights).length c388 := e389
      try rw [e389] at hs
      have e390 : ρ 112 = .pointer (some ⟨g74, 2, none⟩) := hp7_
      have e391 : ρ 111 = .bool (x125.Kind == 3) := hp6_
      have e392 : ρ 110 = .bool (x125.Kind == 3) := hp5_
      have e393 : ρ 109 = .int .i64 x125.Kind := hp4_
      obtain ⟨ad394, e395⟩ := hp3_
      have e395 : ρ 108 = .pointer (some ad394) := e395
      try rw [e395] at hs
      obtain ⟨ad396, e397⟩ := hp2_
      have e397 : ρ 107 = .pointer (some ad396) := e397
      try rw [e397] at hs
      have e398 : ρ 106 = .int .i64 x91 := hp1_
      have e399 : ρ 105 = .slice a40 x37.length c42 := hp0_
      refine WA.done (by kernel_rfl) ?_
      exact Jk121 false _ _ ((hu357 13 rfl).trans h108_13) ((hu357 17 rfl).trans h108_17) ((hu357 18 rfl).trans h108_18) ((hu357 19 rfl).trans h108_19) e358 ((hs.mask [true]).pick [8, 9]) hf } } }
      {
      refine W.any (by kernel_rfl) 34 0 [true, true, true, true, true, true, true, true, true, true, true, true, true, true, true, true, true, true, true, true, true, true, true, true, true, true, true, true, true, true, true, true, true, true] rfl rfl (poAt [pv (.slice a40 x37.length c42), pv (.int .i64 x91), pq (fun y : Addr => .pointer (some y)) (fun v => [pl t_api_Change x125 (adOf v)]) (fun v => []), pq (fun y : Addr => .pointer (some y)) (fun v => [pl (tInt .i64) x125.Kind (adOf v)]) (fun v => []), pv (.int .i64 x125.Kind), pv (.bool (x125.Kind == 3)), pv (.bool (x125.Kind == 3)), pv (undef), pv (undef), pv (undef), pv (undef), pv (undef), pv (undef), pv (undef), pv (undef), pv (undef), pv (undef), pv (undef), pv (undef), pv (.bool false), pv (.bool false), pv (undef), pv (undef), pv (undef), pv (undef), pv (undef), pv (undef), pv (undef), pv (undef), pv (undef), pv (undef), pv (undef), pv (undef), pv (.bool false)]) (Λ := [blk g74 36 cs76]) hs (by kernel_rfl) (by kernel_rfl) (by kernel_rfl) ⟨⟨⟨⟨⟨⟨⟨⟨⟨⟨⟨⟨⟨⟨⟨⟨⟨⟨⟨⟨⟨⟨⟨⟨⟨⟨⟨⟨⟨⟨⟨⟨⟨⟨trivial, ?_⟩, ?_⟩, ?_⟩, ?_⟩, ?_⟩, ?_⟩, ?_⟩, ?_⟩, ?_⟩, ?_⟩, ?_⟩, ?_⟩, ?_⟩, ?_⟩, ?_⟩, ?_⟩, ?_⟩, ?_⟩, ?_⟩, ?_⟩, ?_⟩, ?_⟩, ?_⟩, ?_⟩, ?_⟩, ?_⟩, ?_⟩, ?_⟩, ?_⟩, ?_⟩, ?_⟩, ?_⟩, ?_⟩, ?_⟩ ?_
      {
      intro ρ w Γx Λx hs hu hp
      refine WL.move (v := .slice a40 x37.length c42) ((hu 13 rfl).trans h108_13) ?_
      exact WL.nil ⟨rfl, _, rfl, rfl, hs.cutG 0 0⟩ }
      {
      intro ρ w Γx Λx hs hu hp
      refine WL.move (v := .int .i64 x91) ((hu 18 rfl).trans h108_18) ?_
      exact WL.nil ⟨rfl, _, rfl, rfl, hs.cutG 0 0⟩ }
      {
      intro ρ w Γx Λx hs hu hp
      have e400 : ρ 105 = .slice a40 x37.length c42 := (hp 0 rfl).1
      have e401 : ρ 106 = .int .i64 x91 := (hp 1 rfl).1
      refine WL.indexAddr hs (Γx.length + 1) (getApp rfl) UN38 TI26 e400 e401 hxx125 (fun ad126 hs => ?_)
      have hs := hs.add (it := pl t_api_Change x125 ad126) fun ok hA => hA.get 0 rfl
      exact WL.nil ⟨rfl, _, rfl, ⟨ad126, rfl⟩, hs.cutG 1 1⟩ }
      {
      intro ρ w Γx Λx hs hu hp
      obtain ⟨⟨ad402, e403r⟩, hm404⟩ := hp 2 rfl
      have e403 : ρ 107 = .pointer (some ad402) := e403r
      rw [e403r] at hm404
      have hs := hs.memo1 (it := pl t_api_Change x125 ad402) (List.mem_append.2 (.inl (hm404 _ (List.mem_of_getElem? (i := 0) rfl))))
      refine WL.fieldAddrP (z := x125.Kind) F_api_Change_Kind hs 0 rfl e403 FA26_0 rfl (fun ad127 hs => ?_)
      have hs := hs.add (it := pl (tInt .i64) x125.Kind ad127) fun ok hA => hA.get 0 rfl
      exact WL.nil ⟨rfl, _, rfl, ⟨ad127, rfl⟩, hs.cutG 1 2⟩ }
      {
      intro ρ w Γx Λx hs hu hp
      obtain ⟨⟨ad405, e406r⟩, hm407⟩ := hp 3 rfl
      have e406 : ρ 108 = .pointer (some ad405) := e406r
      rw [e406r] at hm407
      have hs := hs.memo1 (it := pl (tInt .i64) x125.Kind ad405) (List.mem_append.2 (.inl (hm407 _ (List.mem_of_getElem? (i := 0) rfl))))
      refine WL.loadP hs 0 rfl TI3 (.inr rfl) e406 (fun v128 hs => ?_)
      obtain rfl := hs.int 0 rfl
      exact WL.nil ⟨rfl, _, rfl, rfl, hs.cutG 0 2⟩ }
      {
      intro ρ w Γx Λx hs hu hp
      have e408 : ρ 109 = .int .i64 x125.Kind := (hp 4 rfl).1
      refine WL.bin (v := .bool (x125.Kind == 3)) e408 rfl (ib_eql _ _ _) ?_
      exact WL.nil ⟨rfl, _, rfl, rfl, hs.cutG 0 0⟩ }
      {
      intro ρ w Γx Λx hs hu hp
      have e409 : ρ 110 = .bool (x125.Kind == 3) := (hp 5 rfl).1
      refine WL.move (v := .bool (x125.Kind == 3)) e409 ?_
      exact WL.nil ⟨rfl, _, rfl, rfl, hs.cutG 0 0⟩ }
      {
      intro ρ w Γx Λx hs hu hp
      have e410 : ρ 111 = .bool (x125.Kind == 3) := (hp 6 rfl).1
      refine WL.pass ((wanted_of rfl rfl (bool_tr e410 hc129)).trans rfl) rfl ?_
      exact WL.nil ⟨rfl, _, rfl, rfl, hs.cutG 0 0⟩ }
      {
      intro ρ w Γx Λx hs hu hp
      have e411 : ρ 112 = undef := (hp 7 rfl).1
      have e412 : ρ 111 = .bool (x125.Kind == 3) := (hp 6 rfl).1
      refine WL.pass ((wanted_of rfl rfl (bool_tr e412 hc129)).trans rfl) rfl ?_
      exact WL.nil ⟨rfl, _, rfl, rfl, hs.cutG 0 0⟩ }
      {
      intro ρ w Γx Λx hs hu hp
      have e413 : ρ 111 = .bool (x125.Kind == 3) := (hp 6 rfl).1
      refine WL.pass ((wanted_of rfl rfl (bool_tr e413 hc129)).trans rfl) rfl ?_
      exact WL.nil ⟨rfl, _, rfl, rfl, hs.cutG 0 0⟩ }
      {
      intro ρ w Γx Λx hs hu hp
      have e414 : ρ 113 = undef := (hp 8 rfl).1
      have e415 : ρ 114 = undef := (hp 9 rfl).1
      have e416 : ρ 111 = .bool (x125.Kind == 3) := (hp 6 rfl).1
      refine WL.pass ((wanted_of rfl rfl (bool_tr e416 hc129)).trans rfl) rfl ?_
      exact WL.nil ⟨rfl, _, rfl, rfl, hs.cutG 0 0⟩ }
      {
      intro ρ w Γx Λx hs hu hp
      have e417 : ρ 115 = undef := (hp 10 rfl).1
      have e418 : ρ 111 = .bool (x125.Kind == 3) := (hp 6 rfl).1
      refine WL.pass ((wanted_of rfl rfl (bool_tr e418 hc129)).trans rfl) rfl ?_
      exact WL.nil ⟨rfl, _, rfl, rfl, hs.cutG 0 0⟩ }
      {
      intro ρ w Γx Λx hs hu hp
      have e419 : ρ 116 = undef := (hp 11 rfl).1
      have e420 : ρ 111 = .bool (x125.Kind == 3) := (hp 6 rfl).1
      refine WL.pass ((wanted_of rfl rfl (bool_tr e420 hc129)).trans rfl) rfl ?_
      exact WL.nil ⟨rfl, _, rfl, rfl, hs.cutG 0 0⟩ }
      {
      intro ρ w Γx Λx hs hu hp
      have e421 : ρ 111 = .bool (x125.Kind == 3) := (hp 6 rfl).1
      refine WL.pass ((wanted_of rfl rfl (bool_tr e421 hc129)).trans rfl) rfl ?_
      exact WL.nil ⟨rfl, _, rfl, rfl, hs.cutG 0 0⟩ }
      {
      intro ρ w Γx Λx hs hu hp
      have e422 : ρ 111 = .bool (x125.Kind == 3) := (hp 6 rfl).1
      refine WL.pass ((wanted_of rfl rfl (bool_tr e422 hc129)).trans rfl) rfl ?_
      exact WL.nil ⟨rfl, _, rfl, rfl, hs.cutG 0 0⟩ }
      {
      intro ρ w Γx Λx hs hu hp
      have e423 : ρ 118 = undef := (hp 13 rfl).1
      have e424 : ρ 119 = undef := (hp 14 rfl).1
      have e425 : ρ 111 = .bool (x125.Kind == 3) := (hp 6 rfl).1
      refine WL.pass ((wanted_of rfl rfl (bool_tr e425 hc129)).trans rfl) rfl ?_
      exact WL.nil ⟨rfl, _, rfl, rfl, hs.cutG 0 0⟩ }
      {
      intro ρ w Γx Λx hs hu hp
      have e426 : ρ 120 = undef := (hp 15 rfl).1
      have e427 : ρ 111 = .bool (x125.Kind == 3) := (hp 6 rfl).1
      refine WL.pass ((wanted_of rfl rfl (bool_tr e427 hc129)).trans rfl) rfl ?_
      exact WL.nil ⟨rfl, _, rfl, rfl, hs.cutG 0 0⟩ }
      {
      intro ρ w Γx Λx hs hu hp
      have e428 : ρ 121 = undef := (hp 16 rfl).1
      have e429 : ρ 111 = .bool (x125.Kind == 3) := (hp 6 rfl).1
      refine WL.pass ((wanted_of rfl rfl (bool_tr e429 hc129)).trans rfl) rfl ?_
      exact WL.nil ⟨rfl, _, rfl, rfl, hs.cutG 0 0⟩ }
      {
      intro ρ w Γx Λx hs hu hp
      have e430 : ρ 117 = undef := (hp 12 rfl).1
      have e431 : ρ 122 = undef := (hp 17 rfl).1
      have e432 : ρ 111 = .bool (x125.Kind == 3) := (hp 6 rfl).1
      refine WL.pass ((wanted_of rfl rfl (bool_tr e432 hc129)).trans rfl) rfl ?_
      exact WL.nil ⟨rfl, _, rfl, rfl, hs.cutG 0 0⟩ }
      {
      intro ρ w Γx Λx hs hu hp
      have e433 : ρ 111 = .bool (x125.Kind == 3) := (hp 6 rfl).1
      have e434 : ρ 123 = undef := (hp 18 rfl).1
      refine WL.pickF (v := .bool false) (bool_tr e433 hc129) rfl ?_
      exact WL.nil ⟨rfl, _, rfl, rfl, hs.cutG 0 0⟩ }
      {
      intro ρ w Γx Λx hs hu hp
      have e435 : ρ 124 = .bool false := (hp 19 rfl).1
      refine WL.move (v := .bool false) e435 ?_
      exact WL.nil ⟨rfl, _, rfl, rfl, hs.cutG 0 0⟩ }
      {
      intro ρ w Γx Λx hs hu hp
      have e436 : ρ 125 = .bool false := (hp 20 rfl).1
      refine WL.pass ((wanted_of rfl rfl e436).trans rfl) rfl ?_
      exact WL.nil ⟨rfl, _, rfl, rfl, hs.cutG 0 0⟩ }
      {
      intro ρ w Γx Λx hs hu hp
      have e437 : ρ 126 = undef := (hp 21 rfl).1
      have e438 : ρ 125 = .bool false := (hp 20 rfl).1
      refine WL.pass ((wanted_of rfl rfl e438).trans rfl) rfl ?_
      exact WL.nil ⟨rfl, _, rfl, rfl, hs.cutG 0 0⟩ }
      {
      intro ρ w Γx Λx hs hu hp
      have e439 : ρ 125 = .bool false := (hp 20 rfl).1
      refine WL.pass ((wanted_of rfl rfl e439).trans rfl) rfl ?_
      exact WL.nil ⟨rfl, _, rfl, rfl, hs.cutG 0 0⟩ }
      {
      intro ρ w Γx Λx hs hu hp
      have e440 : ρ 127 = undef := (hp 22 rfl).1
      have e441 : ρ 128 = undef := (hp 23 rfl).1
      have e442 : ρ 125 = .bool false := (hp 20 rfl).1
      refine WL.pass ((wanted_of rfl rfl e442).trans rfl) rfl ?_
      exact WL.nil ⟨rfl, _, rfl, rfl, hs.cutG 0 0⟩ }
      {
      intro ρ w Γx Λx hs hu hp
      have e443 : ρ 129 = undef := (hp 24 rfl).1
      have e444 : ρ 125 = .bool false := (hp 20 rfl).1
      refine WL.pass ((wanted_of rfl rfl e444).trans rfl) rfl ?_
      exact WL.nil ⟨rfl, _, rfl, rfl, hs.cutG 0 0⟩ }
      {
      intro ρ w Γx Λx hs hu hp
      have e445 : ρ 130 = undef := (hp 25 rfl).1
      have e446 : ρ 125 = .bool false := (hp 20 rfl).1
      refine WL.pass ((wanted_of rfl rfl e446).trans rfl) rfl ?_
      exact WL.nil ⟨rfl, _, rfl, rfl, hs.cutG 0 0⟩ }
      {
      intro ρ w Γx Λx hs hu hp
      have e447 : ρ 125 = .bool false := (hp 20 rfl).1
      refine WL.pass ((wanted_of rfl rfl e447).trans rfl) rfl ?_
      exact WL.nil ⟨rfl, _, rfl, rfl, hs.cutG 0 0⟩ }
      {
      intro ρ w Γx Λx hs hu hp
      have e448 : ρ 125 = .bool false := (hp 20 rfl).1
      refine WL.pass ((wanted_of rfl rfl e448).trans rfl) rfl ?_
      exact WL.nil ⟨rfl, _, rfl, rfl, hs.cutG 0 0⟩ }
      {
      intro ρ w Γx Λx hs hu hp
      have e449 : ρ 132 = undef := (hp 27 rfl).1
      have e450 : ρ 133 = undef := (hp 28 rfl).1
      have e451 : ρ 125 = .bool false := (hp 20 rfl).1
      refine WL.pass ((wanted_of rfl rfl e451).trans rfl) rfl ?_
      exact WL.nil ⟨rfl, _, rfl, rfl, hs.cutG 0 0⟩ }
      {
      intro ρ w Γx Λx hs hu hp
      have e452 : ρ 134 = undef := (hp 29 rfl).1
      have e453 : ρ 125 = .bool false := (hp 20 rfl).1
      refine WL.pass ((wanted_of rfl rfl e453).trans rfl) rfl ?_
      exact WL.nil ⟨rfl, _, rfl, rfl, hs.cutG 0 0⟩ }
      {
      intro ρ w Γx Λx hs hu hp
      have e454 : ρ 135 = undef := (hp 30 rfl).1
      have e455 : ρ 125 = .bool false := (hp 20 rfl).1
      refine WL.pass ((wanted_of rfl rfl e455).trans rfl) rfl ?_
      exact WL.nil ⟨rfl, _, rfl, rfl, hs.cutG 0 0⟩ }
      {
      intro ρ w Γx Λx hs hu hp
      have e456 : ρ 131 = undef := (hp 26 rfl).1
      have e457 : ρ 136 = undef := (hp 31 rfl).1
      have e458 : ρ 125 = .bool false := (hp 20 rfl).1
      refine WL.pass ((wanted_of rfl rfl e458).trans rfl) rfl ?_
      exact WL.nil ⟨rfl, _, rfl, rfl, hs.cutG 0 0⟩ }
      {
      intro ρ w Γx Λx hs hu hp
      have e459 : ρ 125 = .bool false := (hp 20 rfl).1
      have e460 : ρ 137 = undef := (hp 32 rfl).1
      refine WL.pickF (v := .bool false) e459 rfl ?_
      exact WL.nil ⟨rfl, _, rfl, rfl, hs.cutG 0 0⟩ }
      {
      intro ρ w hs hu461 hp
      obtain ⟨⟨⟨⟨⟨⟨⟨⟨⟨⟨⟨⟨⟨⟨⟨⟨⟨⟨⟨⟨⟨⟨⟨⟨⟨⟨⟨⟨⟨⟨⟨⟨⟨⟨_, hp0_⟩, hp1_⟩, hp2_⟩, hp3_⟩, hp4_⟩, hp5_⟩, hp6_⟩, hp7_⟩, hp8_⟩, hp9_⟩, hp10_⟩, hp11_⟩, hp12_⟩, hp13_⟩, hp14_⟩, hp15_⟩, hp16_⟩, hp17_⟩, hp18_⟩, hp19_⟩, hp20_⟩, hp21_⟩, hp22_⟩, hp23_⟩, hp24_⟩, hp25_⟩, hp26_⟩, hp27_⟩, hp28_⟩, hp29_⟩, hp30_⟩, hp31_⟩, hp32_⟩, hp33_⟩ := hp
      have hs : St ok (bz w0) w [pl (tInt .i64) x125.Kind (adOf (ρ 108)), pl t_api_Change x125 (adOf (ρ 107)), vl (tSlice t_api_WeightEntry) x63.Weights (.slice a114 (x63.Weights).length c115), vl (tSlice t_api_Change) x37 (.slice a40 x37.length c42), vl t_api_Summary x63 (.agg cs76.toArray)] [blk g74 36 cs76] := hs
      have e462 : ρ 138 = .bool false := hp33_
      have e463 : ρ 137 = undef := hp32_
      have e464 : ρ 136 = undef := hp31_
      have e465 : ρ 135 = undef := hp30_
      have e466 : ρ 134 = undef := hp29_
      have e467 : ρ 133 = undef := hp28_
      have e468 : ρ 132 = undef := hp27_
      have e469 : ρ 131 = undef := hp26_
      have e470 : ρ 130 = undef := hp25_
      have e471 : ρ 129 = undef := hp24_
      have e472 : ρ 128 = undef := hp23_
      have e473 : ρ 127 = undef := hp22_
      have e474 : ρ 126 = undef := hp21_
      have e475 : ρ 125 = .bool false := hp20_
      have e476 : ρ 124 = .bool false := hp19_
      have e477 : ρ 123 = undef := hp18_
      have e478 : ρ 122 = undef := hp17_
      have e479 : ρ 121 = undef := hp16_
      have e480 : ρ 120 = undef := hp15_
      have e481 : ρ 119 = undef := hp14_
      have e482 : ρ 118 = undef := hp13_
      have e483 : ρ 117 = undef := hp12_
      have e484 : ρ 116 = undef := hp11_
      have e485 : ρ 115 = undef := hp10_
      have e486 : ρ 114 = undef := hp9_
      have e487 : ρ 113 = undef := hp8_
      have e488 : ρ 112 = undef := hp7_
      have e489 : ρ 111 = .bool (x125.Kind == 3) := hp6_
      have e490 : ρ 110 = .bool (x125.Kind == 3) := hp5_
      have e491 : ρ 109 = .int .i64 x125.Kind := hp4_
      obtain ⟨ad492, e493⟩ := hp3_
      have e493 : ρ 108 = .pointer (some ad492) := e493
      try rw [e493] at hs
      obtain ⟨ad494, e495⟩ := hp2_
      have e495 : ρ 107 = .pointer (some ad494) := e495
      try rw [e495] at hs
      have e496 : ρ 106 = .int .i64 x91 := hp1_
      have e497 : ρ 105 = .slice a40 x37.length c42 := hp0_
      refine WA.done (by kernel_rfl) ?_
      exact Jk121 false _ _ ((hu461 13 rfl).trans h108_13) ((hu461 17 rfl).trans h108_17) ((hu461 18 rfl).trans h108_18) ((hu461 19 rfl).trans h108_19) e462 ((hs.mask [true]).pick [3, 4]) hf } } }
      {
      refine W.cond_false (bool_tr rfl hc116) ?_
      refine W.exit ?_
      have hr := Option.some.inj hf; subst hr
      have hr := hbbs110 _ rfl; subst hr
      have hf := hfs110
      exact Jk98  _ _ h108_13 h108_17 h108_18 ((hs.mask [true]).pick [1, 2]) hf } }
    obtain ⟨x499, hxx499, hf⟩ := bindE hf
    rcases iteE hf with ⟨hc503, hf⟩ | ⟨hc503, hf⟩
    {
    obtain ⟨x507, hxx507, hf⟩ := bindE hf
    refine W.any (by kernel_rfl) 16 0 [true, true, true, true, true, true, true, true, true, true, true, true, true, true, true, true] rfl rfl (poAt [pv (.slice a40 x37.length c42), pv (.int .i64 x91), pq (fun y : Addr => .pointer (some y)) (fun v => [pl t_api_Change x499 (adOf v)]) (fun v => []), pq (fun y : Addr => .pointer (some y)) (fun v => [pl (tInt .i64) x499.Kind (adOf v)]) (fun v => []), pv (.int .i64 x499.Kind), pv (.bool (x499.Kind == 4)), pv (.bool (x499.Kind == 4)), pv (.pointer (some ⟨g74, 3, none⟩)), pq (fun y : List Value => .agg y.toArray) (fun v => [vl t_api_Rule x63.Rule v]) (fun v => []), pv (.slice a40 x37.length c42), pv (.int .i64 x91), pq (fun y : Addr => .pointer (some y)) (fun v => [pl t_api_Change x507 (adOf v)]) (fun v => []), pq (fun y : Addr => .pointer (some y)) (fun v => [pl t_api_Rule x507.Rule (adOf v)]) (fun v => []), pq (fun y : List Value => .agg y.toArray) (fun v => [vl t_api_Rule x507.Rule v]) (fun v => []), pv (.bool (!decide ((⟨x63.Rule.Kind, x63.Rule.Columns, x63.Rule.Faulty⟩ : api_Rule) = (⟨x507.Rule.Kind, x507.Rule.Columns, x507.Rule.Faulty⟩ : api_Rule)))), pv (.bool (!decide ((⟨x63.Rule.Kind, x63.Rule.Columns, x63.Rule.Faulty⟩ : api_Rule) = (⟨x507.Rule.Kind, x507.Rule.Columns, x507.Rule.Faulty⟩ : api_Rule))))]) (Λ := [blk g74 36 cs76]) hs (by kernel_rfl) (by kernel_rfl) (by kernel_rfl) ⟨⟨⟨⟨⟨⟨⟨⟨⟨⟨⟨⟨⟨⟨⟨⟨trivial, ?_⟩, ?_⟩, ?_⟩, ?_⟩, ?_⟩, ?_⟩, ?_⟩, ?_⟩, ?_⟩, ?_⟩, ?_⟩, ?_⟩, ?_⟩, ?_⟩, ?_⟩, ?_⟩ ?_
    {
    intro ρ w Γx Λx hs hu hp
    refine WL.move (v := .slice a40 x37.length c42) ((hu 13 rfl).trans h90_13) ?_
    exact WL.nil ⟨rfl, _, rfl, rfl, hs.cutG 0 0⟩ }
    {
    intro ρ w Γx Λx hs hu hp
    refine WL.move (v := .int .i64 x91) ((hu 18 rfl).trans h90_18) ?_
    exact WL.nil ⟨rfl, _, rfl, rfl, hs.cutG 0 0⟩ }
    {
    intro ρ w Γx Λx hs hu hp
    have e513 : ρ 82 = .slice a40 x37.length c42 := (hp 0 rfl).1
    have e514 : ρ 83 = .int .i64 x91 := (hp 1 rfl).1
    refine WL.indexAddr hs (Γx.length + 0) (getApp rfl) UN38 TI26 e513 e514 hxx499 (fun ad500 hs => ?_)
    have hs := hs.add (it := pl t_api_Change x499 ad500) fun ok hA => hA.get 0 rfl
    exact WL.nil ⟨rfl, _, rfl, ⟨ad500, rfl⟩, hs.cutG 1 1⟩ }
    {
    intro ρ w Γx Λx hs hu hp
    obtain ⟨⟨ad515, e516r⟩, hm517⟩ := hp 2 rfl
    have e516 : ρ 84 = .pointer (some ad515) := e516r
    rw [e516r] at hm517
    have hs := hs.memo1 (it := pl t_api_Change x499 ad515) (List.mem_append.2 (.inl (hm517 _ (List.mem_of_getElem? (i := 0) rfl))))
    refine WL.fieldAddrP (z := x499.Kind) F_api_Change_Kind hs 0 rfl e516 FA26_0 rfl (fun ad501 hs => ?_)
    have hs := hs.add (it := pl (tInt .i64) x499.Kind ad501) fun ok hA => hA.get 0 rfl
    exact WL.nil ⟨rfl, _, rfl, ⟨ad501, rfl⟩, hs.cutG 1 2⟩ }
    {
    intro ρ w Γx Λx hs hu hp
    obtain ⟨⟨ad518, e519r⟩, hm520⟩ := hp 3 rfl
    have e519 : ρ 85 = .pointer (some ad518) := e519r
    rw [e519r] at hm520
    have hs := hs.memo1 (it := pl (tInt .i64) x499.Kind ad518) (List.mem_append.2 (.inl (hm520 _ (List.mem_of_getElem? (i := 0) rfl))))
    refine WL.loadP hs 0 rfl TI3 (.inr rfl) e519 (fun v502 hs => ?_)
    obtain rfl := hs.int 0 rfl
    exact WL.nil ⟨rfl, _, rfl, rfl, hs.cutG 0 2⟩ }
    {
    intro ρ w Γx Λx hs hu hp
    have e521 : ρ 86 = .int .i64 x499.Kind := (hp 4 rfl).1
    refine WL.bin (v := .bool (x499.Kind == 4)) e521 rfl (ib_eql _ _ _) ?_
    exact WL.nil ⟨rfl, _, rfl, rfl, hs.cutG 0 0⟩ }
    {
    intro ρ w Γx Λx hs hu hp
    have e522 : ρ 87 = .bool (x499.Kind == 4) := (hp 5 rfl).1
    refine WL.move (v := .bool (x499.Kind == 4)) e522 ?_
    exact WL.nil ⟨rfl, _, rfl, rfl, hs.cutG 0 0⟩ }
    {
    intro ρ w Γx Λx hs hu hp
    have e523 : ρ 88 = .bool (x499.Kind == 4) := (hp 6 rfl).1
    refine WL.fieldAddr (m := 3) ((hu 17 rfl).trans h90_17) FA36_3 rfl ?_ (hg := (wanted_of rfl rfl (bool_tr e523 hc503)).trans rfl)
    exact WL.nil ⟨rfl, _, rfl, rfl, hs.cutG 0 0⟩ }
    {
    intro ρ w Γx Λx hs hu hp
    have e524 : ρ 89 = .pointer (some ⟨g74, 3, none⟩) := (hp 7 rfl).1
    have e525 : ρ 88 = .bool (x499.Kind == 4) := (hp 6 rfl).1
    refine WL.loadF (z := x63.Rule) F_api_Summary_Rule hs (Λx.length + 0) (getApp rfl) (Γx.length + 1) (getApp rfl) rfl TI24 (.inl rfl) e524 rfl (fun v504 hs => ?_) (hg := (wanted_of rfl rfl (bool_tr e525 hc503)).trans rfl)
    obtain ⟨cs505, hl506, rfl⟩ := hs.aggv (n := 3) 0 rfl rfl rfl
    have hs := hs.add (it := vl t_api_Rule x63.Rule (.agg cs505.toArray)) fun ok hA => hA.get 0 rfl
    exact WL.nil ⟨rfl, _, rfl, ⟨cs505, rfl⟩, hs.cutG 1 1⟩ }
    {
    intro ρ w Γx Λx hs hu hp
    have e526 : ρ 88 = .bool (x499.Kind == 4) := (hp 6 rfl).1
    refine WL.move (v := .slice a40 x37.length c42) ((hu 13 rfl).trans h90_13) ?_ (hg := (wanted_of rfl rfl (bool_tr e526 hc503)).trans rfl)
    exact WL.nil ⟨rfl, _, rfl, rfl, hs.cutG 0 0⟩ }
    {
    intro ρ w Γx Λx hs hu hp
    have e527 : ρ 88 = .bool (x499.Kind == 4) := (hp 6 rfl).1
    refine WL.move (v := .int .i64 x91) ((hu 18 rfl).trans h90_18) ?_ (hg := (wanted_of rfl rfl (bool_tr e527 hc503)).trans rfl)
    exact WL.nil ⟨rfl, _, rfl, rfl, hs.cutG 0 0⟩ }
    {
    intro ρ w Γx Λx hs hu hp
    have e528 : ρ 91 = .slice a40 x37.length c42 := (hp 9 rfl).1
    have e529 : ρ 92 = .int .i64 x91 := (hp 10 rfl).1
    have e530 : ρ 88 = .bool (x499.Kind == 4) := (hp 6 rfl).1
    refine WL.indexAddr hs (Γx.length + 0) (getApp rfl) UN38 TI26 e528 e529 hxx507 (fun ad508 hs => ?_) (hg := (wanted_of rfl rfl (bool_tr e530 hc503)).trans rfl)
    have hs := hs.add (it := pl t_api_Change x507 ad508) fun ok hA => hA.get 0 rfl
    exact WL.nil ⟨rfl, _, rfl, ⟨ad508, rfl⟩, hs.cutG 1 1⟩ }
    {
    intro ρ w Γx Λx hs hu hp
    obtain ⟨⟨ad531, e532r⟩, hm533⟩ := hp 11 rfl
    have e532 : ρ 93 = .pointer (some ad531) := e532r
    rw [e532r] at hm533
    have hs := hs.memo1 (it := pl t_api_Change x507 ad531) (List.mem_append.2 (.inl (hm533 _ (List.mem_of_getElem? (i := 0) rfl))))
    have e534 : ρ 88 = .bool (x499.Kind == 4) := (hp 6 rfl).1
    refine WL.fieldAddrP (z := x507.Rule) F_api_Change_Rule hs 0 rfl e532 FA26_4 rfl (fun ad509 hs => ?_) (hg := (wanted_of rfl rfl (bool_tr e534 hc503)).trans rfl)
    have hs := hs.add (it := pl t_api_Rule x507.Rule ad509) fun ok hA => hA.get 0 rfl
    exact WL.nil ⟨rfl, _, rfl, ⟨ad509, rfl⟩, hs.cutG 1 2⟩ }
    {
    intro ρ w Γx Λx hs hu hp
    obtain ⟨⟨ad535, e536r⟩, hm537⟩ := hp 12 rfl
    have e536 : ρ 94 = .pointer (some ad535) := e536r
    rw [e536r] at hm537
    have hs := hs.memo1 (it := pl t_api_Rule x507.Rule ad535) (List.mem_append.2 (.inl (hm537 _ (List.mem_of_getElem? (i := 0) rfl))))
    have e538 : ρ 88 = .bool (x499.Kind == 4) := (hp 6 rfl).1
    refine WL.loadP hs 0 rfl TI24 (.inl rfl) e536 (fun v510 hs => ?_) (hg := (wanted_of rfl rfl (bool_tr e538 hc503)).trans rfl)
    obtain ⟨cs511, hl512, rfl⟩ := hs.aggv (n := 3) 0 rfl rfl rfl
    have hs := hs.add (it := vl t_api_Rule x507.Rule (.agg cs511.toArray)) fun ok hA => hA.get 0 rfl
    exact WL.nil ⟨rfl, _, rfl, ⟨cs511, rfl⟩, hs.cutG 1 2⟩ }
    {
    intro ρ w Γx Λx hs hu hp
    obtain ⟨⟨cs539, e541r⟩, hm542⟩ := hp 8 rfl
    have e541 : ρ 90 = .agg cs539.toArray := e541r
    rw [e541r] at hm542
    have hs := hs.memo1 (it := vl t_api_Rule x63.Rule (.agg cs539.toArray)) (List.mem_append.2 (.inl (hm542 _ (List.mem_of_getElem? (i := 0) rfl))))
    have hl540 := hs.agglen (n := 3) 0 rfl rfl rfl
    obtain ⟨⟨cs543, e545r⟩, hm546⟩ := hp 13 rfl
    have e545 : ρ 95 = .agg cs543.toArray := e545r
    rw [e545r] at hm546
    have hs := hs.memo1 (it := vl t_api_Rule x507.Rule (.agg cs543.toArray)) (List.mem_cons_of_mem _ (List.mem_append.2 (.inl (hm546 _ (List.mem_of_getElem? (i := 0) rfl)))))
    have hl544 := hs.agglen (n := 3) 0 rfl rfl rfl
    have e547 : ρ 88 = .bool (x499.Kind == 4) := (hp 6 rfl).1
    obtain rfl := open_api_Rule hs 1 rfl
    obtain rfl := open_api_Rule hs 0 rfl
    refine WL.eqA e541 e545 EG24 (NQ24 (⟨x63.Rule.Kind, x63.Rule.Columns, x63.Rule.Faulty⟩ : api_Rule) (⟨x507.Rule.Kind, x507.Rule.Columns, x507.Rule.Faulty⟩ : api_Rule)) ?_ (hg := (wanted_of rfl rfl (bool_tr e547 hc503)).trans rfl)
    exact WL.nil ⟨rfl, _, rfl, rfl, hs.cutG 0 2⟩ }
    {
    intro ρ w Γx Λx hs hu hp
    have e548 : ρ 88 = .bool (x499.Kind == 4) := (hp 6 rfl).1
    have e549 : ρ 96 = .bool (!decide ((⟨x63.Rule.Kind, x63.Rule.Columns, x63.Rule.Faulty⟩ : api_Rule) = (⟨x507.Rule.Kind, x507.Rule.Columns, x507.Rule.Faulty⟩ : api_Rule))) := (hp 14 rfl).1
    refine WL.pickT (v := .bool (!decide ((⟨x63.Rule.Kind, x63.Rule.Columns, x63.Rule.Faulty⟩ : api_Rule) = (⟨x507.Rule.Kind, x507.Rule.Columns, x507.Rule.Faulty⟩ : api_Rule)))) (bool_tr e548 hc503) e549 ?_
    exact WL.nil ⟨rfl, _, rfl, rfl, hs.cutG 0 0⟩ }
    {
    intro ρ w hs hu550 hp
    obtain ⟨⟨⟨⟨⟨⟨⟨⟨⟨⟨⟨⟨⟨⟨⟨⟨_, hp0_⟩, hp1_⟩, hp2_⟩, hp3_⟩, hp4_⟩, hp5_⟩, hp6_⟩, hp7_⟩, hp8_⟩, hp9_⟩, hp10_⟩, hp11_⟩, hp12_⟩, hp13_⟩, hp14_⟩, hp15_⟩ := hp
    have hs : St ok (bz w0) w [vl t_api_Rule x507.Rule (ρ 95), pl t_api_Rule x507.Rule (adOf (ρ 94)), pl t_api_Change x507 (adOf (ρ 93)), vl t_api_Rule x63.Rule (ρ 90), pl (tInt .i64) x499.Kind (adOf (ρ 85)), pl t_api_Change x499 (adOf (ρ 84)), vl (tSlice t_api_Change) x37 (.slice a40 x37.length c42), vl t_api_Summary x63 (.agg cs76.toArray)] [blk g74 36 cs76] := hs
    have e551 : ρ 97 = .bool (!decide ((⟨x63.Rule.Kind, x63.Rule.Columns, x63.Rule.Faulty⟩ : api_Rule) = (⟨x507.Rule.Kind, x507.Rule.Columns, x507.Rule.Faulty⟩ : api_Rule))) := hp15_
    have e552 : ρ 96 = .bool (!decide ((⟨x63.Rule.Kind, x63.Rule.Columns, x63.Rule.Faulty⟩ : api_Rule) = (⟨x507.Rule.Kind, x507.Rule.Columns, x507.Rule.Faulty⟩ : api_Rule))) := hp14_
    obtain ⟨cs553, e555⟩ := hp13_
    have e555 : ρ 95 = .agg cs553.toArray := e555
    try rw [e555] at hs
    obtain ⟨ad556, e557⟩ := hp12_
    have e557 : ρ 94 = .pointer (some ad556) := e557
    try rw [e557] at hs
    obtain ⟨ad558, e559⟩ := hp11_
    have e559 : ρ 93 = .pointer (some ad558) := e559
    try rw [e559] at hs
    have e560 : ρ 92 = .int .i64 x91 := hp10_
    have e561 : ρ 91 = .slice a40 x37.length c42 := hp9_
    obtain ⟨cs562, e564⟩ := hp8_
    have e564 : ρ 90 = .agg cs562.toArray := e564
    try rw [e564] at hs
    have e565 : ρ 89 = .pointer (some ⟨g74, 3, none⟩) := hp7_
    have e566 : ρ 88 = .bool (x499.Kind == 4) := hp6_
    have e567 : ρ 87 = .bool (x499.Kind == 4) := hp5_
    have e568 : ρ 86 = .int .i64 x499.Kind := hp4_
    obtain ⟨ad569, e570⟩ := hp3_
    have e570 : ρ 85 = .pointer (some ad569) := e570
    try rw [e570] at hs
    obtain ⟨ad571, e572⟩ := hp2_
    have e572 : ρ 84 = .pointer (some ad571) := e572
    try rw [e572] at hs
    have e573 : ρ 83 = .int .i64 x91 := hp1_
    have e574 : ρ 82 = .slice a40 x37.length c42 := hp0_
    have hl563 := hs.agglen (n := 3) 3 rfl rfl rfl
    have hl554 := hs.agglen (n := 3) 0 rfl rfl rfl
    refine WA.done (by kernel_rfl) ?_
    exact Jk104 (!decide ((⟨x63.Rule.Kind, x63.Rule.Columns, x63.Rule.Faulty⟩ : api_Rule) = (⟨x507.Rule.Kind, x507.Rule.Columns, x507.Rule.Faulty⟩ : api_Rule))) _ _ ((hu550 13 rfl).trans h90_13) ((hu550 17 rfl).trans h90_17) ((hu550 18 rfl).trans h90_18) e551 ((hs.mask [true]).pick [6, 7]) hf } }
    {
    refine W.any (by kernel_rfl) 16 0 [true, true, true, true, true, true, true, true, true, true, true, true, true, true, true, true] rfl rfl (poAt [pv (.slice a40 x37.length c42), pv (.int .i64 x91), pq (fun y : Addr => .pointer (some y)) (fun v => [pl t_api_Change x499 (adOf v)]) (fun v => []), pq (fun y : Addr => .pointer (some y)) (fun v => [pl (tInt .i64) x499.Kind (adOf v)]) (fun v => []), pv (.int .i64 x499.Kind), pv (.bool (x499.Kind == 4)), pv (.bool (x499.Kind == 4)), pv (undef), pv (undef), pv (undef), pv (undef), pv (undef), pv (undef), pv (undef), pv (undef), pv (.bool false)]) (Λ := [blk g74 36 cs76]) hs (by kernel_rfl) (by kernel_rfl) (by kernel_rfl) ⟨⟨⟨⟨⟨⟨⟨⟨⟨⟨⟨⟨⟨⟨⟨⟨trivial, ?_⟩, ?_⟩, ?_⟩, ?_⟩, ?_⟩, ?_⟩, ?_⟩, ?_⟩, ?_⟩, ?_⟩, ?_⟩, ?_⟩, ?_⟩, ?_⟩, ?_⟩, ?_⟩ ?_
    {
    intro ρ w Γx Λx hs hu hp
    refine WL.move (v := .slice a40 x37.length c42) ((hu 13 rfl).trans h90_13) ?_
    exact WL.nil ⟨rfl, _, rfl, rfl, hs.cutG 0 0⟩ }
    {
    intro ρ w Γx Λx hs hu hp
    refine WL.move (v := .int .i64 x91) ((hu 18 rfl).trans h90_18) ?_
    exact WL.nil ⟨rfl, _, rfl, rfl, hs.cutG 0 0⟩ }
    {
    intro ρ w Γx Λx hs hu hp
    have e575 : ρ 82 = .slice a40 x37.length c42 := (hp 0 rfl).1
    have e576 : ρ 83 = .int .i64 x91 := (hp 1 rfl).1
    refine WL.indexAddr hs (Γx.length + 0) (getApp rfl) UN38 TI26 e575 e576 hxx499 (fun ad500 hs => ?_)
    have hs := hs.add (it := pl t_api_Change x499 ad500) fun ok hA => hA.get 0 rfl
    exact WL.nil ⟨rfl, _, rfl, ⟨ad500, rfl⟩, hs.cutG 1 1⟩ }
    {
    intro ρ w Γx Λx hs hu hp
    obtain ⟨⟨ad577, e578r⟩, hm579⟩ := hp 2 rfl
    have e578 : ρ 84 = .pointer (some ad577) := e578r
    rw [e578r] at hm579
    have hs := hs.memo1 (it := pl t_api_Change x499 ad577) (List.mem_append.2 (.inl (hm579 _ (List.mem_of_getElem? (i := 0) rfl))))
    refine WL.fieldAddrP (z := x499.Kind) F_api_Change_Kind hs 0 rfl e578 FA26_0 rfl (fun ad501 hs => ?_)
    have hs := hs.add (it := pl (tInt .i64) x499.Kind ad501) fun ok hA => hA.get 0 rfl
    exact WL.nil ⟨rfl, _, rfl, ⟨ad501, rfl⟩, hs.cutG 1 2⟩ }
    {
    intro ρ w Γx Λx hs hu hp
    obtain ⟨⟨ad580, e581r⟩, hm582⟩ := hp 3 rfl
    have e581 : ρ 85 = .pointer (some ad580) := e581r
    rw [e581r] at hm582
    have hs := hs.memo1 (it := pl (tInt .i64) x499.Kind ad580) (List.mem_append.2 (.inl (hm582 _ (List.mem_of_getElem? (i := 0) rfl))))
    refine WL.loadP hs 0 rfl TI3 (.inr rfl) e581 (fun v502 hs => ?_)
    obtain rfl := hs.int 0 rfl
    exact WL.nil ⟨rfl, _, rfl, rfl, hs.cutG 0 2⟩ }
    {
    intro ρ w Γx Λx hs hu hp
    have e583 : ρ 86 = .int .i64 x499.Kind := (hp 4 rfl).1
    refine WL.bin (v := .bool (x499.Kind == 4)) e583 rfl (ib_eql _ _ _) ?_
    exact WL.nil ⟨rfl, _, rfl, rfl, hs.cutG 0 0⟩ }
    {
    intro ρ w Γx Λx hs hu hp
    have e584 : ρ 87 = .bool (x499.Kind == 4) := (hp 5 rfl).1
    refine WL.move (v := .bool (x499.Kind == 4)) e584 ?_
    exact WL.nil ⟨rfl, _, rfl, rfl, hs.cutG 0 0⟩ }
    {
    intro ρ w Γx Λx hs hu hp
    have e585 : ρ 88 = .bool (x499.Kind == 4) := (hp 6 rfl).1
    refine WL.pass ((wanted_of rfl rfl (bool_tr e585 hc503)).trans rfl) rfl ?_
    exact WL.nil ⟨rfl, _, rfl, rfl, hs.cutG 0 0⟩ }
    {
    intro ρ w Γx Λx hs hu hp
    have e586 : ρ 89 = undef := (hp 7 rfl).1
    have e587 : ρ 88 = .bool (x499.Kind == 4) := (hp 6 rfl).1
    refine WL.pass ((wanted_of rfl rfl (bool_tr e587 hc503)).trans rfl) rfl ?_
    exact WL.nil ⟨rfl, _, rfl, rfl, hs.cutG 0 0⟩ }
    {
    intro ρ w Γx Λx hs hu hp
    have e588 : ρ 88 = .bool (x499.Kind == 4) := (hp 6 rfl).1
    refine WL.pass ((wanted_of rfl rfl (bool_tr e588 hc503)).trans rfl) rfl ?_
    exact WL.nil ⟨rfl, _, rfl, rfl, hs.cutG 0 0⟩ }
    {
    intro ρ w Γx Λx hs hu hp
    have e589 : ρ 88 = .bool (x499.Kind == 4) := (hp 6 rfl).1
    refine WL.pass ((wanted_of rfl rfl (bool_tr e589 hc503)).trans rfl) rfl ?_
    exact WL.nil ⟨rfl, _, rfl, rfl, hs.cutG 0 0⟩ }
    {
    intro ρ w Γx Λx hs hu hp
    have e590 : ρ 91 = undef := (hp 9 rfl).1
    have e591 : ρ 92 = undef := (hp 10 rfl).1
    have e592 : ρ 88 = .bool (x499.Kind == 4) := (hp 6 rfl).1
    refine WL.pass ((wanted_of rfl rfl (bool_tr e592 hc503)).trans rfl) rfl ?_
    exact WL.nil ⟨rfl, _, rfl, rfl, hs.cutG 0 0⟩ }
    {
    intro ρ w Γx Λx hs hu hp
    have e593 : ρ 93 = undef := (hp 11 rfl).1
    have e594 : ρ 88 = .bool (x499.Kind == 4) := (hp 6 rfl).1
    refine WL.pass ((wanted_of rfl rfl (bool_tr e594 hc503)).trans rfl) rfl ?_
    exact WL.nil ⟨rfl, _, rfl, rfl, hs.cutG 0 0⟩ }
    {
    intro ρ w Γx Λx hs hu hp
    have e595 : ρ 94 = undef := (hp 12 rfl).1
    have e596 : ρ 88 = .bool (x499.Kind == 4) := (hp 6 rfl).1
    refine WL.pass ((wanted_of rfl rfl (bool_tr e596 hc503)).trans rfl) rfl ?_
    exact WL.nil ⟨rfl, _, rfl, rfl, hs.cutG 0 0⟩ }
    {
    intro ρ w Γx Λx hs hu hp
    have e597 : ρ 90 = undef := (hp 8 rfl).1
    have e598 : ρ 95 = undef := (hp 13 rfl).1
    have e599 : ρ 88 = .bool (x499.Kind == 4) := (hp 6 rfl).1
    refine WL.pass ((wanted_of rfl rfl (bool_tr e599 hc503)).trans rfl) rfl ?_
    exact WL.nil ⟨rfl, _, rfl, rfl, hs.cutG 0 0⟩ }
    {
    intro ρ w Γx Λx hs hu hp
    have e600 : ρ 88 = .bool (x499.Kind == 4) := (hp 6 rfl).1
    have e601 : ρ 96 = undef := (hp 14 rfl).1
    refine WL.pickF (v := .bool false) (bool_tr e600 hc503) rfl ?_
    exact WL.nil ⟨rfl, _, rfl, rfl, hs.cutG 0 0⟩ }
    {
    intro ρ w hs hu602 hp
    obtain ⟨⟨⟨⟨⟨⟨⟨⟨⟨⟨⟨⟨⟨⟨⟨⟨_, hp0_⟩, hp1_⟩, hp2_⟩, hp3_⟩, hp4_⟩, hp5_⟩, hp6_⟩, hp7_⟩, hp8_⟩, hp9_⟩, hp10_⟩, hp11_⟩, hp12_⟩, hp13_⟩, hp14_⟩, hp15_⟩ := hp
    have hs : St ok (bz w0) w [pl (tInt .i64) x499.Kind (adOf (ρ 85)), pl t_api_Change x499 (adOf (ρ 84)), vl (tSlice t_api_Change) x37 (.slice a40 x37.length c42), vl t_api_Summary x63 (.agg cs76.toArray)] [blk g74 36 cs76] := hs
    have e603 : ρ 97 = .bool false := hp15_
    have e604 : ρ 96 = undef := hp14_
    have e605 : ρ 95 = undef := hp13_
    have e606 : ρ 94 = undef := hp12_
    have e607 : ρ 93 = undef := hp11_
    have e608 : ρ 92 = undef := hp10_
    have e609 : ρ 91 = undef := hp9_
    have e610 : ρ 90 = undef := hp8_
    have e611 : ρ 89 = undef := hp7_
    have e612 : ρ 88 = .bool (x499.Kind == 4) := hp6_
    have e613 : ρ 87 = .bool (x499.Kind == 4) := hp5_
    have e614 : ρ 86 = .int .i64 x499.Kind := hp4_
    obtain ⟨ad615, e616⟩ := hp3_
    have e616 : ρ 85 = .pointer (some ad615) := e616
    try rw [e616] at hs
    obtain ⟨ad617, e618⟩ := hp2_
    have e618 : ρ 84 = .pointer (some ad617) := e618
    try rw [e618] at hs
    have e619 : ρ 83 = .int .i64 x91 := hp1_
    have e620 : ρ 82 = .slice a40 x37.length c42 := hp0_
    refine WA.done (by kernel_rfl) ?_
    exact Jk104 false _ _ ((hu602 13 rfl).trans h90_13) ((hu602 17 rfl).trans h90_17) ((hu602 18 rfl).trans h90_18) e603 ((hs.mask [true]).pick [2, 3]) hf } } }
    {
    refine W.cond_false (bool_tr rfl hc95) ?_
    refine W.exit ?_
    have hr := Option.some.inj hf; subst hr
    have hr := hbbs92 _ rfl; subst hr
    have hf := hfs92
    exact Jk86  _ _  ((hs.mask []).pick []) hf } } } }
  refine W.seqK fun K622 hK622 => ?_
  refine W.region ?_
  refine WL.assign (v := .int .i64 0) rfl ?_
  refine WL.nil ?_
  refine hK622 _ _ ?_
  refine W.block ?_
  have hs := hs.ownLit (A := tStr) (xs := [([106, 111, 105, 110, 32, 57] : List UInt8), ([106, 111, 105, 110, 32, 49, 48, 32, 119, 101, 105, 103, 104, 116, 32, 51] : List UInt8), ([114, 101, 109, 111, 118, 101, 32, 49] : List UInt8), ([114, 101, 109, 111, 118, 101, 32, 50] : List UInt8), ([119, 101, 105, 103, 104, 116, 32, 49, 32, 52] : List UInt8), ([119, 101, 105, 103, 104, 116, 32, 50, 32, 50] : List UInt8), ([114, 117, 108, 101, 32, 119, 101, 105, 103, 104, 116, 101, 100] : List UInt8), ([114, 117, 108, 101, 32, 103, 114, 105, 100, 32, 50] : List UInt8), ([114, 117, 108, 101, 32, 109, 97, 115, 107, 105, 110, 103, 32, 49] : List UInt8), ([] : List UInt8), ([35, 32, 110, 111, 116, 101] : List UInt8), ([106, 111, 105, 110, 32, 52] : List UInt8)]) 0 rfl (fun ok hA => (Cells.app (Cells.one (T := tStr) rfl) (Cells.app (Cells.one (T := tStr) rfl) (Cells.app (Cells.one (T := tStr) rfl) (Cells.app (Cells.one (T := tStr) rfl) (Cells.app (Cells.one (T := tStr) rfl) (Cells.app (Cells.one (T := tStr) rfl) (Cells.app (Cells.one (T := tStr) rfl) (Cells.app (Cells.one (T := tStr) rfl) (Cells.app (Cells.one (T := tStr) rfl) (Cells.app (Cells.one (T := tStr) rfl) (Cells.app (Cells.one (T := tStr) rfl) (Cells.one (T := tStr) rfl))))))))))))) (Nat.le_of_ble_eq_true rfl)
  have hs := hs.freezeOwn 0 rfl
  obtain ⟨bs626, hbs626, hfs626⟩ := bindE hf
  refine W.loop hbs626 (fun s ρ w => match s with | (x624, x625) => ρ 0 = .int .i64 x1 ∧ ρ 1 = .slice a3 x2.length c4 ∧ ρ 2 = .slice a6 x5.length c7 ∧ ρ 7 = .slice (some ⟨g15, 0, none⟩) ([([106, 111, 105, 110, 32, 57] : List UInt8), ([106, 111, 105, 110, 32, 49, 48, 32, 119, 101, 105, 103, 104, 116, 32, 51] : List UInt8), ([114, 101, 109, 111, 118, 101, 32, 49] : List UInt8), ([114, 101, 109, 111, 118, 101, 32, 50] : List UInt8), ([119, 101, 105, 103, 104, 116, 32, 49, 32, 52] : List UInt8), ([119, 101, 105, 103, 104, 116, 32, 50, 32, 50] : List UInt8), ([114, 117, 108, 101, 32, 119, 101, 105, 103, 104, 116, 101, 100] : List UInt8), ([114, 117, 108, 101, 32, 103, 114, 105, 100, 32, 50] : List UInt8), ([114, 117, 108, 101, 32, 109, 97, 115, 107, 105, 110, 103, 32, 49] : List UInt8), ([] : List UInt8), ([35, 32, 110, 111, 116, 101] : List UInt8), ([106, 111, 105, 110, 32, 52] : List UInt8)]).length 12 ∧ ρ 8 = bstr x624 ∧ ρ 9 = .int .i64 x625 ∧ St ok (bz w0) w [vl (tSlice (tInt .i64)) x2 (.slice a3 x2.length c4), vl (tSlice (tInt .u8)) x5 (.slice a6 x5.length c7), vl (tSlice tStr) ([([106, 111, 105, 110, 32, 57] : List UInt8), ([106, 111, 105, 110, 32, 49, 48, 32, 119, 101, 105, 103, 104, 116, 32, 51] : List UInt8), ([114, 101, 109, 111, 118, 101, 32, 49] : List UInt8), ([114, 101, 109, 111, 118, 101, 32, 50] : List UInt8), ([119, 101, 105, 103, 104, 116, 32, 49, 32, 52] : List UInt8), ([119, 101, 105, 103, 104, 116, 32, 50, 32, 50] : List UInt8), ([114, 117, 108, 101, 32, 119, 101, 105, 103, 104, 116, 101, 100] : List UInt8), ([114, 117, 108, 101, 32, 103, 114, 105, 100, 32, 50] : List UInt8), ([114, 117, 108, 101, 32, 109, 97, 115, 107, 105, 110, 103, 32, 49] : List UInt8), ([] : List UInt8), ([35, 32, 110, 111, 116, 101] : List UInt8), ([106, 111, 105, 110, 32, 52] : List UInt8)]) (.slice (some ⟨g15, 0, none⟩) ([([106, 111, 105, 110, 32, 57] : List UInt8), ([106, 111, 105, 110, 32, 49, 48, 32, 119, 101, 105, 103, 104, 116, 32, 51] : List UInt8), ([114, 101, 109, 111, 118, 101, 32, 49] : List UInt8), ([114, 101, 109, 111, 118, 101, 32, 50] : List UInt8), ([119, 101, 105, 103, 104, 116, 32, 49, 32, 52] : List UInt8), ([119, 101, 105, 103, 104, 116, 32, 50, 32, 50] : List UInt8), ([114, 117, 108, 101, 32, 119, 101, 105, 103, 104, 116, 101, 100] : List UInt8), ([114, 117, 108, 101, 32, 103, 114, 105, 100, 32, 50] : List UInt8), ([114, 117, 108, 101, 32, 109, 97, 115, 107, 105, 110, 103, 32, 49] : List UInt8), ([] : List UInt8), ([35, 32, 110, 111, 116, 101] : List UInt8), ([106, 111, 105, 110, 32, 52] : List UInt8)]).length 12)] []) ⟨rfl, rfl, rfl, rfl, rfl, rfl, (hs.mask []).pick [1, 2, 0]⟩ ?_
  intro s ρ w os626 hI hf hbbs626
  obtain ⟨x624, x625⟩ := s
  obtain ⟨h623_0, h623_1, h623_2, h623_7, h623_8, h623_9, hs⟩ := hI
  unfold eslaw08_CommandProposal.l3 at hf
  refine W.seqK fun K627 hK627 => ?_
  refine W.seqK fun K628 hK628 => ?_
  refine W.region ?_
  refine WL.move (v := .int .i64 x625) h623_9 ?_
  refine WL.move (v := .slice a6 x5.length c7) h623_2 ?_
  refine WL.len (v := .slice a6 x5.length c7) rfl (len_slice UN43) ?_
  refine WL.bin (v := .bool (decide (x625 < (x5.length : Int)))) rfl rfl (ib_lss _ _ _) ?_
  refine WL.nil ?_
  refine hK628 _ _ ?_
  rcases iteE hf with ⟨hc629, hf⟩ | ⟨hc629, hf⟩
  {
  refine W.cond_true (bool_tr rfl hc629) ?_
  refine W.skip ?_
  refine hK627 _ _ ?_
  refine W.seqK fun K630 hK630 => ?_
  refine W.block ?_
  refine W.region ?_
  refine WL.move (v := bstr x624) h623_8 ?_
  refine WL.move (v := .slice (some ⟨g15, 0, none⟩) ([([106, 111, 105, 110, 32, 57] : List UInt8), ([106, 111, 105, 110, 32, 49, 48, 32, 119, 101, 105, 103, 104, 116, 32, 51] : List UInt8), ([114, 101, 109, 111, 118, 101, 32, 49] : List UInt8), ([114, 101, 109, 111, 118, 101, 32, 50] : List UInt8), ([119, 101, 105, 103, 104, 116, 32, 49, 32, 52] : List UInt8), ([119, 101, 105, 103, 104, 116, 32, 50, 32, 50] : List UInt8), ([114, 117, 108, 101, 32, 119, 101, 105, 103, 104, 116, 101, 100] : List UInt8), ([114, 117, 108, 101, 32, 103, 114, 105, 100, 32, 50] : List UInt8), ([114, 117, 108, 101, 32, 109, 97, 115, 107, 105, 110, 103, 32, 49] : List UInt8), ([] : List UInt8), ([35, 32, 110, 111, 116, 101] : List UInt8), ([106, 111, 105, 110, 32, 52] : List UInt8)]).length 12) h623_7 ?_
  refine WL.move (v := .slice a6 x5.length c7) h623_2 ?_
  refine WL.move (v := .int .i64 x625) h623_9 ?_
  obtain ⟨x631, hxx631, hf⟩ := bindE hf
  refine WL.indexAddr hs 1 rfl UN43 TI5 rfl rfl hxx631 (fun ad632 hs => ?_)
  refine WL.loadP hs 0 rfl TI5 (.inr rfl) rfl (fun v633 hs => ?_)
  obtain rfl := hs.int 0 rfl
  refine WL.convI UN5 UN3 rfl ?_
  refine WL.move (v := .slice (some ⟨g15, 0, none⟩) ([([106, 111, 105, 110, 32, 57] : List UInt8), ([106, 111, 105, 110, 32, 49, 48, 32, 119, 101, 105, 103, 104, 116, 32, 51] : List UInt8), ([114, 101, 109, 111, 118, 101, 32, 49] : List UInt8), ([114, 101, 109, 111, 118, 101, 32, 50] : List UInt8), ([119, 101, 105, 103, 104, 116, 32, 49, 32, 52] : List UInt8), ([119, 101, 105, 103, 104, 116, 32, 50, 32, 50] : List UInt8), ([114, 117, 108, 101, 32, 119, 101, 105, 103, 104, 116, 101, 100] : List UInt8), ([114, 117, 108, 101, 32, 103, 114, 105, 100, 32, 50] : List UInt8), ([114, 117, 108, 101, 32, 109, 97, 115, 107, 105, 110, 103, 32, 49] : List UInt8), ([] : List UInt8), ([35, 32, 110, 111, 116, 101] : List UInt8), ([106, 111, 105, 110, 32, 52] : List UInt8)]).length 12) h623_7 ?_
  refine WL.len (v := .slice (some ⟨g15, 0, none⟩) ([([106, 111, 105, 110, 32, 57] : List UInt8), ([106, 111, 105, 110, 32, 49, 48, 32, 119, 101, 105, 103, 104, 116, 32, 51] : List UInt8), ([114, 101, 109, 111, 118, 101, 32, 49] : List UInt8), ([114, 101, 109, 111, 118, 101, 32, 50] : List UInt8), ([119, 101, 105, 103, 104, 116, 32, 49, 32, 52] : List UInt8), ([119, 101, 105, 103, 104, 116, 32, 50, 32, 50] : List UInt8), ([114, 117, 108, 101, 32, 119, 101, 105, 103, 104, 116, 101, 100] : List UInt8), ([114, 117, 108, 101, 32, 103, 114, 105, 100, 32, 50] : List UInt8), ([114, 117, 108, 101, 32, 109, 97, 115, 107, 105, 110, 103, 32, 49] : List UInt8), ([] : List UInt8), ([35, 32, 110, 111, 116, 101] : List UInt8), ([106, 111, 105, 110, 32, 52] : List UInt8)]).length 12) rfl (len_slice UN44) ?_
  obtain ⟨hn635, hf⟩ := guardE hf
  obtain ⟨x634, ex634, hf⟩ := letE hf
  refine WL.bin (v := .int .i64 x634) rfl rfl (ib_as ex634 (ib_rem _ _ _ hn635)) ?_
  obtain ⟨x636, hxx636, hf⟩ := bindE hf
  refine WL.indexAddr hs 4 rfl UN44 TI9 rfl rfl hxx636 (fun ad637 hs => ?_)
  refine WL.loadP hs 0 rfl TI9 (.inr rfl) rfl (fun v638 hs => ?_)
  obtain rfl := hs.str 0 rfl
  obtain ⟨x639, hxx639, hf⟩ := bindE hf
  refine WL.binS (v := bstr x639) rfl rfl (sb_cat hxx639) ?_
  obtain ⟨x640, hxx640, hf⟩ := bindE hf
  refine WL.binS (v := bstr x640) rfl rfl (sb_cat hxx640) ?_
  refine WL.assign (v := bstr x640) rfl ?_
  refine WL.nil ?_
  refine hK630 _ _ ?_
  refine W.region ?_
  refine WL.move (v := .int .i64 x625) h623_9 ?_
  obtain ⟨x641, ex641, hf⟩ := letE hf
  refine WL.bin (v := .int .i64 x641) rfl rfl (ib_as ex641 (ib_add _ _ _)) ?_
  refine WL.assign (v := .int .i64 x641) rfl ?_
  refine WL.nil ?_
  exact ⟨_, (Option.some.inj hf).symm, h623_0, h623_1, h623_2, h623_7, rfl, rfl, (hs.mask []).pick [4, 5, 6]⟩ }
  {
  refine W.cond_false (bool_tr rfl hc629) ?_
  refine W.exit ?_
  have hr := Option.some.inj hf; subst hr
  have hr := hbbs626 _ rfl; subst hr
  have hf := hfs626
  exact Jk20 x624 _ _ h623_0 h623_1 h623_8 ((hs.mask []).pick [0]) hf } }
end Go.Proofs.YthfoljpjhegkmaaDoor
