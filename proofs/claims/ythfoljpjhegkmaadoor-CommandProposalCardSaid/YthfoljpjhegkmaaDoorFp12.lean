import Derived.Test.YthfoljpjhegkmaaDoorFh
import Derived.Test.YthfoljpjhegkmaaDoorFp2
import Derived.Test.YthfoljpjhegkmaaDoorFp10
import Derived.Test.YthfoljpjhegkmaaDoorFp11
set_option linter.unusedVariables false
set_option linter.unusedSimpArgs false
namespace Go.Proofs.YthfoljpjhegkmaaDoor
open Go Go.RowKit Go.Proofs.YthfoljpjhegkmaaDoorL
set_option maxRecDepth 100000
set_option maxHeartbeats 4000000
/-! elasticstore/elasticstoreref10.Summarize: function 19 -/
theorem esref10_Summarize.calls {ok : Nat → Prop} {w0 : World} {x1 : api_Genesis} {x5 : List api_Proposal} {v2 : Value} {a6 : Option Addr} {c7 : Nat} {r : api_Summary} (hf : esref10_Summarize x1 x5 = some r) (i0 : (vl t_api_Genesis x1 v2).holds ok w0) (i1 : (vl (tSlice t_api_Proposal) x5 (.slice a6 x5.length c7)).holds ok w0) :
    Calls Tryd.prog 19 #[v2, .slice a6 x5.length c7] w0 fun e w' => ∃ v, e = .returned v ∧ ∃ y : List Value, v = .agg y.toArray ∧ St ok (bz w0) w' [vl t_api_Summary r (.agg y.toArray)] [] := by
  unfold esref10_Summarize at hf
  refine calls_of_W (fn := Tryd.f19) (N := 23) Tryd.func19 rfl Tryd.ntmps19 rfl ?_
  have hs : St ok (bz w0) w0 [vl t_api_Genesis x1 v2, vl (tSlice t_api_Proposal) x5 (.slice a6 x5.length c7)] [] := St.init (All.cons i0 (All.cons i1 All.nil))
  clear i0 i1
  obtain ⟨cs3, hl4, rfl⟩ := hs.aggv (n := 4) 0 rfl rfl rfl
  refine W.seqK fun K8 hK8 => ?_
  refine W.region ?_
  refine WL.box (vs := cs3) hs rfl rfl (fun g9 w hs => ?_)
  refine WL.alloc hs ZV36 (fun g10 w hs => ?_)
  refine WL.nil ?_
  refine hK8 _ _ ?_
  refine W.seqK fun K11 hK11 => ?_
  refine W.region ?_
  refine WL.loadAll hs 1 rfl TI47 rfl hl4 ?_
  obtain ⟨x12, hxx12, hf⟩ := bindE hf
  refine WL.call (vs := [.agg cs3.toArray]) hs FN23 ⟨rfl, trivial⟩ (fun ok hA => esref10_Initial.calls (x1 := x1) hxx12 (hA.get 0 rfl)) ?_
  rintro ⟨⟨a13, n14, c15⟩, ⟨a16, n17, c18⟩, ⟨a19, n20, c21⟩⟩ w hs
  refine WL.alloc hs ZV36 (fun g22 w hs => ?_)
  refine WL.storeAll (vs := [.slice a13 n14 c15, .slice a16 n17 c18, .slice a19 n20 c21, .int .i64 x12.Rule.Kind, .int .i64 x12.Rule.Columns, .int .i64 x12.Rule.Faulty, .int .i64 x12.Version, .int .i64 x12.Admin, .int .i64 x12.Number]) hs 0 rfl TI36 rfl rfl rfl rfl (ones_of rfl) rfl (fun w hs => ?_)
  refine WL.nil ?_
  refine hK11 _ _ ?_
  refine W.seqK fun K23 hK23 => ?_
  have Jk28 : ∀ (x25 : api_Summary) (cs26 : List Value) (ρ : Env) (w : World), cs26.length = 9 → ρ 4 = .pointer (some ⟨g10, 0, none⟩) → ρ 5 = .pointer (some ⟨g22, 0, none⟩) → St ok (bz w0) w [vl t_api_Summary x25 (.agg cs26.toArray)] [blk g22 36 cs26, blk g10 36 [.slice none 0 0, .slice none 0 0, .slice none 0 0, .int .i64 0, .int .i64 0, .int .i64 0, .int .i64 0, .int .i64 0, .int .i64 0]] → esref10_Summarize.j1 x25 = some r → K23 ρ w := by
    intro x25 cs26 ρ w hl27 h24_4 h24_5 hs hf
    refine hK23 _ _ ?_
    unfold esref10_Summarize.j1 at hf
    refine W.seqK fun K29 hK29 => ?_
    refine W.region ?_
    refine WL.loadAll hs 0 rfl TI36 h24_5 hl27 ?_
    refine WL.storeAll (vs := cs26) hs 1 rfl TI36 h24_4 rfl rfl hl27 (hs.ones 0 rfl rfl) rfl (fun w hs => ?_)
    refine WL.nil ?_
    refine hK29 _ _ ?_
    refine W.ret ?_
    have hr := Option.some.inj hf; subst hr
    exact ⟨_, resOk_one rfl (res_all hs 1 rfl TI36 h24_4 hl27), cs26, rfl, (hs.mask []).pick [0]⟩
  refine W.seqK fun K30 hK30 => ?_
  refine W.region ?_
  refine WL.assign (v := .int .i64 0) rfl ?_
  refine WL.nil ?_
  refine hK30 _ _ ?_
  refine W.block ?_
  obtain ⟨bs36, hbs36, hfs36⟩ := bindE hf
  obtain rfl := hs.ownLen 1 rfl
  have hs := hs.freezeOwn 1 rfl
  obtain rfl := hs.ownLen 1 rfl
  have hs := hs.freezeOwn 1 rfl
  obtain rfl := hs.ownLen 1 rfl
  have hs := hs.freezeOwn 1 rfl
  have hs := hs.add (it := vl t_api_Summary (⟨x12.Joined, x12.Removed, x12.Weights, (⟨x12.Rule.Kind, x12.Rule.Columns, x12.Rule.Faulty⟩ : api_Rule), x12.Version, x12.Admin, x12.Number⟩ : api_Summary) (.agg [.slice a13 (x12.Joined).length c15, .slice a16 (x12.Removed).length c18, .slice a19 (x12.Weights).length c21, .int .i64 x12.Rule.Kind, .int .i64 x12.Rule.Columns, .int .i64 x12.Rule.Faulty, .int .i64 x12.Version, .int .i64 x12.Admin, .int .i64 x12.Number].toArray)) fun ok hA => V_agg (show t_api_Summary.R ok _ _ _ from ⟨[.slice a13 (x12.Joined).length c15], [.slice a16 (x12.Removed).length c18, .slice a19 (x12.Weights).length c21, .int .i64 x12.Rule.Kind, .int .i64 x12.Rule.Columns, .int .i64 x12.Rule.Faulty, .int .i64 x12.Version, .int .i64 x12.Admin, .int .i64 x12.Number], rfl, (R_one (hA.get 2 rfl)), ⟨[.slice a16 (x12.Removed).length c18], [.slice a19 (x12.Weights).length c21, .int .i64 x12.Rule.Kind, .int .i64 x12.Rule.Columns, .int .i64 x12.Rule.Faulty, .int .i64 x12.Version, .int .i64 x12.Admin, .int .i64 x12.Number], rfl, (R_one (hA.get 1 rfl)), ⟨[.slice a19 (x12.Weights).length c21], [.int .i64 x12.Rule.Kind, .int .i64 x12.Rule.Columns, .int .i64 x12.Rule.Faulty, .int .i64 x12.Version, .int .i64 x12.Admin, .int .i64 x12.Number], rfl, (R_one (hA.get 0 rfl)), ⟨[.int .i64 x12.Rule.Kind, .int .i64 x12.Rule.Columns, .int .i64 x12.Rule.Faulty], [.int .i64 x12.Version, .int .i64 x12.Admin, .int .i64 x12.Number], rfl, ⟨[.int .i64 x12.Rule.Kind], [.int .i64 x12.Rule.Columns, .int .i64 x12.Rule.Faulty], rfl, rfl, ⟨[.int .i64 x12.Rule.Columns], [.int .i64 x12.Rule.Faulty], rfl, rfl, rfl⟩⟩, ⟨[.int .i64 x12.Version], [.int .i64 x12.Admin, .int .i64 x12.Number], rfl, rfl, ⟨[.int .i64 x12.Admin], [.int .i64 x12.Number], rfl, rfl, rfl⟩⟩⟩⟩⟩⟩) rfl
  have hs := hs.add (it := vl t_api_Summary (⟨x12.Joined, x12.Removed, x12.Weights, (⟨x12.Rule.Kind, x12.Rule.Columns, x12.Rule.Faulty⟩ : api_Rule), x12.Version, x12.Admin, x12.Number⟩ : api_Summary) (.agg [.slice a13 (x12.Joined).length c15, .slice a16 (x12.Removed).length c18, .slice a19 (x12.Weights).length c21, .int .i64 x12.Rule.Kind, .int .i64 x12.Rule.Columns, .int .i64 x12.Rule.Faulty, .int .i64 x12.Version, .int .i64 x12.Admin, .int .i64 x12.Number].toArray)) fun ok hA => V_agg (show t_api_Summary.R ok _ _ _ from ⟨[.slice a13 (x12.Joined).length c15], [.slice a16 (x12.Removed).length c18, .slice a19 (x12.Weights).length c21, .int .i64 x12.Rule.Kind, .int .i64 x12.Rule.Columns, .int .i64 x12.Rule.Faulty, .int .i64 x12.Version, .int .i64 x12.Admin, .int .i64 x12.Number], rfl, (R_one (hA.get 3 rfl)), ⟨[.slice a16 (x12.Removed).length c18], [.slice a19 (x12.Weights).length c21, .int .i64 x12.Rule.Kind, .int .i64 x12.Rule.Columns, .int .i64 x12.Rule.Faulty, .int .i64 x12.Version, .int .i64 x12.Admin, .int .i64 x12.Number], rfl, (R_one (hA.get 2 rfl)), ⟨[.slice a19 (x12.Weights).length c21], [.int .i64 x12.Rule.Kind, .int .i64 x12.Rule.Columns, .int .i64 x12.Rule.Faulty, .int .i64 x12.Version, .int .i64 x12.Admin, .int .i64 x12.Number], rfl, (R_one (hA.get 1 rfl)), ⟨[.int .i64 x12.Rule.Kind, .int .i64 x12.Rule.Columns, .int .i64 x12.Rule.Faulty], [.int .i64 x12.Version, .int .i64 x12.Admin, .int .i64 x12.Number], rfl, ⟨[.int .i64 x12.Rule.Kind], [.int .i64 x12.Rule.Columns, .int .i64 x12.Rule.Faulty], rfl, rfl, ⟨[.int .i64 x12.Rule.Columns], [.int .i64 x12.Rule.Faulty], rfl, rfl, rfl⟩⟩, ⟨[.int .i64 x12.Version], [.int .i64 x12.Admin, .int .i64 x12.Number], rfl, rfl, ⟨[.int .i64 x12.Admin], [.int .i64 x12.Number], rfl, rfl, rfl⟩⟩⟩⟩⟩⟩) rfl
  refine W.loop hbs36 (fun s ρ w => match s with | (x32, x33) => ∃ (cs34 : List Value), cs34.length = 9 ∧ ρ 1 = .slice a6 x5.length c7 ∧ ρ 4 = .pointer (some ⟨g10, 0, none⟩) ∧ ρ 5 = .pointer (some ⟨g22, 0, none⟩) ∧ ρ 6 = .int .i64 x32 ∧ St ok (bz w0) w [vl (tSlice t_api_Proposal) x5 (.slice a6 x5.length c7), vl t_api_Summary x33 (.agg cs34.toArray)] [blk g22 36 cs34, blk g10 36 [.slice none 0 0, .slice none 0 0, .slice none 0 0, .int .i64 0, .int .i64 0, .int .i64 0, .int .i64 0, .int .i64 0, .int .i64 0]]) ⟨[.slice a13 (x12.Joined).length c15, .slice a16 (x12.Removed).length c18, .slice a19 (x12.Weights).length c21, .int .i64 x12.Rule.Kind, .int .i64 x12.Rule.Columns, .int .i64 x12.Rule.Faulty, .int .i64 x12.Version, .int .i64 x12.Admin, .int .i64 x12.Number], rfl, rfl, rfl, rfl, rfl, (hs.mask [true, true]).pick [6, 0]⟩ ?_
  intro s ρ w os36 hI hf hbbs36
  obtain ⟨x32, x33⟩ := s
  obtain ⟨cs34, hl35, h31_1, h31_4, h31_5, h31_6, hs⟩ := hI
  unfold esref10_Summarize.l1 at hf
  refine W.seqK fun K37 hK37 => ?_
  refine W.seqK fun K38 hK38 => ?_
  refine W.region ?_
  refine WL.move (v := .int .i64 x32) h31_6 ?_
  refine WL.move (v := .slice a6 x5.length c7) h31_1 ?_
  refine WL.len (v := .slice a6 x5.length c7) rfl (len_slice UN50) ?_
  refine WL.bin (v := .bool (decide (x32 < (x5.length : Int)))) rfl rfl (ib_lss _ _ _) ?_
  refine WL.nil ?_
  refine hK38 _ _ ?_
  rcases iteE hf with ⟨hc39, hf⟩ | ⟨hc39, hf⟩
  {
  refine W.cond_true (bool_tr rfl hc39) ?_
  refine W.skip ?_
  refine hK37 _ _ ?_
  refine W.seqK fun K40 hK40 => ?_
  refine W.block ?_
  obtain ⟨x41, hxx41, hf⟩ := bindE hf
  obtain ⟨x46, hxx46, hf⟩ := bindE hf
  obtain ⟨x49, hxx49, hf⟩ := bindE hf
  refine W.any (by kernel_rfl) 7 1 [true, true, true, true, true, true, true, false] rfl rfl (poAt [pv (.agg cs34.toArray), pv (.slice a6 x5.length c7), pv (.int .i64 x32), pq (fun y : Addr => .pointer (some y)) (fun v => [pl t_api_Proposal x41 (adOf v)]) (fun v => []), pq (fun y : List Value => .agg y.toArray) (fun v => [vl t_api_Proposal x41 v]) (fun v => []), pq (fun y : List Value => .agg y.toArray) (fun v => [vl t_api_Summary x46 v]) (fun v => []), pq (fun y : List Value => .agg y.toArray) (fun v => [vl t_api_Summary x49 v]) (fun v => [])]) (Λ := [blk g22 36 cs34, blk g10 36 [.slice none 0 0, .slice none 0 0, .slice none 0 0, .int .i64 0, .int .i64 0, .int .i64 0, .int .i64 0, .int .i64 0, .int .i64 0]]) hs (by kernel_rfl) (by kernel_rfl) (by kernel_rfl) ⟨⟨⟨⟨⟨⟨⟨trivial, ?_⟩, ?_⟩, ?_⟩, ?_⟩, ?_⟩, ?_⟩, ?_⟩ ?_
  {
  intro ρ w Γx Λx hs hu hp
  refine WL.loadAll hs (Λx.length + 0) (getApp rfl) TI36 ((hu 5 rfl).trans h31_5) hl35 ?_
  exact WL.nil ⟨rfl, _, rfl, rfl, hs.cutG 0 0⟩ }
  {
  intro ρ w Γx Λx hs hu hp
  refine WL.move (v := .slice a6 x5.length c7) ((hu 1 rfl).trans h31_1) ?_
  exact WL.nil ⟨rfl, _, rfl, rfl, hs.cutG 0 0⟩ }
  {
  intro ρ w Γx Λx hs hu hp
  refine WL.move (v := .int .i64 x32) ((hu 6 rfl).trans h31_6) ?_
  exact WL.nil ⟨rfl, _, rfl, rfl, hs.cutG 0 0⟩ }
  {
  intro ρ w Γx Λx hs hu hp
  have e52 : ρ 16 = .slice a6 x5.length c7 := (hp 1 rfl).1
  have e53 : ρ 17 = .int .i64 x32 := (hp 2 rfl).1
  refine WL.indexAddr hs (Γx.length + 0) (getApp rfl) UN50 TI54 e52 e53 hxx41 (fun ad42 hs => ?_)
  have hs := hs.add (it := pl t_api_Proposal x41 ad42) fun ok hA => hA.get 0 rfl
  exact WL.nil ⟨rfl, _, rfl, ⟨ad42, rfl⟩, hs.cutG 1 1⟩ }
  {
  intro ρ w Γx Λx hs hu hp
  obtain ⟨⟨ad54, e55r⟩, hm56⟩ := hp 3 rfl
  have e55 : ρ 18 = .pointer (some ad54) := e55r
  rw [e55r] at hm56
  have hs := hs.memo1 (it := pl t_api_Proposal x41 ad54) (List.mem_append.2 (.inl (hm56 _ (List.mem_of_getElem? (i := 0) rfl))))
  refine WL.loadP hs 0 rfl TI54 (.inl rfl) e55 (fun v43 hs => ?_)
  obtain ⟨cs44, hl45, rfl⟩ := hs.aggv (n := 3) 0 rfl rfl rfl
  have hs := hs.add (it := vl t_api_Proposal x41 (.agg cs44.toArray)) fun ok hA => hA.get 0 rfl
  exact WL.nil ⟨rfl, _, rfl, ⟨cs44, rfl⟩, hs.cutG 1 2⟩ }
  {
  intro ρ w Γx Λx hs hu hp
  obtain ⟨⟨cs57, e59r⟩, hm60⟩ := hp 4 rfl
  have e59 : ρ 19 = .agg cs57.toArray := e59r
  rw [e59r] at hm60
  have hs := hs.memo1 (it := vl t_api_Proposal x41 (.agg cs57.toArray)) (List.mem_append.2 (.inl (hm60 _ (List.mem_of_getElem? (i := 0) rfl))))
  have hl58 := hs.agglen (n := 3) 0 rfl rfl rfl
  refine WL.call (vs := [.agg cs57.toArray]) hs FN22 ⟨e59, trivial⟩ (fun ok hA => esref10_Of.calls (x1 := x41) hxx46 (hA.get 0 rfl)) ?_
  rintro cs47 w hs
  have hl48 := hs.agglen (n := 9) 0 rfl rfl rfl
  have hs := hs.add (it := vl t_api_Summary x46 (.agg cs47.toArray)) fun ok hA => hA.get 0 rfl
  exact WL.nil ⟨rfl, _, rfl, ⟨cs47, rfl⟩, hs.cutG 1 2⟩ }
  {
  intro ρ w Γx Λx hs hu hp
  have e61 : ρ 15 = .agg cs34.toArray := (hp 0 rfl).1
  obtain ⟨⟨cs62, e64r⟩, hm65⟩ := hp 5 rfl
  have e64 : ρ 20 = .agg cs62.toArray := e64r
  rw [e64r] at hm65
  have hs := hs.memo1 (it := vl t_api_Summary x46 (.agg cs62.toArray)) (List.mem_append.2 (.inl (hm65 _ (List.mem_of_getElem? (i := 0) rfl))))
  have hl63 := hs.agglen (n := 9) 0 rfl rfl rfl
  refine WL.call (vs := [.agg cs34.toArray, .agg cs62.toArray]) hs FN21 ⟨e61, ⟨e64, trivial⟩⟩ (fun ok hA => esref10_Join.calls (x1 := x33) (x5 := x46) hxx49 (hA.get (Γx.length + 1 + 1) (getApp1 rfl)) (hA.get 0 rfl)) ?_
  rintro cs50 w hs
  have hl51 := hs.agglen (n := 9) 0 rfl rfl rfl
  have hs := hs.add (it := vl t_api_Summary x49 (.agg cs50.toArray)) fun ok hA => hA.get 0 rfl
  exact WL.nil ⟨rfl, _, rfl, ⟨cs50, rfl⟩, hs.cutG 1 2⟩ }
  {
  intro ρ w hs hu66 hp
  obtain ⟨⟨⟨⟨⟨⟨⟨_, hp0_⟩, hp1_⟩, hp2_⟩, hp3_⟩, hp4_⟩, hp5_⟩, hp6_⟩ := hp
  have hs : St ok (bz w0) w [vl t_api_Summary x49 (ρ 21), vl t_api_Summary x46 (ρ 20), vl t_api_Proposal x41 (ρ 19), pl t_api_Proposal x41 (adOf (ρ 18)), vl (tSlice t_api_Proposal) x5 (.slice a6 x5.length c7), vl t_api_Summary x33 (.agg cs34.toArray)] [blk g22 36 cs34, blk g10 36 [.slice none 0 0, .slice none 0 0, .slice none 0 0, .int .i64 0, .int .i64 0, .int .i64 0, .int .i64 0, .int .i64 0, .int .i64 0]] := hs
  obtain ⟨cs67, e69⟩ := hp6_
  have e69 : ρ 21 = .agg cs67.toArray := e69
  try rw [e69] at hs
  obtain ⟨cs70, e72⟩ := hp5_
  have e72 : ρ 20 = .agg cs70.toArray := e72
  try rw [e72] at hs
  obtain ⟨cs73, e75⟩ := hp4_
  have e75 : ρ 19 = .agg cs73.toArray := e75
  try rw [e75] at hs
  obtain ⟨ad76, e77⟩ := hp3_
  have e77 : ρ 18 = .pointer (some ad76) := e77
  try rw [e77] at hs
  have e78 : ρ 17 = .int .i64 x32 := hp2_
  have e79 : ρ 16 = .slice a6 x5.length c7 := hp1_
  have e80 : ρ 15 = .agg cs34.toArray := hp0_
  have hl74 := hs.agglen (n := 3) 2 rfl rfl rfl
  have hl71 := hs.agglen (n := 9) 1 rfl rfl rfl
  have hl68 := hs.agglen (n := 9) 0 rfl rfl rfl
  refine WA.step [7] (by kernel_rfl) (by simp) ⟨?_, trivial⟩
  refine WL.storeAll (vs := cs67) hs 0 rfl TI36 ((hu66 5 rfl).trans h31_5) e69 rfl hl68 (hs.ones 0 rfl rfl) hl35 (fun w hs => ?_)
  refine WL.nil ⟨rfl, _, rfl, ?_⟩
  refine WA.done (by kernel_rfl) ?_
  refine hK40 _ _ ?_
  refine W.region ?_
  refine WL.move (v := .int .i64 x32) ((hu66 6 rfl).trans h31_6) ?_
  obtain ⟨x81, ex81, hf⟩ := letE hf
  refine WL.bin (v := .int .i64 x81) rfl rfl (ib_as ex81 (ib_add _ _ _)) ?_
  refine WL.assign (v := .int .i64 x81) rfl ?_
  refine WL.nil ?_
  exact ⟨_, (Option.some.inj hf).symm, cs67, hl68, ((hu66 1 rfl).trans h31_1), ((hu66 4 rfl).trans h31_4), ((hu66 5 rfl).trans h31_5), rfl, (hs.mask [true, true]).pick [4, 0]⟩ } }
  {
  refine W.cond_false (bool_tr rfl hc39) ?_
  refine W.exit ?_
  have hr := Option.some.inj hf; subst hr
  have hr := hbbs36 _ rfl; subst hr
  have hf := hfs36
  exact Jk28 x33 cs34 _ _ hl35 h31_4 h31_5 ((hs.mask [true, true]).pick [1]) hf }
/-! elasticstore/elasticstoreref06.Admin: function 43 -/
theorem esref06_Admin.calls {ok : Nat → Prop} {w0 : World} {x1 : Int}  {r : Bool} (hf : esref06_Admin x1 = some r)  :
    Calls Tryd.prog 43 #[.int .i64 x1] w0 fun e w' => ∃ v, e = .returned v ∧ ∃ y : Unit, v = .bool r ∧ St ok (bz w0) w' [] [] := by
  unfold esref06_Admin at hf
  refine calls_of_W (fn := Tryd.f43) (N := 9) Tryd.func43 rfl Tryd.ntmps43 rfl ?_
  have hs : St ok (bz w0) w0 [] [] := St.init All.nil
  refine W.seqK fun K2 hK2 => ?_
  refine W.region ?_
  refine WL.assign (v := .bool false) rfl ?_
  refine WL.nil ?_
  refine hK2 _ _ ?_
  refine W.seqK fun K3 hK3 => ?_
  have Jk6 : ∀ (x5 : Bool) (ρ : Env) (w : World), ρ 2 = .bool x5 → St ok (bz w0) w [] [] → esref06_Admin.j1 x5 = some r → K3 ρ w := by
    intro x5 ρ w h4_2 hs hf
    refine hK3 _ _ ?_
    unfold esref06_Admin.j1 at hf
    refine W.ret ?_
    have hr := Option.some.inj hf; subst hr
    exact ⟨_, resOk_one rfl h4_2, (), rfl, (hs.mask []).pick []⟩
  refine W.region ?_
  refine WL.move (v := .int .i64 x1) rfl ?_
  refine WL.bin (v := .bool (decide (201 ≤ x1))) rfl rfl (ib_geq _ _ _) ?_
  refine WL.move (v := .bool (decide (201 ≤ x1))) rfl ?_
  rcases iteE hf with ⟨hc7, hf⟩ | ⟨hc7, hf⟩
  {
  refine WL.move (v := .int .i64 x1) rfl ?_ (hg := (wanted_of rfl rfl (bool_tr rfl hc7)).trans rfl)
  refine WL.bin (v := .bool (decide (x1 < 204))) rfl rfl (ib_lss _ _ _) ?_ (hg := (wanted_of rfl rfl (bool_tr rfl hc7)).trans rfl)
  refine WL.pickT (v := .bool (decide (x1 < 204))) (bool_tr rfl hc7) rfl ?_
  refine WL.assign (v := .bool (decide (x1 < 204))) rfl ?_
  refine WL.nil ?_
  exact Jk6 (decide (x1 < 204)) _ _ rfl ((hs.mask []).pick []) hf }
  {
  refine WL.pass ((wanted_of rfl rfl (bool_tr rfl hc7)).trans rfl) rfl ?_
  refine WL.pass ((wanted_of rfl rfl (bool_tr rfl hc7)).trans rfl) rfl ?_
  refine WL.pickF (v := .bool false) (bool_tr rfl hc7) rfl ?_
  refine WL.assign (v := .bool false) rfl ?_
  refine WL.nil ?_
  exact Jk6 false _ _ rfl ((hs.mask []).pick []) hf }
/-! elasticstore/elasticstoreref06.Server: function 34 -/
theorem esref06_Server.calls {ok : Nat → Prop} {w0 : World} {x1 : Int}  {r : Bool} (hf : esref06_Server x1 = some r)  :
    Calls Tryd.prog 34 #[.int .i64 x1] w0 fun e w' => ∃ v, e = .returned v ∧ ∃ y : Unit, v = .bool r ∧ St ok (bz w0) w' [] [] := by
  unfold esref06_Server at hf
  refine calls_of_W (fn := Tryd.f34) (N := 9) Tryd.func34 rfl Tryd.ntmps34 rfl ?_
  have hs : St ok (bz w0) w0 [] [] := St.init All.nil
  refine W.seqK fun K2 hK2 => ?_
  refine W.region ?_
  refine WL.assign (v := .bool false) rfl ?_
  refine WL.nil ?_
  refine hK2 _ _ ?_
  refine W.seqK fun K3 hK3 => ?_
  have Jk6 : ∀ (x5 : Bool) (ρ : Env) (w : World), ρ 2 = .bool x5 → St ok (bz w0) w [] [] → esref06_Server.j1 x5 = some r → K3 ρ w := by
    intro x5 ρ w h4_2 hs hf
    refine hK3 _ _ ?_
    unfold esref06_Server.j1 at hf
    refine W.ret ?_
    have hr := Option.some.inj hf; subst hr
    exact ⟨_, resOk_one rfl h4_2, (), rfl, (hs.mask []).pick []⟩
  refine W.region ?_
  refine WL.move (v := .int .i64 x1) rfl ?_
  refine WL.bin (v := .bool (decide (1 ≤ x1))) rfl rfl (ib_geq _ _ _) ?_
  refine WL.move (v := .bool (decide (1 ≤ x1))) rfl ?_
  rcases iteE hf with ⟨hc7, hf⟩ | ⟨hc7, hf⟩
  {
  refine WL.move (v := .int .i64 x1) rfl ?_ (hg := (wanted_of rfl rfl (bool_tr rfl hc7)).trans rfl)
  refine WL.bin (v := .bool (decide (x1 ≤ 12))) rfl rfl (ib_leq _ _ _) ?_ (hg := (wanted_of rfl rfl (bool_tr rfl hc7)).trans rfl)
  refine WL.pickT (v := .bool (decide (x1 ≤ 12))) (bool_tr rfl hc7) rfl ?_
  refine WL.assign (v := .bool (decide (x1 ≤ 12))) rfl ?_
  refine WL.nil ?_
  exact Jk6 (decide (x1 ≤ 12)) _ _ rfl ((hs.mask []).pick []) hf }
  {
  refine WL.pass ((wanted_of rfl rfl (bool_tr rfl hc7)).trans rfl) rfl ?_
  refine WL.pass ((wanted_of rfl rfl (bool_tr rfl hc7)).trans rfl) rfl ?_
  refine WL.pickF (v := .bool false) (bool_tr rfl hc7) rfl ?_
  refine WL.assign (v := .bool false) rfl ?_
  refine WL.nil ?_
  exact Jk6 false _ _ rfl ((hs.mask []).pick []) hf }
/-! elasticstore/elasticstoreref06.ValidateRule: function 35 -/
theorem esref06_ValidateRule.calls {ok : Nat → Prop} {w0 : World} {x1 : api_Rule} {v2 : Value} {r : Int} (hf : esref06_ValidateRule x1 = some r) (i0 : (vl t_api_Rule x1 v2).holds ok w0) :
    Calls Tryd.prog 35 #[v2] w0 fun e w' => ∃ v, e = .returned v ∧ ∃ y : Unit, v = .int .i64 r ∧ St ok (bz w0) w' [] [] := by
  unfold esref06_ValidateRule at hf
  refine calls_of_W (fn := Tryd.f35) (N := 56) Tryd.func35 rfl Tryd.ntmps35 rfl ?_
  have hs : St ok (bz w0) w0 [vl t_api_Rule x1 v2] [] := St.init (All.cons i0 All.nil)
  clear i0
  obtain ⟨cs3, hl4, rfl⟩ := hs.aggv (n := 3) 0 rfl rfl rfl
  refine W.seqK fun K5 hK5 => ?_
  refine W.region ?_
  refine WL.box (vs := cs3) hs rfl rfl (fun g6 w hs => ?_)
  refine WL.assign (v := .int .i64 0) rfl ?_
  refine WL.nil ?_
  refine hK5 _ _ ?_
  refine W.seqK fun K7 hK7 => ?_
  refine W.block ?_
  refine W.seqK fun K8 hK8 => ?_
  have Jk11 : ∀ (x10 : Bool) (ρ : Env) (w : World), ρ 1 = .pointer (some ⟨g6, 0, none⟩) → ρ 3 = .bool x10 → St ok (bz w0) w [vl t_api_Rule x1 (.agg cs3.toArray)] [blk g6 24 cs3] → esref06_ValidateRule.j3 x1 x10 = some r → K8 ρ w := by
    intro x10 ρ w h9_1 h9_3 hs hf
    refine hK8 _ _ ?_
    unfold esref06_ValidateRule.j3 at hf
    rcases iteE hf with ⟨hc12, hf⟩ | ⟨hc12, hf⟩
    {
    refine W.cond_true (bool_tr h9_3 hc12) ?_
    refine W.seqK fun K13 hK13 => ?_
    refine W.region ?_
    refine WL.assign (v := .int .i64 10) rfl ?_
    refine WL.nil ?_
    refine hK13 _ _ ?_
    refine W.ret ?_
    have hr := Option.some.inj hf; subst hr
    exact ⟨_, resOk_one rfl rfl, (), rfl, (hs.mask []).pick []⟩ }
    {
    refine W.cond_false (bool_tr h9_3 hc12) ?_
    refine W.seqK fun K14 hK14 => ?_
    have Jk17 : ∀ (x16 : Bool) (ρ : Env) (w : World), ρ 1 = .pointer (some ⟨g6, 0, none⟩) → ρ 12 = .bool x16 → St ok (bz w0) w [vl t_api_Rule x1 (.agg cs3.toArray)] [blk g6 24 cs3] → esref06_ValidateRule.j2 x1 x16 = some r → K14 ρ w := by
      intro x16 ρ w h15_1 h15_12 hs hf
      refine hK14 _ _ ?_
      unfold esref06_ValidateRule.j2 at hf
      rcases iteE hf with ⟨hc18, hf⟩ | ⟨hc18, hf⟩
      {
      refine W.cond_true (bool_tr h15_12 hc18) ?_
      refine W.seqK fun K19 hK19 => ?_
      refine W.region ?_
      refine WL.assign (v := .int .i64 9) rfl ?_
      refine WL.nil ?_
      refine hK19 _ _ ?_
      refine W.ret ?_
      have hr := Option.some.inj hf; subst hr
      exact ⟨_, resOk_one rfl rfl, (), rfl, (hs.mask []).pick []⟩ }
      {
      refine W.cond_false (bool_tr h15_12 hc18) ?_
      refine W.seqK fun K20 hK20 => ?_
      have Jk23 : ∀ (x22 : Bool) (ρ : Env) (w : World), ρ 32 = .bool x22 → St ok (bz w0) w [] [] → esref06_ValidateRule.j1 x22 = some r → K20 ρ w := by
        intro x22 ρ w h21_32 hs hf
        refine hK20 _ _ ?_
        unfold esref06_ValidateRule.j1 at hf
        rcases iteE hf with ⟨hc24, hf⟩ | ⟨hc24, hf⟩
        {
        refine W.cond_true (bool_tr h21_32 hc24) ?_
        refine W.seqK fun K25 hK25 => ?_
        refine W.region ?_
        refine WL.assign (v := .int .i64 9) rfl ?_
        refine WL.nil ?_
        refine hK25 _ _ ?_
        refine W.ret ?_
        have hr := Option.some.inj hf; subst hr
        exact ⟨_, resOk_one rfl rfl, (), rfl, (hs.mask []).pick []⟩ }
        {
        refine W.cond_false (bool_tr h21_32 hc24) ?_
        refine W.skip ?_
        refine hK7 _ _ ?_
        refine W.seqK fun K26 hK26 => ?_
        refine W.region ?_
        refine WL.assign (v := .int .i64 0) rfl ?_
        refine WL.nil ?_
        refine hK26 _ _ ?_
        refine W.ret ?_
        have hr := Option.some.inj hf; subst hr
        exact ⟨_, resOk_one rfl rfl, (), rfl, (hs.mask []).pick []⟩ }
      refine W.region ?_
      refine WL.fieldAddr (m := 0) h15_1 FA24_0 rfl ?_
      refine WL.loadF (z := x1.Kind) F_api_Rule_Kind hs 0 rfl 0 rfl rfl TI3 (.inr rfl) rfl rfl (fun v27 hs => ?_)
      obtain rfl := hs.int 0 rfl
      refine WL.bin (v := .bool (x1.Kind == 4)) rfl rfl (ib_eql _ _ _) ?_
      refine WL.move (v := .bool (x1.Kind == 4)) rfl ?_
      rcases iteE hf with ⟨hc28, hf⟩ | ⟨hc28, hf⟩
      {
      refine WL.fieldAddr (m := 2) h15_1 FA24_2 rfl ?_ (hg := (wanted_of rfl rfl (bool_tr rfl hc28)).trans rfl)
      refine WL.loadF (z := x1.Faulty) F_api_Rule_Faulty hs 0 rfl 1 rfl rfl TI3 (.inr rfl) rfl rfl (fun v29 hs => ?_) (hg := (wanted_of rfl rfl (bool_tr rfl hc28)).trans rfl)
      obtain rfl := hs.int 0 rfl
      refine WL.bin (v := .bool (decide (x1.Faulty < 0))) rfl rfl (ib_lss _ _ _) ?_ (hg := (wanted_of rfl rfl (bool_tr rfl hc28)).trans rfl)
      refine WL.move (v := .bool (decide (x1.Faulty < 0))) rfl ?_ (hg := (wanted_of rfl rfl (bool_tr rfl hc28)).trans rfl)
      rcases iteE hf with ⟨hc30, hf⟩ | ⟨hc30, hf⟩
      {
      refine WL.pass ((wanted_of rfl rfl (bool_tr rfl hc30)).trans rfl) rfl ?_
      refine WL.pass ((wanted_of rfl rfl (bool_tr rfl hc30)).trans rfl) rfl ?_
      refine WL.pass ((wanted_of rfl rfl (bool_tr rfl hc30)).trans rfl) rfl ?_
      refine WL.pickT (v := .bool true) (bool_tr rfl hc30) rfl ?_ (hg := (wanted_of rfl rfl (bool_tr rfl hc28)).trans rfl)
      refine WL.pickT (v := .bool true) (bool_tr rfl hc28) rfl ?_
      refine WL.move (v := .bool true) rfl ?_
      refine WL.pass ((wanted_of rfl rfl rfl).trans rfl) rfl ?_
      refine WL.pass ((wanted_of rfl rfl rfl).trans rfl) rfl ?_
      refine WL.pass ((wanted_of rfl rfl rfl).trans rfl) rfl ?_
      refine WL.pass ((wanted_of rfl rfl rfl).trans rfl) rfl ?_
      refine WL.pass (wanted_undef rfl rfl rfl) rfl ?_
      refine WL.pass (wanted_undef rfl rfl rfl) rfl ?_
      refine WL.pass (wanted_undef rfl rfl rfl) rfl ?_
      refine WL.pass ((wanted_of rfl rfl rfl).trans rfl) rfl ?_
      refine WL.pickT (v := .bool true) rfl rfl ?_
      refine WL.assign (v := .bool true) rfl ?_
      refine WL.nil ?_
      exact Jk23 true _ _ rfl ((hs.mask []).pick []) hf }
      {
      refine WL.fieldAddr (m := 2) h15_1 FA24_2 rfl ?_ (hg := (wanted_of rfl rfl (bool_tr rfl hc30)).trans rfl)
      refine WL.loadF (z := x1.Faulty) F_api_Rule_Faulty hs 0 rfl 2 rfl rfl TI3 (.inr rfl) rfl rfl (fun v31 hs => ?_) (hg := (wanted_of rfl rfl (bool_tr rfl hc30)).trans rfl)
      obtain rfl := hs.int 0 rfl
      refine WL.bin (v := .bool (decide (12 < x1.Faulty))) rfl rfl (ib_gtr _ _ _) ?_ (hg := (wanted_of rfl rfl (bool_tr rfl hc30)).trans rfl)
      refine WL.pickF (v := .bool (decide (12 < x1.Faulty))) (bool_tr rfl hc30) rfl ?_ (hg := (wanted_of rfl rfl (bool_tr rfl hc28)).trans rfl)
      refine WL.pickT (v := .bool (decide (12 < x1.Faulty))) (bool_tr rfl hc28) rfl ?_
      refine WL.move (v := .bool (decide (12 < x1.Faulty))) rfl ?_
      rcases iteE hf with ⟨hc32, hf⟩ | ⟨hc32, hf⟩
      {
      refine WL.pass ((wanted_of rfl rfl (bool_tr rfl hc32)).trans rfl) rfl ?_
      refine WL.pass ((wanted_of rfl rfl (bool_tr rfl hc32)).trans rfl) rfl ?_
      refine WL.pass ((wanted_of rfl rfl (bool_tr rfl hc32)).trans rfl) rfl ?_
      refine WL.pass ((wanted_of rfl rfl (bool_tr rfl hc32)).trans rfl) rfl ?_
      refine WL.pass (wanted_undef rfl rfl rfl) rfl ?_
      refine WL.pass (wanted_undef rfl rfl rfl) rfl ?_
      refine WL.pass (wanted_undef rfl rfl rfl) rfl ?_
      refine WL.pass ((wanted_of rfl rfl (bool_tr rfl hc32)).trans rfl) rfl ?_
      refine WL.pickT (v := .bool true) (bool_tr rfl hc32) rfl ?_
      refine WL.assign (v := .bool true) rfl ?_
      refine WL.nil ?_
      exact Jk23 true _ _ rfl ((hs.mask []).pick []) hf }
      {
      refine WL.fieldAddr (m := 0) h15_1 FA24_0 rfl ?_ (hg := (wanted_of rfl rfl (bool_tr rfl hc32)).trans rfl)
      refine WL.loadF (z := x1.Kind) F_api_Rule_Kind hs 0 rfl 3 rfl rfl TI3 (.inr rfl) rfl rfl (fun v33 hs => ?_) (hg := (wanted_of rfl rfl (bool_tr rfl hc32)).trans rfl)
      obtain rfl := hs.int 0 rfl
      refine WL.bin (v := .bool (x1.Kind != 4)) rfl rfl (ib_neq _ _ _) ?_ (hg := (wanted_of rfl rfl (bool_tr rfl hc32)).trans rfl)
      refine WL.move (v := .bool (x1.Kind != 4)) rfl ?_ (hg := (wanted_of rfl rfl (bool_tr rfl hc32)).trans rfl)
      rcases iteE hf with ⟨hc34, hf⟩ | ⟨hc34, hf⟩
      {
      refine WL.fieldAddr (m := 2) h15_1 FA24_2 rfl ?_ (hg := (wanted_of rfl rfl (bool_tr rfl hc34)).trans rfl)
      refine WL.loadF (z := x1.Faulty) F_api_Rule_Faulty hs 0 rfl 4 rfl rfl TI3 (.inr rfl) rfl rfl (fun v35 hs => ?_) (hg := (wanted_of rfl rfl (bool_tr rfl hc34)).trans rfl)
      obtain rfl := hs.int 0 rfl
      refine WL.bin (v := .bool (x1.Faulty != 0)) rfl rfl (ib_neq _ _ _) ?_ (hg := (wanted_of rfl rfl (bool_tr rfl hc34)).trans rfl)
      refine WL.pickT (v := .bool (x1.Faulty != 0)) (bool_tr rfl hc34) rfl ?_ (hg := (wanted_of rfl rfl (bool_tr rfl hc32)).trans rfl)
      refine WL.pickF (v := .bool (x1.Faulty != 0)) (bool_tr rfl hc32) rfl ?_
      refine WL.assign (v := .bool (x1.Faulty != 0)) rfl ?_
      refine WL.nil ?_
      exact Jk23 (x1.Faulty != 0) _ _ rfl ((hs.mask []).pick []) hf }
      {
      refine WL.pass ((wanted_of rfl rfl (bool_tr rfl hc34)).trans rfl) rfl ?_
      refine WL.pass ((wanted_of rfl rfl (bool_tr rfl hc34)).trans rfl) rfl ?_
      refine WL.pass ((wanted_of rfl rfl (bool_tr rfl hc34)).trans rfl) rfl ?_
      refine WL.pickF (v := .bool false) (bool_tr rfl hc34) rfl ?_ (hg := (wanted_of rfl rfl (bool_tr rfl hc32)).trans rfl)
      refine WL.pickF (v := .bool false) (bool_tr rfl hc32) rfl ?_
      refine WL.assign (v := .bool false) rfl ?_
      refine WL.nil ?_
      exact Jk23 false _ _ rfl ((hs.mask []).pick []) hf } } } }
      {
      refine WL.pass ((wanted_of rfl rfl (bool_tr rfl hc28)).trans rfl) rfl ?_
      refine WL.pass ((wanted_of rfl rfl (bool_tr rfl hc28)).trans rfl) rfl ?_
      refine WL.pass ((wanted_of rfl rfl (bool_tr rfl hc28)).trans rfl) rfl ?_
      refine WL.pass ((wanted_of rfl rfl (bool_tr rfl hc28)).trans rfl) rfl ?_
      refine WL.pass (wanted_undef rfl rfl rfl) rfl ?_
      refine WL.pass (wanted_undef rfl rfl rfl) rfl ?_
      refine WL.pass (wanted_undef rfl rfl rfl) rfl ?_
      refine WL.pass ((wanted_of rfl rfl (bool_tr rfl hc28)).trans rfl) rfl ?_
      refine WL.pickF (v := .bool false) (bool_tr rfl hc28) rfl ?_
      refine WL.move (v := .bool false) rfl ?_
      refine WL.fieldAddr (m := 0) h15_1 FA24_0 rfl ?_ (hg := (wanted_of rfl rfl rfl).trans rfl)
      refine WL.loadF (z := x1.Kind) F_api_Rule_Kind hs 0 rfl 1 rfl rfl TI3 (.inr rfl) rfl rfl (fun v36 hs => ?_) (hg := (wanted_of rfl rfl rfl).trans rfl)
      obtain rfl := hs.int 0 rfl
      refine WL.bin (v := .bool (x1.Kind != 4)) rfl rfl (ib_neq _ _ _) ?_ (hg := (wanted_of rfl rfl rfl).trans rfl)
      refine WL.move (v := .bool (x1.Kind != 4)) rfl ?_ (hg := (wanted_of rfl rfl rfl).trans rfl)
      rcases iteE hf with ⟨hc37, hf⟩ | ⟨hc37, hf⟩
      {
      refine WL.fieldAddr (m := 2) h15_1 FA24_2 rfl ?_ (hg := (wanted_of rfl rfl (bool_tr rfl hc37)).trans rfl)
      refine WL.loadF (z := x1.Faulty) F_api_Rule_Faulty hs 0 rfl 2 rfl rfl TI3 (.inr rfl) rfl rfl (fun v38 hs => ?_) (hg := (wanted_of rfl rfl (bool_tr rfl hc37)).trans rfl)
      obtain rfl := hs.int 0 rfl
      refine WL.bin (v := .bool (x1.Faulty != 0)) rfl rfl (ib_neq _ _ _) ?_ (hg := (wanted_of rfl rfl (bool_tr rfl hc37)).trans rfl)
      refine WL.pickT (v := .bool (x1.Faulty != 0)) (bool_tr rfl hc37) rfl ?_ (hg := (wanted_of rfl rfl rfl).trans rfl)
      refine WL.pickF (v := .bool (x1.Faulty != 0)) rfl rfl ?_
      refine WL.assign (v := .bool (x1.Faulty != 0)) rfl ?_
      refine WL.nil ?_
      exact Jk23 (x1.Faulty != 0) _ _ rfl ((hs.mask []).pick []) hf }
      {
      refine WL.pass ((wanted_of rfl rfl (bool_tr rfl hc37)).trans rfl) rfl ?_
      refine WL.pass ((wanted_of rfl rfl (bool_tr rfl hc37)).trans rfl) rfl ?_
      refine WL.pass ((wanted_of rfl rfl (bool_tr rfl hc37)).trans rfl) rfl ?_
      refine WL.pickF (v := .bool false) (bool_tr rfl hc37) rfl ?_ (hg := (wanted_of rfl rfl rfl).trans rfl)
      refine WL.pickF (v := .bool false) rfl rfl ?_
      refine WL.assign (v := .bool false) rfl ?_
      refine WL.nil ?_
      exact Jk23 false _ _ rfl ((hs.mask []).pick []) hf } } }
    refine W.region ?_
    refine WL.fieldAddr (m := 0) h9_1 FA24_0 rfl ?_
    refine WL.loadF (z := x1.Kind) F_api_Rule_Kind hs 0 rfl 0 rfl rfl TI3 (.inr rfl) rfl rfl (fun v39 hs => ?_)
    obtain rfl := hs.int 0 rfl
    refine WL.bin (v := .bool (x1.Kind == 3)) rfl rfl (ib_eql _ _ _) ?_
    refine WL.move (v := .bool (x1.Kind == 3)) rfl ?_
    rcases iteE hf with ⟨hc40, hf⟩ | ⟨hc40, hf⟩
    {
    refine WL.fieldAddr (m := 1) h9_1 FA24_1 rfl ?_ (hg := (wanted_of rfl rfl (bool_tr rfl hc40)).trans rfl)
    refine WL.loadF (z := x1.Columns) F_api_Rule_Columns hs 0 rfl 1 rfl rfl TI3 (.inr rfl) rfl rfl (fun v41 hs => ?_) (hg := (wanted_of rfl rfl (bool_tr rfl hc40)).trans rfl)
    obtain rfl := hs.int 0 rfl
    obtain ⟨x42, hxx42, hf⟩ := bindE hf
    refine WL.call (vs := [.int .i64 x1.Columns]) hs FN34 ⟨rfl, trivial⟩ (fun ok hA => esref06_Server.calls (x1 := x1.Columns) hxx42) ?_ (hg := (wanted_of rfl rfl (bool_tr rfl hc40)).trans rfl)
    rintro _ w hs
    refine WL.not rfl ?_ (hg := (wanted_of rfl rfl (bool_tr rfl hc40)).trans rfl)
    refine WL.pickT (v := .bool (!x42)) (bool_tr rfl hc40) rfl ?_
    refine WL.move (v := .bool (!x42)) rfl ?_
    rcases iteE hf with ⟨hc43, hf⟩ | ⟨hc43, hf⟩
    {
    refine WL.pass ((wanted_of rfl rfl (bool_tr rfl hc43)).trans rfl) rfl ?_
    refine WL.pass ((wanted_of rfl rfl (bool_tr rfl hc43)).trans rfl) rfl ?_
    refine WL.pass ((wanted_of rfl rfl (bool_tr rfl hc43)).trans rfl) rfl ?_
    refine WL.pass ((wanted_of rfl rfl (bool_tr rfl hc43)).trans rfl) rfl ?_
    refine WL.pass (wanted_undef rfl rfl rfl) rfl ?_
    refine WL.pass (wanted_undef rfl rfl rfl) rfl ?_
    refine WL.pass (wanted_undef rfl rfl rfl) rfl ?_
    refine WL.pass ((wanted_of rfl rfl (bool_tr rfl hc43)).trans rfl) rfl ?_
    refine WL.pickT (v := .bool true) (bool_tr rfl hc43) rfl ?_
    refine WL.assign (v := .bool true) rfl ?_
    refine WL.nil ?_
    exact Jk17 true _ _ h9_1 rfl ((hs.mask [true]).pick [2]) hf }
    {
    refine WL.fieldAddr (m := 0) h9_1 FA24_0 rfl ?_ (hg := (wanted_of rfl rfl (bool_tr rfl hc43)).trans rfl)
    refine WL.loadF (z := x1.Kind) F_api_Rule_Kind hs 0 rfl 2 rfl rfl TI3 (.inr rfl) rfl rfl (fun v44 hs => ?_) (hg := (wanted_of rfl rfl (bool_tr rfl hc43)).trans rfl)
    obtain rfl := hs.int 0 rfl
    refine WL.bin (v := .bool (x1.Kind != 3)) rfl rfl (ib_neq _ _ _) ?_ (hg := (wanted_of rfl rfl (bool_tr rfl hc43)).trans rfl)
    refine WL.move (v := .bool (x1.Kind != 3)) rfl ?_ (hg := (wanted_of rfl rfl (bool_tr rfl hc43)).trans rfl)
    rcases iteE hf with ⟨hc45, hf⟩ | ⟨hc45, hf⟩
    {
    refine WL.fieldAddr (m := 1) h9_1 FA24_1 rfl ?_ (hg := (wanted_of rfl rfl (bool_tr rfl hc45)).trans rfl)
    refine WL.loadF (z := x1.Columns) F_api_Rule_Columns hs 0 rfl 3 rfl rfl TI3 (.inr rfl) rfl rfl (fun v46 hs => ?_) (hg := (wanted_of rfl rfl (bool_tr rfl hc45)).trans rfl)
    obtain rfl := hs.int 0 rfl
    refine WL.bin (v := .bool (x1.Columns != 0)) rfl rfl (ib_neq _ _ _) ?_ (hg := (wanted_of rfl rfl (bool_tr rfl hc45)).trans rfl)
    refine WL.pickT (v := .bool (x1.Columns != 0)) (bool_tr rfl hc45) rfl ?_ (hg := (wanted_of rfl rfl (bool_tr rfl hc43)).trans rfl)
    refine WL.pickF (v := .bool (x1.Columns != 0)) (bool_tr rfl hc43) rfl ?_
    refine WL.assign (v := .bool (x1.Columns != 0)) rfl ?_
    refine WL.nil ?_
    exact Jk17 (x1.Columns != 0) _ _ h9_1 rfl ((hs.mask [true]).pick [4]) hf }
    {
    refine WL.pass ((wanted_of rfl rfl (bool_tr rfl hc45)).trans rfl) rfl ?_
    refine WL.pass ((wanted_of rfl rfl (bool_tr rfl hc45)).trans rfl) rfl ?_
    refine WL.pass ((wanted_of rfl rfl (bool_tr rfl hc45)).trans rfl) rfl ?_
    refine WL.pickF (v := .bool false) (bool_tr rfl hc45) rfl ?_ (hg := (wanted_of rfl rfl (bool_tr rfl hc43)).trans rfl)
    refine WL.pickF (v := .bool false) (bool_tr rfl hc43) rfl ?_
    refine WL.assign (v := .bool false) rfl ?_
    refine WL.nil ?_
    exact Jk17 false _ _ h9_1 rfl ((hs.mask [true]).pick [3]) hf } } }
    {
    refine WL.pass ((wanted_of rfl rfl (bool_tr rfl hc40)).trans rfl) rfl ?_
    refine WL.pass ((wanted_of rfl rfl (bool_tr rfl hc40)).trans rfl) rfl ?_
    refine WL.pass ((wanted_of rfl rfl (bool_tr rfl hc40)).trans rfl) rfl ?_
    refine WL.pass ((wanted_of rfl rfl (bool_tr rfl hc40)).trans rfl) rfl ?_
    refine WL.pickF (v := .bool false) (bool_tr rfl hc40) rfl ?_
    refine WL.move (v := .bool false) rfl ?_
    refine WL.fieldAddr (m := 0) h9_1 FA24_0 rfl ?_ (hg := (wanted_of rfl rfl rfl).trans rfl)
    refine WL.loadF (z := x1.Kind) F_api_Rule_Kind hs 0 rfl 1 rfl rfl TI3 (.inr rfl) rfl rfl (fun v47 hs => ?_) (hg := (wanted_of rfl rfl rfl).trans rfl)
    obtain rfl := hs.int 0 rfl
    refine WL.bin (v := .bool (x1.Kind != 3)) rfl rfl (ib_neq _ _ _) ?_ (hg := (wanted_of rfl rfl rfl).trans rfl)
    refine WL.move (v := .bool (x1.Kind != 3)) rfl ?_ (hg := (wanted_of rfl rfl rfl).trans rfl)
    rcases iteE hf with ⟨hc48, hf⟩ | ⟨hc48, hf⟩
    {
    refine WL.fieldAddr (m := 1) h9_1 FA24_1 rfl ?_ (hg := (wanted_of rfl rfl (bool_tr rfl hc48)).trans rfl)
    refine WL.loadF (z := x1.Columns) F_api_Rule_Columns hs 0 rfl 2 rfl rfl TI3 (.inr rfl) rfl rfl (fun v49 hs => ?_) (hg := (wanted_of rfl rfl (bool_tr rfl hc48)).trans rfl)
    obtain rfl := hs.int 0 rfl
    refine WL.bin (v := .bool (x1.Columns != 0)) rfl rfl (ib_neq _ _ _) ?_ (hg := (wanted_of rfl rfl (bool_tr rfl hc48)).trans rfl)
    refine WL.pickT (v := .bool (x1.Columns != 0)) (bool_tr rfl hc48) rfl ?_ (hg := (wanted_of rfl rfl rfl).trans rfl)
    refine WL.pickF (v := .bool (x1.Columns != 0)) rfl rfl ?_
    refine WL.assign (v := .bool (x1.Columns != 0)) rfl ?_
    refine WL.nil ?_
    exact Jk17 (x1.Columns != 0) _ _ h9_1 rfl ((hs.mask [true]).pick [3]) hf }
    {
    refine WL.pass ((wanted_of rfl rfl (bool_tr rfl hc48)).trans rfl) rfl ?_
    refine WL.pass ((wanted_of rfl rfl (bool_tr rfl hc48)).trans rfl) rfl ?_
    refine WL.pass ((wanted_of rfl rfl (bool_tr rfl hc48)).trans rfl) rfl ?_
    refine WL.pickF (v := .bool false) (bool_tr rfl hc48) rfl ?_ (hg := (wanted_of rfl rfl rfl).trans rfl)
    refine WL.pickF (v := .bool false) rfl rfl ?_
    refine WL.assign (v := .bool false) rfl ?_
    refine WL.nil ?_
    exact Jk17 false _ _ h9_1 rfl ((hs.mask [true]).pick [2]) hf } } }
  refine W.region ?_
  refine WL.fieldAddr (m := 0) rfl FA24_0 rfl ?_
  refine WL.loadF (z := x1.Kind) F_api_Rule_Kind hs 0 rfl 0 rfl rfl TI3 (.inr rfl) rfl rfl (fun v50 hs => ?_)
  obtain rfl := hs.int 0 rfl
  refine WL.bin (v := .bool (decide (x1.Kind < 1))) rfl rfl (ib_lss _ _ _) ?_
  refine WL.move (v := .bool (decide (x1.Kind < 1))) rfl ?_
  rcases iteE hf with ⟨hc51, hf⟩ | ⟨hc51, hf⟩
  {
  refine WL.pass ((wanted_of rfl rfl (bool_tr rfl hc51)).trans rfl) rfl ?_
  refine WL.pass ((wanted_of rfl rfl (bool_tr rfl hc51)).trans rfl) rfl ?_
  refine WL.pass ((wanted_of rfl rfl (bool_tr rfl hc51)).trans rfl) rfl ?_
  refine WL.pickT (v := .bool true) (bool_tr rfl hc51) rfl ?_
  refine WL.assign (v := .bool true) rfl ?_
  refine WL.nil ?_
  exact Jk11 true _ _ rfl rfl ((hs.mask [true]).pick [1]) hf }
  {
  refine WL.fieldAddr (m := 0) rfl FA24_0 rfl ?_ (hg := (wanted_of rfl rfl (bool_tr rfl hc51)).trans rfl)
  refine WL.loadF (z := x1.Kind) F_api_Rule_Kind hs 0 rfl 1 rfl rfl TI3 (.inr rfl) rfl rfl (fun v52 hs => ?_) (hg := (wanted_of rfl rfl (bool_tr rfl hc51)).trans rfl)
  obtain rfl := hs.int 0 rfl
  refine WL.bin (v := .bool (decide (4 < x1.Kind))) rfl rfl (ib_gtr _ _ _) ?_ (hg := (wanted_of rfl rfl (bool_tr rfl hc51)).trans rfl)
  refine WL.pickF (v := .bool (decide (4 < x1.Kind))) (bool_tr rfl hc51) rfl ?_
  refine WL.assign (v := .bool (decide (4 < x1.Kind))) rfl ?_
  refine WL.nil ?_
  exact Jk11 (decide (4 < x1.Kind)) _ _ rfl rfl ((hs.mask [true]).pick [2]) hf }
end Go.Proofs.YthfoljpjhegkmaaDoor
